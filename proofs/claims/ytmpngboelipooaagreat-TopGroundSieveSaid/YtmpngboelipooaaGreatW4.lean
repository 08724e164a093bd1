/- Part 4 of the road to this seat's statements: lemmas about a small interpreter over the model's code, and about the functions that it is used on. No condition of its own. -/
import Derived.Test.YtmpngboelipooaaGreatW3
set_option linter.all false
section
open Go.RowKit
namespace Go.Abs
def rV(r:Go.Loop):Option E8->Go.Loop
 |none=> {r with state:=.ready,pending:=none}
 |some e=> {r with state:=.done,pending:=some e.code}
structure U6 where
 X:Ctx
 F:Nat->Prop
 o7:Option E8
 y:Option Nat
 l:Nat
 r:Go.Loop
 V:List Value
def U6.holds(A:U6)(K:b8)(H:Nat->Option Hd)(b:List a7)(w:World):Prop:=
 ∃a g2,b=a++g2/\c6 (K.cG A.y) H a A.V/\A.X A.F (K.cG A.y) H g2 A.o7 w
def U6.it(A:U6):Ctx:=fun F K H a p w=>
 F A.l/\(∀b,A.F b->F b)/\w.heap[A.l]? =some (.loop (rV A.r p))/\A.holds K H a w
def U6.rd(A:U6)(s:LoopState)(c:List Value):Ctx:=fun F K H d p w=>
 F A.l/\(∀b,A.F b->F b)/\p=none/\w.heap[A.l]? =some (.loop {A.r with state:=s,pending:=none})/\
  ∃a g2,d=a++g2/\c6 (K.cG (some A.l)) H a c/\A.holds K H g2 w
theorem rW(l:List Nat):∀ (a b:List a7),L5 l (a++b)=L5 l a++L5 l b
 |[],_=>rfl
 |v::a,b=>by simp[L5,rW l a b]
theorem U6.pC(A:U6)(d:A.X.Ok){K K':b8}{H H':Nat->Option Hd}{a:List a7}{w w':World}(h:A.holds K H a w)(b:K.le K')(c:aY H H')(f:Kept A.F w w'):A.holds K' H' a w':=by
 obtain⟨g,g2,e,i,j⟩:=h;exact⟨g,g2,e,c6.mono (b.cG _) c _ _ i,(d.grow g2 A.o7).grow _ _ _ _ _ _ _ _ j (fun _ h=>h) (b.cG _) c f⟩
theorem U6.It(A:U6)(b:A.X.Ok){K:b8}{H:Nat->Option Hd}{a:List a7}{w:World}(l:List Nat)(h:A.holds K H a w):A.holds K (bI l H) (L5 l a) w:=by
 obtain⟨c,g2,e,d,f⟩:=h;exact⟨L5 l c,L5 l g2,by rw[e,rW],Q8 _ _ d,b.eF _ _ _ _ _ _ _ f⟩
theorem U6.a0Y(A:U6){K:b8}{H:Nat->Option Hd}{a:List a7}{w:World}(y:Option Nat):A.holds (K.cG y) H a w↔A.holds K H a w:=se
theorem U6.a7b(A:U6)(hX:A.X.Ok):A.it.Ok where
 grow:=fun gh p=>⟨fun F F' K K' H H' w w' h hF hK hH hk=>by
  obtain⟨h1,h2,h3,h4⟩:=h
  exact⟨hF _ h1,fun b hb=>hF _ (h2 b hb),by rw[hk.block _ h1];exact h3,A.pC hX h4 hK hH (hk.less h2)⟩⟩
 eF:=fun F K H l gh p w h=>by
  obtain⟨h1,h2,h3,h4⟩:=h;exact⟨h1,h2,h3,A.It hX l h4⟩
theorem U6.a2C(A:U6)(s:LoopState)(VI:List Value)(hX:A.X.Ok):(A.rd s VI).Ok where
 grow:=fun gh p=>⟨fun F F' K K' H H' w w' h hF hK hH hk=>by
  obtain⟨h1,h2,h3,h4,g1,g2,e,h5,h6⟩:=h
  exact⟨hF _ h1,fun b hb=>hF _ (h2 b hb),h3,by rw[hk.block _ h1];exact h4,g1,g2,e,c6.mono (hK.cG _) hH _ _ h5,A.pC hX h6 hK hH (hk.less h2)⟩⟩
 eF:=fun F K H l gh p w h=>by
  obtain⟨h1,h2,h3,h4,g1,g2,e,h5,h6⟩:=h;exact⟨h1,h2,h3,h4,L5 l g1,L5 l g2,by rw[e,rW],Q8 _ _ h5,A.It hX l h6⟩
theorem U6.a2D(A:U6)(s:LoopState)(a:List Value):eT (A.rd s a) (some A.l):=by
 intro l b F K H c p w h;cases b;exact⟨_,h.2.2.2.1⟩
theorem Xz{K:b8}{y:Option Nat}(h:K.y=y):K.cG y=K:=by
 cases K;simp[b8.cG]at h ⊢;exact h.symm
theorem U7(r:Go.Loop):∀cs e fz,Obj.loop r≠ .cells cs e fz:=fun _ _ _ h=>by cases h
theorem Gc{K:b8}{H:Nat->Option Hd}{a g2:List a7}{V:List Value}{n:Nat}(h:c6 K H a V)(b:V.length=n):(a++g2).take n=a/\(a++g2).drop n=g2:=by
 have:a.length=n:=by rw[<-c6.length h];exact b
 subst this;exact⟨List.take_left ..,iq ..⟩
section
variable {P:Program}
theorem a0Z(A:U6)(hX:A.X.Ok)(hl:¬A.F A.l)(F0:Nat->Prop)(hF0:¬F0 A.l){J:Nat}{O5 ps:List Nat}{ao:Act}{i C:Code}{Ja Jb:j7->(E8->j7->Prop)->Prop}
  (hr:A.r.tmps=ao.tmps/\A.r.params.toList=ps/\A.r.assign=i/\A.r.body=C)(hsz:J<=ao.tmps.size)(hV:A.V=O5.map (fun t=>ao.tmps.getD t undef))
  (ha:∀ (F0:Nat->Prop) VI,Sound P (A.rd .ready VI) none F0 (some A.l) none J Ja i)(D:∀ (F0:Nat->Prop) VI,Sound P (A.rd .busy VI) none F0 (some A.l) none J Jb C):
  Kv P A.it F0 A.l (Ek J O5 ps Ja Jb):=by
 obtain⟨hr1,hr2,rfl,rfl⟩:=hr;intro n args d kk F K H a w vs h hn hF hKy k G2 o;unfold Ek at h;split at h
 .rename_i hc;obtain⟨hp,E,yE,hya,hym⟩:=hc;obtain⟨x1,x2,x3,x4⟩:=k.x;rw[hp]at x3;have x3:w.heap[A.l]? =some (.loop {A.r with state:=.ready,pending:=none}):=x3;have hvl:vs.length=ps.length:=by rw[c6.length o,E]
  have hps:vs.toArray.size=A.r.params.size:=by
   rw[<-bp (xs:=A.r.params),hr2];simpa using hvl
  have hy:=run_yield (P:=P) (args:=vs.toArray) x3 hps;refine⟨_,_,_,_,hy,?_⟩
  let VI:List Value:=(dedup (d.tmps.map (·.1))).map (fun t=>a.tmps.getD t undef)
  have hVI:c6 K H ((dedup (d.tmps.map (·.1))).map (u9 d.tmps)) VI:=Kt _ _ k.tmp _
  have b0r:VI.length=(dedup (d.tmps.map (·.1))).length:=by simp[VI]
  refine roundIn_of_wpIn (bU none _) ?_;show Code.wpIn (Wd (some A.l)) 0 P A.r.assign _ _ w;have L:((K.cG A.y).cG (some A.l))=K:=Xz (K:=K) hKy;obtain⟨g3,g4,eg,u,gh2⟩:=x4;have b0s:St ((A.rd .ready VI).O4 ((dedup (d.tmps.map (·.1))).map (u9 d.tmps)++d.gh) none) none F J (K.cG A.y) H (u9 (setArgs ps args (kE O5 (d.gh.take O5.length)))) (l9 d.M)
    {tmps:=(A.r.params.zip vs.toArray).foldl (fun tmps (t,a)=>tmps.setIfInBounds t a) A.r.tmps,defers:=[]} w:=by
   have q:(A.r.params.zip vs.toArray).foldl (fun tmps (t,a)=>tmps.setIfInBounds t a) A.r.tmps=(ps.zip vs).foldl (fun tmps (x:Nat×Value)=>tmps.setIfInBounds x.1 x.2) ao.tmps:=by
    rw[hr1,<-Array.foldl_toList,Array.toList_zip,hr2]
   refine⟨k.ok.cG _,k.mem.cG _ (fun r c f h=>rS hym h),?_,rfl,?_,?_⟩
   .show J<=Array.size _;rw[q,zY];exact hsz
   .show ∀t,b9 _ _ _ (Array.getD _ t undef);rw[q];refine CE ps args vs _ _ E (U5 _ _ _ hya o) (fun p hp=>cc (FX yE p hp) hsz) ?_
    rw[eg,(Gc u (by rw[hV];simp)).1]
    rw[hV]at u;exact zX _ _ _ u
   .exact⟨x1,x2,rfl,x3,_,_,rfl,by rw[L];exact hVI,g3,g4,eg,u,gh2⟩
  refine ha F VI _ _ F (K.cG A.y) H _ w _ h rfl (fun _ h=>h) (fun l e=>by cases e) b0s G2 ?_
  intro e s1 a1 w1 N MZ ht1;cases e with
  |exit id=>exact N.elim
  |ret=>exact N.elim
  |normal=>
   obtain⟨⟨F1,K1,H1,G,g,Ky,uM,O⟩,v⟩:=ht1;obtain⟨y1,y2,y3,Z,y5⟩:=g.x;refine⟨_,run_beginRound Z rfl,?_⟩;show Code.wpIn (Wd (some A.l)) 0 P A.r.body _ a1 _;have R:K1.inv A.l=none:=by
    cases hi:K1.inv A.l with
    |none=>rfl
    |some p=>exact absurd y1 (g.ok.inv _ _ hi)
   let wb:=w1.putObj A.l (.loop {A.r with state:=.busy,pending:=none})
   have hkb:Kept A.F w1 wb:=fV Z hl;obtain⟨q1,q2,eq,hq1,hq2⟩:=y5;have b0t:St ((A.rd .busy VI).O4 s1.gh s1.o7) none F1 J K1 H1 s1.s6.T s1.s6.m a1 wb:=by
    refine⟨EV g.ok Z (U7 _) R,DM g.mem Z (U7 _) (fun _ _ h=>by cases h) (fun _ _ _ _ h=>by cases h),g.size,g.defers,g.tmp,y1,y2,y3,?_,q1,q2,eq,hq1,A.pC hX hq2 (.refl _) (.refl _) hkb⟩
    rw[I0 Z,aj rfl]
   have b0u:Kept F0 w wb:=(v.less hF).trans (fV Z hF0);refine D F1 VI s1 _ F1 K1 H1 a1 wb _ N MZ (fun _ h=>h) (fun l e=>by cases e) b0t uM ?_
   intro e s2 a2 w2 s Xx kX;obtain⟨⟨F2,K2,H2,Bw,j,CG,Af,S⟩,z⟩:=kX;obtain⟨z1,z2,z3,I,p1,p2,ep,hp1,hp2⟩:=j.x;split at s
   .rename_i b0v;have U:K2.inv A.l=none:=by
     cases hi:K2.inv A.l with
     |none=>rfl
     |some p=>exact absurd z1 (j.ok.inv _ _ hi)
    have Y:∀ (o':Obj),o'=.loop (rV A.r e.left)->gD A.it none F0 F n K w
      {n:=d.n,tmps:=kE (dedup (d.tmps.map (·.1))) (s2.gh.take (dedup (d.tmps.map (·.1))).length),nx:=s2.nx,M:=s2.M,gh:=s2.gh.drop (dedup (d.tmps.map (·.1))).length,o7:=e.left} a (w2.putObj A.l o'):=by
     intro o' ho';have hkF:∀b,F0 b->F1 b:=fun b D=>G b (hF b D)
     have htk:=Gc (g2:=p2) hp1 b0r;refine⟨⟨F2,K2.cG (some A.l),H2,fun b D=>Bw b (G b D),⟨?_,?_,?_,k.defers,?_,z1,z2,?_,?_⟩,⟨fun b cs h=>CG.cells _ _ (Ky.cells _ _ h),fun b p h=>CG.inv _ _ (Ky.inv _ _ h),fun l' h=>by rw[hKy]at h;exact h⟩,Af,?_⟩,?_⟩
     .exact(EV j.ok I (U7 _) U).cG _
     .exact(DM j.mem I (U7 _) (fun _ _ h=>by cases h) (fun _ _ _ _ h=>by cases h)).cG _ (fun r c f h=>rS b0v h)
     .exact k.size
     .show ∀t,b9 (K2.cG (some A.l)) H2 (u9 (kE _ (s2.gh.take _)) t) (a.tmps.getD t undef);rw[ep,htk.1];exact zX _ _ _ hp1
     .rw[I0 I,aj rfl,ho']
     .rw[ep,htk.2];exact(A.a0Y _).2 (A.pC hX hp2 (.refl K2) (.refl H2) (fV I hl))
     .intro b D;have f1:=O b (hF b D);have f2:=S b (hkF b D);exact⟨f2.1.trans f1.1,f2.2.trans f1.2⟩
     .exact(b0u.trans (z.less hkF)).trans (fV I hF0)
    cases e with
    |normal=>exact⟨_,_,ss none I,true,_,rfl,s,hn,Y _ rfl⟩
    |exit id=>exact⟨_,_,ss (some (.exit id)) I,false,_,rfl,s,hn,Y _ rfl⟩
    |ret=>exact⟨_,_,ss (some .ret) I,false,_,rfl,s,hn,Y _ rfl⟩
   .exact s.elim
 .exact h.elim
theorem eC{f:FuncId}{a:Func}{c:Code}(d:P.funcs[f]? =some a)(e:a.body=some c)(g:(a.name== "runtime.NumGoroutine")=false)(args:Array Value)(w:World):(callFunc f args).run P w=.ok (.enter f args) w:=by
 have b:a.name≠ "runtime.NumGoroutine" :=by simpa using g
 simp[callFunc,d,e,b,go_sem]
def N3(P:Program)(e:Iter):Prop:=
 ∀ (h:Hand) (c:FuncId) (args:List a7) (s0:j7) (k:j7->Prop) (X:Ctx) (F0 F:Nat->Prop) (K:b8) (H:Nat->Option Hd) (w:World) (vs:List Value) (l:Nat) (R:Ending->World->Prop),
  e h c args s0 k->X.Ok->Kv P X F0 l h->(∀b,F0 b->F b)->K.y=some l->L4 F K w->l5 F K H w (l9 s0.M)->(∀r,s0.nx<=r->H r=none)->c6 K H args vs->X F K H ((s0.tmps.map (·.1)).map (u9 s0.tmps)++s0.gh) none w->
  (∀a d K' H' w' v,k a->(∀b,F b->d b)->L4 d K' w'->l5 d K' H' w' (l9 a.M)->(∀r,a.nx<=r->H' r=none)->X d K' H' a.gh a.o7 w'->K.le K'->Fix F0 K K'->Kept F0 w w'->R (.returned v) w')->
  (∀args w,(callFunc c args).run P w=.ok (.enter c args) w)/\CallsIn (Wd none) 0 P c vs.toArray w R
theorem Gd:N3 P Cb:=fun _ _ _ _ _ _ _ _ _ _ _ _ _ _ h=>h.elim
variable {X:Ctx} {B:Option Nat} {F0:Nat->Prop} {ro yl:Option Nat} {n:Nat}
theorem Um{Q:Exit->Act->World->Prop}{a:Act}{w:World}{ro:Option Nat}(e:E8)(h:Q e.out a w):e.code.wpIn (Wd ro) 0 P Q a w:=by
 cases e with
 |normal=>exact qv h
 |exit id=>exact wpIn_exit h
 |ret=>exact wpIn_ret h
theorem Ge{IT:Iter}(nK:N3 P IT)(hX:X.Ok)(lO:eT X ro)(hB:B=none->ro≠none){g:Operand}{ps:Array Tmp}{assign body:Code}{Ja Jb:j7->(E8->j7->Prop)->Prop}
  (ha:∀ (X:Ctx) (F0:Nat->Prop) (l:Nat),X.Ok->eT X (some l)->Sound P X none F0 (some l) none n Ja assign)(d:∀ (X:Ctx) (F0:Nat->Prop) (l:Nat),X.Ok->eT X (some l)->Sound P X none F0 (some l) none n Jb body)
  {s0:j7}{k:E8->j7->Prop}{F:Nat->Prop}{K:b8}{H:Nat->Option Hd}{a:Act}{w:World}{Q:Exit->Act->World->Prop}(hn:s0.n=n)(hF:∀b,F0 b->F b)
  (i:St (X.O4 s0.gh s0.o7) B F n K H s0.s6.T s0.s6.m a w)(G2:∀r,s0.nx<=r->H r=none){gf:FuncId}{cap:List a7}{ca:Array Value}(e1:a.eval g=.func (.func gf) #[] ca)(e3:c6 K H cap ca.toList)(hny:gH cap=true/\Ej s0.M=true)
  (h:IT (Ek s0.n (s0.tmps.map (·.1)) ps.toList Ja Jb) gf (.J7::cap) s0 (fun j=>if Ej j.M=true then k (j.o7.getD .normal) {n:=s0.n,tmps:=kE (s0.tmps.map (·.1)) (j.gh.take (s0.tmps.map (·.1)).length),nx:=j.nx,M:=j.M,gh:=j.gh.drop (s0.tmps.map (·.1)).length,o7:=s0.o7} else False))
  (hQ:∀e U a' w',k e U->U.n=n->gD X B F0 F n K w U a' w'->Q e.out a' w'):(Code.rangeFunc g ps assign body).wpIn (Wd ro) 0 P Q a w:=by
 have enter:∀fn,∃ (l:Nat) (mk:List Deferred) (w2:World) (r:Go.Loop),(Instr.enterLoop fn a.tmps ps assign body ro).run P w=.ok (l,mk) w2/\w2.heap[l]? =some (.loop (rV r none))/\
   r.tmps=a.tmps/\r.params=ps/\r.assign=assign/\r.body=body/\w.heap.size<=l/\l<w2.heap.size/\Kept (fun b=>b<w.heap.size) w w2/\(∀G w',(∀b,F b->G b)->(∀b,w.heap.size<=b->b<w2.heap.size->b≠l->G b)->Kept G w2 w'->Marks B G (mk++a.defers) w'):=by
  intro fn;cases hr:ro with
  |none=>
   refine⟨_,_,_,{state:=.ready,pending:=none,fn,tmps:=a.tmps,params:=ps,assign,body,defers:=w.heap.size},run_enterLoop_outer fn a.tmps ps assign body,?_,rfl,rfl,rfl,rfl,by omega,by simp,?_,?_⟩
   .have:=my (w.alloc (.deferred (some []))) (.loop {state:=.ready,pending:=none,fn,tmps:=a.tmps,params:=ps,assign,body,defers:=w.heap.size});rwa [World.size_alloc]at this
   .exact⟨rfl,rfl,rfl,by simp;omega,fun b d=>(Below.heap_alloc _ _ _ (by simp;omega)).trans (Below.heap_alloc _ _ _ d),aw _⟩
   .intro G w' hG K8 J;cases u:B with
    |none=>exact absurd hr (hB u)
    |some b0=>
     have Y:=i.defers;rw[u]at Y;obtain⟨m0,Ds,m1,m2,m3⟩:=Y;have Wa:((w.alloc (.deferred (some []))).alloc (.loop {state:=.ready,pending:=none,fn,tmps:=a.tmps,params:=ps,assign,body,defers:=w.heap.size})).heap.size=w.heap.size+2:=by simp
     have hD:((w.alloc (.deferred (some []))).alloc (.loop {state:=.ready,pending:=none,fn,tmps:=a.tmps,params:=ps,assign,body,defers:=w.heap.size})).heap[w.heap.size]? =some (.deferred (some [])):=
      (Below.heap_alloc _ _ _ (by simp)).trans (my w _)
     refine⟨?_,w.heap.size::Ds,by rw[m1];rfl,?_,?_⟩
     .have:=J.size;omega
     .refine dn.2 ⟨fun Tu=>?_,m2⟩
      have:=s8 (m3 _ Tu).2.2;omega
     .intro D z;rcases av.1 z with rfl|z
      .have o:G w.heap.size:=K8 _ (aw _) (by omega) (by omega)
       exact⟨m0,o,by rw[J.block _ o];exact hD⟩
      .obtain⟨n1,n2,n3⟩:=m3 D z;have o:=hG D n2;refine⟨n1,o,?_⟩;rw[J.block _ o];exact((Below.heap_alloc _ _ _ (by have:=s8 n3;simp;omega)).trans (Below.heap_alloc _ _ _ (s8 n3))).trans n3
  |some l0=>
   obtain⟨r0,hr0⟩:=lO l0 hr _ _ _ _ _ _ i.x;refine⟨_,_,_,{state:=.ready,pending:=none,fn,tmps:=a.tmps,params:=ps,assign,body,defers:=r0.defers},run_enterLoop_inner hr0 fn a.tmps ps assign body,my w _,rfl,rfl,rfl,rfl,aw _,by simp,?_,?_⟩
   .exact⟨rfl,rfl,rfl,by simp,fun b d=>Below.heap_alloc _ _ _ d,aw _⟩
   .intro G w' hG K8 J;have Wa:(w.alloc (.loop {state:=.ready,pending:=none,fn,tmps:=a.tmps,params:=ps,assign,body,defers:=r0.defers})).heap.size=w.heap.size+1:=by simp
    have Y:=i.defers;cases u:B with
    |none=>rw[u]at Y;exact Y
    |some b0=>
     rw[u]at Y;obtain⟨m0,Ds,m1,m2,m3⟩:=Y;refine⟨?_,Ds,by rw[m1];rfl,m2,?_⟩
     .have:=J.size;omega
     .intro D z;obtain⟨n1,n2,n3⟩:=m3 D z;have o:=hG D n2;refine⟨n1,o,?_⟩;rw[J.block _ o];exact(Below.heap_alloc _ _ _ (s8 n3)).trans n3
 refine wpIn_rangeFunc (fun fn _=>?_)
 obtain⟨l,mk,w2,r,a4n,hl,hr1,hr2,hr3,hr4,hll,b0w,Z,L⟩:=enter fn
 let F1:Nat->Prop:=fun b=>F b\/w.heap.size<=b/\b<w2.heap.size
 let C:Nat->Prop:=fun b=>F b\/(w.heap.size<=b/\b<w2.heap.size/\b≠l)
 have hFl:¬F l:=fun d=>by have:=i.ok.lt l d;omega
 have O:¬C l:=fun d=>by
  rcases d with d|d
  .exact hFl d
  .exact d.2.2 rfl
 have E:∀b,C b->F1 b:=fun b d=>by
  rcases d with d|d
  .exact .inl d
  .exact .inr ⟨d.1,d.2.1⟩
 have hkF:Kept F w w2:=Z.less (fun b d=>i.ok.lt b d)
 let V:List Value:=(s0.tmps.map (·.1)).map (fun t=>a.tmps.getD t undef)
 let A:U6:=⟨X,F,s0.o7,K.y,l,r,V⟩
 let K1:=K.cG (some l)
 have hKK:K1.cG K.y=K:=by cases K;rfl
 have hV:c6 K H ((s0.tmps.map (·.1)).map (u9 s0.tmps)) V:=Kt _ _ i.tmp _
 have N:A.X.Ok:=hX;have a7f:Kv P A.it C l (Ek s0.n (s0.tmps.map (·.1)) ps.toList Ja Jb):=by
  refine a0Z A N hFl C O (ao:=a) ⟨hr1,by rw[hr2],hr3,hr4⟩ (by rw[hn];exact i.size) rfl ?_ ?_
  .intro F0 VI;rw[hn];exact ha _ F0 l (A.a2C _ _ N) (A.a2D _ _)
  .intro F0 VI;rw[hn];exact d _ F0 l (A.a2C _ _ N) (A.a2D _ _)
 have yJ:c6 K1 H (.J7::cap) (.func (.yield l) #[] #[]::ca.toList):=
  .cons (by simp only[b9];exact⟨l,rfl,rfl⟩) (U5 _ _ _ hny.1 e3)
 have hxi:A.it F1 K1 H ((s0.tmps.map (·.1)).map (u9 s0.tmps)++s0.gh) none w2:=
  ⟨.inr ⟨hll,b0w⟩,fun b d=>.inl d,hl,_,_,rfl,by show c6 (K1.cG K.y) H _ V;rw[hKK];exact hV,by
   show X F (K1.cG K.y) H s0.gh s0.o7 w2;rw[hKK]
   exact(hX.grow s0.gh s0.o7).grow _ _ _ _ _ _ _ _ i.x (fun _ h=>h) (.refl K) (.refl H) hkF⟩
 have main:=nK _ gf _ s0 _ A.it C F1 K1 H w2 (.func (.yield l) #[] #[]::ca.toList) l (rangePost (Wd ro) 0 P l Q {a with defers:=mk++a.defers}) h (A.a7b N) a7f E rfl
  ((Xu i.ok Z (fun b d=>d)).cG _) ((Uk i.mem Z (fun b d=>d)).cG _ (fun r c f h=>rS hny.2 h)) G2 yJ hxi
 obtain⟨Xe,hC⟩:=main (by
  intro j F' K' H' w' v J b0y R hm' wR hx' hK' RJ q;split at J
  .rename_i b0z;obtain⟨x1,x2,x3,g1,g2,eg,x4,x5⟩:=hx';have x1:F' l:=x1;have x3:w'.heap[l]? =some (.loop (rV r j.o7)):=x3;have x4:c6 (K'.cG K.y) H' g1 V:=x4;have x5:X F (K'.cG K.y) H' g2 s0.o7 w':=x5;have ZG:(rV r j.o7).state≠ .busy:=by cases j.o7<;>simp[rV]
   have hinv:K'.inv l=none:=by
        cases hi:K'.inv l with
        |none=>rfl
        |some p=>exact absurd x1 (R.inv _ _ hi)
   have b0A:=run_endLoop (P:=P) x3 ZG
   let w4:=w'.putObj l (.loop {rV r j.o7 with state:=.exhausted})
   have htk:=Gc (g2:=g2) (n:=(s0.tmps.map (·.1)).length) x4 (by simp[V])
   have I:∀b,C b->F' b:=fun b d=>b0y b (E b d)
   have S:Kept F w' w4:=fV x3 hFl;have a7g:Kept C w' w4:=fV x3 O;have b0B:gD X B F0 F n K w {n:=s0.n,tmps:=kE (s0.tmps.map (·.1)) (j.gh.take (s0.tmps.map (·.1)).length),nx:=j.nx,M:=j.M,gh:=j.gh.drop (s0.tmps.map (·.1)).length,o7:=s0.o7} {a with defers:=mk++a.defers} w4:=by
        refine⟨⟨C,K'.cG K.y,H',fun b d=>.inl d,⟨?_,?_,i.size,?_,?_,?_⟩,⟨fun b cs h=>hK'.cells _ _ h,fun b p h=>hK'.inv _ _ h,fun _ h=>h⟩,wR,?_⟩,?_⟩
        .exact((EV R x3 (U7 _) hinv).less I).cG _
        .exact((DM hm' x3 (U7 _) (fun _ _ h=>by cases h) (fun _ _ _ _ h=>by cases h)).less I).cG _ (fun r c f h=>rS b0z h)
        .exact L C w4 (fun b d=>.inl d) (fun b h1 h2 h3=>.inr ⟨h1,h2,h3⟩) (q.trans a7g)
        .show ∀t,b9 (K'.cG K.y) H' (u9 (kE _ (j.gh.take _)) t) (a.tmps.getD t undef);rw[eg,htk.1];exact zX _ _ _ x4
        .show X C (K'.cG K.y) H' (j.gh.drop _) s0.o7 w4;rw[eg,htk.2];have y1:=(hX.grow g2 s0.o7).grow _ _ _ _ _ _ _ _ x5 (fun _ h=>h) (.refl _) (.refl _) S
         exact(hX.grow g2 s0.o7).grow _ C _ _ _ _ _ _ y1 (fun b d=>.inl d) (.refl _) (.refl _) (.refl _ _)
        .intro b d;exact RJ b (.inl (hF b d))
        .exact((hkF.less hF).trans (q.less (fun b d=>.inl (hF b d)))).trans (S.less hF)
   refine⟨_,_,b0A,?_⟩;have s:=hQ _ _ _ _ J hn b0B;cases hp:j.o7 with
   |none=>
    rw[hp]at s;simp only[rV];have e4:w4=w'.putObj l (.loop {rV r none with state:=.exhausted}):=by simp only[w4,hp]
    rw[e4]at s;exact s
   |some e=>
    rw[hp]at s;simp only[rV];have e4:w4=w'.putObj l (.loop {rV r (some e)with state:=.exhausted}):=by simp only[w4,hp]
    rw[e4]at s;exact Um e s
  .exact J.elim)
 refine⟨l,mk,w2,{target:=.fn (.func gf) ca,args:= #[.func (.yield l) #[] #[]]},w2,gf,#[.func (.yield l) #[] #[]]++ca,w2,?_,?_,?_,?_,mI ro,?_⟩
 .exact a4n
 .simp only[resolve,e1];simp[go_sem]
 .intro f' _;exact bU ro f'
 .simp[invoke,go_sem,Xe]
 .have e:(Value.func (.yield l) #[] #[]::ca.toList).toArray= #[.func (.yield l) #[] #[]]++ca:=by
   apply ln;simp
  rw[e]at hC;exact hC
theorem Na{p:Iter}(f:N3 P p)(q:X.Ok)(i:eT X ro)(r:B=none->ro≠none){g:Operand}{ps:Array Tmp}{b c:Code}{Ja Jb:j7->(E8->j7->Prop)->Prop}
  (s:∀ (X:Ctx) (F0:Nat->Prop) (l:Nat),X.Ok->eT X (some l)->Sound P X none F0 (some l) none n Ja b)(t:∀ (X:Ctx) (F0:Nat->Prop) (l:Nat),X.Ok->eT X (some l)->Sound P X none F0 (some l) none n Jb c):
  Sound P X B F0 ro yl n (El p g ps.toList Ja Jb) (.rangeFunc g ps b c):=by
 intro s0 k F K H a w Q h u v E e j x;unfold El at h;split at h
 .rename_i G cap y;split at h
  .rename_i m;have d:=e.ev g;rw[<-show Hg s0.tmps=Dk s0.s6.T from qZ _,y]at d;simp only[b9]at d;obtain⟨z,I,A,C,D⟩:=d;have o:z= #[]:=by
    have:=c6.J8.1 C;simpa using this
   subst o;exact Ge f q i r s t u v e j A D m h x
  .exact h.elim
 .exact h.elim
end
end Go.Abs
end
section
namespace Go.Abs
def noGoto(Q:Exit->Act->World->Prop):Exit->Act->World->Prop
 |.goto _,_,_=>False
 |e,a,w=>Q e a w
theorem Nb{P:Program}{b:Frame}{a:Act}{k:List Item}{cs:List Frame}{w:World}{c:Code}:step P (lone (b.atR a (.code (.scope c)::k)) cs w)=.next (lone (b.atR a (.code c:: .inScope c::k)) cs w):=
 step_lone_go (by simp[stepG,stepG.exec,Frame.atR])
theorem HF{P:Program}{b:Frame}{a:Act}{k:List Item}{cs:List Frame}{w:World}{c:Code}:step P (lone (b.atR a (.inScope c::k)) cs w)=.next (lone (b.atR a k) cs w):=
 step_lone_go (by simp[stepG,stepG.exec,Frame.atR])
theorem O3{F:Fence}{n:Nat}{P:Program}{Q:Exit->Act->World->Prop}{a:Act}{w:World}{c:Code}(h:c.wpIn F n P (noGoto Q) a w):(Code.scope c).wpIn F n P Q a w:=by
 intro b k cs f g i;obtain⟨e,m,o,j,d⟩:=h b (.inScope c::k) cs f g i;refine⟨e,m,o,?_,.of_steps (.one (fenced_calm g i rfl) Nb) ?_⟩
 .cases e<;>first|exact j|exact j.elim
 .cases e with
  |normal=>exact StepsIn.trans d (.one (fenced_calm g i rfl) HF)
  |exit id=>exact⟨fun k' p=>d.1 k' (by simp[exitTo,p]),fun q r=>d.2 q (by simp[exitTo,r])⟩
  |goto l=>exact j.elim
  |ret=>exact d
  |panic ch=>exact d
  |outgrown=>exact d
theorem Nc{g:Operand}{ps:List Nat}{Ja Jb:j7->(E8->j7->Prop)->Prop}{s0:j7}{k:E8->j7->Prop}(h:El Cb g ps Ja Jb s0 k):False:=by
 unfold El at h;split at h
 .split at h
  .exact h
  .exact h
 .exact h
section
variable {Γ:Env} {P:Program} {fY:Nat->List Nat} {IT:Iter}
theorem mV(m4:P.follows .mixedOrders=true)(hG:Good P Γ)(nK:N3 P IT):∀ (c:Code),Code.j5 c=true->∀ (X:Ctx) (B:Option Nat) (F0:Nat->Prop) (ro yl:Option Nat) (n:Nat) (Y:Ca),X.Ok->eT X ro->a69 P X B F0 ro yl Y->((B=none->ro≠none)\/IT=Cb)->
  Sound P X B F0 ro yl n (Hi Γ P fY IT c Y) c:=by
 intro c
 induction c with
 |skip=>
  intro d X B F0 ro yl n Y t f I z v k F K H a w Q h A E C j m q;exact qv (q .normal v a w h A (bW j m))
 |region id ops draw=>
  intro d X B F0 ro yl n Y t f I z;exact Kx t m4 hG fY IT I id ops draw d
 |seq x y Bx By=>
  intro d X B F0 ro yl n Y t f I z v k F K H a w Q h A E C j m q;simp only[Code.j5,ah]at d;refine jo (Bx d.1 X B F0 ro yl n Y t f I z v _ F K H a w _ h A E C j m ?_);intro e o J w' D p L;cases e with
  |normal=>
   obtain⟨⟨F',K',H',O,u,hK,G,R⟩,M⟩:=L;exact By d.2 X B F0 ro yl n Y t f I z o k F' K' H' J w' Q D p (fun b hb=>O b (E b hb)) (fun l e=>hK.y l (C l e)) u G (fun e kC a2 w2 jS U kX=>q e kC a2 w2 jS U (kX.trans O hK R M))
  |exit id=>exact q _ o J w' D p L
  |ret=>exact q _ o J w' D p L
 |cond c x y Bx By=>
  intro d X B F0 ro yl n Y t f I z v k F K H a w Q h A E C j m q;simp only[Code.j5,ah]at d;simp only[Hi]at h;split at h
  .rename_i b hb;have hc:=j.ev c;rw[<-show Hg v.tmps=Dk v.s6.T from qZ _,hb]at hc;simp only[b9]at hc;rw[DZ]at h;cases b with
   |true=>exact ka hc (Bx d.1 X B F0 ro yl n Y t f I z v k F K H a w Q (h.1 rfl) A E C j m q)
   |false=>exact kf hc (By d.2 X B F0 ro yl n Y t f I z v k F K H a w Q (h.2 rfl) A E C j m q)
  .cases h
 |block id c ih=>
  intro d X B F0 ro yl n Y t f I z v k F K H a w Q h A E C j m q;refine pj (ih d X B F0 ro yl n Y t f I z v _ F K H a w _ h A E C j m ?_);intro e o J w' D p L;cases e with
  |normal=>exact q _ o J w' D p L
  |ret=>exact q _ o J w' D p L
  |exit i=>
   simp only[E8.out,Exit.inBlock];simp only at D;by_cases hi:i=id
   .rw[aj hi]at D ⊢;exact q .normal o J w' D p L
   .rw[ai hi]at D ⊢;exact q (.exit i) o J w' D p L
 |loop c ih=>
  intro d X B F0 ro yl n Y t f I z v k F K H a w Q h A E C j m q;simp only[Hi]at h;obtain⟨K0,pD,hK0,V,ZI,a7h⟩:=JV t (fY (L8 c)) j;have Un:∀r,(uI (fY (L8 c)) v).nx<=r->H r=none:=fun r hr=>m r (by rw[<-a7h];exact hr)
  obtain⟨H',u,G⟩:=Fl t (fY (L8 c)) pD Un;have p:(canon (fY (L8 c)) (uI (fY (L8 c)) v)).n=n:=ZI.trans A;generalize shapeOf (canon (fY (L8 c)) (uI (fY (L8 c)) v))=S at h;unfold a2g at h;split at h
  .rename_i x0 ZK;obtain⟨N,h⟩:=h;have e0:=Shape.X2 ZK;rw[<-e0]at u G p;have hQ0:∀e o J w',k e o->o.n=n->gD X B F0 F n K0 w o J w'->Q e.out J w':=fun e o J w' D p L=>q e o J w' D p (L.trans (fun _ h=>h) hK0 (V.less E) (.refl F0 w))
   have hy0:=fun l e=>hK0.y l (C l e)
   clear j m A ZK e0 pD Un ZI a7h q C V hK0;revert hQ0 hy0 u;generalize K0=K0';intro u q C;refine jx N ?_
   induction N generalizing x0 F K0' H' a w with
   |zero=>exact absurd h id
   |succ N ihN=>
    rw[mg];refine ih d X B F0 ro yl n Y t f I z (S.enc x0) _ F K0' H' a w _ h p E C u G ?_;intro e o J w' D MZ L;cases e with
    |normal=>
     obtain⟨⟨F1,K1,H1,O,Z,hK,uM,R⟩,M⟩:=L;obtain⟨K2,Z,CG,Gf,U,b0D⟩:=JV t (fY (L8 c)) Z;have uM:∀r,(uI (fY (L8 c)) o).nx<=r->H1 r=none:=fun r hr=>uM r (by rw[<-b0D];exact hr)
     obtain⟨H2,aT,Af⟩:=Fl t (fY (L8 c)) Z uM;simp only at D;split at D
     .rename_i y hy';have e2:=Shape.X2 hy';rw[<-e2]at aT Af;have hn3:(S.enc y).n=n:=by rw[e2];exact U.trans MZ
      have hK3:=hK.trans CG;have Nd:=R.trans (Gf.less (fun b hb=>O b (E b hb)))
      refine ihN F1 J w' (fun b hb=>O b (E b hb)) H2 y ?_ ?_ ?_ K2 ?_ (fun e kC a2 w2 jS U kX=>q e kC a2 w2 jS U (kX.trans O hK3 Nd M)) (fun l e=>hK3.y l (C l e))<;>assumption
     .exact D.elim
    |exit id=>exact q _ o J w' D MZ L
    |ret=>exact q _ o J w' D MZ L
  .exact h.elim
 |exit id=>
  intro d X B F0 ro yl n Y t f I z v k F K H a w Q h A E C j m q;exact wpIn_exit (q (.exit id) v a w h A (bW j m))
 |ret=>
  intro d X B F0 ro yl n Y t f I z v k F K H a w Q h A E C j m q;exact wpIn_ret (q .ret v a w h A (bW j m))
 |scope c ih=>
  intro d X B F0 ro yl n Y t f I z v k F K H a w Q h A E C j m q;refine O3 (ih d X B F0 ro yl n Y t f I z v k F K H a w _ h A E C j m ?_);intro e o J w' D p L;have:=q e o J w' D p L;cases e<;>exact this
 |label l=>
  intro d X B F0 ro yl n Y t f I z v k F K H a w Q h A E C j m q;exact wpIn_label (q .normal v a w h A (bW j m))
 |rangeFunc g ps assign body iha ihb=>
  intro d X B F0 ro yl n Y t f I z v k F K H a w Q h A E C j m q;simp only[Hi]at h;simp only[Code.j5,ah]at d;obtain⟨H',u,G⟩:=Fl t (fY (1000+L8 body)) j m;rcases z with z|z
  .refine Na nK t f z (ps:=ps) (Ja:=fun s k'=>Hi Γ P fY IT assign .rd s k') (Jb:=fun s k'=>Hi Γ P fY IT body .rd s k') ?_ ?_ (canon (fY (1000+L8 body)) v) k F K H' a w Q h A E C u G q
   .intro X F0 l t f;exact iha d.1 X none F0 (some l) none n .rd t f ⟨trivial,fun h=>by cases h⟩ (.inl (fun _=>by simp))
   .intro X F0 l t f;exact ihb d.2 X none F0 (some l) none n .rd t f ⟨trivial,fun h=>by cases h⟩ (.inl (fun _=>by simp))
  .subst z;exact(Nc h).elim
 |_=>intro d X B F0 ro yl n Y t f I z v k F K H a w Q h;exact absurd h id
end
end Go.Abs
end
section
namespace Go.Abs
def gQ:Nat->Option E8
 |0=>none
 |1=>some .ret
 |i+2=>some (.exit i)
structure B4(n:Nat)(g:List a7)(E:Nat)(A:z7)(nx:Nat)(D:m8)(p:Nat)(st:j7):Prop where
 M:st.M=p8 nx D
 lt:nx<1048575
 o7:st.o7=gQ p
 tmps:u9 st.tmps=TE E A
 gh:st.gh=g
 nx:st.nx=nx
 n:st.n=n
theorem PV(f:Nat->a7):∀ (N t:Nat),u9 ((List.range N).map fun t=>(t,f t)) t=if t<N then f t else .S6:=by
 intro N t;have b:∀ (l:List Nat),u9 (l.map fun t=>(t,f t)) t=if t∈l then f t else .S6:=by
  intro l
  induction l with
  |nil=>rfl
  |cons a l c=>
   simp only[az,u9];by_cases h:a=t
   .subst h;simp
   .rw[ai h,c];have:t∈a::l↔t∈l:=by
     rw[av];exact⟨fun hh=>hh.resolve_left (fun e=>h e.symm),.inr⟩
    simp only[this]
 rw[b];simp only[ld]
theorem Nf:∀ (A:z7),∃N,∀t,N<=t->Ht A t=.u
 |[]=>⟨0,fun _ _=>rfl⟩
 |p::A=>by
  obtain⟨N,a⟩:=Nf A;refine⟨max N (p.1+1),fun t b=>?_⟩
  rw[iH,ai (by omega)]
  exact a t (by omega)
theorem XA(E t:Nat)(h:E<=t):vY E t=0:=by
 rw[zT];have a:E<cB^ (t+1):=by
  have:t+1<cB^ (t+1):=Nat.lt_pow_self (by decide)
  omega
 rw[fl a,ra]
theorem Iu(E:Nat)(A:z7):∃a,u9 a=TE E A:=by
 obtain⟨N,b⟩:=Nf A;refine⟨(List.range (max N E)).map fun t=>(t,TE E A t),?_⟩
 funext t;rw[PV];split
 .rfl
 .rename_i h;unfold TE;rw[T6,XA E t (by omega),aj rfl,b t (by omega)]
  rfl
theorem B4.ex(n:Nat)(g:List a7)(E:Nat)(A:z7)(nx:Nat)(D:m8)(p:Nat)(h:nx<1048575):∃st,B4 n g E A nx D p st:=by
 obtain⟨b,a⟩:=Iu E A;exact⟨⟨n,b,nx,p8 nx D,g,gQ p⟩,rfl,h,rfl,a,rfl,rfl,rfl⟩
def a01(z:BV)(l:List HO)(g:List a7)(y:YH)(h:Hand):Prop:=∀ (args:List BV) (nx:Nat) (D:m8) (kk:Bool->Nat->Nat->m8->Rn) (a:j7),y args nx D kk=.ok z l->a.gh=g->a.o7=none->a.nx=nx->a.M=p8 nx D->nx<1048575->
 h (args.map I1) a (fun b c=>∃e d D',kk b e d D'=.ok z l/\c.n=a.n/\u9 c.tmps=u9 a.tmps/\c.nx=d/\c.M=p8 d D'/\c.gh=g/\c.o7=gQ e/\d<1048575)
def XB(z:BV)(l:List HO)(g:List a7):Option YH->Option Hand->Prop
 |none,none=>True
 |some y,some h=>a01 z l g y h
 |_,_=>False
theorem XB.some{z:BV}{l:List HO}{g:List a7}{Y:Option YH}{hh:Option Hand}{y:YH}(h:XB z l g Y hh)(e:Y=some y):∃Cs,hh=some Cs/\a01 z l g y Cs:=by
 subst e;cases hh with
 |none=>exact h.elim
 |some Cs=>exact⟨Cs,rfl,h⟩
theorem St.sub{X:fW}{B:Option Nat}{F:Nat->Prop}{n:Nat}{K:b8}{H:Nat->Option Hd}{T:Nat->a7}{m m2:Mm}{a:Act}{w:World}(h:St X B F n K H T m a w)(b:∀r x,m2 r=some x->m r=some x):St X B F n K H T m2 a w:=
 ⟨h.ok,h.mem.sub b,h.size,h.defers,h.tmp,h.x⟩
theorem T7{K:b8}{H:Nat->Option Hd}{E:Nat}{A:z7}{a:Act}(h:∀t,b9 K H (TE E A t) (a.tmps.getD t undef))(x:Operand):u6 K H (J0 E A x) (a.eval x):=by
 cases x with
 |tmp t=>exact aR (h t)
 |const y=>exact Fw y
 |global g=>trivial
 |func f=>
  show u6 K H (iB (Nat.ble f 65535) (.c (xH f 0)) .u) (.func (.func f) #[] #[]);rw[a9];split
  .rename_i b;exact .inr (.inr (.Jm f (Nat.lt_succ_of_le (af b))))
  .trivial
section
variable {P:Program} {R:z0} {z:BV} {l:List HO} {X:Ctx} {B:Option Nat} {F0:Nat->Prop} {ro yl:Option Nat} {n:Nat} {g:List a7} {Y:Option YH} {hh:Option Hand} {all:Array Oper}
theorem B4.vJ{E:Nat}{A:z7}{nx:Nat}{D:m8}{p:Nat}{a:j7}(h:B4 n g E A nx D p a):a.s6.m=l9 (p8 nx D):=by show l9 a.M=_;rw[h.M]
theorem B4.G9{E:Nat}{A:z7}{nx:Nat}{D:m8}{p:Nat}{a:j7}(h:B4 n g E A nx D p a):G9 a.s6.m=m6 nx D:=by rw[h.vJ,tV]
theorem B4.s6{E:Nat}{A:z7}{nx:Nat}{D:m8}{p:Nat}{a:j7}(h:B4 n g E A nx D p a):a.s6=⟨TE E A,nx,a.s6.m⟩:=by
 show(⟨u9 a.tmps,a.nx,l9 a.M⟩:SS)=⟨TE E A,nx,l9 a.M⟩;rw[h.tmps,h.nx]
end
theorem jU{α:Type}{f:α->α->Bool}(c:∀a b,f a b=true->a=b):∀ {l r:List α},Rm f l r=true->l=r
 |[],[],_=>rfl
 |[],_::_,h=>by cases h
 |_::_,[],h=>by cases h
 |a::l,b::r,h=>by
  have h:iB (f a b) (Rm f l r) false=true:=h;rw[a9]at h;split at h
  .rename_i d;rw[c _ _ d,jU c h]
  .cases h
theorem Uo(p q:Nat×Nat)(h:V' p q=true):p=q:=by
 unfold V' at h;rw[a9]at h;split at h
 .rename_i a;exact tc (ab a) (ab h)
 .cases h
theorem Up(p q:Nat×Nat×Nat)(h:Y' p q=true):p=q:=by
 unfold Y' at h;simp only[a9]at h;split at h
 .split at h
  .rename_i a b;exact tc (ab a) (tc (ab b) (ab h))
  .cases h
 .cases h
theorem eU(a b:BV)(h:xU a b=true):a=b:=by
 cases a with
 |c n=>cases b<;>first|exact Bool.noConfusion (show false=true from h)|(rw[ab (show Nat.beq _ _=true from h)])
 |a s n=>
  cases b<;>first|exact Bool.noConfusion (show false=true from h)|skip
  rename_i t m;have h:iB (Nat.beq s t) (Nat.beq n m) false=true:=h;rw[a9]at h;split at h
  .rename_i d;rw[ab d,ab h]
  .cases h
 |t l=>
  cases b<;>first|exact Bool.noConfusion (show false=true from h)|skip
  rename_i r;rw[jU Uo (show Rm V' l r=true from h)]
 |u=>exact Bool.noConfusion (show false=true from h)
theorem mW(a b:HO)(h:ZE a b=true):a=b:=by
 cases a with
 |c s n=>
  cases b<;>first|exact Bool.noConfusion (show false=true from h)|skip
  rename_i t m;have h:iB (Nat.beq s t) (Nat.beq n m) false=true:=h;rw[a9]at h;split at h
  .rename_i d;rw[ab d,ab h]
  .cases h
 |m k v l c=>
  cases b<;>first|exact Bool.noConfusion (show false=true from h)|skip
  rename_i k' v' o c';have h:iB (Nat.beq k k') (iB (Nat.beq v v') (iB (Nat.beq c c') (Rm Y' l o) false) false) false=true:=h;simp only[a9]at h;split at h
  .split at h
   .split at h
    .rename_i d e j;rw[ab d,ab e,ab j,jU Up h]
    .cases h
   .cases h
  .cases h
 |f a1 p q r=>
  cases b<;>first|exact Bool.noConfusion (show false=true from h)|skip
  rename_i u w x y;have h:iB (Nat.beq a1 u) (iB (Nat.beq p w) (iB (Nat.beq q x) (Nat.beq r y) false) false) false=true:=h;simp only[a9]at h;split at h
  .split at h
   .split at h
    .rename_i d e j;rw[ab d,ab e,ab j,ab h]
    .cases h
   .cases h
  .cases h
 |i m s l a=>exact Bool.noConfusion (show false=true from h)
 |z=>exact Bool.noConfusion (show false=true from h)
theorem Iv{r:Rn}{v:BV}{l:List HO}(h:Z' r v l=true):r=.ok v l:=by
 cases r with
 |er c x=>exact Bool.noConfusion (show false=true from h)
 |ok v' a=>
  have h:iB (xU v' v) (Rm ZE a l) false=true:=h;rw[a9]at h;split at h
  .rename_i b;rw[eU _ _ b,jU mW h]
  .cases h
theorem mX(s:Nat):∀ (l:List Nat),O0 s l=decide (s∈l)
 |[]=>by simp[O0]
 |a::l=>by
  show iB (Nat.beq a s) true (O0 s l)=_;rw[a9,mX s l];by_cases e:a=s
  .subst e;simp
  .rw[ai (fun h=>e (ab h))]
   simp[qy e]
theorem Iw{H:Nat->Option Hd}{ks vs:Nat}{seen:List Nat}:∀ {l:ME} {es:List MapEntry},(∀p∈l,p.1≠Y8)->G8 H ks vs l es->G8 H ks vs (x6 seen l) (es.filter fun e=> !seen.reverse.toArray.contains e.born)
 |[],es,_,h=>by
  have h:es=[]:=h;subst h;rfl
 |p::l,es,a,⟨e,d,f,b,i⟩=>by
  subst f;have c:=Iw (seen:=seen) (fun q j=>a q (al _ j)) i
  show G8 H ks vs (iB (O0 p.1 seen) (x6 seen l) (p::x6 seen l)) _;have k:seen.reverse.toArray.contains e.born=O0 p.1 seen:=by
   rw[mX,b.1.resolve_right (a p (ar ..))];simp
  rw[a9,il,k];cases O0 p.1 seen with
  |true=>simpa using c
  |false=>
   simp only[dq,dw,Bool.not_false,di];exact⟨e,_,rfl,b,c⟩
theorem Ag(seen:List Nat):∀ (l:ME),x6 seen l=l.filter fun p=> !O0 p.1 seen
 |[]=>rfl
 |p::l=>by
  show iB (O0 p.1 seen) (x6 seen l) (p::x6 seen l)=_;rw[a9,il,Ag seen l];cases O0 p.1 seen<;>simp
theorem Gg{seen:List Nat}{l a:ME}(h:l.Perm a):(x6 seen l).Perm (x6 seen a):=by
 rw[Ag,Ag];exact h.filter _
theorem Uq{seen:List Nat}{l:ME}{q:Nat×Nat×Nat}(h:q∈x6 seen l):q∈l:=by
 rw[Ag]at h;exact(ft.1 h).1
theorem RX{z:BV}{L:List HO}{k:Nat×Nat×Nat->Rn}:∀ {l:ME},Tc k l=.ok z L->∀p∈l,k p=.ok z L
 |[],h,p,a=>by cases a
 |[q],h,p,a=>by
  rcases cb.1 a with rfl;exact h
 |q::d::r,h,p,a=>by
  have h:OI (k q) (Tc k (d::r))=.ok z L:=h;cases b:k q with
  |er c x=>rw[b]at h;cases h
  |ok v l=>
   rw[b]at h;have h:iB (Z' (Tc k (d::r)) v l) (Rn.ok v l) (Rn.er 541 0)=Rn.ok z L:=h;rw[a9]at h;split at h
   .rename_i e;cases h;rcases av.1 a with rfl|a
    .exact b
    .exact RX (Iv e) p a
   .cases h
theorem tY{a:Nat}:∀ {l:ME},Tb a l=true->∀p∈l,p.1<a
 |[],_,p,b=>by cases b
 |q::l,h,p,b=>by
  have h:iB (Nat.ble (Nat.succ q.1) a) (Tb a l) false=true:=h;rw[a9]at h;split at h
  .rename_i c;rcases av.1 b with rfl|b
   .exact af c
   .exact tY h p b
  .cases h
section
variable {P:Program} {z:BV} {l:List HO} {X:Ctx} {B:Option Nat} {F0:Nat->Prop} {ro:Option Nat} {n:Nat} {g:List a7} {all:Array Oper}
theorem Gh{Q:Exit->Act->World->Prop}(hX:X.Ok)(HG:∀ (j:Nat) (d:Tmp),(all[j]?).bind (·.dst)=some d->d<n){o:Oper}{rest:List Oper}{i:Operand}{t:Tmp}(ho:o.op=.next i false)(Kw:o.dst=some t)(hgd:o.guard=none)(l8:S7 n o.dst=true)
  {E:Nat}{A:z7}{nx:Nat}{D:m8}{p:Nat}{k:KS}{v:j7}{F:Nat->Prop}{K:b8}{H:Nat->Option Hd}{a:Act}{w:World}(h:Ez i t k E A nx D p=.ok z l)(he:B4 n g E A nx D p v)(hF:∀b,F0 b->F b)
  (C:St (X.O4 v.gh v.o7) B F n K H v.s6.T v.s6.m a w)(G2:∀r,v.nx<=r->H r=none)
  (hQ:∀E' A' D' N a' w',k E' A' nx D' p=.ok z l->B4 n g E' A' nx D' p N->gD X B F0 F n K w N a' w'->St (X.O4 N.gh N.o7) B F n K H N.s6.T N.s6.m a' w'->wpListIn (Wd ro) 0 P all Q rest a' w'):wpListIn (Wd ro) 0 P all Q (o::rest) a w:=by
 have vH:∀ (j:Nat) (d:Tmp),(all[j]?).bind (·.dst)=some d->d<a.tmps.size:=fun j d h=>cc (HG j d h) C.size
 unfold Ez at h;have n6:=T7 (E:=E) (A:=A) (a:=a) (K:=K) (H:=H) (by rw[<-he.tmps];exact C.tmp) i
 cases hv:J0 E A i with
 |a s q=>rw[hv]at h;cases h
 |t q=>rw[hv]at h;cases h
 |u=>rw[hv]at h;cases h
 |c c=>
  rw[hv]at h n6;simp only[a9]at h;split at h
  rotate_left
  .cases h
  rename_i h1;split at h
  rotate_left
  .cases h
  rename_i h2;have h2:=ab h2;cases h3:m6 nx D (pR c)with
  |c _ _=>rw[h3]at h;cases h
  |m _ _ _ _=>rw[h3]at h;cases h
  |f _ _ _ _=>rw[h3]at h;cases h
  |z=>rw[h3]at h;cases h
  |i mi since seen last=>
   rw[h3]at h;simp only at h;cases h4:m6 nx D mi with
   |c _ _=>rw[h4]at h;cases h
   |i _ _ _ _=>rw[h4]at h;cases h
   |f _ _ _ _=>rw[h4]at h;cases h
   |z=>rw[h4]at h;cases h
   |m ks vs es0 clk=>
    rw[h4]at h;simp only at h;split at h
    rotate_left
    .cases h
    rename_i h5;split at h
    rotate_left
    .cases h
    rename_i h60;split at h
    rotate_left
    .cases h
    rename_i h6;have h60:=af h60;have h6:=af h6;have yE:pR c<nx:=by
     rcases bh (pR c) nx with h'|h'
     .exact h'
     .rw[T5,ai (by omega)]at h3;cases h3
    have hdo:=he.G9;have h3':G9 v.s6.m (pR c)=.i mi since seen last:=by rw[hdo];exact h3
    have h4':G9 v.s6.m mi=.m ks vs es0 clk:=by rw[hdo];exact h4
    obtain⟨hd,b,mb,es,S9,q1,q2,q3,q4,q5,⟨es1,q6,hpm,hkn,hbn,hbl⟩,q7,q8,q9⟩:=RE C.mem (n6.cell (by rw[R9]at h1;omega)) h1 h2 h3' h4'
    have Vb:∀p∈es1,p.1≠Y8:=fun p hp e=>by
     have:=tY h5 p (hpm.mem_iff.2 hp);rw[e]at this;exact absurd (cc this h60) (by decide)
    have hold:∀x∈es.toList,x.born<since:=by
     intro x hx;obtain⟨e1,e2⟩:=(E9 _ _).1 q6;obtain⟨j,hj⟩:=bn.1 hx;have WO:j<es1.length:=by rw[<-e1];exact O8 hj
     rw[(e2 j _ x (ag WO) hj).1.resolve_right (Vb _ (cf _))];exact tY h5 _ (hpm.mem_iff.2 (cf _))
    have I:=Iw (seen:=seen) Vb q6;have PW:∀c,o.op≠ .defer c:=fun c e=>by rw[ho]at e;cases e
    have hgg:z9 all o v.s6.T true:=by unfold z9;rw[hgd]
    have fin:∀ (bv:BV) (y:Value) (w':World) (set:List (Nat×c7)) (D':m8),(execOp a.eval o).run P w=.ok (.value y) w'->eR F K H w v.s6.m v.s6.nx ⟨I1 bv,set,[],[]⟩ y w' K H->G9 ((⟨I1 bv,set,[],[]⟩:XQ).mm v.s6.nx v.s6.m)=m6 nx D'->
      G3 t bv E A (fun E' A'=>k E' A' nx D' p)=.ok z l->wpListIn (Wd ro) 0 P all Q (o::rest) a w:=by
     intro bv y w' set D' J hA hD' XC;simp only[wpListIn];rw[M5 C vH hgg,aj rfl];refine⟨fun f _=>bU ro f,?_⟩
     rw[gu _ _ _ PW,J];show wpListIn (Wd ro) 0 P all Q rest (a.put o.dst y) w';obtain⟨E1,A1,g1,g2⟩:=M6 XC;obtain⟨L,O⟩:=B4.ex n g E1 A1 nx D' p he.lt;have Ah:=C.put (o:=o) l8 (hX.grow v.gh v.o7) hA.le hA.hle hA.kept hA.ok hA.mem hA.rep;have hT:L.s6.T=O7 v.s6.T o.dst (I1 bv):=by
      have a1:L.s6.T=TE E1 A1:=O.tmps;have a2:v.s6.T=TE E A:=he.tmps;rw[a1,a2,Kw];funext t';unfold TE;rw[g2];simp only[O7];split<;>rfl
     have mY:St (X.O4 L.gh L.o7) B F n K H L.s6.T L.s6.m (a.put o.dst y) w':=by
      rw[O.gh,O.o7,<-he.gh,<-he.o7,hT];refine Ah.sub (fun r x hx=>?_)
      rw[O.vJ]at hx;exact mU hD' r x hx
     exact hQ E1 A1 D' L _ w' g1 O ⟨⟨F,K,H,fun _ h=>h,mY,.refl K,fun r hr=>G2 r (by rw[he.nx];rw[O.nx]at hr;exact hr),.refl F0 K⟩,hA.kept.less hF⟩ mY
    rcases ta (P:=P) w o.type b mb since last seen.reverse.toArray es clk q4 q5 hold h6 with⟨hz,J⟩|⟨e,S,w1,hw1,J⟩
    .have hl:x6 seen es0=[]:=by
      have hz:(leftOf es seen.reverse.toArray).toList=[]:=by rw[ed hz]
      have hz:es.toList.filter (fun e=> !seen.reverse.toArray.contains e.born)=[]:=by rw[<-hz];simp[leftOf]
      rw[hz]at I;have Xk:x6 seen es1=[]:=by
       cases hc:x6 seen es1 with
       |nil=>rfl
       |cons q U=>rw[hc]at I;obtain⟨e,Kz,h1,_⟩:=I;cases h1
      have:=Gg (seen:=seen) hpm;rw[Xk]at this;exact List.perm_nil.1 this
     rw[hl]at h;refine fin (.t [(0,9)]) (.tuple #[.bool false]) w [] D ?_ (mK C.ok C.mem ?_) hdo h
     .simp only[execOp,ho,q3];exact c8 J
     .simp only[I1,az,lj,b9];exact⟨_,rfl,.cons (by simp only[b9];exact j6.Ax) .nil⟩
    .have S:e∈es.toList.filter (fun e=> !seen.reverse.toArray.contains e.born):=by simpa [leftOf]using S
     obtain⟨e1,e2⟩:=(E9 _ _).1 I;obtain⟨j,hj⟩:=bn.1 S;have WO:j<(x6 seen es1).length:=by rw[<-e1];exact O8 hj
     have M:=e2 j _ e (ag WO) hj;have V:(x6 seen es1)[j]∈x6 seen es1:=cf _;generalize (x6 seen es1)[j]=G at M V;have hmp:G∈x6 seen es0:=(Gg hpm).mem_iff.2 V;have hpb:e.born=G.1:=M.1.resolve_right (Vb _ (Uq V));have hk:(fN G.1 fun s=>aK nx D (pR c) (.i mi since (s::seen) clk) fun D'=>G3 t (.t [(0,17),(ks,G.2.1),(vs,G.2.2)]) E A fun E' A'=>k E' A' nx D' p)=.ok z l:=by
      cases hc:x6 seen es0 with
      |nil=>rw[hc]at hmp;cases hmp
      |cons q U=>
       rw[hc]at h hmp;exact RX h G hmp
     rw[B6]at hk;obtain⟨D1,g1,g2⟩:=mS (nx:=nx) (d:=D) (i:=pR c) (o:=.i mi since (G.1::seen) clk) (k:=fun D'=>G3 t (.t [(0,17),(ks,G.2.1),(vs,G.2.2)]) E A fun E' A'=>k E' A' nx D' p) (gw yE)
     rw[g1]at hk;have KA:b9 K H (I1 (.t [(0,17),(ks,G.2.1),(vs,G.2.2)])) (.tuple #[.bool true,e.key,e.val]):=by
      simp only[I1,az,lj,b9];exact⟨_,rfl,.cons (by simp only[b9];exact j6.SN) (.cons (by simp only[b9];exact M.2.1) (.cons (by simp only[b9];exact M.2.2.1) .nil))⟩
     have a7i:seen.reverse.toArray.push e.born=(G.1::seen).reverse.toArray:=by rw[hpb];simp
     have aft:∀w1:World,w1.heap=w.heap->L4 F K w1->l5 F K H w1 v.s6.m->eR F K H w1 v.s6.m v.s6.nx ⟨I1 (.t [(0,17),(ks,G.2.1),(vs,G.2.2)]),[(pR c,.z5 (.i mi since (G.1::seen) clk))],[],[]⟩ (.tuple #[.bool true,e.key,e.val]) (w1.putObj b (.mapIter (some mb) since (G.1::seen).reverse.toArray clk)) K H:=by
      intro w1 hw b0I KB;have q4':w1.heap[b]? =some (.mapIter (some mb) since seen.reverse.toArray last):=by rw[hw];exact q4
      exact Bj (c':=.z5 (.i mi since (G.1::seen) clk)) (o':=.mapIter (some mb) since (G.1::seen).reverse.toArray clk) b0I KB (S0 h3' (by simp)) q1 q2 q4' (fun _ _ _ h=>by cases h) rfl ⟨b,mb,S9,q2,by rw[I0 q4',aj rfl],q7,q8,q9⟩ KA
     have RY:G9 ((⟨I1 (.t [(0,17),(ks,G.2.1),(vs,G.2.2)]),[(pR c,.z5 (.i mi since (G.1::seen) clk))],[],[]⟩:XQ).mm v.s6.nx v.s6.m)=m6 nx D1:=by
      show G9 (N9 v.s6.m (pR c) (.z5 (.i mi since (G.1::seen) clk),.own))=_;rw[RO,hdo];funext r;rw[T5,T5];by_cases hr:r<nx
      .rw[aj hr,aj hr,g2 r (gw hr)]
      .rw[ai hr,ai hr,ai (by omega)]
     have Z:(execOp a.eval o).run P w=.ok (.value (.tuple #[.bool true,e.key,e.val])) (w1.putObj b (.mapIter (some mb) since (G.1::seen).reverse.toArray clk)):=by
      simp only[execOp,ho,q3];refine c8 ?_;rw[J,a7i];simp[ChangeMaps.setBlock,World.putObj]
     rcases hw1 with rfl|rfl
     .exact fin _ _ _ _ D1 Z (aft _ rfl C.ok C.mem) RY hk
     .exact fin _ _ _ _ D1 Z ((aft w.drew rfl (C.ok.heap rfl) (C.mem.heap rfl)).drew) RY hk
end
section
variable {P:Program} {R:z0} {z:BV} {l:List HO} {X:Ctx} {B:Option Nat} {F0:Nat->Prop} {ro yl:Option Nat} {n:Nat} {g:List a7} {Y:Option YH} {hh:Option Hand} {all:Array Oper}
theorem Ur{o:Oper}{ops:List Oper}{k:KS}{E:Nat}{A:z7}{nx:Nat}{D:m8}{p:Nat}(h:L6 (o::ops) P R Y all k E A nx D p=.ok z l):
  (z9 all o (TE E A) true/\iZ o P R E A nx D (fun e f d D' _ _ _=>L6 ops P R Y all k e f d D' p)=.ok z l)\/
  (z9 all o (TE E A) true/\∃y c v,Y=some y/\p=0/\o.op=.call c/\c.callee=.value v/\J0 E A v=.c 2/\y (c.args.toList.map (J0 E A)) nx D (fun b x d D'=>lY o.dst (.c (I3 b)) E A fun e f=>L6 ops P R Y all k e f d D' x)=.ok z l)\/
  (z9 all o (TE E A) false/\lY o.dst (.c 1) E A (fun e f=>L6 ops P R Y all k e f nx D p)=.ok z l):=by
 cases Y with
 |none=>
  rcases wQ (A:=A) (show kM all E o (iZ o P R E A nx D fun e f d D' _ _ _=>JH ops P R all k e f d D' p) (lY o.dst (.c 1) E A fun e f=>JH ops P R all k e f nx D p)=_ from h)with⟨i,h⟩|⟨i,h⟩
  .exact .inl ⟨i,h⟩
  .exact .inr (.inr ⟨i,h⟩)
 |some y=>
  rcases wQ (A:=A) (show kM all E o (VV E A o (fun args=>iB (Nat.beq p 0) (y args nx D fun b x d D'=>lY o.dst (.c (I3 b)) E A fun e f=>gW ops P R y all k e f d D' x) (.er 503 0)) (iZ o P R E A nx D fun e f d D' _ _ _=>gW ops P R y all k e f d D' p))
   (lY o.dst (.c 1) E A fun e f=>gW ops P R y all k e f nx D p)=_ from h)with⟨i,h⟩|⟨i,h⟩
  .unfold VV at h;cases r:VU o.op with
   |none=>rw[r]at h;exact .inl ⟨i,h⟩
   |some ga=>
    rw[r]at h;obtain⟨v,args⟩:=ga;have h: @BV.rec (fun _=>Rn) (fun n=>iB (Nat.beq n 2) (iB (Nat.beq p 0) (y (gO (J0 E A) args []) nx D fun b x d D'=>lY o.dst (.c (I3 b)) E A fun e f=>gW ops P R y all k e f d D' x) (.er 503 0)) (iZ o P R E A nx D fun e f d D' _ _ _=>gW ops P R y all k e f d D' p))
     (fun _ _=>iZ o P R E A nx D fun e f d D' _ _ _=>gW ops P R y all k e f d D' p) (fun _=>iZ o P R E A nx D fun e f d D' _ _ _=>gW ops P R y all k e f d D' p) (iZ o P R E A nx D fun e f d D' _ _ _=>gW ops P R y all k e f d D' p) (J0 E A v)=.ok z l:=h
    cases C:J0 E A v with
    |c q=>
     rw[C]at h;simp only[a9]at h;split at h
     .rename_i F;have F:=ab F;split at h
      .rename_i G;have j:∃c,o.op=.call c/\c.callee=.value v/\c.args.toList=args:=by
        unfold VU at r;split at r
        .rename_i c j;split at r
         .rename_i H m;cases r;exact⟨c,j,m,rfl⟩
         .cases r
        .cases r
       obtain⟨c,j,m,w⟩:=j;subst F;refine .inr (.inl ⟨i,y,c,v,rfl,ab G,j,m,C,?_⟩);rw[w];rw[mQ,bf]at h;exact h
      .cases h
     .exact .inl ⟨i,h⟩
    |a s n=>rw[C]at h;exact .inl ⟨i,h⟩
    |t q=>rw[C]at h;exact .inl ⟨i,h⟩
    |u=>rw[C]at h;exact .inl ⟨i,h⟩
  .exact .inr (.inr ⟨i,h⟩)
theorem J1{Q:Exit->Act->World->Prop}(hX:X.Ok)(hR:F7 P R)(hY:YOk P X B F0 ro yl hh)(hYR:XB z l g Y hh)(O:∀ (j:Nat) (d:Tmp),(all[j]?).bind (·.dst)=some d->d<n):
  ∀ (ops:List Oper) (E:Nat) (A:z7) (nx:Nat) (D:m8) (p:Nat) (k:KS) (C:j7) (F:Nat->Prop) (K:b8) (H:Nat->Option Hd) (a:Act) (w:World),L6 ops P R Y all k E A nx D p=.ok z l->w7 n ops=true->B4 n g E A nx D p C->(∀b,F0 b->F b)->(∀q,yl=some q->K.y=some q)->
   St (X.O4 C.gh C.o7) B F n K H C.s6.T C.s6.m a w->(∀r,C.nx<=r->H r=none)->
   (∀E' A' V D' p' I a' w',k E' A' V D' p'=.ok z l->B4 n g E' A' V D' p' I->gD X B F0 F n K w I a' w'->Q .normal a' w')->wpListIn (Wd ro) 0 P all Q ops a w
 |[],E,A,nx,D,p,k,C,F,K,H,a,w,h,hd,G,hF,hy,L,Z,hQ=>by
  have h:k E A nx D p=.ok z l:=by cases Y<;>exact h
  exact hQ E A nx D p C a w h G (bW L Z)
 |o::ops,E,A,nx,D,p,k,C,F,K,H,a,w,h,hd,G,hF,hy,L,Z,hQ=>by
  have vH:∀ (j:Nat) (d:Tmp),(all[j]?).bind (·.dst)=some d->d<a.tmps.size:=fun j d h=>cc (O j d h) L.size
  simp only[w7,ah]at hd;have go:∀ (d:L7) (s1:SS) (U:Nat) (A1:z7) (u:Nat) (D1:m8),U2 Γ0 P all n o C.s6 d s1->s1=⟨TE U A1,u,s1.m⟩->u<1048575->G9 s1.m=m6 u D1->L6 ops P R Y all k U A1 u D1 p=.ok z l->wpListIn (Wd ro) 0 P all Q (o::ops) a w:=by
   intro d s1 U A1 u D1 hs e MZ KB hk;refine Wx (ro:=ro) (hX.grow C.gh C.o7) (MJ P) L hs O (fun i _=>Z _ (by show C.nx<=_;exact Nat.le_add_right _ _)) (fun a' w' hD=>?_)
   obtain⟨⟨K',H',J,hK,hH,K8,Q7⟩,N⟩:=hD;obtain⟨s,t⟩:=B4.ex n g U A1 u D1 p MZ;have hT:s.s6.T=O7 C.s6.T o.dst d.val:=by
    rw[<-hs.T,e];exact t.tmps
   have S:St (X.O4 s.gh s.o7) B F n K' H' s.s6.T s.s6.m a' w':=by
    rw[t.gh,t.o7,<-G.gh,<-G.o7,hT];refine J.sub (fun r x hx=>?_)
    rw[t.vJ]at hx;rw[<-hs.m];exact mU KB r x hx
   refine J1 hX hR hY hYR O ops U A1 u D1 p k s F K' H' a' w' hk hd.2 t hF (fun l e=>hK.y l (hy l e)) S (fun r hr=>?_) (fun E2 A2 qB D2 p2 kC a2 w2 jS fZ kX=>hQ E2 A2 qB D2 p2 kC a2 w2 jS fZ (kX.trans (fun _ h=>h) hK (Q7.less hF) (N.less hF)))
   have e1:u=nx+d.size:=by
    have:=hs.nx;rw[e]at this;rw[show u=C.s6.nx+d.size from this];show C.nx+d.size=_;rw[G.nx]
   rw[t.nx]at hr;cases hH':H' r with
   |none=>rfl
   |some x=>
    have h1:=Z r (by rw[G.nx];omega)
    have h2:=K8 r h1 (by rw[hH'];simp)
    have h3:C.s6.nx=nx:=G.nx;omega
  rcases Ur h with⟨hg,h1⟩|⟨hg,y,c,gg,hYe,rfl,RZ,b0J,hv,h1⟩|⟨hg,h1⟩
  .obtain⟨v,new,set,rd,U,A1,u,D1,hs,MZ,KB,_,_,hk⟩:=Ug (n:=n) hR h1 G.G9 G.lt hd.1 hg;rw[<-G.s6]at hs;exact go _ _ U A1 u D1 hs rfl MZ KB hk
  .have hY0:=hY;obtain⟨Cs,hhe,b0K⟩:=hYR.some hYe;rw[hhe]at hY;obtain⟨hB,lO,q,hl,Xy⟩:=hY;have hKy:=hy q hl;have n6:=fun x=>T7 (E:=E) (A:=A) (a:=a) (by rw[<-G.tmps];exact L.tmp) x
   have hg':=n6 gg;rw[hv]at hg';have e2:a.eval gg=.func (.yield q) #[] #[]:=by
    rcases hg' with⟨h,_⟩|⟨_,l',e1,e2⟩|h
    .cases h
    .rw[hKy]at e1;cases e1;exact e2
    .exact absurd h.lt.1 (by omega)
   have yJ:c6 K H ((c.args.toList.map (J0 E A)).map I1) (c.args.toList.map a.eval):=(dB.map n6 c.args.toList).a0N;have S:=L;rw[hB]at S;have ZJ:=b0K _ _ _ _ C h1 G.gh G.o7 G.nx G.M G.lt;obtain⟨f,tmps,assign,body,gI,Gb⟩:=Xy n _ C _ F K H a w _ ZJ G.n hF hKy S Z yJ;simp only[wpListIn];have hgg:z9 all o C.s6.T true:=by
    have:C.s6.T=TE E A:=G.tmps;rw[this];exact hg
   rw[M5 L vH hgg,aj rfl];refine⟨fun f _=>bU ro f,?_⟩
   have Ae:(execOp a.eval o).run P w=.ok (.round q f tmps assign body) w:=by
    rw[Ga RZ b0J e2,<-gI];congr 2;apply ln;simp
   have PW:∀c,o.op≠ .defer c:=fun c e=>by rw[RZ]at e;cases e
   rw[gu _ _ _ PW,Ae];refine⟨mI ro,?_⟩;rw[lO];refine Gb.mono (fun e w' hee=>?_)
   obtain⟨b,I,rfl,⟨p',V,D',hk,k1,k2,k3,k4,k5,k6,k7⟩,hn',ht⟩:=hee;show wpListIn (Wd none) 0 P all Q ops (a.put o.dst (.bool b)) w';obtain⟨⟨F',K',H',jT,J,hK,wR,Q7⟩,N⟩:=ht;obtain⟨U,A1,g1,g2⟩:=zU hk;obtain⟨s,t⟩:=B4.ex n g U A1 V D' p' k7;have hT:s.s6.T=O7 I.s6.T o.dst (.bool b):=by
    have a1:s.s6.T=TE U A1:=t.tmps;have a2:I.s6.T=TE E A:=by show u9 I.tmps=_;rw[k2,G.tmps]
    rw[a1,a2,<-ML b];exact g2
   have aT:St (X.O4 s.gh s.o7) none F' n K' H' s.s6.T s.s6.m (a.put o.dst (.bool b)) w':=by
    have:s.s6.m=I.s6.m:=by rw[t.vJ];show _=l9 I.M;rw[k4]
    rw[hT,this,t.gh,t.o7,<-k5,<-k6];exact J.put (o:=o) hd.1 (hX.grow _ _) (.refl K') (.refl H') (.refl F' w') J.ok J.mem (by simp[b9])
   rw[<-hB]at aT;rw[<-lO];exact J1 hX hR hY0 hYR O ops U A1 V D' p' k s F' K' H' (a.put o.dst (.bool b)) w' g1 hd.2 t (fun b hb=>jT b (hF b hb)) (fun l e=>hK.y l (hy l e)) aT (fun r hr=>wR r (by rw[k3];rw[t.nx]at hr;exact hr))
    (fun E2 A2 qB D2 p2 kC a2 w2 jS fZ kX=>hQ E2 A2 qB D2 p2 kC a2 w2 jS fZ (kX.trans jT hK Q7 N))
  .obtain⟨U,A1,hs,hk⟩:=step_skip (n:=n) (nx:=nx) (m:=C.s6.m) h1 hd.1 hg;rw[<-G.s6]at hs;exact go _ _ U A1 nx D hs rfl G.lt G.G9 hk
theorem CH{ops:Array Oper}{i:Operand}{t:Tmp}(h:Ey ops=some (i,t)):∃o rest,ops.toList=o::rest/\o.op=.next i false/\o.dst=some t/\o.guard=none:=by
 unfold Ey at h;split at h
 .rename_i o rest e;split at h
  .rename_i d f a b c;cases h;exact⟨o,rest,e,a,b,c⟩
  .cases h
 .cases h
theorem Ix{Q:Exit->Act->World->Prop}(hX:X.Ok)(m4:P.follows .mixedOrders=true)(hR:F7 P R)(hY:YOk P X B F0 ro yl hh)(hYR:XB z l g Y hh)(id:Nat)(ops:Array Oper)(u:Bool)(U:Code.j5 (.region id ops u)=true)(f:w7 n ops.toList=true)
  {Fu:Nat}{I:kF}{E:Nat}{A:z7}{nx:Nat}{D:m8}{p:Nat}{k:KC}{J:j7}{F:Nat->Prop}{K:b8}{H:Nat->Option Hd}{a:Act}{w:World}(h:JJ ops u P Fu R I Y E A nx D p k=.ok z l)(N:B4 n g E A nx D p J)(hF:∀b,F0 b->F b)(hy:∀q,yl=some q->K.y=some q)
  (V:St (X.O4 J.gh J.o7) B F n K H J.s6.T J.s6.m a w)(O:∀r,J.nx<=r->H r=none)(hQ:∀s A' c D' p' e v w',k .normal s A' c D' p'=.ok z l->B4 n g s A' c D' p' e->gD X B F0 F n K w e v w'->Q .normal v w'):
  (Code.region id ops u).wpIn (Wd ro) 0 P Q a w:=by
 have L:∀ (j:Nat) (d:Tmp),(ops[j]?).bind (·.dst)=some d->d<n:=fun j d hj=>N1 f j d (by simpa using hj)
 unfold JJ at h;have pD:St (X.O4 J.gh J.o7) B F n K H (TE E A) J.s6.m a w:=by rw[<-N.tmps];exact V
 have Un:∀r,nx<=r->H r=none:=fun r M=>O r (by rw[N.nx];exact M)
 have Z:∀ (k:KS),R3 ops=true->xT ops P R k E A nx D p=.ok z l->(∀s A' c D' e v w',k s A' c D' p=.ok z l->B4 n g s A' c D' p e->gD X B F0 F n K w e v w'->Q .normal v w')->(Code.region id ops true).wpIn (Wd ro) 0 P Q a w:=by
  intro k U h hQ;obtain⟨S,Ds,s,A',c,D',q0,q1,q2,q3,q4,q5,q6,_,q7⟩:=FW (n:=n) hR h f N.lt N.G9;refine yT (hX.grow J.gh J.o7) m4 (MJ P) q1 U q6 (by rw[q0];exact pD) (fun r M=>Un r (by rw[q0]at M;exact M)) (fun v w' ht=>?_)
  obtain⟨st1,C⟩:=B4.ex n g s A' c D' p q5;refine hQ s A' c D' st1 v w' q7 C ?_;obtain⟨⟨K',H',t1,t2,t3,t4⟩,t5⟩:=ht;refine⟨⟨F,K',H',fun _ h=>h,?_,t2,fun r M=>t3 r (by rw[q3];rw[C.nx]at M;exact M),t4.less hF⟩,t5.less hF⟩
  have e1:st1.s6.T=TE s A':=C.tmps;rw[e1,C.gh,C.o7,<-N.gh,<-N.o7,<-q2];exact t1.sub (fun r x hx=>by rw[C.vJ]at hx;exact mU q4 r x hx)
 cases u with
 |true=>
  rw[a9,aj rfl]at h;have Us:R3 ops=true:=by have:=U;simp[Code.j5]at this;exact this.1
  exact Z _ Us h (fun s A' c D' e v w' hk G ht=>hQ s A' c D' p e v w' hk G ht)
 |false=>
  rw[a9,ai (by simp)]at h
  cases pY:Ey ops with
  |none=>
   rw[pY]at h;exact gz (J1 hX hR hY hYR L ops.toList E A nx D p _ J F K H a w h f N hF hy V O (fun s A' c D' p' e v w' hk G ht=>hQ s A' c D' p' e v w' hk G ht))
  |some it=>
   rw[pY]at h;obtain⟨i,t⟩:=it;obtain⟨o,rest,e1,e2,e3,e4⟩:=CH pY;have h:Ez i t (L6 (List.drop 1 ops.toList) P R Y ops (k .normal)) E A nx D p=.ok z l:=h;rw[e1]at h f;rw[np,ji]at h;simp only[w7,ah]at f;refine gz ?_;rw[e1];refine Gh hX L e2 e3 e4 f.1 h N hF V O (fun s A' D' e v w' hk G ht Ah=>?_)
   exact J1 hX hR hY hYR L rest s A' nx D' p _ e F K H v w' hk f.2 G hF hy Ah (fun r M=>O r (by rw[N.nx];rw[G.nx]at M;exact M)) (fun E2 A2 qB D2 p2 kC a2 w2 jS fZ kX=>hQ E2 A2 qB D2 p2 kC a2 w2 jS fZ (kX.trans (fun _ h=>h) (.refl K) (.refl F0 K) ht.kept))
end
end Go.Abs
end
section
namespace Go.Abs
theorem tZ:∀ (l:List Nat) (t:Nat),t∈dedup l↔t∈l
 |[],t=>by simp[dedup]
 |a::l,t=>by
  rw[dedup];split
  .rename_i h;rw[tZ l,av];have h:a∈l:=(tZ l a).1 (by simpa using h)
   exact⟨.inr,fun hh=>hh.elim (fun e=>e▸h) id⟩
  .rw[av,av,tZ l]
theorem Ng(f:Nat->a7):∀ (L:List Nat) (t:Nat),u9 (kE L (L.map f)) t=if t∈L then f t else .S6
 |[],t=>by simp[kE,u9]
 |a::L,t=>by
  simp only[az,kE,u9];rw[Ng f L t];by_cases h:a=t
  .subst h;simp
  .rw[ai h];have:t∈a::L↔t∈L:=by rw[av];exact⟨fun hh=>hh.resolve_left (fun e=>h e.symm),.inr⟩
   simp only[this]
theorem Nh:∀ (a:List (Nat×a7)) (t:Nat),t ∉ a.map (·.1)->u9 a t=.S6
 |[],t,_=>rfl
 |p::a,t,h=>by
  simp only[az,av,ke]at h;simp only[u9];rw[ai (fun e=>h.1 e.symm)]
  exact Nh a t h.2
theorem Bz{tm:List (Nat×a7)}{L:List Nat}(h:∀t,t∈L↔t∈tm.map (·.1)):u9 (kE L (L.map (u9 tm)))=u9 tm:=by
 funext t;rw[Ng];split
 .rfl
 .rename_i hh;exact(Nh tm t (fun e=>hh ((h t).2 e))).symm
theorem Gi{α β:Type}(f:α->β)(L:List α)(g:List β):(L.map f++g).take L.length=L.map f:=by rw[cn (by simp),bj (by simp)]
theorem Ni{α β:Type}(f:α->β)(L:List α)(g:List β):(L.map f++g).drop L.length=g:=by
 have:(L.map f).length=L.length:=by simp
 rw[<-this,iq]
theorem Nj{v:BV}(h:a3y v=true):(I1 v).AL=true:=by
 cases v with
 |c n=>
  have h:iB (Nat.beq n 2) false true=true:=h;rw[a9]at h;split at h
  .cases h
  .rename_i b;have b:n≠2:=fun e=>b (by rw[e];rfl)
   simp only[I1];split
   .rfl
   .split<;>first|rfl|(split<;>rfl)
 |a s n=>rfl
 |t l=>
  clear h;simp only[I1,a7.AL]
  induction l with
  |nil=>rfl
  |cons a l d=>simp only[az,gH,a7.AL,km];exact d
 |u=>rfl
section
variable {P:Program} {R:z0} {z:BV} {l:List HO} {n:Nat}
theorem Nk:∀ (ps:List Nat) (args:List BV) (E:Nat) (A:z7) (k:Nat->z7->Rn),Ly ps args E A k=.ok z l->
  ∃a b,k a b=.ok z l/\args.length=ps.length/\gH (args.map I1)=true/\∀c,u9 c=TE E A->u9 (setArgs ps (args.map I1) c)=TE a b
 |[],[],E,A,k,h=>⟨E,A,h,rfl,rfl,fun c h=>h⟩
 |[],_::_,E,A,k,h=>by cases h
 |p::ps,[],E,A,k,h=>by cases h
 |p::ps,v::vs,E,A,k,h=>by
  have h:iB (a3y v) (G3 p v E A fun a b=>Ly ps vs a b k) (.er 524 0)=.ok z l:=h
  rw[a9]at h;split at h
  .rename_i d;obtain⟨f,g,i,j⟩:=M6 h;obtain⟨a,b,m,g2,o,q⟩:=Nk ps vs f g k i;refine⟨a,b,m,by simp[g2],by simp[gH,o,Nj d],fun c r=>?_⟩
   simp only[az,setArgs];refine q _ ?_;funext t;simp only[u9];unfold TE;rw[j];by_cases e:p=t
   .subst e;simp
   .rw[ai e,ai (fun h=>e h.symm),r];rfl
  .cases h
theorem wS:∀ (args:List BV) (i E:Nat) (A:z7) (k:Nat->z7->Rn),kN args i E A k=.ok z l->∃a b,k a b=.ok z l/\∀t,o8 a b t=if i<=t/\t<i+args.length then args.getD (t- i) .u else o8 E A t
 |[],i,E,A,k,h=>⟨E,A,h,fun t=>by rw[ai (by simp only[eh];omega)]⟩
 |v::vs,i,E,A,k,h=>by
  obtain⟨d,f,g,j⟩:=M6 (show G3 i v E A (fun a b=>kN vs (Nat.succ i) a b k)=_ from h)
  obtain⟨a,b,m,g2⟩:=wS vs (i+1) d f k g;refine⟨a,b,m,fun t=>?_⟩
  rw[g2,j];by_cases e:t=i
  .subst e;rw[ai (by omega),aj rfl,aj (by simp)]
   simp
  .by_cases c:i+1<=t/\t<i+1+vs.length
   .rw[aj c,aj (by simp;omega),show t- i=(t- (i+1))+1 by omega]
    simp
   .rw[ai c,ai e,ai (by simp;omega)]
theorem PX{K:b8}{F:Nat->Prop}{H:Nat->Option Hd}{w:World}{m:Mm}{nx:Nat}{D:m8}(N:l5 F K H w m)(O:G9 m=m6 nx D){q:Nat}{g:Value}(S:u6 K H (.c q) g){e:Nat->Rn}(t:∀n,e n≠ .ok z l){k:FuncId->List BV->Rn}(h:Du (m6 nx D) q e k=.ok z l):
  ∃f s x,g=.func (.func f) #[] s/\k f x=.ok z l/\dB K H x s.toList/\gH (x.map I1)=true:=by
 rw[<-O]at h;unfold Du at h;rw[a9]at h;split at h
 .rename_i A;have A:q % 8=7:=ab A;rcases(S.cell (by omega)).a0k A with⟨B,C⟩|⟨r,hd,T,s,B,U,q2,q3,q4,q5,q6,q7,C⟩
  .rw[B]at h;exact⟨fF q,#[],[],C,h,⟨rfl,fun i c z V=>by simp at V⟩,rfl⟩
  .rw[B]at h;have h:=(show(@HO.rec (fun _=>Rn) (fun _ _=>e 190) (fun _ _ _ _=>e 191) (fun E _ k2 u=>iB (Nat.beq E 0) (k (fF q) (aJ k2 u [])) (e 195)) (fun _ _ _ _=>e 192) (e 193) (G9 m r))=_ from h)
   cases o:G9 m r with
   |f E n1 k2 u=>
    rw[o]at h;have h:iB (Nat.beq E 0) (k (fF q) (aJ k2 u [])) (e 195)=.ok z l:=h;rw[a9]at h;split at h
    .rename_i v;have v:=ab v;obtain⟨g1,g2,g3,g4,X⟩:=N.cont r _ .own hd (S0 o (by simp)) (by simp) U
     rw[g2]at q3;have G:T= #[]:=ed (by omega)
     subst G;have p:∀ (i:Nat) (y:Value),s[i]? =some y->j6 H (P3 u i) y:=by rw[<-X];exact q7
     have I:s.size=k2:=by simp only[Array.size_empty]at q3;omega
     refine⟨fF q,s,_,C,h,?_,?_⟩
     .rw[jR,bf];exact FN I p
     .rw[jR,bf];have:∀ (L:List Nat),(∀i∈L,i<k2)->gH ((L.map fun i=>BV.c (P3 u i)).map I1)=true:=by
       intro L
       induction L with
       |nil=>intro _;rfl
       |cons i L Y=>
        intro J;simp only[az,gH,ah];refine⟨Nj ?_,Y (fun j Z=>J j (al _ Z))⟩
        have M:=J i ar;have:=(p i s[i] (ba (by omega))).lt.1
        show iB (Nat.beq (P3 u i) 2) false true=true;rw[a9,ai];intro e;have:=ab e;omega
      exact this _ (fun i M=>ld.1 M)
    .exact absurd h (t _)
   |c a b=>rw[o]at h;exact absurd h (t _)
   |m a b c d=>rw[o]at h;exact absurd h (t _)
   |i a b c d=>rw[o]at h;exact absurd h (t _)
   |z=>rw[o]at h;exact absurd h (t _)
 .exact absurd h (t _)
def mZ(I:kF)(z:BV)(l:List HO):Iter:=fun h d args s0 k=>∃ (y:YH) (c:List BV) (nx:Nat) (D:m8) (kk:Nat->m8->Nat->Rn),args=c.map I1/\I y d c nx D kk=.ok z l/\s0.nx=nx/\s0.M=p8 nx D/\nx<1048575/\a01 z l ((s0.tmps.map (·.1)).map (u9 s0.tmps)++s0.gh) y h/\
 ∀a D' j b,kk a D' j=.ok z l->b.nx=a->b.M=p8 a D'->b.gh=(s0.tmps.map (·.1)).map (u9 s0.tmps)++s0.gh->b.o7=gQ j->a<1048575->k b
def JC(z:BV)(l:List HO)(n:Nat)(P:Program)(Fu:Nat)(R:z0)(I:kF)(c:Code):j7->(E8->j7->Prop)->Prop:=fun d k=>∃E A nx D p f,B4 n d.gh E A nx D p d/\xV c P Fu R I none E A nx D p f=.ok z l/\
 ∀e g h a D' i b,f e g h a D' i=.ok z l->B4 n d.gh g h a D' i b->k e b
theorem O9{e:E8}{a c:Rn}{b:Nat->Rn}(h:pM e a b c=.ok z l):(e=.normal/\a=.ok z l)\/(∃i,e=.exit i/\b i=.ok z l)\/(e=.ret/\c=.ok z l):=by
 cases e with
 |normal=>exact .inl ⟨rfl,h⟩
 |exit i=>exact .inr (.inl ⟨i,rfl,h⟩)
 |ret=>exact .inr (.inr ⟨rfl,h⟩)
theorem XD{Fu:Nat}{I:kF}{E:Nat}{A:z7}{s0:j7}{ps:List Nat}{G H:Code}(J:s0.n=n)(L:u9 s0.tmps=TE E A)(r:HU n ps=true):
  a01 z l ((s0.tmps.map (·.1)).map (u9 s0.tmps)++s0.gh) (fun args nx D kk=>Ly ps args E A fun s u=>xV G P Fu R I none s u nx D 0 fun e v w g x y=>pM e (xV H P Fu R I none v w g x y fun K _ _ c D2 _=>pM K (kk true 0 c D2) (fun i=>fN (Nat.succ (Nat.succ i)) fun j=>kk false j c D2) (kk false 1 c D2)) (fun _=>.er 517 0) (.er 518 0))
   (Ek s0.n (s0.tmps.map (·.1)) ps (JC z l n P Fu R I G) (JC z l n P Fu R I H)):=by
 intro args nx D kk b h q N O hM B;obtain⟨s,u,S,T,U,V⟩:=Nk _ _ _ _ _ h;unfold Ek;rw[aj ⟨N,by simpa using T,by rw[J];exact r,U,by rw[hM];exact oY _ _⟩]
 refine⟨s,u,nx,D,0,_,⟨hM,B,rfl,?_,rfl,O,J⟩,S,?_⟩
 .refine V _ ?_;rw[q,Gi,Bz (fun _=>se),L]
 .intro e v w g x y Y X k;rcases O9 X with⟨rfl,f⟩|⟨i,rfl,f⟩|⟨rfl,f⟩
  .refine⟨v,w,g,x,y,_,by rw[k.gh];exact k,f,?_⟩
   intro K Z A2 c D2 p2 C F a;rw[aj (by rw[a.M];exact oY _ _)]
   have p:C.gh=(dedup (b.tmps.map (·.1))).map (u9 b.tmps)++b.gh:=by rw[a.gh,k.gh]
   have m:u9 (kE (dedup (b.tmps.map (·.1))) (C.gh.take (dedup (b.tmps.map (·.1))).length))=u9 b.tmps:=by
    rw[p,Gi,Bz (fun t=>tZ _ t)]
   have o:C.gh.drop (dedup (b.tmps.map (·.1))).length=b.gh:=by rw[p,Ni]
   rcases O9 F with⟨rfl,d⟩|⟨i,rfl,d⟩|⟨rfl,d⟩
   .exact⟨0,c,D2,d,rfl,m,a.nx,a.M,o.trans q,rfl,a.lt⟩
   .exact⟨i+2,c,D2,(by rw[B6]at d;exact d),rfl,m,a.nx,a.M,o.trans q,rfl,a.lt⟩
   .exact⟨1,c,D2,d,rfl,m,a.nx,a.M,o.trans q,rfl,a.lt⟩
  .cases f
  .cases f
theorem eV(m4:P.follows .mixedOrders=true)(hR:F7 P R){Fu:Nat}{I:kF}(nK:N3 P (mZ I z l)):∀ (c:Code),Code.j5 c=true->o9 n c=true->∀ (X:Ctx) (B:Option Nat) (F0:Nat->Prop) (ro yl:Option Nat) (g:List a7) (Y:Option YH) (hh:Option Hand),X.Ok->eT X ro->YOk P X B F0 ro yl hh->XB z l g Y hh->
  ((B=none->ro≠none)\/∀y f args nx D k,I y f args nx D k≠ .ok z l)->∀ (E:Nat) (A:z7) (nx:Nat) (D:m8) (p:Nat) (kc:KC) (S:j7) (F:Nat->Prop) (K:b8) (H:Nat->Option Hd) (a:Act) (w:World) (Q:Exit->Act->World->Prop),xV c P Fu R I Y E A nx D p kc=.ok z l->B4 n g E A nx D p S->(∀b,F0 b->F b)->(∀q,yl=some q->K.y=some q)->
  St (X.O4 S.gh S.o7) B F n K H S.s6.T S.s6.m a w->(∀r,S.nx<=r->H r=none)->(∀e E' A' C D' p' o a' w',kc e E' A' C D' p'=.ok z l->B4 n g E' A' C D' p' o->gD X B F0 F n K w o a' w'->Q e.out a' w')->c.wpIn (Wd ro) 0 P Q a w:=by
 intro c
 induction c with
 |skip=>
  intro J G X B F0 ro yl g Y hh hX O hY Z hB E A nx D p kc S F K H a w Q h V hF hy d v hQ;exact qv (hQ .normal E A nx D p S a w h V (bW d v))
 |region id ops draw=>
  intro J G X B F0 ro yl g Y hh hX O hY Z hB E A nx D p kc S F K H a w Q h V hF hy d v hQ;exact Ix (Fu:=Fu) (I:=I) hX m4 hR hY Z id ops draw J G h V hF hy d v (fun E' A' C D' p' o a' w' hk L ht=>hQ .normal E' A' C D' p' o a' w' hk L ht)
 |seq x y Bx By=>
  intro J G X B F0 ro yl g Y hh hX O hY Z hB E A nx D p kc S F K H a w Q h V hF hy d v hQ;simp only[Code.j5,ah]at J;simp only[o9,ah]at G;refine jo (Bx J.1 G.1 X B F0 ro yl g Y hh hX O hY Z hB E A nx D p _ S F K H a w _ h V hF hy d v ?_);intro e E' A' C D' p' o a' w' hk L ht;rcases O9 hk with⟨rfl,U⟩|⟨i,rfl,U⟩|⟨rfl,U⟩
  .obtain⟨⟨F',K',H',jT,Ah,hK,wR,Q7⟩,R8⟩:=ht;exact By J.2 G.2 X B F0 ro yl g Y hh hX O hY Z hB E' A' C D' p' kc o F' K' H' a' w' Q U L (fun b hb=>jT b (hF b hb)) (fun l e=>hK.y l (hy l e)) Ah wR (fun e E2 A2 qB D2 p2 kC a2 w2 jS fZ kX=>hQ e E2 A2 qB D2 p2 kC a2 w2 jS fZ (kX.trans jT hK Q7 R8))
  .exact hQ _ _ _ _ _ _ o a' w' U L ht
  .exact hQ _ _ _ _ _ _ o a' w' U L ht
 |cond c x y Bx By=>
  intro J G X B F0 ro yl g Y hh hX O hY Z hB E A nx D p kc S F K H a w Q h V hF hy d v hQ;simp only[Code.j5,ah]at J;simp only[o9,ah]at G;have hc:=T7 (E:=E) (A:=A) (a:=a) (K:=K) (H:=H) (by rw[<-V.tmps];exact d.tmp) c
  have h: @BV.rec (fun _=>Rn) (fun n=>iB (Nat.beq n 17) (xV x P Fu R I Y E A nx D p kc) (iB (Nat.beq n 9) (xV y P Fu R I Y E A nx D p kc) (.er 513 0))) (fun _ _=>.er 514 0) (fun _=>.er 515 0) (.er 516 0) (J0 E A c)=.ok z l:=h
  cases hv:J0 E A c with
  |c q=>
   rw[hv]at h hc;simp only[a9]at h;split at h
   .rename_i e;have e:=ab e;subst e;exact ka ((hc.cell (by decide)).isBool.1 rfl) (Bx J.1 G.1 X B F0 ro yl g Y hh hX O hY Z hB E A nx D p kc S F K H a w Q h V hF hy d v hQ)
   .split at h
    .rename_i e;have e:=ab e;subst e;exact kf ((hc.cell (by decide)).isBool.2 rfl) (By J.2 G.2 X B F0 ro yl g Y hh hX O hY Z hB E A nx D p kc S F K H a w Q h V hF hy d v hQ)
    .cases h
  |a s n=>rw[hv]at h;cases h
  |t q=>rw[hv]at h;cases h
  |u=>rw[hv]at h;cases h
 |block id c ih=>
  intro J G X B F0 ro yl g Y hh hX O hY Z hB E A nx D p kc S F K H a w Q h V hF hy d v hQ;refine pj (ih J G X B F0 ro yl g Y hh hX O hY Z hB E A nx D p _ S F K H a w _ h V hF hy d v ?_);intro e E' A' C D' p' o a' w' hk L ht;rcases O9 hk with⟨rfl,U⟩|⟨i,rfl,U⟩|⟨rfl,U⟩
  .exact hQ .normal _ _ _ _ _ o a' w' U L ht
  .simp only[E8.out,Exit.inBlock];rw[a9]at U;by_cases hi:i=id
   .rw[aj hi];rw[aj (by rw[hi];exact fo id)]at U
    exact hQ .normal _ _ _ _ _ o a' w' U L ht
   .rw[ai hi];rw[ai (fun e=>hi (ab e))]at U
    exact hQ (.exit i) _ _ _ _ _ o a' w' U L ht
  .exact hQ .ret _ _ _ _ _ o a' w' U L ht
 |loop c ih=>
  intro J G X B F0 ro yl g Y hh hX O hY Z hB E A nx D p kc S F K H a w Q h V hF hy d v hQ;have h:fL (xV c P Fu R I Y) kc Fu E A nx D p=.ok z l:=h;refine jx Fu ?_;have go:∀ (N:Nat) (E:Nat) (A:z7) (nx:Nat) (D:m8) (p:Nat) (S:j7) (F:Nat->Prop) (K:b8) (H:Nat->Option Hd) (a:Act) (w:World),fL (xV c P Fu R I Y) kc N E A nx D p=.ok z l->B4 n g E A nx D p S->(∀b,F0 b->F b)->(∀q,yl=some q->K.y=some q)->
    St (X.O4 S.gh S.o7) B F n K H S.s6.T S.s6.m a w->(∀r,S.nx<=r->H r=none)->(∀e E' A' C D' p' o a' w',kc e E' A' C D' p'=.ok z l->B4 n g E' A' C D' p' o->gD X B F0 F n K w o a' w'->Q e.out a' w')->Code.roundsIn (Wd ro) 0 P c Q N a w:=by
   intro N
   induction N with
   |zero=>intro E A nx D p S F K H a w h;cases h
   |succ N ihN=>
    intro E A nx D p S F K H a w h V hF hy d v hQ;rw[mg];refine ih J G X B F0 ro yl g Y hh hX O hY Z hB E A nx D p _ S F K H a w _ h V hF hy d v ?_;intro e E' A' C D' p' o a' w' hk L ht;rcases O9 hk with⟨rfl,U⟩|⟨i,rfl,U⟩|⟨rfl,U⟩
    .obtain⟨⟨F1,K1,H1,jT,mY,hK,uM,Q7⟩,R8⟩:=ht;exact ihN E' A' C D' p' o F1 K1 H1 a' w' U L (fun b hb=>jT b (hF b hb)) (fun l e=>hK.y l (hy l e)) mY uM (fun e E2 A2 qB D2 p2 kC a2 w2 jS fZ kX=>hQ e E2 A2 qB D2 p2 kC a2 w2 jS fZ (kX.trans jT hK Q7 R8))
    .exact hQ _ _ _ _ _ _ o a' w' U L ht
    .exact hQ _ _ _ _ _ _ o a' w' U L ht
  exact go Fu E A nx D p S F K H a w h V hF hy d v hQ
 |exit id=>
  intro J G X B F0 ro yl g Y hh hX O hY Z hB E A nx D p kc S F K H a w Q h V hF hy d v hQ;exact wpIn_exit (hQ (.exit id) E A nx D p S a w h V (bW d v))
 |ret=>
  intro J G X B F0 ro yl g Y hh hX O hY Z hB E A nx D p kc S F K H a w Q h V hF hy d v hQ;exact wpIn_ret (hQ .ret E A nx D p S a w h V (bW d v))
 |scope c ih=>
  intro J G X B F0 ro yl g Y hh hX O hY Z hB E A nx D p kc S F K H a w Q h V hF hy d v hQ;refine O3 (ih J G X B F0 ro yl g Y hh hX O hY Z hB E A nx D p kc S F K H a w _ h V hF hy d v ?_);intro e E' A' C D' p' o a' w' hk L ht;have:=hQ e E' A' C D' p' o a' w' hk L ht;cases e<;>exact this
 |label l=>
  intro J G X B F0 ro yl g Y hh hX O hY Z hB E A nx D p kc S F K H a w Q h V hF hy d v hQ;exact wpIn_label (hQ .normal E A nx D p S a w h V (bW d v))
 |rangeFunc g0 ps assign body iha ihb=>
  intro J G X B F0 ro yl g Y hh hX O hY Z hB E A nx D p kc S F K H a w Q h V hF hy d v hQ;simp only[Code.j5,ah]at J;simp only[o9,ah]at G;have hc:=T7 (E:=E) (A:=A) (a:=a) (K:=K) (H:=H) (by rw[<-V.tmps];exact d.tmp) g0
  have h: @BV.rec (fun _=>Rn) (fun cg=>Du (m6 nx D) cg (fun n=>.er n 0) fun f cap=>fN f fun f=>
   I (fun args nx D kk=>Ly ps.toList args E A fun E' A'=>xV assign P Fu R I none E' A' nx D 0 fun e E1 A1 nx1 D1 p1=>pM e (xV body P Fu R I none E1 A1 nx1 D1 p1 fun e2 _ _ qB D2 _=>pM e2 (kk true 0 qB D2) (fun i=>fN (Nat.succ (Nat.succ i)) fun j=>kk false j qB D2) (kk false 1 qB D2)) (fun _=>.er 517 0) (.er 518 0))
    f (.c 2::cap) nx D (fun C D' j=>@Nat.rec (fun _=>Rn) (kc .normal E A C D' p) (fun j _=>@Nat.rec (fun _=>Rn) (kc .ret E A C D' p) (fun i _=>kc (.exit i) E A C D' p) j) j)) (fun _ _=>.er 519 0) (fun _=>.er 520 0) (.er 521 0) (J0 E A g0)=.ok z l:=h
  cases hv:J0 E A g0 with
  |c cg=>
   rw[hv]at h hc;obtain⟨f,ca,bs,e1,h1,h2,h3⟩:=PX d.mem V.G9 hc (fun n e=>by cases e) h
   rw[B6]at h1;rcases hB with hB|hB
   .refine Ge nK hX O hB (ps:=ps) (Ja:=JC z l n P Fu R I assign) (Jb:=JC z l n P Fu R I body) ?_ ?_ (s0:=S) (k:=fun e o=>∃C D',kc e E A C D' p=.ok z l/\B4 n g E A C D' p o) V.n hF d v e1 h2.a0N ⟨h3,by rw[V.M];exact oY _ _⟩ ?_ (fun e o a' w' hk _ ht=>by obtain⟨C,D',hk,L⟩:=hk;exact hQ e E A C D' p o a' w' hk L ht)
    .intro X F0 l hX O S k F K H a w Q hj hn hF hy d v hQ;obtain⟨E,A,nx,D,p,kc,V,hc,hk⟩:=hj;exact iha J.1 G.1.2 X none F0 (some l) none S.gh none none hX O trivial trivial (.inl (fun _=>by simp)) E A nx D p kc S F K H a w Q hc V hF hy d v (fun e E' A' C D' p' o a' w' Pk L ht=>hQ e o a' w' (hk _ _ _ _ _ _ _ Pk L) L.n ht)
    .intro X F0 l hX O S k F K H a w Q hj hn hF hy d v hQ;obtain⟨E,A,nx,D,p,kc,V,hc,hk⟩:=hj;exact ihb J.2 G.2 X none F0 (some l) none S.gh none none hX O trivial trivial (.inl (fun _=>by simp)) E A nx D p kc S F K H a w Q hc V hF hy d v (fun e E' A' C D' p' o a' w' Pk L ht=>hQ e o a' w' (hk _ _ _ _ _ _ _ Pk L) L.n ht)
    .refine⟨_,_,nx,D,_,rfl,h1,V.nx,V.M,V.lt,XD V.n V.tmps G.1.1,?_⟩;intro C D' j s1 hk hx1 hM1 hg1 hp1 Xk;rw[aj (by rw[hM1];exact oY _ _)]
     refine⟨C,D',?_,hM1,Xk,V.o7,?_,?_,hx1,V.n⟩
     .rw[hp1]
      match j,hk with
      |0,hk=>exact hk
      |1,hk=>exact hk
      |i+2,hk=>exact hk
     .show u9 (kE _ (s1.gh.take _))=_;rw[hg1,Gi,Bz (fun _=>se),V.tmps]
     .show s1.gh.drop _=g;rw[hg1,Ni,V.gh]
   .exact absurd h1 (hB _ _ _ _ _ _)
  |a s n=>rw[hv]at h;cases h
  |t q=>rw[hv]at h;cases h
  |u=>rw[hv]at h;cases h
 |_=>intro J G X B F0 ro yl g Y hh hX O hY Z hB E A nx D p kc S F K H a w Q h;cases h
def Sa(P:Program)(Fu:Nat)(R:z0)(I:kF)(z:BV)(l:List HO)(n:Nat)(ev:pX)(c:Code):Prop:=∀ (X:Ctx) (B:Option Nat) (F0:Nat->Prop) (ro:Option Nat) (g:List a7),X.Ok->eT X ro->(B=none->ro≠none)->∀ (E:Nat) (A:z7) (nx:Nat) (D:m8) (p:Nat) (i:KC) (d:j7) (F:Nat->Prop) (K:b8) (H:Nat->Option Hd) (a:Act) (w:World) (Q:Exit->Act->World->Prop),
 ev P Fu R I none E A nx D p i=.ok z l->B4 n g E A nx D p d->(∀b,F0 b->F b)->St (X.O4 d.gh d.o7) B F n K H d.s6.T d.s6.m a w->(∀r,d.nx<=r->H r=none)->(∀e j k f D' o h q w',i e j k f D' o=.ok z l->B4 n g j k f D' o h->gD X B F0 F n K w h q w'->Q e.out q w')->c.wpIn (Wd ro) 0 P Q a w
theorem S5(m4:P.follows .mixedOrders=true)(k:F7 P R){Fu:Nat}{I:kF}(b:N3 P (mZ I z l)){c:Code}(d:Code.j5 c=true)(hd:o9 n c=true):Sa P Fu R I z l n (xV c) c:=
 fun X B F0 ro g m f o E A nx D p q r F K H a w Q h s t i j u=>eV m4 k b c d hd X B F0 ro none g none none m f trivial trivial (.inl o) E A nx D p q r F K H a w Q h s t (fun _ e=>by cases e) i j u
end
end Go.Abs
end
section
namespace Go.Abs
theorem XE{a b c d:Nat}{o':HO}(h:eqF (.f a b c d) o'=true):o'=.f a b c d:=by
 cases o' with
 |f e g c' i=>
  have h:iB (Nat.beq a e) (iB (Nat.beq b g) (iB (Nat.beq c c') (Nat.beq d i) false) false) false=true:=h;simp only[a9]at h;split at h
  .split at h
   .split at h
    .rename_i j k l;rw[ab j,ab k,ab l,ab h]
    .cases h
   .cases h
  .cases h
 |_=>exact Bool.noConfusion (show false=true from h)
section
variable {P:Program} {F:Nat->Prop} {K:b8} {H:Nat->Option Hd} {w:World} {m:Mm} {v:BV} {new:List HO} {set:List (Nat×HO)} {rd:List Nat}
theorem XF(hm:l5 F K H w m){t:TypeId}{b:BV}{x:Value}(j:u6 K H b x)(h:uV P t b (G9 m)=.ok v new set rd):∃z,(do loadVar t (<-asAddr x):Sem Value).run P w=.ok z w/\u6 K H v z:=by
 obtain⟨c,e,h⟩:=x8 h;obtain⟨i,h⟩:=a8 h;cases ht:vU P t with
 |zero=>rw[ht]at h;exact l6.noConfusion (show l6.er 74 0=_ from h)
 |succ d=>
  rw[ht]at h;obtain⟨s,n,f,h⟩:=jN (show hC (G9 m (pR c)) (fun s n=>nB (Nat.ble (Nat.add (pO c) (bA (Nat.succ d))) s) 75 (.ok (uK d (Df n (pO c) (bA (Nat.succ d)))) [] [] [pR c]))=_ from h)
  obtain⟨g,h⟩:=a8 h;cases h;have g:pO c+bA (d+1)<=s:=af g;have k:j6 H c x:=(e▸j).cell (by rw[R9]at i;omega)
  obtain⟨hd,b,l,g2,o,D,G,I⟩:=k.gP i;obtain⟨cs,J,p,L,q3,q4,_⟩:=eA hm f l g2;obtain⟨a,q,r⟩:=yZ (P:=P) (K:=K) (H:=H) (n:=n/cB) ht g;have u:c6 K H ((U4 s (n/cB)).drop (pO c)) (s7 cs (pO c+hd.len) ((U4 s (n/cB)).drop (pO c)).length):=by
   have:=c6.drop (pO c) (oR (K:=K) q4);have y:s7 cs (pO c+hd.len) ((U4 s (n/cB)).drop (pO c)).length=((cs.toList.drop hd.len).take s).drop (pO c):=by
    rw[cv,Q9,ky,dm,ez hd.len];rfl
   rw[y];exact this
  obtain⟨z,B,C⟩:=oA (P:=P) p u q;refine⟨z,?_,by rw[JY];exact r z C⟩
  rw[o];simpa [asAddr]using B
variable {E:Nat} {A:z7} {a:Act} (hm:l5 F K H w m) (ht:∀t,b9 K H (TE E A t) (a.tmps.getD t undef))
include hm ht
theorem Sb{r:ResultVar}(h:VW P r E A (G9 m)=.ok v new set rd):∃x,(match r with
   |.tmp t=>(pure (a.tmps.getD t undef):Sem Value)
   |.cell c t=>do loadVar t (<-asAddr (a.tmps.getD c undef))).run P w=.ok x w/\u6 K H v x:=by
 cases r with
 |tmp t=>
  have h:xI (o8 E A t)=.ok v new set rd:=h;cases h;exact⟨_,rfl,aR (ht t)⟩
 |cell c t=>
  have h:uV P t (o8 E A c) (G9 m)=.ok v new set rd:=h;exact XF hm (aR (ht c)) h
omit hm ht in
theorem XG{r:l6}{k:BV->Rn}{z:BV}{l:List HO}(h:rOf r k=.ok z l):∃v new set rd,r=.ok v new set rd/\k v=.ok z l:=by
 cases r with
 |er c x=>cases h
 |ok v new set rd=>exact⟨v,new,set,rd,rfl,h⟩
omit hm ht in
theorem XH{b:BV}{x:Value}(f:u6 K H b x){k:Nat×Nat->Rn}{e:Rn}{z:BV}{l:List HO}(d:e≠ .ok z l)(h:VX b k e=.ok z l):∃p,k p=.ok z l/\y9 H p.1 p.2 x:=by
 cases b with
 |c n=>
  have h:iB (Nat.ble 3 n) (k (0,n)) e=.ok z l:=h;rw[a9]at h;split at h
  .rename_i g;exact⟨(0,n),h,f.cell (by have:=af g;omega)⟩
  .exact absurd h d
 |a s n=>exact⟨(s+1,n),h,f⟩
 |t l=>exact absurd h d
 |u=>exact absurd h d
theorem Sc:∀ (b:List ResultVar) {k:List (Nat×Nat)->Rn} {z:BV} {l:List HO},a0a P E A (G9 m) b k=.ok z l->
  ∃ps xs,k ps=.ok z l/\(b.mapM fun(r:ResultVar)=>(match r with
   |.tmp t=>(pure (a.tmps.getD t undef):Sem Value)
   |.cell c t=>do loadVar t (<-asAddr (a.tmps.getD c undef)))).run P w=.ok xs w/\xs.length=b.length/\ps.length=b.length/\∀ (i:Nat) (p:Nat×Nat) (x:Value),ps[i]? =some p->xs[i]? =some x->y9 H p.1 p.2 x
 |[],k,z,l,h=>⟨[],[],h,rfl,rfl,rfl,fun i p x d=>by simp at d⟩
 |r::b,k,z,l,h=>by
  obtain⟨v,new,set,rd,f,g⟩:=XG (show rOf (VW P r E A (G9 m)) (fun v=>VX v (fun p=>a0a P E A (G9 m) b fun l=>k (p::l)) (.er 530 0))=_ from h)
  obtain⟨x,a1,j⟩:=Sb hm ht f;obtain⟨p,n,o⟩:=XH j (by simp) g
  obtain⟨ps,xs,q,g2,s,u,y⟩:=Sc b n;refine⟨p::ps,x::xs,q,?_,by simp[s],by simp[u],fun i B C d e=>?_⟩
  .rw[qc,au,a1];simp only[ak,au,g2,bg]
  .cases i with
   |zero=>simp at d e;subst d;subst e;exact o
   |succ i=>exact y i B C (by simpa using d) (by simpa using e)
theorem a04{b:Func}{k:BV->Rn}{z:BV}{l:List HO}(h:a6m P b.results.toList E A (G9 m) k=.ok z l):∃v x,k v=.ok z l/\(results b a.tmps).run P w=.ok x w/\u6 K H v x:=by
 have done:∀xs:List Value,(b.results.toList.mapM fun(r:ResultVar)=>(match r with
   |.tmp t=>(pure (a.tmps.getD t undef):Sem Value)
   |.cell c t=>do loadVar t (<-asAddr (a.tmps.getD c undef)))).run P w=.ok xs w->(results b a.tmps).run P w=.ok (if h:xs.length=1 then xs[0]else .tuple xs.toArray) w:=by
  intro xs e;unfold results;rw[qg];generalize j:List.mapM (m:=Sem) _ b.results.toList=z;have n:z.run P w=.ok xs w:=by rw[<-j];exact e
  simp[Sem.run_map,n]
 generalize b.results.toList=d at h done
 match d,h with
 |[],h=>exact⟨.c 1,_,h,done [] rfl,.inl ⟨rfl,rfl⟩⟩
 |[r],h=>
  obtain⟨v,new,set,rd,e,o⟩:=XG (show rOf (VW P r E A (G9 m)) k=_ from h);obtain⟨x,a1,q⟩:=Sb hm ht e;refine⟨v,x,o,done [x] ?_,q⟩;rw[qc,au,a1];rfl
 |r::f::d,h=>
  obtain⟨ps,xs,s,g2,g,u,y⟩:=Sc hm ht (r::f::d) (show a0a P E A (G9 m) (r::f::d) (fun l=>k (.t l))=_ from h)
  refine⟨.t ps,_,s,done xs g2,?_⟩;rw[ll (by rw[g];simp)]
  exact⟨xs.toArray,rfl,by simp[g,u],fun i p x B C=>y i p x B (by simpa using C)⟩
end
end Go.Abs
end
section
namespace Go.Abs
theorem a7j{β:Type}(v:BV)(k:BV->β):fB v k=k v:=by
 have MH:∀ (l:List (Nat×Nat)) (k:List (Nat×Nat)->β),fP l k=k l:=by
  intro l
  induction l with
  |nil=>intro k;rfl
  |cons p l d=>
   intro k;show fN p.1 (fun a=>fN p.2 fun b=>fP l fun l=>k ((a,b)::l))=_
   rw[B6,B6,d]
 cases v with
 |c n=>show fN n (fun n=>k (.c n))=_;rw[B6]
 |a s n=>show fN s (fun s=>fN n fun n=>k (.a s n))=_;rw[B6,B6]
 |t l=>show fP l (fun l=>k (.t l))=_;rw[MH]
 |u=>rfl
theorem Nl:∀ (m:Nat) (q:List Nat),VY m q=List.range m++q
 |0,q=>rfl
 |m+1,q=>by
  show VY m (m::q)=_;rw[Nl m,List.range_succ,bk];rfl
theorem BA{r:Nat}:∀ (m:Nat) (L:Lk),tS r (dQ m L)=if r<m then some r else tS r L
 |0,L=>rfl
 |m+1,L=>by
  show tS r (dQ m ((m,m)::L))=_;rw[BA m];by_cases h:r<m
  .rw[aj h,aj (by omega)]
  .rw[ai h];simp only[tS];by_cases b:m=r
   .subst b;rw[aj rfl,aj (by omega)]
   .rw[ai b,ai (by omega)]
theorem Sd{r j m:Nat}:∀ {t:List Nat},lk (ad m t++dQ m []) r j->(List.range m++t.reverse)[j]? =some r
 |[],h=>by
  have h:tS r (dQ m [])=some j:=h;rw[BA]at h;split at h
  .rename_i b;cases h;rw[List.reverse_nil,bf,fy b]
  .cases h
 |a::t,h=>by
  simp only[lk,ad,gy,tS]at h;split at h
  .rename_i e;cases h;rw[bd (by simp)]
   simp[e]
  .have:=Sd (t:=t) h;have c:=O8 this;rw[mn,<-bk,bc c];exact this
theorem Iy:∀ {l b:List HO},a3z l b=true->∀ (j:Nat) (o:HO),l[j]? =some o->∃o',b[j]? =some o'/\eqF o o'=true
 |[],b,_,j,o,h=>by simp at h
 |a::l,[],h,j,o,_=>by cases h
 |a::l,d::b,h,j,o,c=>by
  have h:iB (eqF a d) (a3z l b) false=true:=h;rw[a9]at h;split at h
  .rename_i e;cases j with
   |zero=>simp at c;subst c;exact⟨d,rfl,e⟩
   |succ j=>exact Iy h j o (by simpa using c)
  .cases h
theorem XI{b:Bool}{c:Nat}{r:l6}{v:BV}{new:List HO}{set:List (Nat×HO)}{rd:List Nat}(h:nB b c r=.ok v new set rd):b=true/\r=.ok v new set rd:=a8 h
theorem PY{ρ:Nat->Nat->Prop}{K K1:b8}{H H1:Nat->Option Hd}{w w1:World}{hd:Hd}{j o o':HO}(h:n9 K H w hd (.z5 j))(r:OR ρ o o')(t:n9 K1 H1 w1 hd (.z5 o))(u:eqF j o'=true):S1 o' hd=hd:=by
 cases o' with
 |f a b c d=>
  cases o with
  |f a1 x y B=>
   obtain⟨k,g2,C,G,I⟩:=t;cases j with
   |f a0 J L M=>
    have e:=XE u;cases e;obtain⟨g,p,q3,q4,q5⟩:=h;cases hd with
    |mk base N len cap=>simp only at g p q4 q5;simp only[S1,g,p,q4,q5]
   |c s n=>obtain⟨q,_,_,_,g,_⟩:=h;rw[k]at g;cases g
   |m ks vs l clk=>obtain⟨q,_,g,_⟩:=h;rw[k]at g;cases g
   |i m s l a=>obtain⟨q,_,_,g,_⟩:=h;rw[k]at g;cases g
   |z=>exact h.elim
  |_=>exact r.elim
 |_=>rfl
section
variable {P:Program} {F:Nat->Prop} {K K1:b8} {H H1:Nat->Option Hd} {w w1:World} {v:BV} {l:List HO} {E:Nat} {A:z7} {a:Act} {nx:Nat} {D:m8}
theorem XJ{r:l6}{k:BV->List HO->Rn}{z:BV}{l:List HO}(h:a2l r k=.ok z l):∃v new set rd,r=.ok v new set rd/\k v new=.ok z l:=by
 cases r with
 |er c x=>cases h
 |ok v new set rd=>exact⟨v,new,set,rd,rfl,h⟩
theorem a05{f:Nat}{fn:Func}{g:List HO}(hf:P.funcs[f]? =some fn)(V:l5 F K1 H1 w1 (l9 (p8 nx D)))(ht:∀t,b9 K1 H1 (TE E A t) (a.tmps.getD t undef))(a4n:∀ (j:Nat) (o:HO),g[j]? =some o->∃hd,H1 j=some hd/\n9 K H w hd (.z5 o))(h:AZ P f g.length g E A (m6 nx D)=.ok v l):
  ∃x H',(results fn a.tmps).run P w1=.ok x w1/\u6 K1 H' v x/\l5 F K1 H' w1 (G4 (fun _=>none) 0 (l.map c7.z5))/\(∀r,l.length<=r->H' r=none)/\g.length<=l.length/\∀r,r<g.length->H' r=H1 r:=by
 have WE:AY P f=fn.results.toList:=by unfold AY;rw[hf]
 have hdh:=tV nx D;obtain⟨m,Se⟩:∃m,m=l9 (p8 nx D):=⟨_,rfl⟩;rw[<-Se]at V hdh;unfold AZ at h;rw[WE,<-hdh]at h;obtain⟨v0,x,h,gI,oB⟩:=a04 V ht h;obtain⟨v1,new,set,rd,h,hk⟩:=XJ h;rw[a7j]at hk;cases hk;obtain⟨M,hM⟩:∃M,M=g.length:=⟨_,rfl⟩;rw[<-hM]at h ⊢;obtain⟨B,v',a1,_,a3,a4⟩:=RF (Q:=fun _=>True) (by
  cases v0 with
  |c n=>exact fun _ _=>trivial
  |a s n=>exact fun _ _ _ _=>trivial
  |t l=>exact fun _ _ _ _ _ _=>trivial
  |u=>trivial) h
 simp only at a4;rw[zH,bf,Nl]at a4;obtain⟨J,s,b1,_,b3,b4,b5⟩:=zJ (Q:=fun _=>True) (fun r _=>DL _) 2000 _ [] _ _ [] _ (fun r _=>trivial) (fun r _=>trivial) a4
 have hL:ad (M+B.length) J++(ad M B++dQ M [])=ad M (J++B)++dQ M []:=mP _ _ _ _;have C:Va (dQ M []) (J++B):=a1.app b1;rw[hL]at b4;have a34:List.range M++B.reverse++([]:List Nat).reverse++J.reverse=List.range M++(J++B).reverse:=by simp
 rw[a34]at b3 b4;obtain⟨q,L⟩:∃q,q=List.range M++(J++B).reverse:=⟨_,rfl⟩;rw[<-L]at b3 b4;rw[RH,bf s]at b5;obtain⟨c1,b5⟩:=XI b5;obtain⟨c2,b5⟩:=XI b5;obtain⟨X,G,_,_⟩:=l6.ok.inj b5;subst X;obtain⟨y,hsr⟩:∃y,y=s.reverse:=⟨_,rfl⟩;rw[<-hsr]at c2 b4 G;subst G;have c1:M+B.length+J.length<=1048574:=af c1;have T:y.length=q.length:=by rw[hsr];simpa using b3
 have hhl:q.length<=1048574:=by rw[L];simp;omega
 have PB:q.Nodup:=by
  rw[L];refine om.2 ⟨pk,rv.2 (C.1.imp fun h e=>h e.symm),fun r hr r' hr' e=>?_⟩
  subst e;have k:=C.2 r (jw.1 hr');rw[BA,aj (ld.1 hr)]at k;cases k
 have hML:M<=q.length:=by rw[L];simp
 have hsM:∀j,j<M->q[j]? =some j:=fun j p=>by
  rw[L,bc (by simpa using p),fy p]
 have fwd:∀r j,lk (ad M (J++B)++dQ M []) r j->q[j]? =some r:=fun r j p=>by rw[L];exact Sd p
 have O:∀r j,lk (ad M (J++B)++dQ M []) r j->j<1048575:=fun r j p=>by have:=O8 (fwd r j p);omega
 have R:∀ (i r:Nat) (o:HO),q[i]? =some r->y[i]? =some o->OR (lk (ad M (J++B)++dQ M [])) (G9 m r) o:=fun i r o k I=>b4 i r o k I O
 have N:∀ (i r:Nat),q[i]? =some r->m r=some (.z5 (G9 m r),.own):=fun i r k=>by
  have hl:i<y.length:=by rw[T];exact O8 k
  exact S0 rfl (R i r y[i] k (ag hl)).a32.1
 let H':Nat->Option Hd:=fun j=>match q[j]?,y[j]? with
  |some r,some o=>(H1 r).map (S1 o)
  |_,_=>none
 have S:∀ (j r:Nat) (o:HO),q[j]? =some r->y[j]? =some o->H' j=(H1 r).map (S1 o):=fun j r o k I=>by
  show(match q[j]?,y[j]? with|some r,some o=>(H1 r).map (S1 o)|_,_=>none)=_
  rw[k,I]
 have d:∀ (j:Nat) (S9:Hd),H' j=some S9->∃r o hd,q[j]? =some r/\y[j]? =some o/\H1 r=some hd/\S9=S1 o hd:=fun j S9 p=>by
  have p:(match q[j]?,y[j]? with|some r,some o=>(H1 r).map (S1 o)|_,_=>none)=some S9:=p
  split at p
  .rename_i r o k I;cases hh:H1 r with
   |none=>rw[hh]at p;cases p
   |some hd=>rw[hh]at p;cases p;exact⟨r,o,hd,k,I,hh,rfl⟩
  .cases p
 have hhF:∀r j hd,lk (ad M (J++B)++dQ M []) r j->H1 r=some hd->∃S9,H' j=some S9/\TN (lk (ad M (J++B)++dQ M [])) hd S9/\j<1048575:=fun r j hd p hh=>by
  have k:=fwd r j p;have hl:j<y.length:=by rw[T];exact O8 k
  have I:=ag hl;refine⟨S1 y[j] hd,by rw[S j r _ k I,hh];rfl,?_,O r j p⟩
  exact OR.head (V.cont r _ .own hd (N j r k) (by simp) hh) (R j r _ k I)
 have z:∀ (j r:Nat) (o:HO) (hd:Hd),q[j]? =some r->y[j]? =some o->H1 r=some hd->∀b,(S1 o hd).base=some b->hd.base=some b:=fun j r o hd _ _ _ b hb=>by
  have:=wL hb;rw[this]at hb;exact hb
 refine⟨x,H',gI,?_,?_,?_,by rw[T];exact hML,?_⟩
 .exact UZ.rep hhF oB ((BVX.mono _ (lk (ad M (J++B)++dQ M [])) _ (fun r j p=>by rw[<-hL];exact DJ b1 r j p) a3) O)
 .refine⟨?_,?_,?_,?_⟩
  .intro j c' f' S9 q1 q2 q3;obtain⟨o,X,rfl,rfl⟩:=tT q1;obtain⟨r,o',hd,G,U,Y,rfl⟩:=d j S9 q3;rw[X]at U;cases U;exact OR.cont hhF (V.cont r _ .own hd (N j r G) (by simp) Y) (R j r o G X)
  .intro j c' S9 b q1 q2 q3;obtain⟨o,X,rfl,_⟩:=tT q1;obtain⟨r,o',hd,G,U,Y,rfl⟩:=d j S9 q2;have hb:=z j r o' hd G U Y b q3;obtain⟨g1,g2,g3,g4⟩:=V.own r _ hd b (N j r G) Y hb;refine⟨g1,g2,g3,fun hc=>g4 ?_⟩
   have:=R j r o G X;revert this hc;cases G9 m r<;>cases o<;>first|exact fun _ h=>h.elim|(intro hc _;exact hc)
  .intro j c' S9 b q1 q2 q3;obtain⟨o,X,rfl,e⟩:=tT q1;cases e
  .intro j j' c1' c2' bN kB b q1 q2 q3 q4 q5 q6;obtain⟨r,o,hd,G,U,Y,rfl⟩:=d j bN q3;obtain⟨r',o',S9,Z,e3',e4',rfl⟩:=d j' kB q4;have k:=z j r o hd G U Y b q5;have I:=z j' r' o' S9 Z e3' e4' b q6;have e:=V.inj r r' _ _ hd S9 b (N j r G) (N j' r' Z) Y e4' k I;subst e;exact FM PB G Z
 .intro r hr;cases hh:H' r with
  |none=>rfl
  |some S9=>
   obtain⟨r',o,hd,G,U,_⟩:=d r S9 hh;have:=O8 U;omega
 .intro j p;have k:=hsM j p;have hl:j<y.length:=by rw[T];exact O8 k
  have I:=ag hl;have hjo:j<g.length:=by rw[<-hM];exact p
  have h3:=ag hjo;obtain⟨hd,g1,g2⟩:=a4n j _ h3;obtain⟨o',g3,g4⟩:=Iy c2 j _ h3;rw[I]at g3;cases g3;rw[S j j _ k I,g1];show some (S1 y[j] hd)=some hd;rw[PY g2 (R j j _ k I) (V.cont j _ .own hd (N j j k) (by simp) g1) g4]
end
end Go.Abs
end
section
namespace Go.Abs
section
variable {P:Program} {F:Nat->Prop} {K:b8} {H HR:Nat->Option Hd} {w:World} {m:Mm}
structure wT(F:Nat->Prop)(K:b8)(H:Nat->Option Hd)(w:World)(m:Mm)(HR:Nat->Option Hd)(cs:List c7):Prop where
 ok:L4 F K w
 mem:l5 F K H w m
 res:l5 F K HR w (G4 (fun _=>none) 0 cs)
 none:∀r,cs.length<=r->HR r=none
 apart:∀r c hd r' c' S9 b,m r=some (c,.own)->H r=some hd->G4 (fun _=>Option.none) 0 cs r'=some (c',.own)->HR r'=some S9->hd.base=some b->S9.base≠some b
theorem kI.cells{α:Type}{K K':b8}{a:Nat}{R c:α->List Value->Prop}{l:List α}{base:Option Addr}
  (d:∀b cs,K.cells b=some cs->K'.cells b=some cs)(e:∀x cs,R x cs->c x cs)(h:kI K a R l base):kI K' a c l base:=by
 rcases h with h|⟨b,off,arr,f,g,j⟩
 .exact .inl h
 .exact .inr ⟨b,off,arr,f,d _ _ g,fun i k=>e _ _ (j i k)⟩
theorem r9.cells{K K':b8}(c:∀b cs,K.cells b=some cs->K'.cells b=some cs):∀ (t:Ty) (x:t.den) (cs:List Value),r9 K t x cs->r9 K' t x cs
 |.int _,_,_,h=>h
 |.bool,_,_,h=>h
 |.slice e,l,cs,h=>by
  obtain⟨base,cap,d,f,g⟩:=h;exact⟨base,cap,d,f,g.cells c (r9.cells c e)⟩
 |.pair a b,x,cs,h=>by
  obtain⟨i,j,d,f,g⟩:=h;exact⟨i,j,d,r9.cells c a _ _ f,r9.cells c b _ _ g⟩
mutual
theorem Iz{K K':b8}{H H':Nat->Option Hd}(j:∀b cs,K.cells b=some cs->K'.cells b=some cs):∀ (a:a7) (v:Value),a.bG=true->b9 K H a v->b9 K' H' a v
 |.bool _,_,_,h=>by simpa [b9]using h
 |.int _ _,_,_,h=>by simpa [b9]using h
 |.Y4,_,_,h=>by simpa [b9]using h
 |.R2 _,_,_,h=>by simpa [b9]using h
 |.V6,_,_,h=>by simpa [b9]using h
 |.imm _ _ _,_,_,h=>by
  simp only[b9]at h ⊢;obtain⟨base,cap,e,g,k,l⟩:=h;exact⟨base,cap,e,g,k,l.cells j (r9.cells j _)⟩
 |.S3 _ _,_,_,h=>by
  simp only[b9]at h ⊢;obtain⟨cs,e,g,k⟩:=h;exact⟨cs,e,g,fun i n=>r9.cells j _ _ _ (k i n)⟩
 |.G7 cs,_,d,h=>by
  simp only[b9]at h ⊢;obtain⟨b,off,arr,e,g,k⟩:=h;exact⟨b,off,arr,e,j _ _ g,aE j cs _ (by simpa [a7.bG]using d) k⟩
 |.agg cs,_,d,h=>by
  simp only[b9]at h ⊢;obtain⟨c,e,g⟩:=h;exact⟨c,e,aE j cs _ (by simpa [a7.bG]using d) g⟩
 |.M1 cs,_,d,h=>by
  simp only[b9]at h ⊢;obtain⟨c,e,g⟩:=h;exact⟨c,e,aE j cs _ (by simpa [a7.bG]using d) g⟩
 |.fn f a b,_,d,h=>by
  simp only[b9]at h ⊢;simp only[a7.bG,ah]at d;obtain⟨o,p,e,g,k⟩:=h;exact⟨o,p,e,aE j a _ d.1 g,aE j b _ d.2 k⟩
 |.S6,_,d,_=>by simp[a7.bG]at d
 |.O1 _ _,_,d,_=>by simp[a7.bG]at d
 |.sub _ _ _ _,_,d,_=>by simp[a7.bG]at d
 |.ptr _ _,_,d,_=>by simp[a7.bG]at d
 |.P5 _ _ _,_,d,_=>by simp[a7.bG]at d
 |.P6 _,_,d,_=>by simp[a7.bG]at d
 |.B9 _,_,d,_=>by simp[a7.bG]at d
 |.J7,_,d,_=>by simp[a7.bG]at d
 |.s6 _,_,d,_=>by simp[a7.bG]at d
theorem aE{K K':b8}{H H':Nat->Option Hd}(g:∀b cs,K.cells b=some cs->K'.cells b=some cs):∀ (d:List a7) (vs:List Value),gU d=true->c6 K H d vs->c6 K' H' d vs
 |[],_,_,h=>by simpa [c6]using h
 |a::d,vs,f,h=>by
  simp only[gU,ah]at f;simp only[c6]at h ⊢;obtain⟨c,e,i,j,k⟩:=h;exact⟨c,e,i,Iz g a c f.1 j,aE g d e f.2 k⟩
end
theorem uA(m:Mm)(n:Nat)(cs:List c7)(c:c7):G4 m n (cs++ [c])=N9 (G4 m n cs) (n+cs.length) (c,.own):=by
 funext r;rw[s9];by_cases e:r=n+cs.length
 .subst e;rw[j8,ic (by simp)]
  simp
 .rw[m7 _ _ _ _ e,s9];by_cases h:n<=r/\r<n+cs.length
  .rw[ic h,ic (by simp;omega)]
   rw[jf]
  .rw[ll h,ll (by simp;omega)]
theorem PZ{imm:Bool}{X:List Nat}(hL:aY (bI X H) HR){v v':a7}{d cs:List c7}{u:List (Nat×p0)}{x:Value}(h:OB imm m X v d.length=some (v',cs,u))(E:b9 K H v x)(hI:wT F K H w m HR d):
  ∃K' i,K.le K'/\aY HR i/\Fix F K K'/\wT F K' H w (y8 m u) i (d++cs)/\b9 K' i v' x:=by
 have hn:HR d.length=none:=hI.none _ (aw _);have o:∀n N,view m 6 v=some (N,n)->v'=N.eF X->cs=[]->u=J6 n->
   ∃K' i,K.le K'/\aY HR i/\Fix F K K'/\wT F K' H w (y8 m u) i (d++cs)/\b9 K' i v' x:=by
  intro n N j q s z;subst q;subst s;subst z;have R:∀r f,(r,f)∈n->f≠ .dead/\∃c,m r=some (c,f)/\c.isCells=true:=(cJ m 6).1 _ _ _ j;have hB:∀r f hd b cs e fz,(r,f)∈n->H r=some hd->hd.base=some b->w.heap[b]? =some (.cells cs e fz)->(K.plus w (Q5 H n)).cells b=some cs:=
   fun r f hd b cs e fz k G O h4=>fM (cW k G O) hI.ok.w8 h4
  have Y:=(mA hI.mem (K.M4 w (Q5 H n)) H (.refl H) 6).1 _ x _ _ j hB E;obtain⟨Z,Q7⟩:=hI.ok.frozen hI.mem n R;obtain⟨hmF,_⟩:=hI.mem.freeze hI.ok.w8 n R;refine⟨K.plus w (Q5 H n),HR,K.M4 w _,.refl HR,Q7,⟨Z,hmF,?_,by simpa using hI.none,?_⟩,?_⟩
  .rw[bf];refine hI.res.SO (K.M4 w _) (fun r c hd b k G O=>?_)
   obtain⟨_,g1,g2,_⟩:=hI.res.own r c hd b k G O;refine⟨?_,g2⟩;cases S:Q5 H n b with
   |false=>rw[lZ S];exact g1
   |true=>
    exfalso;obtain⟨J,f2,p,I,L,q3⟩:=nX S;obtain⟨q4,V,q5,_⟩:=R J f2 I;cases f2 with
    |dead=>exact q4 rfl
    |own=>exact hI.apart J V p r c hd b q5 L k G q3 O
    |X9=>
     obtain⟨cs,q6⟩:=hI.mem.X9 J V p b q5 L q3;rw[g1]at q6;cases q6
  .intro r c hd r' c' A b k G O h4 h5;rw[bf]at O;rw[gX]at k;cases T:m r with
   |none=>rw[T]at k;cases k
   |some y=>
    obtain⟨c0,g⟩:=y;rw[T]at k;simp only[ae,aq]at k;obtain⟨rfl,k⟩:=k;split at k
    .cases k
    .subst k;exact hI.apart r c0 hd r' c' A b T G O h4 h5
  .exact b9.mono (.refl _) hL _ _ (DB (l:=X) (H:=H) N x Y)
 have B:∀ (r:Nat) (c:c7) (a:a7),m r=some (c,.own)->(∀ (i:Nat->Option Hd) (hd:Hd),H r=some hd->i d.length=some hd->b9 K i a x)->(∃hd,H r=some hd)->c.plain=true->v'=a->cs=[c]->u=[(r,.dead)]->
   ∃K' i,K.le K'/\aY HR i/\Fix F K K'/\wT F K' H w (y8 m u) i (d++cs)/\b9 K' i v' x:=by
  intro r c a C ha Dx U q s z;subst q;subst s;subst z;obtain⟨hd,k⟩:=Dx;refine⟨K,N9 HR d.length hd,.refl K,M3 hn,.refl F K,⟨hI.ok,?_,?_,fun r' D=>?_,?_⟩,?_⟩
  .have e:y8 m [(r,p0.dead)]=N9 m r (c,.dead):=by
    funext r';simp only[y8];rw[Y1];by_cases e:r'=r
    .subst e;simp[N9,C]
    .simp[N9,e]
   rw[e];exact hI.mem.flag r _ _ .dead C (by simp) (fun e=>by cases e)
  .rw[uA,bz];refine hI.res.new d.length hn c hd (lH U (.refl K) (hI.mem.cont r _ _ hd C (by simp) k)) (fun b S=>?_)
   obtain⟨g1,g2,g3,g4⟩:=hI.mem.own r _ hd b C k S;exact⟨g1,g2,g3,g4,fun r' c' A I L=>hI.apart r _ hd r' c' A b C k I L S⟩
  .have D:d.length+1<=r':=by simpa using D
   rw[m7 _ _ _ _ (by omega)]
   exact hI.none r' (by omega)
  .intro r1 c1 M J V p b I L q3 q4 q5 q6;have Dy:r1≠r:=by
    intro e;subst e;have:y8 m [(r1,p0.dead)] r1=some (c,.dead):=by
     simp only[y8];rw[Y1];simp[C]
    rw[this]at I;cases I
   have q1':m r1=some (c1,.own):=by
    have:y8 m [(r,p0.dead)] r1=m r1:=dY _ _ (by simpa using Dy)
    rw[this]at I;exact I
   rw[uA,bz]at q3;by_cases e:J=d.length
   .subst e;rw[j8]at q3 q4;cases q3;cases q4;exact Dy (hI.mem.inj r1 r _ _ M hd b q1' C L k q5 q6)
   .rw[m7 _ _ _ _ e]at q3 q4;exact hI.apart r1 c1 M J V p b q1' L q3 q4 q5 q6
  .exact ha _ hd k (j8 _ _ _)
 unfold OB at h;split at h
 .simp only[ae,aq]at h;obtain⟨rfl,rfl,rfl⟩:=h;refine⟨K,HR,.refl K,.refl HR,.refl F K,by simpa [y8]using hI,?_⟩
  exact b9.mono (.refl _) hL _ _ (DB (l:=X) (H:=H) v x E)
 rename_i Vb;clear Vb;split at h
 .rename_i r f;split at h
  .rename_i t l C;simp only[ae,aq]at h;obtain⟨q,s,z⟩:=h;simp only[b9]at E;obtain⟨hd,k,G,O⟩:=E;refine B r _ (.O1 d.length false) C (fun i A k1 k2=>?_) ⟨hd,k⟩ rfl q.symm s.symm z.symm
   rw[k]at k1;cases k1;simp only[b9];exact⟨hd,k2,G,by simp⟩
  .cases h
 .rename_i r;split at h
  .rename_i mk l clk C;simp only[ae,aq]at h;obtain⟨q,s,z⟩:=h;simp only[b9]at E;obtain⟨hd,b,k,G⟩:=E;refine B r _ (.B9 d.length) C (fun i A k1 k2=>?_) ⟨hd,k⟩ rfl q.symm s.symm z.symm
   rw[k]at k1;cases k1;simp only[b9];exact⟨hd,b,k2,G⟩
  .cases h
 .rename_i t;simp only[ae,aq]at h;obtain⟨rfl,rfl,rfl⟩:=h;simp only[b9]at E;subst E
  let hd:Hd:=⟨none,t.size,0,0⟩
  refine⟨K,N9 HR d.length hd,.refl K,M3 hn,.refl F K,⟨hI.ok,hI.mem,?_,fun r' D=>?_,?_⟩,?_⟩
  .rw[uA,bz];exact hI.res.new d.length hn (.sl t []) hd ⟨rfl,rfl,⟨aw _,fx _⟩,.inl ⟨rfl,rfl⟩⟩ (fun b S=>by cases S)
  .have D:d.length+1<=r':=by simpa using D
   rw[m7 _ _ _ _ (by omega)]
   exact hI.none r' (by omega)
  .intro r1 c1 M J V p b I L q3 q4 q5 q6;rw[uA,bz]at q3;by_cases e:J=d.length
   .subst e;rw[j8]at q4;cases q4;cases q6
   .rw[m7 _ _ _ _ e]at q3 q4;exact hI.apart r1 c1 M J V p b I L q3 q4 q5 q6
  .simp only[b9];exact⟨hd,j8 _ _ _,rfl,by simp⟩
 .rename_i t l;simp only[ae,aq]at h;obtain⟨rfl,rfl,rfl⟩:=h;exact⟨K,HR,.refl K,.refl HR,.refl F K,by simpa [y8]using hI,by simpa only[b9]using E⟩
 .rename_i cells;split at h
  .rename_i U;simp only[ae,aq]at h;obtain⟨rfl,rfl,rfl⟩:=h;exact⟨K,HR,.refl K,.refl HR,.refl F K,by simpa [y8]using hI,Iz (fun _ _ h=>h) (.agg cells) x (by simpa [a7.bG]using U) E⟩
  .split at h
   .rename_i N n j;simp only[ae,aq]at h;obtain⟨q,s,z⟩:=h;exact o n N j q.symm s.symm z.symm
   .cases h
 .split at h
  .rename_i N n j;simp only[ae,aq]at h;obtain⟨q,s,z⟩:=h;exact o n N j q.symm s.symm z.symm
  .cases h
theorem Gj{imm:Bool}{n:List Nat}:∀ (vs b:List a7) (a cs:List c7) (xs:List Value) (K:b8) (m:Mm) (HR:Nat->Option Hd),AO imm n m vs a.length=some (b,cs)->aY (bI n H) HR->c6 K H vs xs->wT F K H w m HR a->
  ∃K' c r,K.le K'/\aY HR c/\Fix F K K'/\wT F K' H w r c (a++cs)/\c6 K' c b xs
 |[],b,a,cs,xs,K,m,HR,h,e,f,hI=>by
  simp only[AO,ae,aq]at h;obtain⟨rfl,rfl⟩:=h;have:xs=[]:=c6.J8.1 f;subst this;exact⟨K,HR,m,.refl K,.refl HR,.refl F K,by rw[bf];exact hI,.nil⟩
 |v::vs,b,a,cs,xs,K,m,HR,h,e,f,hI=>by
  obtain⟨x,g,rfl,s,t⟩:=f.inv;simp only[AO]at h;split at h
  .rename_i G u I y;split at h
   .rename_i i j d;simp only[ae,aq]at h;obtain⟨rfl,rfl⟩:=h;obtain⟨K1,k,a1,o,z,A,B⟩:=PZ e y s hI;rw[<-bu]at d;obtain⟨K2,l,m2,p,q,C,D,E⟩:=Gj vs i (a++u) j g K1 _ k d (e.trans o) (c6.mono a1 (.refl H) _ _ t) A;refine⟨K2,l,m2,a1.trans p,o.trans q,z.trans C,by rw[<-bk];exact D,.cons (b9.mono p q _ _ B) E⟩
   .cases h
  .cases h
def Sf(P:Program)(m:Mm)(c:List (Nat×a7))(r:ResultVar):Prop:=
 ∀a t,r=.cell a t->∀b ty l f,u9 c a=.P6 b->m b=some (.sl ty l,f)->l.length*ty.size=j9 P t
theorem aU{P:Program}{m:Mm}{s:List (Nat×a7)}:∀ (c:List ResultVar) (q:Prop),kJ P m s c q->q/\∀r∈c,Sf P m s r
 |[],q,h=>⟨h,fun _ h=>by cases h⟩
 |r::c,q,h=>by
  unfold kJ at h;split at h
  .obtain⟨d,g⟩:=aU c q h;refine⟨d,fun o b=>?_⟩
   rcases av.1 b with rfl|b
   .intro a t e;cases e
   .exact g _ b
  .split at h
   .rename_i a t r0 n;split at h
    .rename_i ty l f p;obtain⟨A,h⟩:=h;obtain⟨d,g⟩:=aU c q h;refine⟨d,fun o b=>?_⟩
     rcases av.1 b with rfl|b
     .intro u v e x j y z i k;cases e;rw[n]at i;cases i;rw[p]at k;cases k;exact A
     .exact g _ b
    .rename_i p;obtain⟨d,g⟩:=aU c q h;refine⟨d,fun o b=>?_⟩
     rcases av.1 b with rfl|b
     .intro u v e x j y z i k;cases e;rw[n]at i;cases i;exact absurd k (p _ _ _)
     .exact g _ b
   .rename_i a t n;obtain⟨d,g⟩:=aU c q h;refine⟨d,fun o b=>?_⟩
    rcases av.1 b with rfl|b
    .intro u v e x j y z i k;cases e;exact absurd i (n _)
    .exact g _ b
theorem Qa{X:fW}{B:Option Nat}{n:Nat}{T:Nat->a7}{a:Act}(d:St X B F n K H T m a w){r:ResultVar}{v:a7}{I:List (Nat×a7)}(S:T=u9 I)(J:Sf P m I r)(h:z' P m I r=some v):
  ∃x,(match r with
   |.tmp t=>(pure (a.tmps.getD t undef):Sem Value)
   |.cell c t=>do loadVar t (<-asAddr (a.tmps.getD c undef))).run P w=.ok x w/\b9 K H v x:=by
 subst S;cases r with
 |tmp t=>
  simp only[z',ae]at h;subst h;exact⟨_,rfl,d.tmp t⟩
 |cell c t=>
  simp only[z']at h;have q:=d.tmp c;split at h
  .rename_i r off D;rw[D]at q;simp only[b9]at q;obtain⟨hd,b,L,E,e⟩:=q;split at h
   .rename_i cells f g;split at h
    .cases h
    .rename_i k;obtain⟨U,cs,u,y,A,g2,s⟩:=d.mem.cont r _ f hd g k L;rw[E]at A;cases A;have C:=c6.drop off s;have M:(cells.drop off).length=cs.size- off:=by
      have:=c6.length s;simp at this ⊢;omega
     obtain⟨z,V,Y⟩:=oA (P:=P) g2 (off:=off) (by rw[M,EC];exact C) h
     refine⟨z,?_,Y⟩;simp only[e,asAddr,au,bg,ak];exact V
   .cases h
  .rename_i r D;rw[D]at q;simp only[b9]at q;obtain⟨hd,b,L,E,_,e⟩:=q;split at h
   .rename_i ty l f n et g N;split at h
    .cases h
    .rename_i k;cases h;have j:=J c t rfl r ty l f D g;obtain⟨c1,c2,c3,G⟩:=d.mem.cont r _ f hd g k L;have o:∃cs u y,w.heap[b]? =some (.cells cs u y)/\hd.cap*ty.size<=cs.size/\cQ K ty l cs 0:=by
      rcases G with⟨G,_⟩|⟨U,cs,u,y,A,g2,s,C⟩
      .rw[E]at G;cases G
      .rw[E]at A;cases A;exact⟨cs,u,y,g2,s,C⟩
     obtain⟨cs,u,y,g2,s,C⟩:=o;have Z:l.length*ty.size<=cs.size:=ew (ay _ (by omega)) s
     have O:R0 P t=true:=by simp[R0,N]
     have p:=run_loadCells P g2 0 (j9 P t) 0 #[] (by omega)
     refine⟨.agg (s7 cs 0 (j9 P t)).toArray,?_,?_⟩
     .simp only[e,asAddr,au,bg,ak,loadVar,W7 N,O,di,nY N,loadCells,p];simp
     .simp only[b9];refine⟨_,rfl,?_,?_⟩
      .rw[<-j];simp[s7];omega
      .intro i R;have:=C i R;have hs:s7 (s7 cs 0 (j9 P t)).toArray (0+i*ty.size) ty.size=s7 cs (0+i*ty.size) ty.size:=by
        have:s7 (s7 cs 0 (j9 P t)).toArray (0+i*ty.size) ty.size=((s7 cs 0 (j9 P t)).drop (0+i*ty.size)).take ty.size:=by
         unfold s7;simp
        rw[this,sQ]
        .simp
        .rw[<-j];have:(i+1)*ty.size<=l.length*ty.size:=ay _ R;rw[bl]at this;omega
       rw[hs];exact this
   .cases h
  .cases h
theorem Gk{X:fW}{B:Option Nat}{n:Nat}{T:Nat->a7}{a:Act}(b:St X B F n K H T m a w){f:List (Nat×a7)}(i:T=u9 f):∀ (d:List ResultVar) (vs:List a7),(∀r∈d,Sf P m f r)->vS P m f d=some vs->
  ∃xs,(d.mapM fun(r:ResultVar)=>(match r with
   |.tmp t=>(pure (a.tmps.getD t undef):Sem Value)
   |.cell c t=>do loadVar t (<-asAddr (a.tmps.getD c undef)))).run P w=.ok xs w/\c6 K H vs xs
 |[],vs,_,h=>by
  simp only[vS,ae]at h;subst h;exact⟨[],rfl,.nil⟩
 |r::d,vs,e,h=>by
  simp only[vS]at h;split at h
  .rename_i v g j k;simp only[ae]at h;subst h;obtain⟨x,a1,l⟩:=Qa (P:=P) b i (e _ (ar ..)) j;obtain⟨xs,o,p⟩:=Gk b i d g (fun r q=>e r (al _ q)) k
   refine⟨x::xs,?_,.cons l p⟩;rw[qc,au,a1];simp only[ak,au,o,bg]
  .cases h
theorem CI{X:fW}{B:Option Nat}{n:Nat}{T:Nat->a7}{a:Act}(c:St X B F n K H T m a w){d:List (Nat×a7)}(f:T=u9 d){b:Func}{vs:List a7}(e:∀r∈b.results.toList,Sf P m d r)(h:vS P m d b.results.toList=some vs):
  ∃xs,(results b a.tmps).run P w=.ok (if h:xs.length=1 then xs[0]else .tuple xs.toArray) w/\c6 K H vs xs:=by
 obtain⟨xs,g,i⟩:=Gk (P:=P) c f b.results.toList vs e h;refine⟨xs,?_,i⟩;unfold results;rw[qg];generalize j:List.mapM (m:=Sem) _ b.results.toList=z;have k:z.run P w=.ok xs w:=by rw[<-j];exact g
 simp[Sem.run_map,k]
end
theorem BB:∀ (cs:List c7) (k r:Nat),l9 (AP cs k) r=if h:k<=r/\r<k+cs.length then some (cs[r- k]'(by omega),.own)else none
 |[],k,r=>by simp[AP,l9]
 |c::cs,k,r=>by
  simp only[AP,l9];by_cases e:k=r
  .subst e;simp
  .rw[ai e,BB cs];by_cases h:k+1<=r/\r<k+1+cs.length
   .rw[ic h,ic (by simp;omega)]
    have a:r- k=(r- (k+1))+1:=by omega
    simp only[a,fv]
   .rw[ll h,ll (by simp;omega)]
theorem Sg(cs:List c7):l9 (AP cs 0)=G4 (fun _=>none) 0 cs:=by
 funext r;rw[BB,s9]
theorem Gl:∀ (a:List a7) (k t:Nat),u9 (AK a k) t=if k<=t then(a[t- k]?).getD .S6 else .S6
 |[],k,t=>by simp[AK,u9]
 |v::vs,k,t=>by
  simp only[AK,u9];by_cases e:k=t
  .subst e;simp
  .rw[ai e,Gl vs];by_cases h:k+1<=t
   .have b:t- k=(t- (k+1))+1:=by omega
    rw[aj h,aj (by omega),b,cx]
   .rw[ai h,ai (by omega)]
def shut(a:List Nat)(w:World):World:=a.foldl (fun w D=>w.putObj D (.deferred none)) w
theorem kY{F:Fence}{n:Nat}{P:Program}{d:Func}{a:Array Value}{R:Ending->World->Prop}:∀ (b:List Nat) (w:World),b.Nodup->(∀D∈b,w.heap[D]? =some (.deferred (some [])))->
  (∃v,(results d a).run P (shut b w)=.ok v (shut b w)/\R (.returned v) (shut b w))->LeavesInM F n P d a R (b.map mark) .returning w
 |[],w,_,_,h=>h
 |D::b,w,g,f,h=>by
  obtain⟨i,j⟩:=dn.1 g;have hd:=f D (by simp)
  refine⟨by simp,.inl ⟨D,_,rfl,run_takeDeferred hd,kY b _ j (fun D' c=>?_) h⟩⟩
  rw[I0 hd,ai (fun(e:D'=D)=>i (e▸c))]
  exact f D' (al _ c)
theorem DO{b F:Nat->Prop}{K:b8}{H:Nat->Option Hd}{m:Mm}:∀ (a:List Nat) (w:World),a.Nodup->(∀D∈a,b D/\¬F D/\w.heap[D]? =some (.deferred (some [])))->L4 b K w->l5 b K H w m->
  L4 b K (shut a w)/\l5 b K H (shut a w) m/\Kept F w (shut a w)
 |[],w,_,_,f,i=>⟨f,i,.refl F w⟩
 |D::a,w,l,j,f,i=>by
  obtain⟨n,o⟩:=dn.1 l;obtain⟨q,r,g⟩:=j D (by simp)
  have c:K.inv D=none:=by
   cases s:K.inv D with
   |none=>rfl
   |some p=>exact absurd q (f.inv _ _ s)
  have k:∀cs e fz,Obj.deferred (some [])≠ .cells cs e fz:=fun _ _ _ h=>by cases h
  obtain⟨t,g2,u⟩:=DO (F:=F) a (w.putObj D (.deferred none)) o (fun D' d=>by
   obtain⟨v,x,k3⟩:=j D' (al _ d);refine⟨v,x,?_⟩;rw[I0 g,ai (fun(e:D'=D)=>n (e▸d))]
   exact k3) (EV f g k c) (DM i g k (fun _ _ h=>by cases h) (fun _ _ _ _ h=>by cases h))
  exact⟨t,g2,(fV g r).trans u⟩
theorem rX{K:b8}{H:Nat->Option Hd}{a:List a7}{vs:List Value}(b:c6 K H a vs)(k t:Nat):b9 K H (u9 (AK a 0) t) ((vs.toArray++Array.replicate k undef).getD t undef):=by
 rw[Gl,aj (fx _),kl];cases f:a[t]? with
 |none=>simp[b9]
 |some v=>
  obtain⟨x,d,g⟩:=c6.get t v b f;simp only[ec];have c:t<vs.length:=aO d;rw[ag c]at d;simp only[ae]at d;have e:(vs.toArray++Array.replicate k undef).getD t undef=x:=by
   rw[dg,Array.getElem?_append_left (by simpa using c)]
   simp[c,d]
  rw[e];exact g
theorem Nm{Γ:Env}{P:Program}(m4:P.follows .mixedOrders=true)(I:Good P Γ)(kt:FuncId->Nat->List Nat):N3 P (Rg Γ P kt Cb):=by
 intro h V args s0 k X F0 F K H w vs l R a J i L M B N C d O j;unfold Rg at a;split at a
 .rename_i z p;split at a
  .rename_i c G;split at a
   .rename_i hh;obtain⟨D,q,n⟩:=hh;refine⟨eC p G n,?_⟩;have r:=c6.length d;refine kr p G (bU none _) ?_;refine mV m4 I Gd c D X none F0 none (some l) _ (.it h) J (fun l h=>by cases h) ⟨⟨rfl,rfl,l,rfl,i⟩,fun _=>rfl⟩ (.inr rfl) _ _ F K H _ w _ a rfl L (fun Y e=>by cases e;exact M) ?_ C ?_
    .refine⟨B,N,?_,rfl,fun t=>rX d _ t,O⟩
     show max args.length z.ntmps<=_;simp[r];omega
    .have s:∀b g w',k b->gD X none F0 F (max args.length z.ntmps) K w b g w'->LeavesInM (Wd none) 0 P z g.tmps R g.defers .returning w':=by
      intro b g w' u A;obtain⟨⟨S,K',H',E,f,T,v,y⟩,o⟩:=A;have hd:g.defers=[]:=f.defers;rw[hd];refine⟨.tuple #[],?_,j b S K' H' w' _ u E f.ok f.mem v f.x T y o⟩;have:z.results= #[]:=ed q;simp[results,this]
     intro e b g w' u U A;cases e with
     |normal=>exact s b g w' u A
     |ret=>exact s b g w' u A
     |exit id=>exact u.elim
   .exact a.elim
  .exact a.elim
 .exact a.elim
def T8(V:List Value):Ctx:=fun _ K H a _ _=>c6 K H a V
theorem jV(V:List Value):(T8 V).Ok:=
 ⟨fun _ _=>⟨fun _ _ _ _ _ _ _ _ h _ a b _=>c6.mono a b _ _ h⟩,fun _ _ _ _ _ _ _ h=>Q8 _ _ h⟩
theorem pE{K:b8}{H:Nat->Option Hd}:∀ (b:List a7) (vs:List Value),c6 K H b vs->∃V,c6 K H (T9 b) V
 |[],_,_=>⟨[],.nil⟩
 |a::b,vs,h=>by
  obtain⟨x,xs,rfl,d,e⟩:=h.inv;obtain⟨V,c⟩:=pE b xs e;cases a
  case O1 r f=>exact⟨x::V,.cons d c⟩
  case B9 r=>exact⟨x::V,.cons d c⟩
  all_goals exact⟨V,c⟩
theorem vK:∀ (d:List a7) (i:Nat) (cs:List c7),iR d i cs=true->d.length=cs.length/\∀ (q:Nat) (a:a7) (c:c7),d[q]? =some a->cs[q]? =some c->c.plain=true/\((∃f t l,a=.O1 (i+q) f/\c=.sl t l)\/∃mk l k,a=.B9 (i+q)/\c=.mp mk l k)
 |[],i,[],_=>⟨rfl,fun q a c h=>by simp at h⟩
 |[],_,_::_,h=>by simp[iR]at h
 |_::_,_,[],h=>by simp[iR]at h
 |v::d,i,o::cs,h=>by
  simp only[iR,ah]at h;obtain⟨j,n⟩:=vK d (i+1) cs h.2;refine⟨by simp[j],fun q a c e g=>?_⟩
  cases q with
  |zero=>
   simp only[dh,ae]at e g;subst e;subst g;have b:=h.1;split at b
   .simp only[bt]at b;exact⟨rfl,.inl ⟨_,_,_,by rw[b];rfl,rfl⟩⟩
   .simp only[bt]at b;exact⟨rfl,.inr ⟨_,_,_,by rw[b];rfl,rfl⟩⟩
   .cases b
  |succ q=>
   simp only[cx]at e g;have:=n q a c e g;rw[show i+1+q=i+(q+1)by omega]at this
   exact this
theorem pQ{m:Mm}:∀ (f:List a7) (b:List c7) (i:List Nat) (e:List c7),cI m f b=some (i,e)->i.length=f.length/\e.length=f.length/\b.length=f.length/\
  ∀q,q<f.length->∃a j c,f[q]? =some a/\b[q]? =some j/\e[q]? =some c/\uU a=some (i.getD q 0)/\m (i.getD q 0)=some (c,.own)/\sameKind j c=true
 |[],[],i,e,h=>by
  simp only[cI,ae,aq]at h;obtain⟨rfl,rfl⟩:=h;exact⟨rfl,rfl,rfl,fun q k=>by simp at k⟩
 |[],_::_,_,_,h=>by simp[cI]at h
 |_::_,[],_,_,h=>by simp[cI]at h
 |v::f,j::b,i,e,h=>by
  simp only[cI]at h;split at h
  .rename_i r o;split at h
   .rename_i c' p;split at h
    .rename_i s;split at h
     .rename_i l n g;simp only[ae,aq]at h;obtain⟨rfl,rfl⟩:=h;obtain⟨a1,t,u,x⟩:=pQ f b l n g;refine⟨by simp[a1],by simp[t],by simp[u],fun q k=>?_⟩
      cases q with
      |zero=>exact⟨v,j,c',rfl,rfl,rfl,by simpa using o,by simpa using p,s⟩
      |succ q=>
       obtain⟨a,y,d,z,A,B,C,D,E⟩:=x q (by simpa using k)
       exact⟨a,y,d,by simpa using z,by simpa using A,by simpa using B,by simpa using C,by simpa using D,E⟩
     .cases h
    .cases h
   .cases h
  .cases h
theorem Gm{c c':c7}(h:sameKind c c'=true):c'.plain=true:=by
 unfold sameKind at h;split at h
 .rfl
 .rfl
 .cases h
theorem head_eq{K K':b8}{H H':Nat->Option Hd}{w w':World}{a y:a7}{v:Value}{c c':c7}{hd h:Hd}{r I:Nat}(z:uU a=some r)(A:uU y=some I)(B:b9 K H a v)(j:b9 K' H' y v)(J:H r=some hd)(L:H' I=some h)
  (g:sameKind c c'=true)(M:n9 K H w hd c)(N:n9 K' H' w' h c')(C:(∃r f t l,a=.O1 r f/\c=.sl t l)\/∃r mk l k,a=.B9 r/\c=.mp mk l k):h=hd:=by
 rcases C with⟨r0,f0,t,l,rfl,rfl⟩|⟨r0,mk,l,kk,rfl,rfl⟩
 .cases c' with
  |sl t' Y=>
   simp only[sameKind,bt]at g;subst g;simp only[uU,ae]at z;subst z;simp only[b9]at B;obtain⟨D,q,g2,_⟩:=B;rw[J]at q;cases q;cases y<;>simp only[uU]at A<;>try cases A
   case O1.refl Z f1=>
    simp only[b9]at j;obtain⟨n,p,i,_⟩:=j;rw[L]at p;cases p;rw[g2]at i;simp only[oe]at i;obtain⟨E,O,R⟩:=i;obtain⟨s,_⟩:=M;obtain⟨u,_⟩:=N;obtain⟨G,z1,l1,c1⟩:=hd;obtain⟨b2,z2,l2,c2⟩:=h;simp only at s u E O R;have eb:G=b2:=by
     cases G<;>cases b2<;>simp at E<;>simp[E]
    rw[eb,s,u,O,R]
   case B9.refl Z=>
    simp only[b9]at j;obtain⟨n,b,p,i,k3⟩:=j;rw[g2]at k3;cases k3
  |box x=>simp[sameKind]at g
  |mp a b c=>simp[sameKind]at g
  |it a b c d=>simp[sameKind]at g
  |bx a b c d e=>simp[sameKind]at g
  |z5 o=>simp[sameKind]at g
  |any=>simp[sameKind]at g
 .cases c' with
  |mp mk' Y kk'=>
   simp only[uU,ae]at z;subst z;simp only[b9]at B;obtain⟨D,b,q,g2,S⟩:=B;rw[J]at q;cases q;cases y<;>simp only[uU]at A<;>try cases A
   case O1.refl=>
    simp only[b9]at j;obtain⟨n,p,i,_⟩:=j;rw[S]at i;cases i
   case B9.refl=>
    simp only[b9]at j;obtain⟨n,b2,p,i,k3⟩:=j;rw[L]at p;cases p;rw[S]at k3;cases k3;obtain⟨s,u,T,_⟩:=M;obtain⟨U,V,X,_⟩:=N;obtain⟨G,z1,l1,c1⟩:=hd;obtain⟨b2,z2,l2,c2⟩:=h;simp only at s u T U V X g2 i;rw[g2,i,s,u,T,U,V,X]
  |box x=>simp[sameKind]at g
  |sl a b=>simp[sameKind]at g
  |it a b c d=>simp[sameKind]at g
  |bx a b c d e=>simp[sameKind]at g
  |z5 o=>simp[sameKind]at g
  |any=>simp[sameKind]at g
theorem CJ{F:Nat->Prop}{K:b8}{H:Nat->Option Hd}{w:World}:∀ (a:List Nat) (m:Mm),l5 F K H w m->l5 F K H w (y8 m (sU a))
 |[],_,h=>h
 |r::a,m,h=>by
  refine CJ a _ ?_;unfold dI;split
  .rename_i c f b;exact h.flag r c f .dead b (by simp) (fun e=>by cases e)
  .exact h
theorem CK:∀ (f:List Nat) (m:Mm) (r:Nat) (c:c7),y8 m (sU f) r=some (c,.own)->r ∉ f/\m r=some (c,.own)
 |[],_,_,_,h=>⟨by simp,h⟩
 |a::f,m,r,c,h=>by
  obtain⟨g,d⟩:=CK f _ r c h;rw[Y1]at d;by_cases e:r=a
  .subst e;cases b:m r with
   |none=>rw[b]at d;simp at d
   |some x=>rw[b]at d;simp at d
  .refine⟨by simp[e,g],?_⟩
   cases b:m r with
   |none=>rw[b]at d;simp at d
   |some x=>rw[b]at d;simpa [e]using d
theorem rY:∀ {cs:List c7},Ei cs=true->∀c∈cs,c.AL=true
 |[],_,c,h=>by simp at h
 |c0::cs,a,c,h=>by
  simp only[Ei,ah]at a;rcases av.1 h with rfl|h
  .exact a.1
  .exact rY a.2 c h
theorem Ut{c:c7}(h:c.plain=true):c.AL=true:=by cases c<;>first|rfl|cases h
def a4q(imm:Bool)(P:Program)(a:Func)(cs:List c7)(k:a7->List c7->Prop):E8->j7->Prop
 |.exit _,_=>False
 |_,b=>VG imm P a cs b k
theorem XK{P:Program}{imm:Bool}{f:FuncId}{E:Func}{c:Code}{j:List a7}{cs:List c7}{k:a7->List c7->Prop}(hf:P.funcs[f]? =some E)(hc:E.body=some c)(hny:(gH j && Ei cs && iR (T9 j) 0 cs)=true)
  (hS:∀ (V:List Value) (F:Nat->Prop) (K:b8) (H:Nat->Option Hd) (a:Act) (w:World) (Q:Exit->Act->World->Prop),St ((T8 V).O4 (T9 j) none) (some w.heap.size) F (max j.length E.ntmps) K H (u9 (AK j 0)) (l9 (AP cs 0)) a w->(∀r,cs.length<=r->H r=none)->
   (∀ (e:E8) (d:j7) (J:Act) (w':World),a4q imm P E cs k e d->d.n=max j.length E.ntmps->gD (T8 V) (some w.heap.size) F F (max j.length E.ntmps) K w d J w'->Q e.out J w')->c.wpIn (Wd none) 0 P Q a w):jE P f j cs k:=by
 intro F K H w vs l8 B hm G2 ZJ;simp only[ah]at hny;obtain⟨⟨b0L,b0M⟩,b0N⟩:=hny;refine Ff (n:=0) (kr hf hc (bU none _) ?_);have hlen:=c6.length B;have G:=U5 none _ _ b0L B;obtain⟨V,hV⟩:=pE j vs B;obtain⟨V0,hV0⟩:=pE j vs G;have JQ:l5 F (K.cG none) H w (l9 (AP cs 0)):=by
  rw[Sg];refine hm.cG none (fun r c f h=>?_)
  rw[s9]at h;split at h
  .cases h;exact rY b0M _ (cf _)
  .cases h
 have qC:St ((T8 V0).O4 (T9 j) none) (some w.heap.size) F (max j.length E.ntmps) (K.cG none) H (u9 (AK j 0)) (l9 (AP cs 0)) {tmps:=vs.toArray++Array.replicate (E.ntmps- vs.toArray.size) undef,defers:=[]} w:=by
  refine⟨l8.cG _,JQ,?_,⟨aw _,[],rfl,jz,fun D hD=>by simp at hD⟩,fun t=>rX G _ t,hV0⟩
  simp[hlen];omega
 refine hS V0 F (K.cG none) H _ w _ qC G2 ?_;have fin:∀ (d:j7) (J:Act) (w':World),VG imm P E cs d k->gD (T8 V0) (some w.heap.size) F F (max j.length E.ntmps) (K.cG none) w d J w'->LeavesInM (Wd none) 0 P E J.tmps (fun e w'=>
   ∃v r S K' H',e=.returned v/\k r S/\K.le K'/\b9 K' H' r v/\l5 F K' H' w' (G4 (fun _=>none) 0 S)/\(∀r,S.length<=r->H' r=none)/\L4 F K' w'/\Kept F w w'/\Fix F K K'/\cs.length<=S.length/\∀r,r<cs.length->H' r=H r) J.defers .returning w':=by
  intro d J w' o ht;obtain⟨⟨F',K1,R,jT,z,Ky,uM,Y⟩,U⟩:=ht;obtain⟨m0,Ds,hDs,Cs,hD⟩:=z.defers;rw[hDs];refine kY Ds w' Cs (fun D h=>(hD D h).2.2) ?_
  obtain⟨Z,L,N⟩:=DO (F:=F) Ds w' Cs (fun D h=>⟨(hD D h).2.1,fun hb=>by
   have h1:=l8.lt D hb;have h2:=(hD D h).1
   omega,(hD D h).2.2⟩) z.ok z.mem
  generalize shut Ds w'=w2 at Z L N ⊢;have hx1:c6 K1 R d.gh V0:=z.x;have aT:St ((T8 V0).O4 d.gh d.o7) none F' (max j.length E.ntmps) K1 R d.s6.T d.s6.m {J with defers:=[]} w2:=⟨Z,L,z.size,rfl,z.tmp,hx1⟩;unfold VG at o;split at o
  rotate_left
  .exact o.elim
  rename_i u Hz a7l;split at o
  rotate_left
  .exact o.elim
  rename_i b0O;have PB:=kS b0O;obtain⟨l1,l2,l3,hsp⟩:=pQ _ _ _ _ a7l;split at o
  .rename_i rs WE;obtain⟨o,a7m⟩:=aU _ _ o;obtain⟨xs,gI,oB⟩:=CI (P:=P) aT rfl a7m WE;refine⟨_,gI,?_⟩;have a7n:=cK P E.resultTypes.toList _ _ oB
   let HR0:Nat->Option Hd:=fun i=>if i<u.length then R (u.getD i 0)else none
   have Nn:l5 F K1 R w2 (l9 d.M):=L.less jT;have rg:∀r c f,G4 (fun _=>none) 0 Hz r=some (c,f)->r<u.length/\l9 d.M (u.getD r 0)=some (c,.own)/\c.plain=true/\HR0 r=R (u.getD r 0):=by
    intro r c f o;rw[s9]at o;split at o
    .rename_i hcc;simp only[ae,aq]at o;have C:r<d.gh.length:=by omega
     obtain⟨a,c0,c',b1,b2,b3,b4,b5,b6⟩:=hsp r C;have e:Hz[r- 0]'(by omega)=c':=by
      rw[ag (by omega)]at b3
      simpa using b3
     rw[e]at o;obtain⟨rfl,_⟩:=o;exact⟨by omega,b5,Gm b6,by show(if r<u.length then _ else _)=_;rw[aj (by omega)]⟩
    .cases o
   have hI:wT F K1 R w2 (y8 (l9 d.M) (sU u)) HR0 Hz:=by
    refine⟨Z.less jT,CJ u _ Nn,⟨?_,?_,?_,?_⟩,fun r o=>by show(if r<u.length then _ else _)=_;rw[ai (by omega)],?_⟩
    .intro r c f hd I X q3;obtain⟨a1,a2,a3,a4⟩:=rg r c f I;rw[a4]at q3;exact lH a3 (.refl K1) (Nn.cont _ c .own hd a2 (by simp) q3)
    .intro r c hd b I X q3;obtain⟨a1,a2,a3,a4⟩:=rg r c _ I;rw[a4]at X;exact Nn.own _ c hd b a2 X q3
    .intro r c hd b I X q3;rw[s9]at I;split at I
     .cases I
     .cases I
    .intro r r' c c' hd O b I X q3 q4 q5 q6;obtain⟨a1,a2,a3,a4⟩:=rg r c _ I;obtain⟨b1,b2,b3,b4⟩:=rg r' c' _ X;rw[a4]at q3;rw[b4]at q4;exact getD_inj PB a1 b1 (Nn.inj _ _ c c' hd O b a2 b2 q3 q4 q5 q6)
    .intro r c hd r' c' O b I X q3 q4 q5 q6;obtain⟨k1,k2⟩:=CK u _ r c I;obtain⟨a1,a2,a3,a4⟩:=rg r' c' _ q3;rw[a4]at q4;have e:=Nn.inj _ _ c c' hd O b k2 a2 X q4 q5 q6;exact k1 (e▸rG a1)
   have hL:aY (bI u R) HR0:=by
    intro r hd o;unfold bI at o;cases hg:u[r]? with
    |none=>rw[hg]at o;cases o
    |some y=>
     rw[hg]at o;have C:r<u.length:=aO hg;show(if r<u.length then R (u.getD r 0)else none)=_
     rw[aj C,rF C];rw[ag C]at hg;simp only[ae]at hg;rw[hg];exact o
   have go:∀os ocs,AO imm u (y8 (l9 d.M) (sU u)) (I7 P E.resultTypes.toList rs) Hz.length=some (os,ocs)->∀r,r.AL=true->Ei ocs=true->(∀K' H',c6 K' H' os xs->b9 K' H' r (if h:xs.length=1 then xs[0]else .tuple xs.toArray))->k r (Hz++ocs)->
     ∃v r S K' H',Ending.returned (if h:xs.length=1 then xs[0]else .tuple xs.toArray)=Ending.returned v/\k r S/\K.le K'/\b9 K' H' r v/\l5 F K' H' w2 (G4 (fun _=>none) 0 S)/\(∀r,S.length<=r->H' r=none)/\L4 F K' w2/\Kept F w w2/\Fix F K K'/\cs.length<=S.length/\∀r,r<cs.length->H' r=H r:=by
    intro os ocs ho r s b0P o hk;obtain⟨K2,HR,m2,b1,b2,b3,b4,b5⟩:=Gj _ _ Hz ocs xs K1 _ HR0 ho hL a7n hI;refine⟨_,r,Hz++ocs,K2.cG K.y,HR,rfl,hk,⟨fun b cs h=>b1.cells _ _ (Ky.cells _ _ h),fun b p h=>b1.inv _ _ (Ky.inv _ _ h),fun _ h=>h⟩,Kq _ _ _ s (o K2 HR b5),?_,b4.none,b4.ok.cG _,U.trans N,fun b hb=>?_,by rw[bu];omega,fun q hq=>?_⟩
    .refine b4.res.cG _ (fun r c f h=>?_)
     rw[s9]at h;split at h
     .rename_i hcc;simp only[ae,aq]at h;have A:c∈Hz++ocs:=by rw[<-h.1];exact cf _
      rcases cj.1 A with A|A
      .obtain⟨i,hi,e⟩:=iw A;have:=rg i Hz[i] .own (by rw[s9,ic (by omega)];simp)
       rw[<-e];exact Ut this.2.2.1
      .exact rY b0P _ A
     .cases h
    .have f1:=Y b hb;have f2:=b3 b hb;exact⟨f2.1.trans f1.1,f2.2.trans f1.2⟩
    .have C:q<d.gh.length:=by omega
     obtain⟨a,c0,c',e1,e2,e3,e4,e5,e6⟩:=hsp q C;obtain⟨n1,n2⟩:=vK (T9 j) 0 cs b0N;have hq2:q<(T9 j).length:=by omega
     obtain⟨x,y1,y2⟩:=c6.get q a hx1 e1;obtain⟨x',z1,z2⟩:=c6.get q ((T9 j)[q]) hV0 (ag hq2);rw[y1]at z1;cases z1;obtain⟨p1,p2⟩:=n2 q _ _ (ag hq2) e2;rw[bz]at p2;have hcq:l9 (AP cs 0) q=some (c0,.own):=by
      rw[BB,ic (by omega)]
      rw[ag (by omega)]at e2
      simp only[ae]at e2;simpa using e2
     have bN:∃hd,H q=some hd:=by
      rcases p2 with⟨f,t,l,g1,_⟩|⟨mk,l,kk,g1,_⟩
      .rw[g1]at z2;simp only[b9]at z2;obtain⟨hd,g,_⟩:=z2;exact⟨hd,g⟩
      .rw[g1]at z2;simp only[b9]at z2;obtain⟨hd,_,g,_⟩:=z2;exact⟨hd,g⟩
     have kB:∃hd,R (u.getD q 0)=some hd:=by
      cases a<;>simp only[uU]at e4<;>try cases e4
      .simp only[b9]at y2;obtain⟨hd,g,_⟩:=y2;exact⟨hd,g⟩
      .simp only[b9]at y2;obtain⟨hd,_,g,_⟩:=y2;exact⟨hd,g⟩
     obtain⟨hd,g1⟩:=bN;obtain⟨O,g2⟩:=kB;have rno:uU ((T9 j)[q])=some q:=by
      rcases p2 with⟨f,t,l,g,_⟩|⟨mk,l,kk,g,_⟩<;>rw[g]<;>rfl
     have:=head_eq rno e4 z2 y2 g1 g2 e6 (JQ.cont q c0 .own hd hcq (by simp) g1) (Nn.cont _ c' .own O e5 (by simp) g2) (by
      rcases p2 with⟨f,t,l,g,g'⟩|⟨mk,l,kk,g,g'⟩
      .exact .inl ⟨_,f,t,l,g,g'⟩
      .exact .inr ⟨_,mk,l,kk,g,g'⟩)
     rw[g1,<-this];refine b2 _ _ ?_;show(if q<u.length then R (u.getD q 0)else none)=_
     rw[aj (by omega)]
     exact g2
   split at o
   .rename_i v ocs ho;split at o
    .rename_i s;simp only[ah]at s;refine go _ _ ho v s.1 s.2 (fun K' H' hx=>?_) o
     obtain⟨x,xs',rfl,h1,h2⟩:=hx.inv;have:xs'=[]:=c6.J8.1 h2;subst this;simpa using h1
    .exact o.elim
   .rename_i os ocs Dy ho;split at o
    .rename_i s;simp only[ah]at s;refine go _ _ ho (.M1 os) (by simpa [a7.AL]using s.1) s.2 (fun K' H' hx=>?_) o
     have u:xs.length≠1:=by
      intro e;have:=c6.length hx;rw[e]at this
      match os,Dy with
      |[v],Dy=>exact Dy v rfl
      |[],_=>simp at this
      |_::_::_,_=>simp at this
     rw[ll u];simp only[b9];exact⟨xs.toArray,rfl,hx⟩
    .exact o.elim
   .exact o.elim
  .exact o.elim
 intro e d J w' hk hn' ht;cases e with
 |normal=>exact fin d J w' hk ht
 |ret=>exact fin d J w' hk ht
 |exit id=>exact hk.elim
theorem W0{Γ:Env}{P:Program}{kt:FuncId->Nat->List Nat}{imm:Bool}{f:FuncId}{d:Func}{b:List a7}{cs:List c7}{k:a7->List c7->Prop}(m4:P.follows .mixedOrders=true)(p:Good P Γ)(r:P.funcs[f]? =some d)(g:(d.body.map Code.j5).getD true=true)
  (h:awpF Γ P kt f imm d b cs k):jE P f b cs k:=by
 unfold awpF at h;split at h
 .rename_i c q;split at h
  .rename_i i;exact XK r q i (fun V F K H a w Q j n s=>mV m4 p (Nm m4 p kt) c (by simpa [q]using g) (T8 V) (some w.heap.size) F none none _ .top (jV V) (fun l h=>by cases h) ⟨trivial,fun _=>rfl⟩ (.inl (fun h=>by cases h)) _ _ F K H a w Q h rfl (fun _ h=>h) (fun l e=>by cases e) j n (fun e o t w' u=>s e o t w' (by cases e<;>exact u)))
  .exact h.elim
 .exact h.elim
def cE(b:List Hd):Ctx:=fun _ _ H c _ _=>c.length=b.length/\∀ (q:Nat) (a:a7) (r:Nat),c[q]? =some a->U0 a=some r->∃hd,b[q]? =some hd/\H r=some hd
theorem Qb{l:List Nat}{a:a7}{i:Nat}(h:U0 (a.eF l)=some i):∃r,U0 a=some r/\idx l r 0=some i:=by
 cases a<;>simp only[a7.eF]at h<;>try (simp[U0]at h;done)
 case O1 r f=>
  cases c:idx l r 0 with
  |none=>rw[c]at h;simp[U0]at h
  |some j=>rw[c]at h;simp only[U0,ae]at h;exact⟨r,rfl,by rw[c,h]⟩
 case B9 r=>
  cases c:idx l r 0 with
  |none=>rw[c]at h;simp[U0]at h
  |some j=>rw[c]at h;simp only[U0,ae]at h;exact⟨r,rfl,by rw[c,h]⟩
 case ptr r o=>
  cases c:idx l r 0 with
  |none=>rw[c]at h;simp[U0]at h
  |some j=>rw[c]at h;simp only[U0,ae]at h;exact⟨r,rfl,by rw[c,h]⟩
 case sub r a b f=>
  cases c:idx l r 0<;>rw[c]at h<;>simp[U0]at h
 case P5 r a b=>
  cases c:idx l r 0<;>rw[c]at h<;>simp[U0]at h
 case P6 r=>
  cases c:idx l r 0<;>rw[c]at h<;>simp[U0]at h
theorem No(l:List Nat):∀ (b:List a7),(L5 l b).length=b.length
 |[]=>by simp[L5]
 |a::b=>by simp[L5,No l b]
theorem Np(l:List Nat):∀ (b:List a7) (q:Nat),(L5 l b)[q]? =(b[q]?).map (·.eF l)
 |[],q=>by simp[L5]
 |a::b,q=>by
  cases q with
  |zero=>simp[L5]
  |succ q=>simp only[L5,cx];exact Np l b q
theorem pF(d:List Hd):(cE d).Ok:=
 ⟨fun _ _=>⟨fun _ _ _ _ _ _ _ _ h _ _ i _=>⟨h.1,fun q a r c e=>by
   obtain⟨hd,f,g2⟩:=h.2 q a r c e
   exact⟨hd,f,i _ _ g2⟩⟩⟩,
  fun _ _ H l j _ _ h=>⟨by rw[No];exact h.1,fun q a r c e=>by
   rw[Np]at c;cases g:j[q]? with
   |none=>rw[g]at c;cases c
   |some b=>
    rw[g]at c;simp only[da,ae]at c;subst c;obtain⟨r0,f,g2⟩:=Qb e;obtain⟨hd,k,n⟩:=h.2 q b r0 g f;refine⟨hd,k,?_⟩;unfold bI;rw[Rv g2]
    exact n⟩⟩
theorem nA:∀ (cs:List c7) (i:Nat) (j:List a7),VH cs i=some j->j.length=cs.length/\∀q a,j[q]? =some a->U0 a=some (i+q)
 |[],i,j,h=>by
  simp only[VH,ae]at h;subst h;exact⟨rfl,fun q a h=>by simp at h⟩
 |c::cs,i,j,h=>by
  unfold VH at h;split at h
  .rename_i t l b e;simp only[ae]at h;subst h;obtain⟨f,g⟩:=nA cs (i+1) b e;refine⟨by simp[f],fun q a d=>?_⟩
   cases q with
   |zero=>simp at d;subst d;rfl
   |succ q=>have:=g q a (by simpa using d);rw[this];congr 1;omega
  .rename_i mk l clk b e;simp only[ae]at h;subst h;obtain⟨f,g⟩:=nA cs (i+1) b e;refine⟨by simp[f],fun q a d=>?_⟩
   cases q with
   |zero=>simp at d;subst d;rfl
   |succ q=>have:=g q a (by simpa using d);rw[this];congr 1;omega
  .rename_i cells b e;simp only[ae]at h;subst h;obtain⟨f,g⟩:=nA cs (i+1) b e;refine⟨by simp[f],fun q a d=>?_⟩
   cases q with
   |zero=>simp at d;subst d;rfl
   |succ q=>have:=g q a (by simpa using d);rw[this];congr 1;omega
  .rename_i k n o p r b e;simp only[ae]at h;subst h;obtain⟨f,g⟩:=nA cs (i+1) b e;refine⟨by simp[f],fun q a d=>?_⟩
   cases q with
   |zero=>simp at d;subst d;rfl
   |succ q=>have:=g q a (by simpa using d);rw[this];congr 1;omega
  .cases h
theorem CL:∀ (vs:List a7) (b:List Nat),AQ vs=some b->b.length=vs.length/\∀q,q<vs.length->∃a,vs[q]? =some a/\U0 a=some (b.getD q 0)
 |[],b,h=>by
  simp only[AQ,ae]at h;subst h;exact⟨rfl,fun q c=>by simp at c⟩
 |v::vs,b,h=>by
  unfold AQ at h;split at h
  .rename_i r d e f;simp only[ae]at h;subst h;obtain⟨g,g2⟩:=CL vs d f;refine⟨by simp[g],fun q c=>?_⟩
   cases q with
   |zero=>exact⟨v,rfl,by simpa using e⟩
   |succ q=>
    obtain⟨a,i,j⟩:=g2 q (by simpa using c)
    exact⟨a,by simpa using i,by simpa using j⟩
  .cases h
theorem a07{X:fW}{P:Program}{s:Func}{t:j7}{k:a7->List c7->Prop}{F Y:Nat->Prop}{K1:b8}{u:Nat->Option Hd}{a:Act}{y:World}{n:Nat}(J:St X none Y n K1 u t.s6.T t.s6.m a y)(N:l5 F K1 u y (l9 t.M))(b:VJ P s t k):
  ∃z L I j r v,AQ t.gh=some z/\L=z++I/\L.length=j.length/\(results s a.tmps).run P y=.ok v y/\k r j/\r.AL=true/\Ei j=true/\b9 K1 (bI L u) r v/\l5 F K1 (bI L u) y (G4 (fun _=>none) 0 j):=by
 unfold VJ at b;split at b
 rotate_left
 .exact b.elim
 rename_i z d;split at b
 rotate_left
 .exact b.elim
 rename_i A;have l:=kS A;split at b
 rotate_left
 .exact b.elim
 rename_i O R;obtain⟨b,o⟩:=aU _ _ b;obtain⟨xs,f,B⟩:=CI (P:=P) J rfl o R;have p:=cK P s.resultTypes.toList _ _ B;obtain⟨L,Z,C,I,h⟩:=Mj (l9 t.M) (I7 P s.resultTypes.toList O) l;rw[Z]at b;split at b
 rotate_left
 .exact b.elim
 rename_i j D;split at b
 rotate_left
 .exact b.elim
 rename_i i;have E:=(bV _ _ D).1;have G:=Pg N C D;have c:c6 K1 (bI L u) (L5 L (I7 P s.resultTypes.toList O)) xs:=Q8 _ _ p;generalize L5 L (I7 P s.resultTypes.toList O)=V at b c;split at b
 .rename_i v;split at b
  rotate_left
  .exact b.elim
  rename_i g;obtain⟨x,S,rfl,h1,h2⟩:=c.inv;have:S=[]:=c6.J8.1 h2;subst this;exact⟨z,L,I,j,v,x,d,h,E.symm,by simpa using f,b,g,i,h1,G⟩
 .rename_i q;split at b
  rotate_left
  .exact b.elim
  rename_i g;have U:xs.length≠1:=by
   intro e;have:=c6.length c;rw[e]at this
   match V,q with
   |[v],q=>exact q v rfl
   |[],_=>simp at this
   |_::_::_,_=>simp at this
  rw[ll U]at f;exact⟨z,L,I,j,.M1 V,_,d,h,E.symm,f,b,by simpa [a7.AL]using g,i,by simp only[b9];exact⟨xs.toArray,rfl,c⟩,G⟩
theorem Gn{Γ:Env}{P:Program}{kt:FuncId->Nat->List Nat}{f:FuncId}{z:Func}{j:List a7}{cs:List c7}{k:a7->List c7->Prop}(m4:P.follows .mixedOrders=true)(hG:Good P Γ)(hf:P.funcs[f]? =some z)(BC:(z.body.map Code.j5).getD true=true)
  (h:awpG Γ P kt f z j cs k):jE P f j cs k:=by
 intro F K H w vs U o hm G2 ZJ;unfold awpG at h;split at h
 .rename_i c gs hc hgs;split at h
  .rename_i V;simp only[ah]at V;obtain⟨X,Y⟩:=V;refine Ff (n:=0) (kr hf hc (bU none _) ?_);have Z:=c6.length o;have A:=U5 none _ _ X o;obtain⟨gl,gr⟩:=nA cs 0 gs hgs
   let g:List Hd:=(List.range cs.length).map (fun q=>(H q).getD ⟨none,0,0,0⟩)
   have C:∀q,q<cs.length->∃hd,g[q]? =some hd/\H q=some hd:=fun q O=>by
    obtain⟨hd,e⟩:=ZJ q O;exact⟨hd,by simp[g,O,e],e⟩
   have JQ:l5 F (K.cG none) H w (l9 (AP cs 0)):=by
    rw[Sg];refine hm.cG none (fun r c f h=>?_)
    rw[s9]at h;split at h
    .cases h;exact rY Y _ (cf _)
    .cases h
   have ZK:cE g F (K.cG none) H gs none w:=by
    refine⟨by simp[g,gl],fun q a r h1 h2=>?_⟩
    have:=gr q a h1;rw[h2]at this;simp only[ae]at this;have O:q<cs.length:=by rw[<-gl];exact aO h1
    obtain⟨hd,e1,e2⟩:=C q O;exact⟨hd,e1,by rw[this,bz];exact e2⟩
   have qC:St ((cE g).O4 gs none) (some w.heap.size) F (max j.length z.ntmps) (K.cG none) H (u9 (AK j 0)) (l9 (AP cs 0)) {tmps:=vs.toArray++Array.replicate (z.ntmps- vs.toArray.size) undef,defers:=[]} w:=by
    refine⟨U.cG _,JQ,?_,⟨aw _,[],rfl,jz,fun D R=>by simp at R⟩,fun t=>rX A _ t,ZK⟩
    simp[Z];omega
   refine mV m4 hG (Nm m4 hG kt) c (by simpa [hc]using BC) (cE g) (some w.heap.size) F none none _ .top (pF g) (fun l h=>by cases h) ⟨trivial,fun _=>rfl⟩ (.inl (fun h=>by cases h)) _ _ F (K.cG none) H _ w _ h rfl (fun _ h=>h) (fun l e=>by cases e) qC G2 ?_
   have fin:∀ (d:j7) (E:Act) (w':World),VJ P z d k->gD (cE g) (some w.heap.size) F F (max j.length z.ntmps) (K.cG none) w d E w'->LeavesInM (Wd none) 0 P z E.tmps (fun e w'=>
     ∃v r S K' H',e=.returned v/\k r S/\K.le K'/\b9 K' H' r v/\l5 F K' H' w' (G4 (fun _=>none) 0 S)/\(∀r,S.length<=r->H' r=none)/\L4 F K' w'/\Kept F w w'/\Fix F K K'/\cs.length<=S.length/\∀r,r<cs.length->H' r=H r) E.defers .returning w':=by
    intro d E w' hr ht;obtain⟨⟨F',K1,H1,jT,i,Ky,uM,I⟩,B⟩:=ht;obtain⟨m0,Ds,hDs,Cs,R⟩:=i.defers;rw[hDs];refine kY Ds w' Cs (fun D h=>(R D h).2.2) ?_
    obtain⟨J,s,u⟩:=DO (F:=F) Ds w' Cs (fun D h=>⟨(R D h).2.1,fun hb=>by
     have h1:=U.lt D hb;have h2:=(R D h).1
     omega,(R D h).2.2⟩) i.ok i.mem
    generalize shut Ds w'=w2 at J s u ⊢;have hx1:cE g F' K1 H1 d.gh d.o7 w':=i.x;obtain⟨xl,xh⟩:=hx1;have aT:St ((cE g).O4 d.gh d.o7) none F' (max j.length z.ntmps) K1 H1 d.s6.T d.s6.m {E with defers:=[]} w2:=⟨J,s,i.size,rfl,i.tmp,xl,xh⟩;obtain⟨hl,L,tl,S,r,v,M,G,hLl,gI,hk,b0R,b0S,oB,hgr⟩:=a07 (P:=P) aT (s.less jT) hr;obtain⟨l1,l2⟩:=CL _ _ M;have hlc:hl.length=cs.length:=by rw[l1,xl];simp[g]
    have b5R:L.length=hl.length+tl.length:=by rw[G,bu]
    refine⟨_,gI,?_⟩;have N:∀q,q<cs.length->bI L H1 q=H q:=fun q O=>by
     obtain⟨a,g1,g2⟩:=l2 q (by omega)
     obtain⟨hd,k1,k2⟩:=xh q a _ g1 g2;obtain⟨S9,e1,e2⟩:=C q O;rw[e1]at k1;cases k1;rw[yW (by omega),e2,<-k2,G]
     congr 1;simp only[List.getD,bc (show q<hl.length by omega)]
    refine⟨v,r,S,K1.cG K.y,bI L H1,rfl,hk,⟨fun b cs h=>Ky.cells _ _ h,fun b p h=>Ky.inv _ _ h,fun _ h=>h⟩,Kq _ _ _ b0R oB,?_,fun r hr=>Mi (by omega),(J.less jT).cG _,B.trans u,fun b hb=>I b hb,by omega,N⟩
    refine hgr.cG _ (fun r c f h=>?_)
    rw[s9]at h;split at h
    .rename_i hcc;simp only[ae,aq]at h;rw[<-h.1];exact rY b0S _ (cf _)
    .cases h
   intro e d E w' hk hn' ht;cases e with
   |normal=>exact fin d E w' hk ht
   |ret=>exact fin d E w' hk ht
   |exit id=>exact hk.elim
  .exact h.elim
 .exact h.elim
end Go.Abs
end
section
namespace Go.Abs
theorem IA{P:Program}{f:Nat}(h:Lz P f=true):∃a c,P.funcs[f]? =some a/\a.body=some c/\Code.j5 c=true/\o9 a.ntmps c=true/\(a.name== "runtime.NumGoroutine")=false/\lE P f=c:=by
 unfold Lz at h;cases d:P.funcs[f]? with
 |none=>rw[d]at h;cases h
 |some a=>
  rw[d]at h;simp only at h;cases b:a.body with
  |none=>rw[b]at h;cases h
  |some c=>
   rw[b]at h;simp only[ah,dx]at h;refine⟨a,c,rfl,b,h.1.1,h.1.2,h.2,?_⟩;unfold lE;rw[d];simp only;rw[b]
theorem Qc{P:Program}{f:Nat}{a:Func}(b:P.funcs[f]? =some a)(h:Ro P f=true):a.results.size=0:=by
 unfold Ro at h;rw[b]at h;exact ab h
theorem XL(l:List BV):xW l<4294967291:=by
 cases l with
 |nil=>exact(by decide:0<4294967291)
 |cons v l=>exact fk _ (by decide)
theorem Sh{a:List BV}{E:Nat}{A:z7}(h:∀t,o8 E A t=if 0<=t/\t<0+a.length then a.getD (t- 0) .u else o8 (xW a) [] t):TE E A=u9 (AK (a.map I1) 0):=by
 funext t;rw[Gl,aj (fx _),kl];unfold TE;rw[h,kl,bz];by_cases b:t<a.length
 .rw[aj ⟨fx _,b⟩];simp[List.getD,b]
 .rw[ai (fun hh=>b hh.2),an (by simpa using b),T6,aj]
  .rfl
  .rw[zT];have d:xW a<cB^ (t+1):=by
    have e:=XL a;have c:cB^1<=cB^ (t+1):=mz (by decide) (by omega)
    rw[fg]at c;exact cc (oo e (by decide)) c
   rw[fl d,ra]
section
variable {P:Program} {R:z0} {z:BV} {l:List HO} {Fu:Nat}
theorem a4r:N3 P (mZ (fun _ f _ _ _ _=>.er 531 f) z l):=by
 intro h b args s0 k X F0 F K H w vs c Q a;obtain⟨y,d,nx,D,kk,_,hI,_⟩:=a;cases hI
theorem Gp(m4:P.follows .mixedOrders=true)(hR:F7 P R):N3 P (mZ (Td Fu P R) z l):=by
 intro h L args s0 k X F0 F K H w vs lp Q XM hX q hF hy l8 hm G2 s hx u;obtain⟨y,bs,nx,D,kk,rfl,hI,ZK,hM0,yE,hYI,hk⟩:=XM;have hI:iB (Lz P L && Ro P L) (kN bs 0 (xW bs) [] fun E A=>xV (lE P L) P Fu R (fun _ f _ _ _ _=>.er 531 f) (some y) E A nx D 0 fun e _ _ a D' m=>pM e (kk a D' m) (fun _=>.er 532 L) (kk a D' m)) (.er 533 L)=.ok z l:=hI
 rw[a9]at hI;split at hI
 .rename_i hb;simp only[ah]at hb;obtain⟨J,c,v,hc,BC,hds,B,C⟩:=IA hb.1;have N:=Qc v hb.2;obtain⟨E,A,h1,h2⟩:=wS _ _ _ _ _ hI;rw[C]at h1;refine⟨eC v hc B,?_⟩;refine kr v hc (bU none _) ?_;obtain⟨n,g⟩:=B4.ex J.ntmps ((s0.tmps.map (·.1)).map (u9 s0.tmps)++s0.gh) E A nx D 0 yE
  refine eV m4 hR a4r c BC hds X none F0 none (some lp) _ (some y) (some h) hX (fun l h=>by cases h) ⟨rfl,rfl,lp,rfl,q⟩ hYI (.inr (fun y f args nx D k h=>by cases h)) E A nx D 0 _ n F K H _ w _ h1 g hF (fun l' e=>by cases e;exact hy) ?_ (fun r hr=>G2 r (by rw[ZK];rw[g.nx]at hr;exact hr)) ?_
  .refine⟨l8,?_,?_,rfl,fun t=>?_,?_⟩
   .rw[g.vJ,<-hM0];exact hm
   .show J.ntmps<=_;simp;omega
   .have:n.s6.T=TE E A:=g.tmps;rw[this,Sh h2];exact rX s _ t
   .show X F K H n.gh n.o7 w;rw[g.gh,g.o7];exact hx
  .have O:∀S U a D' m b p w',kk a D' m=.ok z l->B4 J.ntmps ((s0.tmps.map (·.1)).map (u9 s0.tmps)++s0.gh) S U a D' m b->gD X none F0 F J.ntmps K w b p w'->LeavesInM (Wd none) 0 P J p.tmps Q p.defers .returning w':=by
    intro S U a D' m b p w' G d Z;obtain⟨⟨F',K',H',jT,o,hK,V,Y⟩,I⟩:=Z;have hd:p.defers=[]:=o.defers;rw[hd];refine⟨.tuple #[],?_,u b F' K' H' w' _ (hk a D' m b G d.nx d.M d.gh d.o7 d.lt) jT o.ok o.mem V o.x hK Y I⟩;have:J.results= #[]:=ed N;simp[results,this]
   intro e S U a D' m b p w' G d Z;rcases O9 G with⟨rfl,j⟩|⟨i,rfl,j⟩|⟨rfl,j⟩
   .exact O S U a D' m b p w' j d Z
   .cases j
   .exact O S U a D' m b p w' j d Z
 .cases hI
theorem BD{ev:Code->pX}(n6:∀ (z:BV) (l:List HO) (n:Nat) (c:Code),Code.j5 c=true->o9 n c=true->Sa P Fu R (Td Fu P R) z l n (ev c) c):F7 P (fun f args b=>iB (Lz P f) (iB (Nat.ble (B8 b) 1000000) (kN args 0 (xW args) [] fun E A=>news b 0 .e fun m D=>ev (lE P f) P Fu R (Td Fu P R) none E A m D 0 fun e s A' d D' _=>
  pM e (AZ P f m b s A' (m6 d D')) (fun _=>.er 535 f) (AZ P f m b s A' (m6 d D'))) (.er 536 f)) (.er 537 f)):=by
 intro f args b v l h;simp only[a9]at h;split at h
 rotate_left
 .cases h
 rename_i hfn;split at h
 rotate_left
 .cases h
 rename_i O;have O:b.length<=1000000:=by have:=af O;rwa [zI]at this
 obtain⟨fn,c,X,hc,BC,hds,Y,Z⟩:=IA hfn;obtain⟨E,A,h,h2⟩:=wS _ _ _ _ _ h;obtain⟨D,MZ,Xx⟩:=mT b 0 (.e:m8) (fun m D=>ev (lE P f) P Fu R (Td Fu P R) none E A m D 0 fun e s A' d D' _=>pM e (AZ P f m b s A' (m6 d D')) (fun _=>.er 535 f) (AZ P f m b s A' (m6 d D')))
 rw[MZ,Z]at h;rw[bz]at h Xx;refine⟨eC X hc Y,?_⟩;intro F K H w vs l8 yJ hm G2 ZJ;refine Ff (n:=0) (kr X hc (bU none _) ?_);simp only[dy]at G2 ZJ
 let k:List Hd:=(List.range b.length).map (fun q=>(H q).getD ⟨none,0,0,0⟩)
 let S:List a7:=(List.range b.length).map a7.B9
 have U:∀q,q<b.length->∃hd,k[q]? =some hd/\H q=some hd:=fun q J=>by
  obtain⟨hd,e⟩:=ZJ q J;exact⟨hd,by simp[k,J,e],e⟩
 have hgs:∀ (q:Nat) (a:a7) (r:Nat),S[q]? =some a->U0 a=some r->r=q/\q<b.length:=fun q a r h1 h3=>by
  have J:q<b.length:=by simpa [S]using O8 h1
  simp only[S,bo,fy J,da,ae]at h1;subst h1;simp only[U0,ae]at h3;exact⟨h3.symm,J⟩
 have hdm:G9 (G4 (fun _=>none) 0 (b.map c7.z5))=m6 b.length D:=by
  funext r;rw[MG,Xx r,aj (fx r),kl,bz];by_cases L:r<b.length
  .rw[aj ⟨fx _,L⟩]
  .rw[ai (fun hh=>L hh.2),an (by omega)];rfl
 obtain⟨M,y⟩:=B4.ex fn.ntmps S E A b.length D 0 (by omega)
 refine n6 _ _ _ c BC hds (cE k) (some w.heap.size) F none S (pF k) (fun l h=>by cases h) (fun h=>by cases h) E A b.length D 0 _ M F K H _ w _ h y (fun _ h=>h) ?_ (fun r L=>G2 r (by rw[y.nx]at L;exact L)) ?_
 .refine⟨l8,?_,?_,⟨aw _,[],rfl,jz,fun D hD=>by simp at hD⟩,fun t=>?_,?_⟩
  .rw[y.vJ];exact hm.sub (fun r x hx=>mU hdm r x hx)
  .show fn.ntmps<=_;simp;omega
  .have:M.s6.T=TE E A:=y.tmps;rw[this,Sh h2];exact rX yJ _ t
  .show cE k F K H M.gh M.o7 w;rw[y.gh];refine⟨by simp[k,S],fun q a r h1 h3=>?_⟩
   obtain⟨rfl,J⟩:=hgs q a r h1 h3;obtain⟨hd,e1,e2⟩:=U r J;exact⟨hd,e1,e2⟩
 .have fin:∀s A' d D' p' g V w',AZ P f b.length b s A' (m6 d D')=.ok v l->B4 fn.ntmps S s A' d D' p' g->gD (cE k) (some w.heap.size) F F fn.ntmps K w g V w'->LeavesInM (Wd none) 0 P fn V.tmps (fun e w'=>
    ∃x r RM K' H',e=.returned x/\(r=I1 v/\RM=l.map c7.z5)/\K.le K'/\b9 K' H' r x/\l5 F K' H' w' (G4 (fun _=>none) 0 RM)/\(∀r,RM.length<=r->H' r=none)/\L4 F K' w'/\Kept F w w'/\Fix F K K'/\(b.map c7.z5).length<=RM.length/\∀r,r<(b.map c7.z5).length->H' r=H r) V.defers .returning w':=by
   intro s A' d D' p' g V w' Pk u ht;obtain⟨⟨F',K1,H1,jT,p,Ky,uM,a7o⟩,N⟩:=ht;obtain⟨m0,Ds,hDs,Cs,hD⟩:=p.defers;rw[hDs];refine kY Ds w' Cs (fun D h=>(hD D h).2.2) ?_
   obtain⟨ok2,B,C⟩:=DO (F:=F) Ds w' Cs (fun D h=>⟨(hD D h).2.1,fun hb=>by
    have h1:=l8.lt D hb;have h2:=(hD D h).1
    omega,(hD D h).2.2⟩) p.ok p.mem
   generalize shut Ds w'=w2 at ok2 B C ⊢;have hx1:cE k F' K1 H1 g.gh g.o7 w':=p.x;rw[u.gh]at hx1;have G:∀q,q<b.length->∃hd,H1 q=some hd/\H q=some hd:=fun q J=>by
    obtain⟨hd,g1,g2⟩:=hx1.2 q (.B9 q) q (by simp[S,J]) rfl
    obtain⟨S9,e1,e2⟩:=U q J;rw[e1]at g1;cases g1;exact⟨_,g2,e2⟩
   rw[u.vJ]at B;have b0T:∀t,b9 K1 H1 (TE s A' t) (V.tmps.getD t undef):=by
    have:g.s6.T=TE s A':=u.tmps;rw[<-this];exact p.tmp
   obtain⟨x,H',r1,r2,r3,r4,r5,r6⟩:=a05 (K:=K) (H:=H) (w:=w) X (B.less jT) b0T (fun j o hj=>by
    obtain⟨hd,g1,g2⟩:=G j (O8 hj)
    exact⟨hd,g1,hm.cont j _ .own hd (kW hj) (by simp) g2⟩) Pk
   refine⟨x,r1,x,I1 v,l.map c7.z5,K1,H',rfl,⟨rfl,rfl⟩,Ky,r2.I1,r3,by simpa using r4,ok2.less jT,N.trans C,a7o,by simpa using r5,fun r L=>?_⟩
   have L:r<b.length:=by simpa using L
   obtain⟨hd,g1,g2⟩:=G r L;rw[r6 r L,g1,g2]
  intro e s A' d D' p' g V w' Pk u ht;rcases O9 Pk with⟨rfl,I⟩|⟨i,rfl,I⟩|⟨rfl,I⟩
  .exact fin s A' d D' p' g V w' I u ht
  .cases I
  .exact fin s A' d D' p' g V w' I u ht
end
end Go.Abs
end
section
namespace Go.Abs
noncomputable section
inductive KE where
 |mk (f:Nat) (a:List BV) (o:List HO) (v:BV) (l:List HO)
def IB:List KE->z0->z0:=@List.rec KE (fun _=>z0->z0) (fun R=>R) (fun e _ b R f args a=>@KE.rec (fun _=>Rn) (fun c a0 d v l=>iB (Nat.beq f c) (iB (Rm xU args a0) (iB (Rm ZE a d) (.ok v l) (b R f args a)) (b R f args a)) (b R f args a)) e)
def a2K(F:Nat)(P:Program)(R:z0):z0:=fun f args a=>iB (Lz P f) (iB (Nat.ble (B8 a) 1000000) (kN args 0 (xW args) [] fun E A=>news a 0 .e fun m D=>xV (lE P f) P F R (Td F P R) none E A m D 0 fun e c d b D' _=>
 pM e (AZ P f m a c d (m6 b D')) (fun _=>.er 535 f) (AZ P f m a c d (m6 b D'))) (.er 536 f)) (.er 537 f)
end
def Kn(P:Program):KE->Prop
 |.mk f a o v l=>(∀b w,(callFunc f b).run P w=.ok (.enter f b) w)/\jE P f (a.map I1) (o.map c7.z5) (fun r c=>r=I1 v/\c=l.map c7.z5)
def a4s(P:Program):List KE->Prop
 |[]=>True
 |e::T=>Kn P e/\a4s P T
section
variable {P:Program} {R:z0} {Fu:Nat}
theorem rZ(c:F7 P R):∀ {T:List KE},a4s P T->F7 P (IB T R)
 |[],_=>c
 |.mk d a0 e g i::T,h=>by
  intro f args a v l b;have b:iB (Nat.beq f d) (iB (Rm xU args a0) (iB (Rm ZE a e) (.ok g i) (IB T R f args a)) (IB T R f args a)) (IB T R f args a)=.ok v l:=b;simp only[a9]at b;split at b
  .split at b
   .split at b
    .rename_i j k m;cases b;rw[ab j,jU eU k,jU mW m];exact h.1
    .exact rZ c h.2 f args a v l b
   .exact rZ c h.2 f args a v l b
  .exact rZ c h.2 f args a v l b
end
end Go.Abs
end
section
namespace Go.Abs
noncomputable section
def Qd(q:Nat)(sp:pX):Code->pX:=@Code.rec (fun _=>pX)
 (fun _ _ _ _ _ E A nx D p k=>k .normal E A nx D p)
 (fun id ops h=>iB (Nat.beq id q) sp (JJ ops h))
 (fun _ _ b j P F R I Y E A nx D p k=>b P F R I Y E A nx D p fun e c d a D' f=>pM e (j P F R I Y c d a D' f k) (fun i=>k (.exit i) c d a D' f) (k .ret c d a D' f))
 (fun g _ _ b j P F R I Y E A nx D p k=>@BV.rec (fun _=>Rn) (fun n=>iB (Nat.beq n 17) (b P F R I Y E A nx D p k) (iB (Nat.beq n 9) (j P F R I Y E A nx D p k) (.er 513 0))) (fun _ _=>.er 514 0) (fun _=>.er 515 0) (.er 516 0) (J0 E A g))
 (fun id _ b P F R I Y E A nx D p k=>b P F R I Y E A nx D p fun e c d a D' f=>pM e (k .normal c d a D' f) (fun i=>iB (Nat.beq i id) (k .normal c d a D' f) (k (.exit i) c d a D' f)) (k .ret c d a D' f))
 (fun _ b P F R I Y E A nx D p k=>fL (b P F R I Y) k F E A nx D p)
 (fun _ _ _ _ _ _ _ _ _ _ _ _ _ _ _ _ _=>.er 522 0)
 (fun i _ _ _ _ _ E A nx D p k=>k (.exit i) E A nx D p)
 (fun _ b=>b)
 (fun _ _ _ _ _ _ E A nx D p k=>k .normal E A nx D p)
 (fun _ _ _ _ _ _ _ _ _ _ _ _=>.er 522 0)
 (fun _ _ _ _ _ E A nx D p k=>k .ret E A nx D p)
 (fun _ _ _ _ _ _ _ _ _ _ _ _=>.er 523 0)
end
def vL(q:Nat)(o:Array Oper)(d:Bool):Code->Prop
 |.region id ops a=>id=q->ops=o/\a=d
 |.seq x y=>vL q o d x/\vL q o d y
 |.cond _ x y=>vL q o d x/\vL q o d y
 |.block _ x=>vL q o d x
 |.loop x=>vL q o d x
 |.scope x=>vL q o d x
 |_=>True
section
variable {P:Program} {R:z0} {Fu:Nat} {I:kF} {z:BV} {lo:List HO} {n q:Nat} {sp:pX} {o19:Array Oper} {dr:Bool} {X:Ctx} {B:Option Nat} {F0:Nat->Prop} {ro:Option Nat} {g:List a7} {K0:b8}
theorem Qe(m4:P.follows .mixedOrders=true)(hR:F7 P R)(nK:N3 P (mZ I z lo))(hX:X.Ok)(lO:eT X ro)(hB:B=none->ro≠none)
  (hsp:∀ (E:Nat) (A:z7) (nx:Nat) (D:m8) (p:Nat) (G:KC) (k:j7) (F:Nat->Prop) (K:b8) (H:Nat->Option Hd) (a:Act) (w:World) (Q:Exit->Act->World->Prop),sp P Fu R I none E A nx D p G=.ok z lo->B4 n g E A nx D p k->K0.le K->(∀b,F0 b->F b)->St (X.O4 k.gh k.o7) B F n K H k.s6.T k.s6.m a w->(∀r,k.nx<=r->H r=none)->
   (∀e Y Z J D' p' j S w',G e Y Z J D' p'=.ok z lo->B4 n g Y Z J D' p' j->gD X B F0 F n K w j S w'->Q e.out S w')->(Code.region q o19 dr).wpIn (Wd ro) 0 P Q a w):
  ∀ (c:Code),Code.j5 c=true->o9 n c=true->vL q o19 dr c->∀ (E:Nat) (A:z7) (nx:Nat) (D:m8) (p:Nat) (G:KC) (k:j7) (F:Nat->Prop) (K:b8) (H:Nat->Option Hd) (a:Act) (w:World) (Q:Exit->Act->World->Prop),Qd q sp c P Fu R I none E A nx D p G=.ok z lo->B4 n g E A nx D p k->K0.le K->(∀b,F0 b->F b)->
   St (X.O4 k.gh k.o7) B F n K H k.s6.T k.s6.m a w->(∀r,k.nx<=r->H r=none)->(∀e Y Z J D' p' j S w',G e Y Z J D' p'=.ok z lo->B4 n g Y Z J D' p' j->gD X B F0 F n K w j S w'->Q e.out S w')->c.wpIn (Wd ro) 0 P Q a w:=by
 intro c
 induction c with
 |seq x y Bx By=>
  intro d f ho E A nx D p G k F K H a w Q h O v V C L U;simp only[Code.j5,ah]at d;simp only[o9,ah]at f;refine jo (Bx d.1 f.1 ho.1 E A nx D p _ k F K H a w _ h O v V C L ?_);intro e Y Z J D' p' j S w' hk M ht;rcases O9 hk with⟨rfl,o⟩|⟨i,rfl,o⟩|⟨rfl,o⟩
  .obtain⟨⟨F',K',H',jT,Ah,hK,wR,Q7⟩,R8⟩:=ht;exact By d.2 f.2 ho.2 Y Z J D' p' G j F' K' H' S w' Q o M (v.trans hK) (fun b hb=>jT b (V b hb)) Ah wR (fun e E2 A2 qB D2 p2 kC a2 w2 jS fZ kX=>U e E2 A2 qB D2 p2 kC a2 w2 jS fZ (kX.trans jT hK Q7 R8))
  .exact U _ _ _ _ _ _ j S w' o M ht
  .exact U _ _ _ _ _ _ j S w' o M ht
 |cond c x y Bx By=>
  intro d f ho E A nx D p G k F K H a w Q h O v V C L U;simp only[Code.j5,ah]at d;simp only[o9,ah]at f;have hc:=T7 (E:=E) (A:=A) (a:=a) (K:=K) (H:=H) (by rw[<-O.tmps];exact C.tmp) c
  have h: @BV.rec (fun _=>Rn) (fun n=>iB (Nat.beq n 17) (Qd q sp x P Fu R I none E A nx D p G) (iB (Nat.beq n 9) (Qd q sp y P Fu R I none E A nx D p G) (.er 513 0))) (fun _ _=>.er 514 0) (fun _=>.er 515 0) (.er 516 0) (J0 E A c)=.ok z lo:=h
  cases hv:J0 E A c with
  |c q=>
   rw[hv]at h hc;simp only[a9]at h;split at h
   .rename_i e;have e:=ab e;subst e;exact ka ((hc.cell (by decide)).isBool.1 rfl) (Bx d.1 f.1 ho.1 E A nx D p G k F K H a w Q h O v V C L U)
   .split at h
    .rename_i e;have e:=ab e;subst e;exact kf ((hc.cell (by decide)).isBool.2 rfl) (By d.2 f.2 ho.2 E A nx D p G k F K H a w Q h O v V C L U)
    .cases h
  |a s n=>rw[hv]at h;cases h
  |t q=>rw[hv]at h;cases h
  |u=>rw[hv]at h;cases h
 |block id c ih=>
  intro d f ho E A nx D p G k F K H a w Q h O v V C L U;refine pj (ih d f ho E A nx D p _ k F K H a w _ h O v V C L ?_);intro e Y Z J D' p' j S w' hk M ht;rcases O9 hk with⟨rfl,o⟩|⟨i,rfl,o⟩|⟨rfl,o⟩
  .exact U .normal _ _ _ _ _ j S w' o M ht
  .simp only[E8.out,Exit.inBlock];rw[a9]at o;by_cases hi:i=id
   .rw[aj hi];rw[aj (by rw[hi];exact fo id)]at o
    exact U .normal _ _ _ _ _ j S w' o M ht
   .rw[ai hi];rw[ai (fun e=>hi (ab e))]at o
    exact U (.exit i) _ _ _ _ _ j S w' o M ht
  .exact U .ret _ _ _ _ _ j S w' o M ht
 |loop c ih=>
  intro d f ho E A nx D p G k F K H a w Q h O v V C L U;have h:fL (Qd q sp c P Fu R I none) G Fu E A nx D p=.ok z lo:=h;refine jx Fu ?_;have go:∀ (N:Nat) (E:Nat) (A:z7) (nx:Nat) (D:m8) (p:Nat) (k:j7) (F:Nat->Prop) (K:b8) (H:Nat->Option Hd) (a:Act) (w:World),fL (Qd q sp c P Fu R I none) G N E A nx D p=.ok z lo->B4 n g E A nx D p k->K0.le K->(∀b,F0 b->F b)->
    St (X.O4 k.gh k.o7) B F n K H k.s6.T k.s6.m a w->(∀r,k.nx<=r->H r=none)->(∀e Y Z J D' p' j S w',G e Y Z J D' p'=.ok z lo->B4 n g Y Z J D' p' j->gD X B F0 F n K w j S w'->Q e.out S w')->Code.roundsIn (Wd ro) 0 P c Q N a w:=by
   intro N
   induction N with
   |zero=>intro E A nx D p k F K H a w h;cases h
   |succ N ihN=>
    intro E A nx D p k F K H a w h O v V C L U;rw[mg];refine ih d f ho E A nx D p _ k F K H a w _ h O v V C L ?_;intro e Y Z J D' p' j S w' hk M ht;rcases O9 hk with⟨rfl,o⟩|⟨i,rfl,o⟩|⟨rfl,o⟩
    .obtain⟨⟨F1,K1,H1,jT,mY,hK,uM,Q7⟩,R8⟩:=ht;exact ihN Y Z J D' p' j F1 K1 H1 S w' o M (v.trans hK) (fun b hb=>jT b (V b hb)) mY uM (fun e E2 A2 qB D2 p2 kC a2 w2 jS fZ kX=>U e E2 A2 qB D2 p2 kC a2 w2 jS fZ (kX.trans jT hK Q7 R8))
    .exact U _ _ _ _ _ _ j S w' o M ht
    .exact U _ _ _ _ _ _ j S w' o M ht
  exact go Fu E A nx D p k F K H a w h O v V C L U
 |scope c ih=>
  intro d f ho E A nx D p G k F K H a w Q h O v V C L U;refine O3 (ih d f ho E A nx D p G k F K H a w _ h O v V C L ?_);intro e Y Z J D' p' j S w' hk M ht;have:=U e Y Z J D' p' j S w' hk M ht;cases e<;>exact this
 |skip=>exact fun d f _ E A nx D p G k F K H a w Q h O _=>S5 (c:=.skip) (Fu:=Fu) m4 hR nK d f X B F0 ro g hX lO hB E A nx D p G k F K H a w Q h O
 |region id ops draw=>
  intro d f ho E A nx D p G k F K H a w Q h O v V C L U;have h2:(iB (Nat.beq id q) sp (JJ ops draw)) P Fu R I none E A nx D p G=.ok z lo:=h;clear h;rw[a9]at h2;split at h2
  .rename_i e;have e:=ab e;obtain⟨rfl,rfl⟩:=ho e;subst e;exact hsp E A nx D p G k F K H a w Q h2 O v V C L U
  .exact S5 (c:=.region id ops draw) (Fu:=Fu) m4 hR nK d f X B F0 ro g hX lO hB E A nx D p G k F K H a w Q h2 O V C L U
 |exit id=>exact fun d f _ E A nx D p G k F K H a w Q h O _=>S5 (c:=.exit id) (Fu:=Fu) m4 hR nK d f X B F0 ro g hX lO hB E A nx D p G k F K H a w Q h O
 |ret=>exact fun d f _ E A nx D p G k F K H a w Q h O _=>S5 (c:=.ret) (Fu:=Fu) m4 hR nK d f X B F0 ro g hX lO hB E A nx D p G k F K H a w Q h O
 |label l=>exact fun d f _ E A nx D p G k F K H a w Q h O _=>S5 (c:=.label l) (Fu:=Fu) m4 hR nK d f X B F0 ro g hX lO hB E A nx D p G k F K H a w Q h O
 |_=>intro d f ho E A nx D p G k F K H a w Q h;cases h
end
end Go.Abs
end
section
namespace Go.Abs
def SS.Z1(s:SS)(r:Nat)(x:Option (c7×p0)):SS:=⟨s.T,s.nx,fun a=>if a=r then x else s.m a⟩
section
variable {Γ:Env} {P:Program} {all:Array Oper} {n:Nat} {o:Oper} {s s':SS} {r:Nat} {x:Option (c7×p0)}
theorem U2.blind{nx:Nat}{v:a7}{new:List HO}{set:List (Nat×HO)}{rd:List Nat}(h:U2 Γ P all n o s (.Y5 nx v new set rd) s')(c:r ∉ rd)(d:r ∉ set.map (·.1))(A:r<s.nx):U2 Γ P all n o (s.Z1 r x) (.Y5 nx v new set rd) (s'.Z1 r x):=by
 obtain⟨f,g2,g,i,j,k,p,q⟩:=h;refine⟨f,g2,g,?_,j,k,p,fun t u w y=>q t u w (fun r' a=>?_)⟩
 .show(fun r'=>if r'=r then x else s'.m r')=G4 (bF (s.Z1 r x).m set) nx (new.map .z5)
  funext r';rw[s9];have b:s'.m r'=G4 (bF s.m set) nx (new.map .z5) r':=by rw[i];rfl
  rw[s9]at b;by_cases e:r'=r
  .subst e;rw[aj rfl,ll (by omega),eQ set _ d]
   show x=(if r'=r' then x else s.m r')
   rw[aj rfl]
  .rw[ai e,b];have:bF (s.Z1 r x).m set r'=bF s.m set r':=yQ set _ _ (by show(if r'=r then x else s.m r')=_;rw[ai e])
   rw[this]
 .rw[y r' a];show(if r'=r then x else s.m r')=_
  rw[ai (fun(e:r'=r)=>c (e▸a))]
theorem U2.Gq(h:U2 Γ P all n o s .skip s'):U2 Γ P all n o (s.Z1 r x) .skip (s'.Z1 r x):=by
 obtain⟨a,g2,b,c,d⟩:=h;refine⟨a,g2,b,?_,d⟩;show(fun r'=>if r'=r then x else s'.m r')=(s.Z1 r x).m
 funext r';have f:s'.m r'=s.m r':=by rw[c];rfl
 by_cases e:r'=r
 .subst e;show(if r'=r' then x else _)=(if r'=r' then x else _);rw[aj rfl,aj rfl]
 .show(if r'=r then x else s'.m r')=(if r'=r then x else s.m r');rw[ai e,ai e,f]
end
section
variable {P:Program} {D:Hp} {v:BV} {new:List HO} {set:List (Nat×HO)} {rd:List Nat}
def Qf(P:Program)(t:TypeId)(a x:BV)(r off k y:Nat):Prop:=(∃c,a=.c c/\sV c=true/\pR c=r/\pO c=off)/\k=j9 P t/\((x=.c y/\k=1/\3<=y)\/x=.a k y)
theorem Nq{t:TypeId}{a x:BV}(h:iT P t a x D=.ok v new set rd):∃r s N off k y,D r=.c s N/\rd=[r]/\new=[]/\v=.c 1/\set=[(r,.c s (W2 N off k y))]/\off+k<=s/\Qf P t a x r off k y/\
  ∀ (D':Hp) (b:Nat),D' r=.c s b->iT P t a x D'=.ok (.c 1) [] [(r,.c s (W2 b off k y))] [r]:=by
 obtain⟨c,rfl,h⟩:=x8 h;obtain⟨g,h⟩:=a8 h;obtain⟨s,N,hd,h⟩:=jN h;obtain⟨k,y,i,h⟩:=dV h;obtain⟨d,h⟩:=a8 h;obtain⟨j,h⟩:=a8 h;obtain⟨e,h⟩:=a8 h;cases h;refine⟨pR c,s,N,pO c,k,y,hd,rfl,rfl,rfl,rfl,af e,⟨⟨c,rfl,g,rfl,rfl⟩,ab d,i⟩,fun D' b f=>?_⟩
 show nB (sV c) 76 (hC (D' (pR c)) fun s n=>vR x fun s' y=>nB (Nat.beq s' (j9 P t)) 77 (nB (Nat.ble 1 s') 78 (nB (Nat.ble (Nat.add (pO c) s') s) 79 (.ok (.c 1) [] [(pR c,.c s (W2 n (pO c) s' y))] [pR c]))))=_
 rw[f,g];show vR x (fun s' y=>nB (Nat.beq s' (j9 P t)) 77 (nB (Nat.ble 1 s') 78 (nB (Nat.ble (Nat.add (pO c) s') s) 79 (.ok (.c 1) [] [(pR c,.c s (W2 b (pO c) s' y))] [pR c]))))=_
 rcases i with⟨rfl,rfl,m⟩|rfl
 .show nB (Nat.ble 3 y) 5 (nB (Nat.beq 1 (j9 P t)) 77 (nB (Nat.ble 1 1) 78 (nB (Nat.ble (Nat.add (pO c) 1) s) 79 _)))=_;rw[dk m,d,e];rfl
 .show nB (Nat.beq k (j9 P t)) 77 (nB (Nat.ble 1 k) 78 (nB (Nat.ble (Nat.add (pO c) k) s) 79 _))=_;rw[d,j,e];rfl
end
section
variable {P:Program} {R:z0} {all:Array Oper} {n:Nat}
theorem KD{s:SS}{r:Nat}{x:Option (c7×p0)}:(s.Z1 r x).m r=x:=by show(if r=r then x else _)=x;rw[aj rfl]
theorem Nr(hR:F7 P R){ops:List Oper}{S:Nat->SS}{p:List L7}(H:O2 Γ0 P all n ops S p)(hC:∀ (i:Nat) (o:Oper) (d:L7),ops[i]? =some o->p[i]? =some d->Iq P R o (S i) d)
  {r s N j:Nat}{q:Oper}{t:TypeId}{a x:Operand}{nx:Nat}{v:a7}{set:List (Nat×HO)}(I:∀i,i<ops.length->r<(S i).nx)(J:ops[j]? =some q)(w:q.op=.store t a x)(hd:p[j]? =some (.Y5 nx v [] set [r]))(K:G9 (S j).m r=.c s N)
  (B:∀ (i:Nat) (d:L7),i≠j->p[i]? =some d->d=.skip\/∃nx v new set rd,d=.Y5 nx v new set rd/\r ∉ rd/\r ∉ set.map (·.1)):
  ∃off k y,off+k<=s/\set=[(r,.c s (W2 N off k y))]/\(∃E A,(S j).T=TE E A/\Qf P t (J0 E A a) (J0 E A x) r off k y)/\∀N',O2 Γ0 P all n ops (fun i=>(S i).Z1 r (some (.z5 (.c s (if i<=j then N' else W2 N' off k y)),.own))) (p.set j (.Y5 nx v [] [(r,.c s (W2 N' off k y))] [r])):=by
 have L:=hC j q _ J hd;obtain⟨E,A,u,U,c2,c3,c4,V⟩:=L;have M:=H.step j q _ J hd;rw[w]at V;obtain⟨r',s',N0,off,k,y,X,e2,e3,e4,Y,e6,e8,e7⟩:=Nq (show iT P t (J0 E A a) (J0 E A x) (G9 (S j).m)=.ok u [] set [r]from V);cases e2;rw[K]at X;cases X;refine⟨off,k,y,e6,Y,⟨E,A,U,e8⟩,fun N'=>⟨by rw[pv];exact H.len,fun i o d G b=>?_⟩⟩
 by_cases f:i=j
 .subst f;rw[J]at G;cases G;have C:i<p.length:=O8 hd;rw[rb C]at b;cases b;obtain⟨g1,g2,g3,g4,g5,Z,g7⟩:=M;have O:G9 ((S i).Z1 r (some (.z5 (.c s N'),.own))).m r=.c s N':=by
   unfold G9;rw[KD]
  have F:=e7 (G9 ((S i).Z1 r (some (.z5 (.c s N'),.own))).m) N' O;rw[aj (aw i),ai (by omega)]
  refine⟨g1,g2,g3,?_,g5,Z,?_⟩
  .show(fun r'=>if r'=r then _ else(S (i+1)).m r')=G4 (bF _ [(r,.c s (W2 N' off k y))]) nx ([].map .z5)
   funext r';rw[tO (by simp)]
   show _=N9 (fun r'=>if r'=r then _ else(S i).m r') r _ r'
   by_cases e:r'=r
   .subst e;rw[aj rfl,j8]
   .rw[ai e,m7 _ _ _ _ e];simp only[ai e];have:(S (i+1)).m r'=G4 (bF (S i).m set) nx ([].map .z5) r':=by rw[g4];rfl
    rw[this,Y,tO (by simp)]
    show N9 (S i).m r _ r'=_;rw[m7 _ _ _ _ e]
  .have:=zR hR (o:=q) (E:=E) (A:=A) (T:=(S i).T) (m:=((S i).Z1 r (some (.z5 (.c s N'),.own))).m) (nx:=nx) (v:=.c 1) (new:=[]) (set:=[(r,.c s (W2 N' off k y))]) (rd:=[r]) (fun t=>by rw[U];rfl) rfl c3 (by rw[w];exact F)
   rw[c4,e4];rw[Z]at this;exact this
 .rw[sb (fun e=>f e.symm)]at b
  have hs:=H.step i o d G b;have g:(if i<=j then N' else W2 N' off k y)=(if i+1<=j then N' else W2 N' off k y):=by
   by_cases h:i<=j
   .rw[aj h,aj (by omega)]
   .rw[ai h,ai (by omega)]
  rw[g];rcases B i d f b with rfl|⟨nx1,v1,b5V,b5W,rd1,rfl,h1,h2⟩
  .exact hs.Gq
  .exact hs.blind h1 h2 (I i (O8 G))
end
theorem XN{a b c e2:L7}(d:aS a=aS c)(e:aS b=aS e2):pU a b=pU c e2:=by
 obtain⟨a1,f⟩:=mq d;obtain⟨g,h⟩:=mq e;unfold pU;rw[a1,f,g,h]
theorem Gr{i:Nat}{j:Oper}{k m:L7}(p:aS k=aS m):∀ (f:List Oper) (g es:List L7) (c:List Nat),g.map aS=es.map aS->gG (fun _ a _ b=>pU a b) i j k f g c=gG (fun _ a _ b=>pU a b) i j m f es c
 |[],_,_,_,_=>by simp only[gG]
 |_::_,[],[],_,_=>by simp only[gG]
 |_::_,[],_::_,_,h=>by cases h
 |_::_,_::_,[],_,h=>by cases h
 |_::_,_::_,_::_,[],_=>by simp only[gG]
 |o::f,d::g,e::es,a::c,h=>by
  simp only[az,iz]at h;simp only[gG];rw[XN p h.1,Gr p f g es c h.2]
theorem CM:∀ (f:List Oper) (i:Nat) (g es:List L7) (c:List Nat),g.map aS=es.map aS->aI (fun _ a _ b=>pU a b) i f g c=aI (fun _ a _ b=>pU a b) i f es c
 |[],_,_,_,_,_=>by simp only[aI]
 |_::_,_,[],[],_,_=>by simp only[aI]
 |_::_,_,[],_::_,_,h=>by cases h
 |_::_,_,_::_,[],_,h=>by cases h
 |_::_,_,_::_,_::_,[],_=>by simp only[aI]
 |o::f,i,d::g,e::es,a::c,h=>by
  simp only[az,iz]at h;simp only[aI];rw[Gr h.1 f g es c h.2,CM f (i+1) g es c h.2]
theorem Si:∀ (a es:List L7),a.map aS=es.map aS->a.all (fun d=>d.wr.isEmpty)=es.all (fun d=>d.wr.isEmpty)
 |[],[],_=>rfl
 |[],_::_,h=>by cases h
 |_::_,[],h=>by cases h
 |d::a,e::es,h=>by
  simp only[az,iz]at h;simp only[nq];rw[Si a es h.2,(mq h.1).2]
theorem Qg{ops:Array Oper}{a es:List L7}(h:a.map aS=es.map aS):cH ops a=cH ops es:=by
 unfold cH;rw[Si a es h,CM _ _ a es _ h]
theorem a08{b:List L7}{j:Nat}{d e:L7}(h:b[j]? =some d)(c:aS e=aS d):(b.set j e).map aS=b.map aS:=by
 apply cq;intro i;rw[bo,bo];by_cases a:i=j
 .subst a;rw[rb (O8 h),h];simp[c]
 .rw[sb (fun e=>a e.symm)]
noncomputable def CN(r j:Nat):Ex->Nat->Bool:=@List.rec (List Nat×List Nat) (fun _=>Nat->Bool) (fun _=>true) (fun p _ a i=>iB (Nat.beq i j) (iB (O0 r p.1) (a (Nat.succ i)) false) (iB (O0 r p.1) false (iB (O0 r p.2) false (a (Nat.succ i)))))
theorem Gs{r j:Nat}:∀ {l:Ex} {a:Nat},CN r j l a=true->∀ (i:Nat) (p:List Nat×List Nat),l[i]? =some p->(a+i=j->r∈p.1)/\(a+i≠j->r ∉ p.1/\r ∉ p.2)
 |[],_,_,i,p,b=>by simp at b
 |q::l,a,h,i,p,b=>by
  have h:iB (Nat.beq a j) (iB (O0 r q.1) (CN r j l (Nat.succ a)) false) (iB (O0 r q.1) false (iB (O0 r q.2) false (CN r j l (Nat.succ a))))=true:=h;have rest:CN r j l (Nat.succ a)=true/\(a=j->r∈q.1)/\(a≠j->r ∉ q.1/\r ∉ q.2):=by
   simp only[a9]at h;split at h
   .rename_i e;have e:=ab e;split at h
    .rename_i c;exact⟨h,fun _=>X7.1 c,fun hh=>absurd e hh⟩
    .cases h
   .rename_i e;split at h
    .cases h
    .rename_i c;split at h
     .cases h
     .rename_i f;exact⟨h,fun hh=>absurd (by rw[hh];exact fo j) e,fun _=>⟨fun d=>c (X7.2 d),fun d=>f (X7.2 d)⟩⟩
  cases i with
  |zero=>simp at b;subst b;exact rest.2
  |succ i=>
   have:=Gs rest.1 i p (by simpa using b)
   rw[show Nat.succ a+i=a+(i+1)by omega]at this
   exact this
section
variable {P:Program} {R:z0} {n:Nat} {z:BV} {l:List HO}
theorem Uu(hR:F7 P R){ops:Array Oper}{k:KS}{E:Nat}{A:z7}{nx:Nat}{D:m8}{p r j:Nat}(h:dP ops.toList P R ops (fun M O u D' p' tr=>iB (eM (pW tr) (Y0 ops)) (iB (CN r j (pW tr) 0) (k M O u D' p') (.er 560 0)) (.er 504 0)) E A nx D p []=.ok z l)
  (hd:w7 n ops.toList=true)(hn:nx<1048575){V:Oper}{t:TypeId}{ax x:Operand}(X:ops.toList[j]? =some V)(Y:V.op=.store t ax x){s N:Nat}(I:m6 nx D r=.c s N):
  ∃ (off kk y M:Nat) (O:z7) (u:Nat) (D':m8) (S:Nat->SS),off+kk<=s/\k M O u D' p=.ok z l/\(S ops.toList.length).T=TE M O/\(S ops.toList.length).nx=u/\G9 (S ops.toList.length).m=m6 u D'/\u<1048575/\S 0=⟨TE E A,nx,l9 (p8 nx D)⟩/\(∃E0 A0,(S j).T=TE E0 A0/\Qf P t (J0 E0 A0 ax) (J0 E0 A0 x) r off kk y)/\(V.dst=none->(S (j+1)).T=(S j).T)/\
   ∀G,∃S' Z,O2 Γ0 P ops n ops.toList S' Z/\cH ops Z=true/\S' 0=(S 0).Z1 r (some (.z5 (.c s G),.own))/\S' ops.toList.length=(S ops.toList.length).Z1 r (some (.z5 (.c s (W2 G off kk y)),.own)):=by
 obtain⟨S,U,M,O,u,D',q0,H,q2,q3,q4,q5,q6,q7⟩:=tW hR ops.toList E A nx D p [] _ (l9 (p8 nx D)) h hd hn (tV nx D);rw[a9]at q7;split at q7
 rotate_left
 .cases q7
 rename_i hc;rw[a9]at q7;split at q7
 rotate_left
 .cases q7
 rename_i ho;rw[Kk,bf,na]at ho;have J:=Bu (fun i o d K F=>(q6 i o d K F).1) hc
 have w:∀ (i:Nat) (d:L7),U[i]? =some d->(i=j->r∈d.rd)/\(i≠j->r ∉ d.rd/\r ∉ d.wr):=fun i d C=>by
  have:=Gs ho i (aS d) (by rw[bo,C];rfl)
  rw[bz]at this;exact this
 have yE:r<nx:=by
  rcases bh r nx with h'|h'
  .exact h'
  .rw[T5,ai (by omega)]at I;cases I
 have pY:∀i,i<=ops.toList.length->nx<=(S i).nx:=by
  intro i
  induction i with
  |zero=>intro _;rw[q0];exact aw _
  |succ i ih=>
   intro C;have K:=ag (show i<ops.toList.length by omega)
   have F:=ag (show i<U.length by rw[H.len];omega)
   have:=(H.step i _ _ K F).nx;have:=ih (by omega)
   omega
 have g:∃d,U[j]? =some d:=⟨_,ag (show j<U.length by rw[H.len];exact O8 X)⟩
 obtain⟨dj,g⟩:=g;have WO:=O8 X;have q:∀ (i:Nat) (d:L7),U[i]? =some d->d=.skip\/∃nx v new set rd,d=.Y5 nx v new set rd:=fun i d C=>by
  have hl:i<ops.toList.length:=by rw[<-H.len];exact O8 C
  have:=(q6 i _ d (ag hl) C).2;cases d with
  |skip=>exact .inl rfl
  |Y5 a b c d e=>exact .inr ⟨a,b,c,d,e,rfl⟩
  |quiet a b=>exact this.elim
  |write a=>exact this.elim
 have L:∀i,i<=j->(S i).m r=(S 0).m r:=by
  intro i
  induction i with
  |zero=>intro _;rfl
  |succ i ih=>
   intro C;have K:=ag (show i<ops.toList.length by omega)
   have F:=ag (show i<U.length by rw[H.len];omega)
   have hs:=H.step i _ _ K F;have hr:=((w i _ F).2 (by omega)).2
   rw[<-ih (by omega),hs.m]
   rcases q i _ F with e|⟨a,b,c,d,f,e⟩
   .rw[e];rfl
   .rw[e]at hr ⊢;simp only[L7.wr,cj,ke]at hr;show G4 (bF (S i).m d) a (c.map .z5) r=_;rw[s9];split
    .rename_i hh;exact absurd ((jK _ _ _).2 ⟨hh.1,by simpa using hh.2⟩) hr.2
    .exact eQ _ _ hr.1
 have hNj:G9 (S j).m r=.c s N:=by
  unfold G9;rw[L j (aw j),q0];show(match l9 (p8 nx D) r with|some (.z5 o,.own)=>o|_=>.z)=_
  rw[M0,I]
 rcases q j dj g with rfl|⟨nx1,v,new,set,rd,rfl⟩
 .exact absurd ((w j _ g).1 rfl) (by simp[L7.rd])
 .have hrd:r∈rd:=(w j _ g).1 rfl;have B:=(q6 j V _ X g).2;obtain⟨E2,A2,b2,_,_,_,_,B⟩:=B;rw[Y]at B;obtain⟨r',s',N0,off,kk,y,e1,e2,e3,e4,e5,e6,e8,e7⟩:=Nq (show iT P t (J0 E2 A2 ax) (J0 E2 A2 x) (G9 (S j).m)=.ok b2 new set rd from B);subst e2;rcases cb.1 hrd with rfl;subst e3;obtain⟨off,kk,y,f1,f2,f4,f3⟩:=Nr hR H (fun i o d K F=>(q6 i o d K F).2) (fun i C=>cc yE (pY i (gw C))) X Y g hNj (fun i d C hd=>by
   rcases q i d hd with e|⟨a,b,c,d',f,e⟩
   .exact .inl e
   .have:=(w i d hd).2 C;rw[e]at this;simp only[L7.rd,L7.wr,cj,ke]at this
    exact .inr ⟨a,b,c,d',f,e,this.1,this.2.1⟩)
  refine⟨off,kk,y,M,O,u,D',S,f1,q7,q2,q3,q4,q5,q0,f4,fun hdn=>by
   have:=(H.step j V _ X g).T
   rw[this,hdn];rfl,fun G=>⟨_,_,f3 G,?_,?_,?_⟩⟩
  .rw[<-J];refine Qg (a08 g ?_);rw[f2];rfl
  .show(S 0).Z1 r (some (.z5 (.c s (if 0<=j then G else W2 G off kk y)),.own))=_
   rw[aj (fx j)]
  .show(S ops.toList.length).Z1 r (some (.z5 (.c s (if ops.toList.length<=j then G else W2 G off kk y)),.own))=_
   rw[ai (by omega)]
end
end Go.Abs
end
section
namespace Go.Abs
end Go.Abs
end
section
namespace Go.Abs
section
variable {H1 H0:Nat->Option Hd} {c:Nat} {v:Value}
theorem j6.back(E:aY H0 H1)(h:j6 H1 c v):∀x,j6 H0 c x->j6 H0 c v:=by
 induction h with
 |int k n l=>intro _ _;exact .int k n l
 |Ax=>intro _ _;exact .Ax
 |SN=>intro _ _;exact .SN
 |Hm=>intro _ _;exact .Hm
 |gE=>intro _ _;exact .gE
 |Jk=>intro _ _;exact .Jk
 |Jl=>intro _ _;exact .Jl
 |ptr r off hd b s l t y=>
  intro x g;obtain⟨d,S,o,U,q3,q4,q5,q6⟩:=g.gP (R9.2 (by rw[fA];omega))
  have e:bO r off=8*(r*1048576+off)+4:=rfl;rw[fA (pR _)]at q4;have u:pR (bO r off)=r:=by omega
  rw[u]at o;have:=E r d o;rw[t]at this;cases this;exact .ptr r off hd b s l o y
 |sl r off len q j hd b z cap s l t y I J V L h8 h9 M=>
  intro x g;obtain⟨d,S,o',c',o,U,q3,q4,q5,q6,q7,q8,k1,k2,k3,k4,k5⟩:=g.vQ (Z0.2 (by rw[lF];omega))
  have e:pJ r off len q j=8*(2*(256*(1048576*(r*1048576+off)+len)+q)+j)+5:=rfl;rw[lF (sR _)]at q8;have u:sR (pJ r off len q j)=r:=by omega
  rw[u]at o;have:=E r d o;rw[J]at this;cases this;exact .sl r off len q j hd b z cap s l t y I o V L h8 h9 M
 |map r hd b s l t=>
  intro x g;obtain⟨d,S,o,U,q3,q4,q5⟩:=g.isMap (kP.2 (by rw[fC];omega))
  have e:kD r=8*r+6:=rfl;rw[fC (mR _)]at q4;have u:mR (kD r)=r:=by omega
  rw[u]at o;have:=E r d o;rw[l]at this;cases this;exact .map r hd b s o t
 |Jm f l=>intro _ _;exact .Jm f l
 |fn f r hd Y Z s l t y I J V h7 N O=>
  intro x g;have ef:fR (xH f (r+1))=r+1:=by show(8*((r+1)*65536+f)+7) /524288=r+1;omega
  rcases g.a0k (by rw[aA];omega)with⟨G,_⟩|⟨P,d,A,C,G,g2,g3,g4,g5,g6,L,g8,g9⟩
  .rw[ef]at G;cases G
  .rw[ef]at G;have u:P=r:=by omega
   subst u;have:=E P d g2;rw[t]at this;cases this;have e1:Y.size=A.size:=by omega
   have e2:Z.size=C.size:=by omega
   refine .fn f P hd Y Z s l g2 y I J (fun i v D=>?_) (fun i v D=>?_)
   .have R:i<A.size:=by
     have:=(eu.1 D).1;omega
    exact N i v D _ (L i _ (ba R))
   .have R:i<C.size:=by
     have:=(eu.1 D).1;omega
    exact O i v D _ (g8 i _ (ba R))
theorem j6.free(h:j6 H1 c v)(e:c % 8<=3):j6 H0 c v:=by
 cases h with
 |int k n d=>exact .int k n d
 |Ax=>exact .Ax
 |SN=>exact .SN
 |Hm=>exact .Hm
 |gE=>exact .gE
 |Jk=>exact .Jk
 |Jl=>exact .Jl
 |ptr r off hd b i d j q=>rw[fA]at e;omega
 |sl r off len s l hd b o cap i d j q t u=>rw[lF]at e;omega
 |map r hd b i d j=>rw[fC]at e;omega
 |Jm f d=>rw[aA]at e;omega
 |fn f r hd x y i d=>rw[aA]at e;omega
theorem x7.back{s n:Nat}{vs b:List Value}(f:aY H0 H1)(h:x7 H1 s n vs)(d:x7 H0 s n b):x7 H0 s n vs:=
 ⟨h.1,h.2.1,fun i x e=>by
  have j:i<b.length:=by rw[d.2.1,<-h.2.1];exact O8 e
  exact(h.2.2 i x e).back f _ (d.2.2 i _ (ag j))⟩
theorem y9.back{b n:Nat}{d:Value}(e:aY H0 H1)(h:y9 H1 b n v)(f:y9 H0 b n d):y9 H0 b n v:=by
 cases b with
 |zero=>exact j6.back e h d f
 |succ k=>
  obtain⟨cs,rfl,i⟩:=h;obtain⟨j,_,l⟩:=f;exact⟨cs,rfl,i.back e l⟩
theorem u6.back{K K':b8}{x:BV}{o:Value}(d:aY H0 H1)(h:u6 K' H1 x v)(b:u6 K H0 x o):u6 K' H0 x v:=by
 cases x with
 |c n=>
  rcases b with⟨e,b⟩|⟨e,l,b,q⟩|b
  .rcases h with h|h|h
   .exact .inl h
   .exact .inr (.inl h)
   .exact absurd h.lt.1 (by omega)
  .rcases h with h|h|h
   .exact .inl h
   .exact .inr (.inl h)
   .exact absurd h.lt.1 (by omega)
  .rcases h with h|h|h
   .exact .inl h
   .exact .inr (.inl h)
   .exact .inr (.inr (h.back d _ b))
 |a s n=>
  obtain⟨cs,rfl,f⟩:=h;obtain⟨r,_,y⟩:=b;exact⟨cs,rfl,f.back d y⟩
 |t l=>
  obtain⟨vs,rfl,g2,z⟩:=h;obtain⟨j,_,A,q3⟩:=b;refine⟨vs,rfl,g2,fun i p x k C=>?_⟩
  have D:i<j.size:=by
   have f:=O8 k;rw[A];exact f
  exact(z i p x k C).back d (q3 i p _ k (ba D))
 |u=>trivial
theorem XO{K0 K K':b8}{w w0:World}{hd:Hd}{o:HO}(A:aY H0 H1)(h:n9 K H1 w hd (.z5 o))(C:n9 K0 H0 w0 hd (.z5 o)):n9 K' H0 w hd (.z5 o):=by
 cases o with
 |c s n=>
  obtain⟨q,cs,e,N,r,t,b,D,O⟩:=h;obtain⟨_,_,_,_,_,_,_,_,P⟩:=C;exact⟨q,cs,e,N,r,t,b,D,O.back A P⟩
 |m ks vs l clk=>
  obtain⟨q,es,r,t,R,b,u,d⟩:=h;obtain⟨_,E,_,_,l0,k,x,_⟩:=C;refine⟨q,es,r,t,R,?_,u,d⟩;rw[E9]at b k ⊢;refine⟨b.1,fun j p e L S=>?_⟩
  obtain⟨i,y⟩:=bn.1 (x.mem_iff.1 (u.mem_iff.2 (df L)));have U:i<E.toList.length:=by rw[k.1];exact O8 y
  obtain⟨V,g2,G,Y⟩:=b.2 j p e L S;obtain⟨_,Z,q3,_⟩:=k.2 i p _ y (ag U);exact⟨V,y9.back A g2 Z,y9.back A G q3,Y⟩
 |f k1 n1 k2 n2=>exact h
 |i m I seen M=>
  obtain⟨q,mb,hm,r,t,b,D⟩:=h;obtain⟨_,_,J,_,_,k,_⟩:=C;have:=A m J k;rw[b]at this;cases this;exact⟨q,mb,hm,r,t,k,D⟩
 |z=>exact h.elim
end
noncomputable def eW(H:Nat->Option Hd)(nx:Nat):List a7:=(List.range nx).map fun r=>if(H r).isSome then .B9 r else .S6
noncomputable def bB(H:Nat->Option Hd)(nx:Nat):List Hd:=(List.range nx).map fun r=>(H r).getD ⟨none,0,0,0⟩
def dC(b:List Hd)(X:Ctx):Ctx:=fun F K H d p w=>cE b F K H (d.take b.length) p w/\X F K H (d.drop b.length) p w
theorem IC(l:List Nat):∀ (b:List a7) (m:Nat),(L5 l b).take m=L5 l (b.take m)
 |[],m=>by simp[L5]
 |a::b,0=>rfl
 |a::b,m+1=>by simp only[L5,nj];rw[IC l b m]
theorem ID(l:List Nat):∀ (b:List a7) (m:Nat),(L5 l b).drop m=L5 l (b.drop m)
 |[],m=>by simp[L5]
 |a::b,0=>rfl
 |a::b,m+1=>by simp only[L5,np];rw[ID l b m]
theorem nC{b:List Hd}{X:Ctx}(d:X.Ok):(dC b X).Ok:=
 ⟨fun o p=>⟨fun F e K K' H H' w w' h f i j k=>⟨((pF b).grow _ _).grow F e K K' H H' w w' h.1 f i j k,(d.grow _ _).grow F e K K' H H' w w' h.2 f i j k⟩⟩,
  fun F K H l o p w h=>⟨by rw[IC];exact(pF b).eF F K H l _ p w h.1,by rw[ID];exact d.eF F K H l _ p w h.2⟩⟩
section
variable {X:Ctx} {F:Nat->Prop} {K:b8} {H0 H:Nat->Option Hd} {g:List a7} {p:Option E8} {w:World} {nx:Nat}
theorem nD:(bB H0 nx).length=nx:=by simp[bB]
theorem jW:(eW H0 nx).length=nx:=by simp[eW]
theorem sA(h:X F K H g p w)(i:aY H0 H):dC (bB H0 nx) X F K H (eW H0 nx++g) p w:=by
 refine⟨⟨by rw[nD,fw,bu,jW];omega,fun q a r b d=>?_⟩,?_⟩
 .rw[nD,cn (by rw[jW];exact aw _),bj (by rw[jW];exact aw _)]at b
  have f:q<nx:=by simpa [eW]using O8 b
  simp only[eW,bo,fy f,da,ae]at b;subst b;split at d
  .rename_i j;simp only[U0,ae]at d;subst d;obtain⟨hd,e⟩:=dv.1 j;exact⟨hd,by simp[bB,f,e],i _ _ e⟩
  .simp[U0]at d
 .rw[nD];have:(eW H0 nx++g).drop nx=g:=by
   have:=jW (H0:=H0) (nx:=nx);rw[du (by omega),lu (by omega),gq]
  rw[this];exact h
theorem Y2(k:dC (bB H0 nx) X F K H (eW H0 nx++g) p w)(d:∀r,nx<=r->H0 r=none):aY H0 H/\X F K H g p w:=by
 obtain⟨⟨o,h⟩,e⟩:=k;constructor
 .intro r hd b;have i:r<nx:=by
   rcases bh r nx with f|f
   .exact f
   .rw[d r f]at b;cases b
  rw[nD,cn (by rw[jW];exact aw _),bj (by rw[jW];exact aw _)]at h
  obtain⟨l,j,g2⟩:=h r (.B9 r) r (by simp[eW,i,b]) rfl
  simp only[bB,bo,fy i,da,ae,b,ec]at j;rw[j];exact g2
 .rw[nD]at e;have:(eW H0 nx++g).drop nx=g:=by
   have:=jW (H0:=H0) (nx:=nx);rw[du (by omega),lu (by omega),gq]
  rw[this]at e;exact e
end
section
variable {X:fW} {B:Option Nat} {F:Nat->Prop} {n:Nat} {K K':b8} {H H':Nat->Option Hd} {T T':Nat->a7} {m m':Mm} {a a':Act} {w w':World}
def dD(H:Nat->Option Hd)(r:Nat)(b:Nat):Prop:=∃hd,H r=some hd/\hd.base=some b
def eD(m:Mm)(r:Nat):Mm:=fun b=>if b=r then none else m b
theorem aF{r b:Nat}{x:c7×p0}(h:eD m r b=some x):b≠r/\m b=some x:=by
 unfold eD at h;split at h
 .cases h
 .rename_i hh;exact⟨hh,h⟩
theorem St.HH(J:X.Ok)(h:St X B F n K H T m a w){r:Nat}{o:HO}(t:m r=some (.z5 o,.own)):St X B (fun b=>F b\/dD H r b) n K H T (eD m r) a w:=by
 have s:∀b,dD H r b->¬F b/\K.cells b=none/\K.inv b=none/\b<w.heap.size:=fun b ⟨hd,d,i⟩=>by
  obtain⟨u,g2,y,_⟩:=h.mem.own r _ hd b t d i;exact⟨u,g2,y,W1 h.mem t (by simp) d i⟩
 refine⟨⟨h.ok.w8,fun b k=>?_,fun b p z l=>?_,h.ok.apart⟩,⟨?_,?_,?_,?_⟩,h.size,?_,h.tmp,J.grow F _ K K H H w w h.x (fun _ s=>.inl s) (.refl K) (fun _ _ e=>e) (.refl F w)⟩
 .rcases k with k|k
  .exact h.ok.lt b k
  .exact(s b k).2.2.2
 .rcases l with l|l
  .exact h.ok.inv b p z l
  .rw[(s b l).2.2.1]at z;cases z
 .intro q c f hd d i j;exact h.mem.cont q c f hd (aF d).2 i j
 .intro q c hd b d i j;obtain⟨A,d⟩:=aF d;obtain⟨u,g2,y,L⟩:=h.mem.own q c hd b d i j;refine⟨fun l=>?_,g2,y,L⟩
  rcases l with l|⟨C,M,N⟩
  .exact u l
  .exact A (h.mem.inj q r c _ hd C b d t i M j N)
 .intro q c hd b d i j;exact h.mem.X9 q c hd b (aF d).2 i j
 .intro O P R S E G b d i j U V Y;exact h.mem.inj O P R S E G b (aF d).2 (aF i).2 j U V Y
 .have:=h.defers;cases B with
  |none=>exact this
  |some b=>
   obtain⟨A,Z,d,i,j⟩:=this;exact⟨A,Z,d,i,fun D I=>⟨(j D I).1,.inl (j D I).2.1,(j D I).2.2⟩⟩
theorem Ns{K:b8}{H:Nat->Option Hd}{w:World}{hd:Hd}{o:HO}{b:Nat}{x:Obj}(h:n9 K H w hd (.z5 o))(e:hd.base=some b)(f:w.heap[b]? =some x):x.Vi=true:=by
 obtain⟨y,d,g2⟩:=Dr (K':=K) (H':=H) h b e;rw[f]at d;cases d;exact g2
theorem St.Qh{J:Nat->Prop}{r:Nat}{o:HO}(hX:X.Ok)(h:St X B F n K H T m a w)(R:m r=some (.z5 o,.own))(q:St X B J n K' H' T' m' a' w')(hm:m' r=none)(L:∀b,F b\/dD H r b->J b)(hK:K.le K')(Z:aY H H')(G:(H r).isSome=true)
  (M:Fix (fun b=>F b\/dD H r b) K K')(S:Kept (fun b=>F b\/dD H r b) w w'):
  St X B (fun b=>J b/\¬dD H r b) n K' H' T' (N9 m' r (.z5 o,.own)) a' w'/\∀b,F b->J b/\¬dD H r b:=by
 have hb:∀b,dD H r b->¬F b/\K.cells b=none/\K.inv b=none:=fun b ⟨hd,k1,k2⟩=>by
  obtain⟨N,g2,E,_⟩:=h.mem.own r _ hd b R k1 k2;exact⟨N,g2,E⟩
 have hF:∀b,F b->J b/\¬dD H r b:=fun b t=>⟨L b (.inl t),fun hh=>(hb b hh).1 t⟩
 obtain⟨u,y⟩:=dv.1 G;have O:=Z r u y;have s:∀hd b,H' r=some hd->hd.base=some b->dD H r b:=fun hd b z A=>by
  rw[O]at z;cases z;exact⟨u,y,A⟩
 have d:∀i x,N9 m' r (c7.z5 o,p0.own) i=some x->(i=r/\x=(.z5 o,.own))\/(i≠r/\m' i=some x):=fun i x U=>by
  by_cases e:i=r
  .subst e;rw[j8]at U;cases U;exact .inl ⟨rfl,rfl⟩
  .rw[m7 _ _ _ _ e]at U;exact .inr ⟨e,U⟩
 refine⟨⟨⟨q.ok.w8,fun b t=>q.ok.lt b t.1,fun b p hp hF'=>q.ok.inv b p hp hF'.1,q.ok.apart⟩,⟨?_,?_,?_,?_⟩,q.size,?_,q.tmp,hX.grow F _ K K' H H' w w' h.x hF hK Z (S.mono fun _ e=>.inl e)⟩,hF⟩
 .intro i c f hd k C q3;rcases d i _ k with⟨rfl,e⟩|⟨e,k⟩
  .cases e;rw[O]at q3;cases q3;exact n9.mono hK Z (fun b e=>S.block b (.inr ⟨u,y,e⟩)) (h.mem.cont i _ .own u R (by simp) y)
  .exact q.mem.cont i c f hd k C q3
 .intro i c hd b k C q3;rcases d i _ k with⟨rfl,e⟩|⟨e,k⟩
  .cases e;have j:=s hd b C q3;have P:=hb b j;obtain⟨f1,f2⟩:=M b (.inr j);refine⟨fun hh=>hh.2 j,by rw[f1];exact P.2.1,by rw[f2];exact P.2.2,fun hc=>?_⟩
   obtain⟨l,z,A⟩:=j;obtain⟨_,_,_,g4⟩:=h.mem.own i _ l b R z A;obtain⟨cs,e,g⟩:=g4 hc;exact⟨cs,e,by rw[S.block b (.inr ⟨l,z,A⟩)];exact g⟩
  .obtain⟨N,g2,E,g4⟩:=q.mem.own i c hd b k C q3;exact⟨fun hh=>N hh.1,g2,E,g4⟩
 .intro i c hd b k C q3;rcases d i _ k with⟨rfl,e⟩|⟨e,k⟩
  .cases e
  .exact q.mem.X9 i c hd b k C q3
 .intro r1 V c1 c2 l I b k C q3 q4 q5 q6;have not:∀i c hd,m' i=some (c,p0.own)->H' i=some hd->hd.base=some b->¬dD H r b:=fun i c hd z A e3 j=>(q.mem.own i c hd b z A e3).1 (L b (.inr j))
  rcases d r1 _ k with⟨x1,e⟩|⟨e,y1⟩
  .rcases d V _ C with⟨x2,e'⟩|⟨e',y2⟩
   .rw[x1,x2]
   .rw[x1]at q3;exact absurd (s l b q3 q5) (not V _ I y2 q4 q6)
  .rcases d V _ C with⟨x2,e'⟩|⟨e',y2⟩
   .rw[x2]at q4;exact absurd (s I b q4 q6) (not r1 _ l y1 q3 q5)
   .exact q.mem.inj r1 V c1 c2 l I b y1 y2 q3 q4 q5 q6
 .have:=q.defers;cases B with
  |none=>exact this
  |some b=>
   obtain⟨h0,Ds,N,g2,E⟩:=this;refine⟨h0,Ds,N,g2,fun D Y=>⟨(E D Y).1,⟨(E D Y).2.1,fun j=>?_⟩,(E D Y).2.2⟩⟩
   have z:=(E D Y).2.2;have A:=S.block D (.inr j);rw[z]at A;obtain⟨hd,k1,k2⟩:=j;have:=Ns (h.mem.cont r _ .own hd R (by simp) k1) k2 A.symm
   cases this
end
end Go.Abs
end
section
namespace Go.Abs
structure WK where
 i:Operand
 t:Tmp
 r1:List Oper
 a1:Array Oper
 c1:Code
 b:Nat
 i2:Operand
 t2:Tmp
 r2:List Oper
 a2:Array Oper
 c2:Code
def KF(ops:Array Oper):Option (Operand×Tmp×List Oper):=match ops.toList with
 |o::r=>(match o.op,o.dst,o.guard with
  |.entry i,some t,none=>some (i,t,r)
  |_,_,_=>none)
 |[]=>none
def lJ:Code->Option WK
 |.seq (.region _ a false) (.seq d (.block b (.seq (.region _ c false) e)))=>(match Ey a,KF c with
  |some (i,t),some (f,g,h)=>some ⟨i,t,a.toList.drop 1,a,d,b,f,g,h,c,e⟩
  |_,_=>none)
 |_=>none
def Ai:Code->Option (Array Oper×Nat×TypeId×Operand×Operand)
 |.region _ ops true=>(match ops.toList.getLast? with
  |some o=>(match o.op,o.dst with
   |.store t a x,none=>some (ops,ops.toList.length- 1,t,a,x)
   |_,_=>none)
  |none=>none)
 |_=>none
noncomputable section
def lK:List Oper->List Nat:=@List.rec Oper (fun _=>List Nat) [] (fun o _ a=>@Option.rec Tmp (fun _=>List Nat) a (fun t=>t::a) o.dst)
def Gt:Code->List Nat:=@Code.rec (fun _=>List Nat) [] (fun _ ops _=>lK ops.toList) (fun _ _ a b=>JI a b) (fun _ _ _ a b=>JI a b) (fun _ _ a=>a) (fun _ a=>a) (fun _ ps _ _ a b=>JI ps.toList (JI a b)) (fun _=>[]) (fun _ a=>a) (fun _=>[]) (fun _=>[]) [] (fun _=>[])
def isSet(v:BV):Bool:=@BV.rec (fun _=>Bool) (fun _=>true) (fun _ _=>true) (fun _=>true) false v
def vM(b:List Nat)(E:Nat)(A:z7):List Nat->List Nat:=@List.rec Nat (fun _=>List Nat) [] (fun t _ a=>iB (O0 t b) a (iB (isSet (o8 E A t)) (t::a) a))
def Sj(E:Nat)(A:z7):List Nat->Nat->z7->(Nat->z7->Rn)->Rn:=@List.rec Nat (fun _=>Nat->z7->(Nat->z7->Rn)->Rn) (fun a b k=>k a b) (fun t _ c a b k=>G3 t (o8 E A t) a b fun d e=>c d e k)
def a09(E:Nat)(A:z7)(a:Nat)(b:z7):List Nat->Bool:=@List.rec Nat (fun _=>Bool) true (fun t _ c=>iB (xU (o8 E A t) (o8 a b t)) c false)
def XP(o o':HO):Bool:=@HO.rec (fun _=>Bool) (fun _ _=>ZE o o') (fun _ _ _ _=>ZE o o') (fun _ _ _ _=>ZE o o') (fun m s l a=>@HO.rec (fun _=>Bool) (fun _ _=>false) (fun _ _ _ _=>false) (fun _ _ _ _=>false) (fun b c d e=>iB (Nat.beq m b) (iB (Nat.beq s c) (iB (Nat.beq a e) (Rm Nat.beq l d) false) false) false) false o')
 (@HO.rec (fun _=>Bool) (fun _ _=>false) (fun _ _ _ _=>false) (fun _ _ _ _=>false) (fun _ _ _ _=>false) true o') o
def a4t(a:Nat)(b:m8)(nx:Nat)(D:m8)(r0:Nat):Nat->Bool:=@Nat.rec (fun _=>Bool) true (fun r c=>iB (iB (Nat.beq r r0) true (XP (m6 a b r) (m6 nx D r))) c false)
def Aj(c:List Nat)(d:Nat)(e:z7)(nx:Nat)(D:m8)(p r0:Nat)(a:Rn)(E:Nat)(A:z7)(b:Nat)(f:m8)(g:Nat):Rn:=iB (Nat.beq g p) (iB (a09 E A d e c) (iB (a4t b f nx D r0 nx) a (.er 561 0)) (.er 562 0)) (.er 563 0)
def wU(a:WK)(c d ks vs clk:Nat)(l:ME)(P:Program)(F:Nat)(R:z0)(I:kF)(b:KS)(q:Nat×Nat×Nat):KS:=fun E A nx D p=>
 G3 a.t (.t [(0,17),(ks,q.2.1),(vs,q.2.2)]) E A fun E A=>L6 a.r1 P R none a.a1 (fun E A nx D p=>xV a.c1 P F R I none E A nx D p fun e E A nx D p=>pM e
  (iB (xU (J0 E A a.i2) (.c c)) (iB (ZE (m6 nx D d) (.m ks vs l clk)) (G3 a.t2 (.t [(ks,q.2.1),(vs,q.2.2)]) E A fun E A=>L6 a.r2 P R none a.a2 b E A nx D p) (.er 564 0)) (.er 565 0)) (fun _=>.er 566 0) (.er 567 0)) E A nx D p
def a2L(c:WK)(P:Program)(F:Nat)(R:z0)(I:kF)(a:KS):KS:=fun E A nx D p=>xV c.c2 P F R I none E A nx D p fun e E A nx D p=>pM e (a E A nx D p) (fun i=>iB (Nat.beq i c.b) (a E A nx D p) (.er 568 0)) (.er 569 0)
def IE(t:TypeId)(d x:Operand)(P:Program)(b:Rn->KS):KS:=fun E A nx D p=>@BV.rec (fun _=>Rn) (fun c=>@BV.rec (fun _=>Rn) (fun y=>iB (Nat.beq (j9 P t) 1) (iB (Nat.ble 3 c) (iB (Nat.ble 3 y) (iB (Nat.ble (Nat.mod y 8) 3) (b (.ok (.a (pO c) y) []) E A nx D p) (.er 571 0)) (.er 572 0)) (.er 573 0)) (.er 574 0)) (fun _ _=>.er 575 0) (fun _=>.er 576 0) (.er 577 0) (J0 E A x)) (fun _ _=>.er 578 0) (fun _=>.er 579 0) (.er 580 0) (J0 E A d)
def Nt(ops:Array Oper)(j:Nat)(t:TypeId)(d x:Operand)(P:Program)(R:z0)(r0 s N:Nat)(a:Rn->KS):KS:=fun E A nx D p=>iB (Nat.ble (Nat.succ r0) nx) (aK nx D r0 (.c s N) fun D=>dP ops.toList P R ops (fun E A nx D p b=>iB (eM (pW b) (Y0 ops)) (iB (CN r0 j (pW b) 0) (IE t d x P a E A nx D p) (.er 560 0)) (.er 504 0)) E A nx D p []) (.er 598 0)
def a4u(r0 E:Nat)(A:z7):List Nat->Bool:=@List.rec Nat (fun _=>Bool) false (fun t _ a=>iB (@BV.rec (fun _=>Bool) (fun c=>iB (Ln c) (Nat.beq (sR c) r0) false) (fun _ _=>false) (fun _=>false) false (o8 E A t)) true a)
def Nu(f:Nat×Nat×Nat->Rn):ME->List (Nat×Nat)->(List (Nat×Nat)->Rn)->Rn:=@List.rec (Nat×Nat×Nat) (fun _=>List (Nat×Nat)->(List (Nat×Nat)->Rn)->Rn) (fun a k=>k a) (fun q _ b a k=>@Rn.rec (fun _=>Rn) (fun c x=>.er c x) (fun v _=>@BV.rec (fun _=>Rn) (fun _=>.er 581 0) (fun o y=>fN o fun o=>fN y fun y=>b ((o,y)::a) k) (fun _=>.er 582 0) (.er 583 0) v) (f q))
def CO:List (Nat×Nat)->Nat->Nat:=@List.rec (Nat×Nat) (fun _=>Nat->Nat) (fun n=>n) (fun p _ a n=>a (W2 n p.1 1 p.2))
def a1a(s N:Nat):List (Nat×Nat)->Bool:=@List.rec (Nat×Nat) (fun _=>Bool) true (fun p _ a=>iB (Nat.beq (P3 (Nat.div N cB) p.1) p.2) (iB (Nat.ble (Nat.succ p.1) s) a false) false)
def pZ(a:WK)(P:Program)(F:Nat)(R:z0)(I:kF)(b:KC):KS:=fun E A nx D p=>G3 a.t (.t [(0,9)]) E A fun E A=>L6 a.r1 P R none a.a1 (fun E A nx D p=>xV a.c1 P F R I none E A nx D p fun e E A nx D p=>pM e (.er 584 0) (fun i=>b (.exit i) E A nx D p) (b .ret E A nx D p)) E A nx D p
def XR(r0:Nat)(d:WK)(P:Program)(F:Nat)(R:z0)(I:kF)(h:KC)(e:List Nat)(E:Nat)(A:z7)(nx:Nat)(D:m8)(p c i ks vs clk:Nat)(l L:ME):Rn:=
 @Option.rec _ (fun _=>Rn)
  (iB (Nat.ble nx r0) (Nu (fun q=>wU d c i ks vs clk l P F R I (a2L d P F R I (Aj e E A nx D p r0 (.ok (.a 0 0) []))) q E A nx D p) L [] fun _=>pZ d P F R I h E A nx D p) (.er 585 0))
  (fun s0=>iB (Nat.ble (Nat.succ r0) nx) (iB (Nat.beq r0 (pR c)) (.er 592 0) (@HO.rec (fun _=>Rn) (fun s N=>iB (a4u r0 E A e) (aK nx D r0 .z fun D2=>Nu (fun q=>wU d c i ks vs clk l P F R I (Nt s0.1 s0.2.1 s0.2.2.1 s0.2.2.2.1 s0.2.2.2.2 P R r0 s N (fun f=>Aj e E A nx D2 p r0 f)) q E A nx D2 p) L [] fun b=>
   fN (CO b N) fun g=>iB (a1a s g b) (iB (Nat.ble (Nat.succ (Nat.div g cB)) (Nat.pow cB s)) (aK nx D r0 (.c s g) fun D3=>pZ d P F R I h E A nx D3 p) (.er 597 0)) (.er 586 0)) (.er 599 0)) (fun _ _ _ _=>.er 587 0) (fun _ _ _ _=>.er 588 0) (fun _ _ _ _=>.er 589 0) (.er 590 0) (m6 nx D r0))) (.er 591 0))
  (iB (Nat.ble nx r0) none (Ai d.c2))
def Sk(g r0:Nat)(b:Code)(f:WK)(P:Program)(F:Nat)(R:z0)(I:kF)(E:Nat)(A:z7)(nx:Nat)(D:m8)(p:Nat)(k:KC):Rn:=
 @BV.rec (fun _=>Rn) (fun c=>iB (sV c) (iB (Nat.beq (pO c) 0) (@HO.rec (fun _=>Rn) (fun _ _=>.er 543 1) (fun _ _ _ _=>.er 544 1) (fun _ _ _ _=>.er 545 1) (fun e a seen d=>@HO.rec (fun _=>Rn) (fun _ _=>.er 546 1) (fun ks vs l clk=>iB (Tb a l) (iB (iB (Nat.ble a 1048576) (Nat.ble a d) false) (iB (Nat.beq clk d) (iB (VT l 0) (iB (Nat.beq e (pR c)) (.er 594 0) (iB (Nat.beq e r0) (.er 595 0)
  (Sj E A (vM (Gt b) E A (SZ g 0)) (Nat.mod E 4294967291) [] fun h j=>iB (xU (J0 h j f.i) (.c c)) (aK nx D (pR c) .z fun m=>XR r0 f P F R I k (vM (Gt b) E A (SZ g 0)) h j nx m p c e ks vs clk l (x6 seen l)) (.er 596 0))
  )) (.er 593 1)) (.er 594 1)) (.er 547 1)) (.er 548 1)) (fun _ _ _ _=>.er 549 1) (fun _ _ _ _=>.er 550 1) (.er 551 1) (m6 nx D e)) (.er 552 1) (m6 nx D (pR c))) (.er 553 1)) (.er 554 1)) (fun _ _=>.er 555 1) (fun _=>.er 556 1) (.er 557 1) (J0 E A f.i)
def Nv(q r0:Nat):Code->pX:=@Code.rec (fun _=>pX)
 (fun _ _ _ _ _ E A nx D p k=>k .normal E A nx D p)
 (fun _ ops m=>JJ ops m)
 (fun _ _ d o P F R I Y E A nx D p k=>d P F R I Y E A nx D p fun e f h c D' j=>pM e (o P F R I Y f h c D' j k) (fun i=>k (.exit i) f h c D' j) (k .ret f h c D' j))
 (fun g _ _ d o P F R I Y E A nx D p k=>@BV.rec (fun _=>Rn) (fun n=>iB (Nat.beq n 17) (d P F R I Y E A nx D p k) (iB (Nat.beq n 9) (o P F R I Y E A nx D p k) (.er 513 0))) (fun _ _=>.er 514 0) (fun _=>.er 515 0) (.er 516 0) (J0 E A g))
 (fun id _ d P F R I Y E A nx D p k=>d P F R I Y E A nx D p fun e f h c D' j=>pM e (k .normal f h c D' j) (fun i=>iB (Nat.beq i id) (k .normal f h c D' j) (k (.exit i) f h c D' j)) (k .ret f h c D' j))
 (fun l d P F R I Y E A nx D p k=>@Option.rec WK (fun _=>Rn) (fL (d P F R I Y) k F E A nx D p) (fun r=>Sk q r0 l r P F R I E A nx D p k) (lJ l))
 (fun g ps a b _ _=>xV (.rangeFunc g ps a b))
 (fun i _ _ _ _ _ E A nx D p k=>k (.exit i) E A nx D p)
 (fun _ d=>d)
 (fun _ _ _ _ _ _ E A nx D p k=>k .normal E A nx D p)
 (fun _ _ _ _ _ _ _ _ _ _ _ _=>.er 522 0)
 (fun _ _ _ _ _ E A nx D p k=>k .ret E A nx D p)
 (fun _ _ _ _ _ _ _ _ _ _ _ _=>.er 523 0)
def XS(g r0:Nat)(F:Nat)(P:Program)(R:z0):z0:=fun f args a=>iB (Lz P f) (iB (Nat.ble (B8 a) 1000000) (kN args 0 (xW args) [] fun E A=>news a 0 .e fun m D=>Nv g r0 (lE P f) P F R (Td F P R) none E A m D 0 fun e c d b D' _=>
 pM e (AZ P f m a c d (m6 b D')) (fun _=>.er 535 f) (AZ P f m a c d (m6 b D'))) (.er 536 f)) (.er 537 f)
end
end Go.Abs
end
section
namespace Go.Abs
noncomputable section
def KG(args:List BV)(a:List HO):Rn:=@List.rec BV (fun _=>Rn) (.er 600 0) (fun v r _=>@List.rec BV (fun _=>Rn) (@BV.rec (fun _=>Rn) (fun c=>iB (Nat.beq c (kD 0)) (@List.rec HO (fun _=>Rn) (.er 602 0) (fun o r _=>@List.rec HO (fun _=>Rn) (@HO.rec (fun _=>Rn) (fun _ _=>.er 603 0) (fun ks vs l clk=>.ok (.c (kD 1)) [.m ks vs l clk,.m ks vs l clk]) (fun _ _ _ _=>.er 604 0) (fun _ _ _ _=>.er 605 0) (.er 606 0) o) (fun _ _ _=>.er 607 0) r) a) (.er 608 0)) (fun _ _=>.er 609 0) (fun _=>.er 610 0) (.er 611 0) v) (fun _ _ _=>.er 612 0) r) args
def XT(S:List (Nat×Nat×Nat))(b F:Nat)(P:Program)(R:z0):z0:=fun f args a=>@List.rec (Nat×Nat×Nat) (fun _=>Rn) (iB (Nat.beq f b) (KG args a) (a2K F P R f args a)) (fun p _ c=>iB (Nat.beq f p.1) (XS p.2.1 p.2.2 F P R f args a) c) S
end
end Go.Abs
end
section
namespace Go.Abs
theorem KH{ops:Array Oper}{i:Operand}{t:Tmp}{r:List Oper}(h:KF ops=some (i,t,r)):∃o,ops.toList=o::r/\o.op=.entry i/\o.dst=some t/\o.guard=none:=by
 unfold KF at h;split at h
 .rename_i o rest e;split at h
  .rename_i d f a b c;cases h;exact⟨o,e,a,b,c⟩
  .cases h
 .cases h
theorem CP{c:Code}{a:WK}(h:lJ c=some a):∃d e oN f,c=.seq (.region d a.a1 false) (.seq a.c1 (.block a.b (.seq (.region e a.a2 false) a.c2)))/\
  a.a1.toList=oN::a.r1/\oN.op=.next a.i false/\oN.dst=some a.t/\oN.guard=none/\a.a2.toList=f::a.r2/\f.op=.entry a.i2/\f.dst=some a.t2/\f.guard=none:=by
 unfold lJ at h;split at h
 .rename_i d v w b e x y;split at h
  .rename_i i t A B C g j;cases h;obtain⟨o,rest,k,m,n,p⟩:=CH g;obtain⟨f,q,r,s,u⟩:=KH j;exact⟨d,e,o,f,rfl,by rw[k];rfl,m,n,p,q,r,s,u⟩
  .cases h
 .cases h
theorem KI{c:Code}{ops:Array Oper}{j:Nat}{t:TypeId}{a x:Operand}(h:Ai c=some (ops,j,t,a,x)):∃id o,c=.region id ops true/\ops.toList[j]? =some o/\j+1=ops.toList.length/\o.op=.store t a x/\o.dst=none:=by
 unfold Ai at h;split at h
 .rename_i id d;split at h
  .rename_i o e;split at h
   .rename_i k m n f g;cases h;refine⟨id,o,rfl,?_,?_,f,g⟩
    .rw[List.getLast?_eq_getElem?]at e;exact e
    .have:0<ops.toList.length:=by
      cases i:ops.toList with
      |nil=>rw[i]at e;cases e
      |cons a b=>simp
     omega
   .cases h
  .cases h
 .cases h
section
variable {z:BV} {l:List HO}
theorem XU{t:Nat}{e:List (Nat×Nat)}{E:Nat}{A:z7}{f:Nat->z7->Rn}(h:G3 t (.t e) E A f=.ok z l)(q:List (Nat×Nat))(k:Nat->z7->Rn):∃b a,G3 t (.t q) E A k=k b a/\∀t',o8 b a t'=if t'=t then .t q else o8 E A t':=by
 unfold G3 at h ⊢;rw[a9]at h;split at h
 .rename_i c;rw[a9,aj c];have c:E % cB+1<cB:=Kj (af c);obtain⟨a,g,i⟩:=iI (.t q) A t (fun a=>k (X5 E t 0) a)
  refine⟨X5 E t 0,a,?_,fun t'=>?_⟩
  .show fN (X5 E t 0) (fun b=>fP q fun l=>AW (.t l) A t fun a=>k b a)=_
   simp only[B6,MH];exact g
  .rw[T6,T6,rR R4 c,i t'];by_cases d:t'=t
   .simp only[d,di]
   .simp only[d,dw]
 .cases h
theorem N7{β:Type}{nx:Nat}{d:m8}{i:Nat}{o:HO}(c:i<nx)(k:m8->β):∃b,aK nx d i o k=k b/\∀r,m6 nx b r=if r=i then o else m6 nx d r:=by
 obtain⟨b,e,f⟩:=mS (nx:=nx) (d:=d) (i:=i) (o:=o) (k:=k) (gw c);refine⟨b,e,fun r=>?_⟩
 rw[T5,T5];by_cases a:r<nx
 .rw[aj a,aj a,f r (gw a)]
 .rw[ai a,ai a,ai (by omega)]
theorem a4v{nx:Nat}{D:m8}{r:Nat}(h:nx<=r):m6 nx D r=.z:=by rw[T5,ai (by omega)]
theorem fG{nx:Nat}{D:m8}{r:Nat}{o:HO}(h:m6 nx D r=o)(b:o≠ .z):r<nx:=by
 rcases bh r nx with a|a
 .exact a
 .rw[a4v a]at h;exact absurd h.symm b
theorem Nw{k:Nat×Nat×Nat->Rn}:∀ {L:ME},L≠ []->(∀p∈L,k p=.ok (.c 0) [])->Tc k L=.ok (.c 0) []
 |[],h,_=>absurd rfl h
 |[q],_,h=>h q (ar ..)
 |q::a::r,_,h=>by
  show OI (k q) (Tc k (a::r))=_;rw[h q (ar ..),Nw (by simp) (fun p b=>h p (al _ b))]
  rfl
theorem XV{i:Operand}{t:Tmp}{E:Nat}{A:z7}{nx:Nat}{D:m8}{p c u a h ks vs clk:Nat}{seen:List Nat}{L:ME}{n:KS}(G:J0 E A i=.c c)(H:sV c=true)(I:Nat.beq (pO c) 0=true)(B:m6 nx D (pR c)=.i u a seen h)
  (J:m6 nx D u=.m ks vs L clk)(K:Tb a L=true)(w:Nat.ble a 1048576=true)(M:Nat.ble a h=true)
  (j:∀q (k:Nat->z7->Rn),∃b f,G3 t (.t q) E A k=k b f/\∀g,o8 b f g=if g=t then .t q else o8 E A g)
  (v:x6 seen L=[]->∀b f,(∀g,o8 b f g=if g=t then .t [(0,9)]else o8 E A g)->n b f nx D p=.ok (.c 0) [])
  (s:∀q∈x6 seen L,∀b f D',(∀g,o8 b f g=if g=t then .t [(0,17),(ks,q.2.1),(vs,q.2.2)]else o8 E A g)->(∀r,m6 nx D' r=if r=pR c then .i u a (q.1::seen) clk else m6 nx D r)->n b f nx D' p=.ok (.c 0) []):
  Ez i t n E A nx D p=.ok (.c 0) []:=by
 have x:=fG B (by simp)
 unfold Ez;rw[G];show iB (sV c) (iB (Nat.beq (pO c) 0) _ _) _=_;rw[H,I];simp only[a9,di];rw[B];show @HO.rec (fun _=>Rn) _ _ _ _ _ (m6 nx D u)=_
 rw[J];simp only[K,w,M,di];cases C:x6 seen L with
 |nil=>
  obtain⟨b,f,y,g2⟩:=j [(0,9)] (fun b f=>n b f nx D p)
  show G3 t (.t [(0,9)]) E A (fun b f=>n b f nx D p)=_
  rw[y];exact v C b f g2
 |cons q U=>
  refine Nw (by simp) (fun e N=>?_)
  rw[B6];obtain⟨F,y,g2⟩:=N7 (d:=D) (o:=.i u a (e.1::seen) clk) x (fun D'=>G3 t (.t [(0,17),(ks,e.2.1),(vs,e.2.2)]) E A fun b f=>n b f nx D' p)
  rw[y];obtain⟨b,f,O,P⟩:=j [(0,17),(ks,e.2.1),(vs,e.2.2)] (fun b f=>n b f nx F p)
  rw[O];exact s e (by rw[C];exact N) b f F P g2
theorem BE{E:Nat}{A:z7}{c:Nat}{d:z7}:∀ {e:List Nat},a09 E A c d e=true->∀t∈e,o8 E A t=o8 c d t
 |[],_,t,b=>by cases b
 |a::e,h,t,b=>by
  have h:iB (xU (o8 E A a) (o8 c d a)) (a09 E A c d e) false=true:=h;rw[a9]at h;split at h
  .rename_i f;rcases av.1 b with rfl|b
   .exact eU _ _ f
   .exact BE h t b
  .cases h
theorem IF{o o':HO}(h:XP o o'=true):o=o':=by
 cases o with
 |c s n=>exact mW _ _ h
 |m a b c d=>exact mW _ _ h
 |f a b c d=>exact mW _ _ h
 |i m s q a=>
  cases o' with
  |i g j k p=>
   have h:iB (Nat.beq m g) (iB (Nat.beq s j) (iB (Nat.beq a p) (Rm Nat.beq q k) false) false) false=true:=h;simp only[a9]at h;split at h
   .split at h
    .split at h
     .rename_i r t u;rw[ab r,ab t,ab u,jU (fun a b e=>ab e) h]
     .cases h
    .cases h
   .cases h
  |c _ _=>exact Bool.noConfusion (show false=true from h)
  |m _ _ _ _=>exact Bool.noConfusion (show false=true from h)
  |f _ _ _ _=>exact Bool.noConfusion (show false=true from h)
  |z=>exact Bool.noConfusion (show false=true from h)
 |z=>
  cases o' with
  |z=>rfl
  |c _ _=>exact Bool.noConfusion (show false=true from h)
  |m _ _ _ _=>exact Bool.noConfusion (show false=true from h)
  |f _ _ _ _=>exact Bool.noConfusion (show false=true from h)
  |i _ _ _ _=>exact Bool.noConfusion (show false=true from h)
theorem IG{a:Nat}{b:m8}{nx:Nat}{D:m8}{r0:Nat}:∀ {m:Nat},a4t a b nx D r0 m=true->∀r,r<m->r≠r0->m6 a b r=m6 nx D r
 |0,_,r,c,_=>absurd c (by omega)
 |m+1,h,r,c,d=>by
  have h:iB (iB (Nat.beq m r0) true (XP (m6 a b m) (m6 nx D m))) (a4t a b nx D r0 m) false=true:=h;rw[a9]at h;split at h
  .rename_i f;by_cases e:r=m
   .subst e;rw[a9,ai (fun e=>d (ab e))]at f
    exact IF f
   .exact IG h r (by omega) d
  .cases h
theorem IH{c:List Nat}{d:Nat}{e:z7}{nx:Nat}{D:m8}{p r0:Nat}{a:Rn}{E:Nat}{A:z7}{b:Nat}{f:m8}{g:Nat}(h:Aj c d e nx D p r0 a E A b f g=.ok z l):g=p/\(∀t∈c,o8 E A t=o8 d e t)/\(∀r,r<nx->r≠r0->m6 b f r=m6 nx D r)/\a=.ok z l:=by
 unfold Aj at h;simp only[a9]at h;split at h
 .split at h
  .split at h
   .rename_i i j k;exact⟨ab i,BE j,IG k,h⟩
   .cases h
  .cases h
 .cases h
theorem Gu{E:Nat}{A:z7}:∀ {g:List Nat} {b:Nat} {c:z7} {k:Nat->z7->Rn},Sj E A g b c k=.ok z l->∃d f,k d f=.ok z l/\∀t,o8 d f t=if t∈g then o8 E A t else o8 b c t
 |[],b,c,k,h=>⟨b,c,h,fun t=>by simp⟩
 |a::g,b,c,k,h=>by
  obtain⟨o,p,j,m⟩:=M6 (show G3 a (o8 E A a) b c (fun d f=>Sj E A g d f k)=_ from h)
  obtain⟨d,f,n,g2⟩:=Gu j;refine⟨d,f,n,fun t=>?_⟩
  rw[g2,m];by_cases e:t∈g
  .rw[aj e,aj (al _ e)]
  .rw[ai e];by_cases i:t=a
   .subst i;rw[aj rfl,aj (ar ..)]
   .rw[ai i,ai (by simp[e,i])]
theorem II{s:Nat}(h:s<cB)(t:Nat):o8 s [] t=.u:=by
 rw[T6,aj]
 .rfl
 .rw[zT];have a:cB^1<=cB^ (t+1):=mz (by decide) (by omega)
  rw[fg]at a;rw[fl (cc h a),ra]
theorem Gv{f:Nat×Nat×Nat->Rn}:∀ {L:ME} {d:List (Nat×Nat)} {k:List (Nat×Nat)->Rn},Nu f L d k=.ok z l->
  ∃b,k b=.ok z l/\(∀p∈d,p∈b)/\(∀q∈L,∃o y i,f q=.ok (.a o y) i/\(o,y)∈b)/\∀p∈b,p∈d\/∃q∈L,∃i,f q=.ok (.a p.1 p.2) i
 |[],d,k,h=>⟨d,h,fun p e=>e,fun q s=>absurd s (by simp),fun p e=>.inl e⟩
 |q::L,d,k,h=>by
  have h: @Rn.rec (fun _=>Rn) (fun c x=>.er c x) (fun v _=>@BV.rec (fun _=>Rn) (fun _=>.er 581 0) (fun o y=>fN o fun o=>fN y fun y=>Nu f L ((o,y)::d) k) (fun _=>.er 582 0) (.er 583 0) v) (f q)=.ok z l:=h
  cases m:f q with
  |er c x=>rw[m]at h;cases h
  |ok v i=>
   rw[m]at h;cases v with
   |c n=>cases h
   |t q=>cases h
   |u=>cases h
   |a o y=>
    simp only[B6]at h;obtain⟨b,w,g2,A,B⟩:=Gv h;refine⟨b,w,fun p e=>g2 p (al _ e),fun r g=>?_,fun p e=>?_⟩
    .rcases av.1 g with rfl|g
     .exact⟨o,y,i,m,g2 _ (ar ..)⟩
     .exact A r g
    .rcases B p e with j|⟨r,j,C⟩
     .rcases av.1 j with rfl|j
      .exact .inr ⟨q,ar ..,i,m⟩
      .exact .inl j
     .exact .inr ⟨r,al _ j,C⟩
theorem IJ{s N:Nat}:∀ {a:List (Nat×Nat)},a1a s N a=true->∀p∈a,P3 (N/cB) p.1=p.2/\p.1+1<=s
 |[],_,p,b=>by cases b
 |q::a,h,p,b=>by
  have h:iB (Nat.beq (P3 (N/cB) q.1) q.2) (iB (Nat.ble (q.1+1) s) (a1a s N a) false) false=true:=h;simp only[a9]at h;split at h
  .split at h
   .rename_i c d;rcases av.1 b with rfl|b
    .exact⟨ab c,af d⟩
    .exact IJ h p b
   .cases h
  .cases h
theorem Gw{N o y i:Nat}(a:y<cB):P3 (W2 N o 1 y/cB) i=if i=o then y else P3 (N/cB) i:=by
 rw[Ft (by rw[fg];exact a),JL (by rw[fg];exact a)]
 by_cases h:i=o
 .subst h;rw[aj (by omega),aj rfl,pz,X6 a]
 .rw[ai (by omega),ai h]
theorem IK{i:Nat}:∀ {a:List (Nat×Nat)} {N:Nat},(∀p∈a,p.2<cB)->(∀p∈a,p.1≠i)->P3 (CO a N/cB) i=P3 (N/cB) i
 |[],N,_,_=>rfl
 |p::a,N,c,d=>by
  show P3 (CO a (W2 N p.1 1 p.2) /cB) i=_;rw[IK (fun q b=>c q (al _ b)) (fun q b=>d q (al _ b)),Gw (c p (ar ..)),ai (fun e=>d p (ar ..) e.symm)]
end
theorem mem_left{seen:List Nat}:∀ {L:ME} {q:Nat×Nat×Nat},q∈x6 seen L↔q∈L/\q.1 ∉ seen
 |[],q=>by simp[x6]
 |p::L,q=>by
  have e:x6 seen (p::L)=iB (O0 p.1 seen) (x6 seen L) (p::x6 seen L):=rfl;rw[e,a9];split
  .rename_i h;have h:=X7.1 h;rw[mem_left,av];constructor
   .exact fun hh=>⟨.inr hh.1,hh.2⟩
   .rintro⟨rfl|hh,a⟩
    .exact absurd h a
    .exact⟨hh,a⟩
  .rename_i h;have h:p.1 ∉ seen:=fun e=>h (X7.2 e)
   rw[av,av,mem_left];constructor
   .rintro(rfl|hh)
    .exact⟨.inl rfl,h⟩
    .exact⟨.inr hh.1,hh.2⟩
   .rintro⟨rfl|hh,a⟩
    .exact .inl rfl
    .exact .inr ⟨hh,a⟩
theorem Uv{seen:List Nat}{s:Nat}:∀ {L:ME},(∃q∈x6 seen L,q.1=s)->(x6 (s::seen) L).length<(x6 seen L).length:=by
 have g:∀ {L:ME},(x6 (s::seen) L).length<=(x6 seen L).length:=by
  intro L
  induction L with
  |nil=>exact aw _
  |cons p L c=>
   have d:x6 seen (p::L)=iB (O0 p.1 seen) (x6 seen L) (p::x6 seen L):=rfl;have e:x6 (s::seen) (p::L)=iB (O0 p.1 (s::seen)) (x6 (s::seen) L) (p::x6 (s::seen) L):=rfl;rw[d,e,a9,a9,mX,mX];by_cases h:p.1∈seen
   .simp[h,c]
   .by_cases b:p.1=s
    .subst b;simp[h];omega
    .simp[h,b];exact c
 intro L
 induction L with
 |nil=>rintro⟨q,a,_⟩;cases a
 |cons p L c=>
  rintro⟨q,a,f⟩;have d:x6 seen (p::L)=iB (O0 p.1 seen) (x6 seen L) (p::x6 seen L):=rfl;have e:x6 (s::seen) (p::L)=iB (O0 p.1 (s::seen)) (x6 (s::seen) L) (p::x6 (s::seen) L):=rfl;rw[d,a9,mX]at a ⊢;rw[e,a9,mX];by_cases h:p.1∈seen
  .simp[h]at a ⊢;exact c ⟨q,a,f⟩
  .by_cases b:p.1=s
   .have:=g (L:=L);have i:s ∉ seen:=b▸h;simp[b,i];omega
   .simp[h]at a;simp[h,b];rcases a with rfl|a
    .exact absurd f b
    .exact c ⟨q,a,f⟩
theorem a1b{L:ME}(h:VT L 0=true){p q:Nat×Nat×Nat}(f:p∈L)(g:q∈L)(e:p.1=q.1):p=q:=by
 have:=(Il h).2;obtain⟨i,d⟩:=bn.1 f;obtain⟨j,a⟩:=bn.1 g;have b:=O8 d;have c:=O8 a;have:i=j:=by
  refine(List.getElem_inj (h₀:=by simpa using b) (h₁:=by simpa using c) this).1 ?_
  simp only[ph];rw[ag b]at d;rw[ag c]at a;cases d;cases a;exact e
 subst this;rw[d]at a;cases a;rfl
end Go.Abs
end
section
namespace Go.Abs
section
variable {X:fW} {B:Option Nat} {F F1:Nat->Prop} {n:Nat} {K K':b8} {H0 H1:Nat->Option Hd} {T0 T1 T2:Nat->a7} {m0 m1 m2:Mm} {a a':Act} {w w' w0:World}
theorem St.back{E:fW}{G:Nat->Prop}{J K0:b8}(L:X.Ok)(M:X F K H0 w)(s:∀t,b9 K0 H0 (T0 t) (a.tmps.getD t undef))(u:l5 G J H0 w0 m0)(d:St E B F1 n K' H1 T1 m1 a' w')(N:∀b,F b->F1 b)(O:K.le K')(i:aY H0 H1)(S:Kept F w w')
  (T:∀t,T2 t=.S6\/∃v,T2 t=I1 v/\T1 t=I1 v/\T0 t=I1 v)
  (j:∀r x,m2 r=some x->m1 r=some x/\∃o,x=(.z5 o,.own)/\(m0 r=some x\/∀hd,H0 r=some hd->n9 K' H1 w' hd (.z5 o)->n9 K' H0 w' hd (.z5 o))):St X B F1 n K' H0 T2 m2 a' w':=by
 refine⟨d.ok,⟨?_,?_,?_,?_⟩,d.size,d.defers,fun t=>?_,L.grow F F1 K K' H0 H0 w w' M N O (fun _ _ e=>e) S⟩
 .intro r c f hd h k q3;obtain⟨q,o,e,g2⟩:=j r _ h;cases e;have C:=d.mem.cont r _ .own hd q (by simp) (i r hd q3)
  rcases g2 with g2|g2
  .exact XO i C (u.cont r _ .own hd g2 (by simp) q3)
  .exact g2 hd q3 C
 .intro r c hd b h k q3;exact d.mem.own r c hd b (j r _ h).1 (i r hd k) q3
 .intro r c hd b h k q3;obtain⟨_,o,e,_⟩:=j r _ h;cases e
 .intro y A U V l p b h k q3 q4 q5 q6;exact d.mem.inj y A U V l p b (j y _ h).1 (j A _ k).1 (i y l q3) (i A p q4) q5 q6
 .rcases T t with e|⟨v,Y,Z,e3⟩
  .rw[e];simp[b9]
  .rw[Y];have q:=d.tmp t;have D:=s t;rw[Z]at q;rw[e3]at D;exact((aR q).back i (aR D)).I1
end
section
variable {P:Program} {F:Nat->Prop} {K:b8} {H:Nat->Option Hd} {w:World} {m:Mm}
theorem XW{ρ:Operand->Value}{o:Oper}{i:Operand}(D:o.op=.entry i){e f x ks vs clk b:Nat}{seen:List Nat}{l:ME}{q:Nat×Nat×Nat}{c:Hd}(E:l5 F K H w m)(h:m x=some (.z5 (.m ks vs l clk),.own))(G:ρ i=.pointer (some ⟨e,0,none⟩))
  (J:w.heap[e]? =some (.mapIter (some f) b (q.1::seen).reverse.toArray clk))(L:H x=some c)(M:c.base=some f)(N:q∈l)(k:q.1≠Y8):
  ∃y,(execOp ρ o).run P w=.ok (.value y) w/\b9 K H (I1 (.t [(ks,q.2.1),(vs,q.2.2)])) y:=by
 obtain⟨Z,es,A,O,l',S,p,T,r,U⟩:=E.cont _ _ .own c h (by simp) L
 rw[M]at A;cases A;obtain⟨V,Y⟩:=(E9 _ _).1 S;obtain⟨j,C⟩:=bn.1 (p.mem_iff.1 N);have s:j<es.toList.length:=by rw[V];exact O8 C
 have u:=Y j q es.toList[j] C (ag s);have v:w.heap[e]? =some (.mapIter (some f) b (seen.reverse.toArray.push es.toList[j].born) clk):=by rw[J,u.1.resolve_right k];simp
 have d:=qz (P:=P) w e f b seen.reverse.toArray es clk es.toList[j] v O (cf _) r;refine⟨.tuple #[es.toList[j].key,es.toList[j].val],?_,?_⟩
 .simp only[execOp,D,G];exact c8 d
 .simp only[I1,az,lj,b9];exact⟨_,rfl,.cons (by simp only[b9];exact u.2.1) (.cons (by simp only[b9];exact u.2.2.1) .nil)⟩
end
section
variable {P:Program} {R:z0} {z:BV} {lo:List HO} {X:Ctx} {B:Option Nat} {ro:Option Nat} {n:Nat} {g:List a7} {Fu:Nat} {I:kF}
theorem B4.st{E:Nat}{A:z7}{nx:Nat}{D:m8}{p:Nat}{b:j7}(c:B4 n g E A nx D p b){F:Nat->Prop}{K:b8}{H:Nat->Option Hd}{a:Act}{w:World}:St (X.O4 b.gh b.o7) B F n K H b.s6.T b.s6.m a w↔St (X.O4 g (gQ p)) B F n K H (TE E A) (l9 (p8 nx D)) a w:=by
 have d:b.s6.T=TE E A:=c.tmps;rw[d,c.vJ,c.gh,c.o7]
theorem IL(m4:P.follows .mixedOrders=true)(hR:F7 P R)(nK:N3 P (mZ I z lo))(hB:(B=none->ro≠none)\/∀y f args nx D k,I y f args nx D k≠ .ok z lo){s:WK}{CQ:Nat}{V:Oper}(uN:s.a2.toList=V::s.r2)(fZ:V.op=.entry s.i2)(Hk:V.dst=some s.t2)(xJ:V.guard=none)
  (BC:Code.j5 s.c1=true)(bN:w7 n s.a1.toList=true)(Qi:w7 n s.r1=true)(Uw:o9 n s.c1=true)(M:w7 n s.a2.toList=true)
  {c mi ks vs clk N mb bi:Nat}{l:ME}{seen:List Nat}{q:Nat×Nat×Nat}{C:KS}{E1:Nat}{A1:z7}{nx:Nat}{D:m8}{p:Nat}{H0:Nat->Option Hd}{kZ Av:Hd}
  (h:L6 s.r1 P R none s.a1 (fun E A nx D p=>xV s.c1 P Fu R I none E A nx D p fun e E A nx D p=>pM e
   (iB (xU (J0 E A s.i2) (.c c)) (iB (ZE (m6 nx D mi) (.m ks vs l clk)) (G3 s.t2 (.t [(ks,q.2.1),(vs,q.2.2)]) E A fun E A=>L6 s.r2 P R none s.a2 C E A nx D p) (.er 564 0)) (.er 565 0)) (fun _=>.er 566 0) (.er 567 0)) E1 A1 nx D p=.ok z lo)
  (hX:X.Ok)(lO:eT X ro)(hXH:∀F K H p w,X F K H g p w->aY H0 H)(sC:sV c=true)(wV:pO c=0)(Aw:H0 (pR c)=some kZ)(wW:kZ.base=some bi)(Oi:kZ.len=0)(KB:H0 mi=some Av)(Oj:Av.base=some mb)(hq:q∈l)(WS:q.1≠Y8)
  {F:Nat->Prop}(hFb:F bi){st:j7}{K:b8}{H:Nat->Option Hd}{a:Act}{w:World}(hb:w.heap[bi]? =some (.mapIter (some mb) N (q.1::seen).reverse.toArray clk))(he:B4 n g E1 A1 nx D p st)(qC:St (X.O4 st.gh st.o7) B F n K H st.s6.T st.s6.m a w)(G2:∀r,st.nx<=r->H r=none){Q:Exit->Act->World->Prop}
  (hQ:∀E' A' dE D' p' xK a' w',C E' A' dE D' p'=.ok z lo->B4 n g E' A' dE D' p' xK->gD X B F F n K w xK a' w'->s.c2.wpIn (Wd ro) 0 P (Exit.inBlock s.b Q) a' w'):
  wpListIn (Wd ro) 0 P s.a1 (Exit.then ((Code.seq s.c1 (.block s.b (.seq (.region CQ s.a2 false) s.c2))).wpIn (Wd ro) 0 P Q) Q) s.r1 a w:=by
 have XX:∀ (j:Nat) (d:Tmp),(s.a1[j]?).bind (·.dst)=some d->d<n:=fun j d hj=>N1 bN j d (by simpa using hj)
 have O:∀ (j:Nat) (d:Tmp),(s.a2[j]?).bind (·.dst)=some d->d<n:=fun j d hj=>N1 M j d (by simpa using hj)
 refine J1 (yl:=none) (Y:=none) (hh:=none) (F0:=F) hX hR trivial trivial XX s.r1 E1 A1 nx D p _ st F K H a w h Qi he (fun _ h=>h) (fun _ e=>by cases e) qC G2 (fun E2 A2 qB D2 p2 kC a2 w2 jS KJ kX=>?_)
 show(Code.seq s.c1 _).wpIn (Wd ro) 0 P Q a2 w2;obtain⟨⟨F2,K2,H2,Bw,aT,CG,Af,Gf⟩,Z⟩:=kX;refine jo (eV m4 hR nK s.c1 BC Uw X B F ro none g none none hX lO trivial trivial hB E2 A2 qB D2 p2 _ kC F2 K2 H2 a2 w2 _ jS KJ Bw (fun _ e=>by cases e) aT Af ?_)
 intro e E3 A3 nx3 D3 p3 Vc a3 w3 u G Vd;rcases O9 u with⟨rfl,u⟩|⟨i,rfl,u⟩|⟨rfl,u⟩
 rotate_left
 .cases u
 .cases u
 show(Code.block s.b _).wpIn (Wd ro) 0 P Q a3 w3;have Vd:=Vd.trans Bw CG Gf Z;obtain⟨⟨F3,K3,H3,XY,J,hK3,a4w,Nd⟩,L⟩:=Vd;simp only[a9]at u;split at u
 rotate_left
 .cases u
 rename_i RZ;split at u
 rotate_left
 .cases u
 rename_i S;have RZ:=eU _ _ RZ;have S:=mW _ _ S;refine pj (jo (gz ?_));rw[uN];obtain⟨E4,A4,Ux,hT4⟩:=M6 (show G3 s.t2 (.t [(ks,q.2.1),(vs,q.2.2)]) E3 A3 (fun E A=>L6 s.r2 P R none s.a2 C E A nx3 D3 p3)=.ok z lo from u)
 have XZ:aY H0 H3:=hXH F3 K3 H3 Vc.o7 w3 (by have:=J.x;rw[G.gh]at this;exact this)
 have v:=G.st.1 J;have Ak:u6 K3 H3 (.c c) (a3.eval s.i2):=by
  rw[<-RZ];exact T7 v.tmp s.i2
 have KA:a3.eval s.i2=.pointer (some ⟨bi,0,none⟩):=by
  have h4:c % 8=4:=R9.1 sC;rcases Ak with⟨e,_⟩|⟨e,_⟩|hc
  .omega
  .omega
  .obtain⟨hd,b,g1,g2,g3,_⟩:=hc.gP sC;rw[XZ _ _ Aw]at g1;cases g1;rw[wW]at g2;cases g2;rw[g3,wV,Oi]
 have Ya:w3.heap[bi]? =some (.mapIter (some mb) N (q.1::seen).reverse.toArray clk):=by rw[L.block bi hFb];exact hb
 have Se:l9 (p8 nx3 D3) mi=some (.z5 (.m ks vs l clk),.own):=by rw[M0,S]
 obtain⟨y,gI,oB⟩:=XW (P:=P) (ρ:=a3.eval) fZ v.mem Se KA Ya (XZ _ _ KB) Oj hq WS;simp only[wpListIn];have vH:∀ (j:Nat) (d:Tmp),(s.a2[j]?).bind (·.dst)=some d->d<a3.tmps.size:=fun j d h=>cc (O j d h) J.size
 have hgg:z9 s.a2 V Vc.s6.T true:=by unfold z9;rw[xJ]
 rw[M5 J vH hgg,aj rfl];refine⟨fun f _=>bU ro f,?_⟩
 have PW:∀c,V.op≠ .defer c:=fun c e=>by rw[fZ]at e;cases e
 rw[gu _ _ _ PW,gI];show wpListIn (Wd ro) 0 P s.a2 _ s.r2 (a3.put V.dst y) w3;rw[uN]at M;simp only[w7,ah]at M;have KK:=v.put (o:=V) M.1 (hX.grow _ _) (.refl K3) (fun _ _ e=>e) (.refl F3 w3) v.ok v.mem oB
 obtain⟨Yb,U⟩:=B4.ex n g E4 A4 nx3 D3 p3 G.lt;have hT:O7 (TE E3 A3) V.dst (I1 (.t [(ks,q.2.1),(vs,q.2.2)]))=TE E4 A4:=by
  rw[Hk];funext t';unfold TE;rw[hT4];simp only[O7];split<;>rfl
 rw[hT]at KK;refine J1 (yl:=none) (Y:=none) (hh:=none) (F0:=F) hX hR trivial trivial O s.r2 E4 A4 nx3 D3 p3 C Yb F3 K3 H3 _ w3 Ux M.2 U XY (fun _ e=>by cases e) (U.st.2 KK) (fun r hr=>a4w r (by rw[G.nx];rw[U.nx]at hr;exact hr)) (fun E5 A5 nx5 D5 p5 st5 a5 w5 hk5 a4x ht5=>?_)
 show s.c2.wpIn (Wd ro) 0 P (Exit.inBlock s.b Q) a5 w5;exact hQ E5 A5 nx5 D5 p5 st5 a5 w5 hk5 a4x (ht5.trans XY hK3 Nd L)
end
end Go.Abs
end
section
namespace Go.Abs
section
variable {P:Program} {R:z0} {z:BV} {lo:List HO} {X:Ctx} {B:Option Nat} {ro:Option Nat} {n:Nat} {g:List a7} {Fu:Nat} {I:kF}
theorem Nx(m4:P.follows .mixedOrders=true)(hR:F7 P R)(nK:N3 P (mZ I z lo))(hB:(B=none->ro≠none)\/∀y f args nx D k,I y f args nx D k≠ .ok z lo){u:WK}{Sl CQ:Nat}{oN:Oper}(Hl:u.a1.toList=oN::u.r1)(Ve:oN.op=.next u.i false)(Qj:oN.dst=some u.t)(Ol:oN.guard=none)
  (BC:Code.j5 u.c1=true)(bN:w7 n u.a1.toList=true)(Uw:o9 n u.c1=true)
  {c mi ks vs clk o nx p:Nat}{l:ME}{O:Nat}{S:z7}{H0:Nat->Option Hd}{D3:m8}{kc:KC}{J:List Nat->Hp->Prop}{F0:Nat->Prop}
  (hX:X.Ok)(lO:eT X ro)(sC:sV c=true)(wV:Nat.beq (pO c) 0=true)(hi:J0 O S u.i=.c c)(hold:Tb o l=true)(Yc:Nat.ble o 1048576=true)(hsl:Nat.ble o clk=true)(pY:nx<1048575)(yX:mi≠pR c)
  (G2:∀r,nx<=r->H0 r=none)(hJm:∀seen G,J seen G->G mi=.m ks vs l clk)
  (hJe:∀seen G,J seen G->x6 seen l=[]->∀ (F:Nat->Prop) (K:b8) (T:Nat->a7) (a:Act) (w:World) (H:m8),(∀r,m6 nx H r=if r=pR c then .i mi o seen clk else G r)->St (X.O4 g (gQ p)) B F n K H0 T (l9 (p8 nx H)) a w->St (X.O4 g (gQ p)) B F n K H0 T (l9 (p8 nx D3)) a w)
  (Gb:∀seen G,J seen G->∀q∈x6 seen l,∀ (F:Nat->Prop) (K:b8) (a aN:Act) (w wN:World) (H DN:m8) (EN:Nat) (AN:z7) (Q:Exit->Act->World->Prop),(∀b,F0 b->F b)->(∀r,m6 nx H r=if r=pR c then .i mi o seen clk else G r)->(∀r,m6 nx DN r=if r=pR c then .i mi o (q.1::seen) clk else G r)->
   St (X.O4 g (gQ p)) B F n K H0 (TE O S) (l9 (p8 nx H)) a w->(∀t',o8 EN AN t'=if t'=u.t then .t [(0,17),(ks,q.2.1),(vs,q.2.2)]else o8 O S t')->St (X.O4 g (gQ p)) B F n K H0 (TE EN AN) (l9 (p8 nx DN)) aN wN->Kept F w wN->
   (∀ (Dn':Hp) (F':Nat->Prop) (K':b8) (a':Act) (w':World) (Sm:m8),J (q.1::seen) Dn'->(∀r,m6 nx Sm r=if r=pR c then .i mi o (q.1::seen) clk else Dn' r)->St (X.O4 g (gQ p)) B F' n K' H0 (TE O S) (l9 (p8 nx Sm)) a' w'->(∀b,F b->F' b)->K.le K'->Fix F K K'->Kept F w w'->Q .normal a' w')->
   wpListIn (Wd ro) 0 P u.a1 (Exit.then ((Code.seq u.c1 (.block u.b (.seq (.region CQ u.a2 false) u.c2))).wpIn (Wd ro) 0 P Q) Q) u.r1 aN wN)
  (h:pZ u P Fu R I kc O S nx D3 p=.ok z lo){Fe:Nat->Prop}{Ke:b8}{we:World}{Q:Exit->Act->World->Prop}
  (hQ:∀e v x dE D' p' xK a' w',kc e v x dE D' p'=.ok z lo->B4 n g v x dE D' p' xK->gD X B F0 Fe n Ke we xK a' w'->Q e.out a' w'):
  ∀ (k:Nat) (seen:List Nat) (G:Hp) (F:Nat->Prop) (K:b8) (a:Act) (w:World) (H:m8),(x6 seen l).length<=k->J seen G->(∀r,m6 nx H r=if r=pR c then .i mi o seen clk else G r)->St (X.O4 g (gQ p)) B F n K H0 (TE O S) (l9 (p8 nx H)) a w->
   (∀b,F0 b->F b)->(∀b,Fe b->F b)->Ke.le K->Fix F0 Ke K->Kept F0 we w->Code.roundsIn (Wd ro) 0 P (.seq (.region Sl u.a1 false) (.seq u.c1 (.block u.b (.seq (.region CQ u.a2 false) u.c2)))) Q (k+1) a w:=by
 have HG:∀ (j:Nat) (d:Tmp),(u.a1[j]?).bind (·.dst)=some d->d<n:=fun j d hj=>N1 bN j d (by simpa using hj)
 have U:=bN;rw[Hl]at U;simp only[w7,ah]at U;obtain⟨EE,AE,hk0,hTE⟩:=M6 (show G3 u.t (.t [(0,9)]) O S (fun E A=>L6 u.r1 P R none u.a1 (fun E A nx D p=>xV u.c1 P Fu R I none E A nx D p fun e E A nx D p=>pM e (.er 584 0) (fun i=>kc (.exit i) E A nx D p) (kc .ret E A nx D p)) E A nx D3 p)=.ok z lo from h)
 have XC:∀q (k:Nat->z7->Rn),∃v x,G3 u.t (.t q) O S k=k v x/\∀t',o8 v x t'=if t'=u.t then .t q else o8 O S t':=by
  exact fun q k=>XU (show G3 u.t (.t [(0,9)]) O S (fun E A=>L6 u.r1 P R none u.a1 (fun E A nx D p=>xV u.c1 P Fu R I none E A nx D p fun e E A nx D p=>pM e (.er 584 0) (fun i=>kc (.exit i) E A nx D p) (kc .ret E A nx D p)) E A nx D3 p)=.ok z lo from h) q k
 intro k
 induction k using Nat.strongRecOn with
 |_ k ih=>
 intro seen G F K a w H hk hJ Z qC L hFe hKe Q7 R8;rw[mg];refine jo (gz ?_);rw[Hl];obtain⟨st0,he0⟩:=B4.ex n g O S nx H p pY;have pD:=he0.st.2 qC;have b01:m6 nx H (pR c)=.i mi o seen clk:=by rw[Z,aj rfl]
 have b02:m6 nx H mi=.m ks vs l clk:=by rw[Z,ai yX];exact hJm seen G hJ
 let PR:Nat->z7->m8->Nat->Prop:=fun v x D' p'=>p'=p/\((x6 seen l=[]/\(∀t',o8 v x t'=if t'=u.t then .t [(0,9)]else o8 O S t')/\D'=H)\/
  ∃q∈x6 seen l,(∀t',o8 v x t'=if t'=u.t then .t [(0,17),(ks,q.2.1),(vs,q.2.2)]else o8 O S t')/\∀r,m6 nx D' r=if r=pR c then .i mi o (q.1::seen) clk else G r)
 have b03:∀v x D' p',Decidable (PR v x D' p'):=fun v x D' p'=>Classical.propDecidable _
 let kp:KS:=fun v x _ D' p'=>@ite _ (PR v x D' p') (b03 v x D' p') (.ok (.c 0) []) (.er 0 0)
 have a7s:Ez u.i u.t kp O S nx H p=.ok (.c 0) []:=by
  refine XV hi sC wV b01 b02 hold Yc hsl XC (fun hl v x hs=>?_) (fun q hq v x D' hs hd=>?_)
  .exact aj ⟨rfl,.inl ⟨hl,hs,rfl⟩⟩
  .refine aj ⟨rfl,.inr ⟨q,hq,hs,fun r=>?_⟩⟩
   rw[hd r,Z r];split<;>rfl
 refine Gh (F0:=F) (g:=g) (all:=u.a1) hX HG Ve Qj Ol U.1 a7s he0 (fun _ h=>h) pD (fun r hr=>G2 r (by rw[he0.nx]at hr;exact hr)) (fun v x D' xK a' w' Pk Vf ht Ah=>?_)
 have hPR:PR v x D' p:=by
  rcases re (PR v x D' p)with h'|h'
  .exact h'
  .have:kp v x nx D' p=.er 0 0:=ai h';rw[this]at Pk;cases Pk
 obtain⟨_,⟨hl,hs,rfl⟩|⟨q,hq,hs,hd⟩⟩:=hPR
 ·
   have hTT:TE v x=TE EE AE:=by
    funext t';unfold TE;rw[hs,hTE]
   have V:=Vf.st.1 Ah;rw[hTT]at V;have V:=hJe seen G hJ hl F K _ a' w' D' Z V;obtain⟨stE,heE⟩:=B4.ex n g EE AE nx D3 p pY;have a4A:Kept F w w':=ht.kept;refine J1 (yl:=none) (Y:=none) (hh:=none) (F0:=F0) hX hR trivial trivial HG u.r1 EE AE nx D3 p _ stE F K H0 a' w' hk0 U.2 heE L (fun _ e=>by cases e) (heE.st.2 V) (fun r hr=>G2 r (by rw[heE.nx]at hr;exact hr)) (fun E2 A2 qB D2 p2 kC a2 w2 jS KJ kX=>?_)
   refine jo ?_;obtain⟨⟨F2,K2,H2,Bw,aT,CG,Af,M⟩,C⟩:=kX;refine eV m4 hR nK u.c1 BC Uw X B F0 ro none g none none hX lO trivial trivial hB E2 A2 qB D2 p2 _ kC F2 K2 H2 a2 w2 _ jS KJ (fun b hb=>Bw b (L b hb)) (fun _ e=>by cases e) aT Af ?_
   intro e E3 A3 nx3 D3 p3 Vc a3 w3 N a7t Vd;have Vd:=(Vd.trans Bw CG M C).trans hFe hKe Q7 (R8.trans (a4A.mono L));rcases O9 N with⟨rfl,N⟩|⟨i,rfl,N⟩|⟨rfl,N⟩
   .cases N
   .exact hQ (.exit i) _ _ _ _ _ Vc a3 w3 N a7t Vd
   .exact hQ .ret _ _ _ _ _ Vc a3 w3 N a7t Vd
 .refine Gb seen G hJ q hq F K a a' w w' H D' v x _ L Z hd qC hs (Vf.st.1 Ah) ht.kept (fun Dn' F' K' a2 w2 Sm hJ' a4B aT jT hKK M C=>?_)
  have yE:=Uv (s:=q.1) ⟨q,hq,rfl⟩;obtain⟨k',rfl⟩:∃k',k=k'+1:=⟨k- 1,by omega⟩
  exact ih k' (by omega) (q.1::seen) Dn' F' K' a2 w2 Sm (by omega) hJ' a4B aT (fun b hb=>jT b (L b hb)) (fun b hb=>jT b (hFe b hb)) (hKe.trans hKK) (Q7.trans (M.less L)) (R8.trans (C.mono L))
end
end Go.Abs
end
section
namespace Go.Abs
theorem St.Yd{X b:fW}{B:Option Nat}{F:Nat->Prop}{n:Nat}{K:b8}{H:Nat->Option Hd}{T:Nat->a7}{m:Mm}{a:Act}{w:World}(h:St X B F n K H T m a w)(c:b F K H w):St b B F n K H T m a w:=⟨h.ok,h.mem,h.size,h.defers,h.tmp,c⟩
theorem L3{nx:Nat}{D:m8}{r:Nat}{x:c7×p0}(h:l9 (p8 nx D) r=some x):∃o,m6 nx D r=o/\o≠ .z/\x=(.z5 o,.own):=by
 rw[M0]at h;cases a:m6 nx D r<;>rw[a]at h<;>first|(cases h;exact⟨_,rfl,by simp,rfl⟩)|cases h
theorem F9{nx:Nat}{D:m8}{r:Nat}{o:HO}(h:m6 nx D r=o)(a:o≠ .z):l9 (p8 nx D) r=some (.z5 o,.own):=by
 rw[M0,h];cases o<;>first|rfl|exact absurd rfl a
theorem eT.pair{X:Ctx}{ro:Option Nat}{a:List Hd}(h:eT X ro):eT (dC a X) ro:=fun l e F K H _ p w b=>h l e F K H _ p w b.2
theorem wX{X:fW}{B:Option Nat}{F:Nat->Prop}{n:Nat}{K:b8}{H0:Nat->Option Hd}{f:Nat}{j:z7}{m:Mm}{a:Act}{w:World}{i:Operand}{c:Nat}(h:St X B F n K H0 (TE f j) m a w)(k:J0 f j i=.c c)(d:sV c=true):∃hd b,H0 (pR c)=some hd/\hd.base=some b:=by
 have l:u6 K H0 (.c c) (a.eval i):=by
  rw[<-k];exact T7 h.tmp i
 have q:c % 8=4:=R9.1 d;rcases l with⟨e,_⟩|⟨e,_⟩|o
 .omega
 .omega
 .obtain⟨hd,b,p,g2,r,_⟩:=o.gP d;exact⟨hd,b,p,g2⟩
section
variable {P:Program} {R:z0} {X:Ctx} {B:Option Nat} {ro:Option Nat} {n:Nat} {g:List a7} {Fu:Nat} {I:kF}
theorem a4C(m4:P.follows .mixedOrders=true)(hR:F7 P R)(nK:∀z lo,N3 P (mZ I z lo))(hB:(B=none->ro≠none)\/∀z lo y f args nx D k,I y f args nx D k≠ .ok z lo){j:WK}{CQ:Nat}{oN oE:Oper}(Hl:j.a1.toList=oN::j.r1)(uN:j.a2.toList=oE::j.r2)(fZ:oE.op=.entry j.i2)(Hk:oE.dst=some j.t2)(xJ:oE.guard=none)
  (BC:Code.j5 j.c1=true)(a1f:Code.j5 j.c2=true)(bN:w7 n j.a1.toList=true)(Uw:o9 n j.c1=true)(kB:w7 n j.a2.toList=true)(BF:o9 n j.c2=true)
  {c mi ks vs clk A nx p r0 o y:Nat}{l:ME}{l':List HO}{L:Nat}{M:z7}{H0:Nat->Option Hd}{U:m8}{Ks:List Nat}{seen:List Nat}{q:Nat×Nat×Nat}
  (hX:X.Ok)(lO:eT X ro)(sC:sV c=true)(wV:Nat.beq (pO c) 0=true)(hi:J0 L M j.i=.c c)(pY:nx<1048575)(yX:mi≠pR c)(WS:q.1≠Y8)(hr0:nx<=r0)
  (G2:∀r,nx<=r->H0 r=none)(hm:m6 nx U mi=.m ks vs l clk)(hz:m6 nx U (pR c)=.z)(Sn:∀t,t ∉ Ks->o8 L M t=.u)(hq:q∈l)
  (h:wU j c mi ks vs clk l P Fu R I (a2L j P Fu R I (Aj Ks L M nx U p r0 (.ok (.a 0 0) []))) q L M nx U p=.ok (.a o y) l')
  {F:Nat->Prop}{K:b8}{a aN:Act}{w wN:World}{D0 DN:m8}{EN:Nat}{AN:z7}{Q:Exit->Act->World->Prop}
  (V:∀r,m6 nx DN r=if r=pR c then .i mi A (q.1::seen) clk else m6 nx U r)
  (qC:St (X.O4 g (gQ p)) B F n K H0 (TE L M) (l9 (p8 nx D0)) a w)(hTN:∀t',o8 EN AN t'=if t'=j.t then .t [(0,17),(ks,q.2.1),(vs,q.2.2)]else o8 L M t')(s:St (X.O4 g (gQ p)) B F n K H0 (TE EN AN) (l9 (p8 nx DN)) aN wN)(hkN:Kept F w wN)
  (hQ:∀ (Dn':Hp) (F':Nat->Prop) (K':b8) (a':Act) (w':World) (Sm:m8),Dn'=m6 nx U->(∀r,m6 nx Sm r=if r=pR c then .i mi A (q.1::seen) clk else Dn' r)->St (X.O4 g (gQ p)) B F' n K' H0 (TE L M) (l9 (p8 nx Sm)) a' w'->(∀b,F b->F' b)->K.le K'->Fix F K K'->Kept F w w'->Q .normal a' w'):
  wpListIn (Wd ro) 0 P j.a1 (Exit.then ((Code.seq j.c1 (.block j.b (.seq (.region CQ j.a2 false) j.c2))).wpIn (Wd ro) 0 P Q) Q) j.r1 aN wN:=by
 have N:=bN;rw[Hl]at N;simp only[w7,ah]at N;have a4F:=ab wV;obtain⟨E2,A2,h2,hT2⟩:=M6 (show G3 j.t (.t [(0,17),(ks,q.2.1),(vs,q.2.2)]) L M _=_ from h);have hTT:TE EN AN=TE E2 A2:=by funext t';unfold TE;rw[hTN,hT2]
 rw[hTT]at s;obtain⟨kZ,bi,Y,wW⟩:=wX qC hi sC;have Z:l9 (p8 nx DN) (pR c)=some (.z5 (.i mi A (q.1::seen) clk),.own):=F9 (by rw[V,aj rfl]) (by simp)
 obtain⟨bi',mb,Av,g1,g2,g3,g4,g5⟩:=s.mem.cont (pR c) _ .own kZ Z (by simp) Y
 rw[wW]at g1;cases g1;have So:(dC (bB H0 nx) X).Ok:=nC hX;have mY:St ((dC (bB H0 nx) X).O4 (eW H0 nx++g) (gQ p)) B F n K H0 (TE E2 A2) (l9 (p8 nx DN)) aN wN:=s.Yd (sA s.x (fun _ _ e=>e))
 have aT:=(mY.HH (So.grow _ _) Z);obtain⟨stN,Ye⟩:=B4.ex n (eW H0 nx++g) E2 A2 nx U p pY;have Yf:St ((dC (bB H0 nx) X).O4 stN.gh stN.o7) B (fun b=>F b\/dD H0 (pR c) b) n K H0 stN.s6.T stN.s6.m aN wN:=Ye.st.2 (aT.sub (fun r x S=>by
  obtain⟨o,e1,e2,e3⟩:=L3 S;have Dy:r≠pR c:=fun e=>e2 (by rw[<-e1,e,hz])
  show(if r=pR c then none else _)=_
  rw[ai Dy,e3]
  exact F9 (by rw[V,ai Dy];exact e1) e2))
 refine IL m4 hR (nK _ _) (hB.imp id (fun hh=>hh _ _)) uN fZ Hk xJ BC bN N.2 Uw kB h2 So lO.pair (fun F K H p w S=>(Y2 S G2).1) sC a4F Y wW g5 g3 g4 hq WS (F:=fun b=>F b\/dD H0 (pR c) b) (.inr ⟨kZ,Y,wW⟩) g2 Ye Yf (fun r hr=>G2 r (by rw[Ye.nx]at hr;exact hr)) (fun E4 A4 IM D4 p4 Yb a4 w4 Ux xJ ZL=>?_)
 have fin:∀E5 A5 v D5 p5 G a5 w5,Aj Ks L M nx U p r0 (.ok (.a 0 0) []) E5 A5 v D5 p5=.ok (.a o y) l'->B4 n (eW H0 nx++g) E5 A5 v D5 p5 G->gD (dC (bB H0 nx) X) B (fun b=>F b\/dD H0 (pR c) b) (fun b=>F b\/dD H0 (pR c) b) n K wN G a5 w5->Q .normal a5 w5:=by
  intro E5 A5 v D5 p5 G a5 w5 d he5 J;obtain⟨rfl,Sp,Yg,_⟩:=IH d;obtain⟨⟨F5,K5,H5,b05,C,hK5,a4G,O⟩,E⟩:=J;have C:=he5.st.1 C;have XZ:aY H0 H5:=(Y2 C.x G2).1;obtain⟨a1h,hF6⟩:=St.Qh (So.grow _ _) mY Z (C.sub (m2:=eD (l9 (p8 v D5)) (pR c)) (fun r x S=>(aF S).2)) (by unfold eD;rw[aj rfl]) b05 hK5 XZ (by rw[Y];rfl) O E
  have ZM:Kept F w w5:=hkN.trans (E.mono fun _ e=>.inl e)
  refine hQ _ _ K5 a5 w5 DN rfl V (St.back (hX.grow _ _) qC.x qC.tmp s.mem a1h hF6 hK5 XZ ZM (fun t=>?_) (fun r x S=>?_)) hF6 hK5 (O.less fun _ e=>.inl e) ZM
  .by_cases ht:t∈Ks
   .refine .inr ⟨o8 L M t,rfl,?_,rfl⟩;show I1 (o8 E5 A5 t)=_;rw[Sp t ht]
   .left;show I1 (o8 L M t)=_;rw[Sn t ht];rfl
  .obtain⟨o',e1,e2,e3⟩:=L3 S;refine⟨?_,o',e3,.inl S⟩;by_cases e:r=pR c
   .subst e;rw[j8];rw[Z]at S;exact S
   .rw[m7 _ _ _ _ e];show(if r=pR c then none else _)=_
    rw[ai e,e3];have yE:=fG e1 e2;exact F9 (by rw[Yg r yE (by omega),<-e1,V,ai e]) e2
 obtain⟨⟨F4,K4,H4,Uy,KK,hK4,Yh,Yi⟩,a4H⟩:=ZL;refine eV m4 hR (nK _ _) j.c2 a1f BF (dC (bB H0 nx) X) B (fun b=>F b\/dD H0 (pR c) b) ro none (eW H0 nx++g) none none So lO.pair trivial trivial (hB.imp id (fun hh=>hh _ _)) E4 A4 IM D4 p4 _ Yb F4 K4 H4 a4 w4 _ Ux xJ Uy (fun _ e=>by cases e) KK Yh ?_
 intro e E5 A5 v D5 p5 G a5 w5 d he5 J;have J:=J.trans Uy hK4 Yi a4H;rcases O9 d with⟨rfl,d⟩|⟨i,rfl,d⟩|⟨rfl,d⟩
 .exact fin E5 A5 v D5 p5 G a5 w5 d he5 J
 .have d:iB (Nat.beq i j.b) (Aj Ks L M nx U p r0 (.ok (.a 0 0) []) E5 A5 v D5 p5) (.er 568 0)=.ok (.a o y) l':=d;rw[a9]at d;split at d
  .rename_i hb;have hb:=ab hb;show(if i=j.b then Q .normal a5 w5 else Q (.exit i) a5 w5)
   rw[aj hb];exact fin E5 A5 v D5 p5 G a5 w5 d he5 J
  .cases d
 .cases d
end
end Go.Abs
end
section
namespace Go.Abs
theorem a2P{c:Nat}{v:BV}(h:I1 v=I1 (.c c))(j:3<=c):v=.c c:=by
 have f:I1 (.c c)=if c=9 then .bool false else if c=17 then .bool true else .Dc 0 c:=by
  simp only[I1];rw[ai (by omega),ai (by omega)]
 rw[f]at h;cases v with
 |c n=>
  simp only[I1]at h;by_cases b:n=1
  .rw[aj b]at h;split at h
   .cases h
   .split at h<;>cases h
  .rw[ai b]at h;by_cases d:n=2
   .rw[aj d]at h;split at h
    .cases h
    .split at h<;>cases h
   .rw[ai d]at h;split at h
    .split at h
     .rename_i e g2;rw[e,g2]
     .split at h<;>cases h
    .split at h
     .split at h
      .cases h
      .split at h
       .rename_i e g2 m i;rw[g2,i]
       .cases h
     .split at h
      .cases h
      .split at h
       .cases h
       .cases h;rfl
 |a k n=>
  simp only[I1]at h;split at h
  .cases h
  .split at h<;>cases h
 |t l=>
  simp only[I1]at h;split at h
  .cases h
  .split at h<;>cases h
 |u=>
  simp only[I1]at h;split at h
  .cases h
  .split at h<;>cases h
theorem Yj{E a:Nat}{A b:z7}(h:TE E A=TE a b)(x:Operand):I1 (J0 E A x)=I1 (J0 a b x):=by
 cases x with
 |tmp t=>exact congrFun h t
 |const y=>rfl
 |global g=>rfl
 |func f=>rfl
section
variable {z:BV} {l:List HO}
theorem Qk{t:TypeId}{f x:Operand}{P:Program}{b:Rn->KS}{E:Nat}{A:z7}{nx:Nat}{D:m8}{p:Nat}(h:IE t f x P b E A nx D p=.ok z l):
  ∃c y,J0 E A f=.c c/\J0 E A x=.c y/\3<=c/\3<=y/\y % 8<=3/\b (.ok (.a (pO c) y) []) E A nx D p=.ok z l:=by
 unfold IE at h;cases d:J0 E A f with
 |a _ _=>rw[d]at h;cases h
 |t _=>rw[d]at h;cases h
 |u=>rw[d]at h;cases h
 |c c=>
  rw[d]at h;cases e:J0 E A x with
  |a _ _=>rw[e]at h;cases h
  |t _=>rw[e]at h;cases h
  |u=>rw[e]at h;cases h
  |c y=>
   rw[e]at h;simp only[a9]at h;split at h
   .split at h
    .split at h
     .split at h
      .rename_i k g2 i j;exact⟨c,y,rfl,rfl,af g2,af i,af j,h⟩
      .cases h
     .cases h
    .cases h
   .cases h
end
section
variable {P:Program} {R:z0} {X:Ctx} {B:Option Nat} {ro:Option Nat} {n:Nat} {g:List a7} {Fu:Nat} {I:kF}
theorem a4I(m4:P.follows .mixedOrders=true)(hR:F7 P R)(nK:∀z lo,N3 P (mZ I z lo))(hB:(B=none->ro≠none)\/∀z lo y f args nx D k,I y f args nx D k≠ .ok z lo){A:WK}{CQ id3:Nat}{oN oE oj:Oper}(Hl:A.a1.toList=oN::A.r1)(uN:A.a2.toList=oE::A.r2)(fZ:oE.op=.entry A.i2)(Hk:oE.dst=some A.t2)(xJ:oE.guard=none)
  {ops:Array Oper}{j:Nat}{tt:TypeId}{ax x:Operand}(Wb:A.c2=.region id3 ops true)(hj:ops.toList[j]? =some oj)(WO:j+1=ops.toList.length)(RZ:oj.op=.store tt ax x)(hjd:oj.dst=none)
  (BC:Code.j5 A.c1=true)(a1f:Code.j5 A.c2=true)(bN:w7 n A.a1.toList=true)(Uw:o9 n A.c1=true)(kB:w7 n A.a2.toList=true)(BF:o9 n A.c2=true)
  {c mi ks vs clk G nx p r0 s N N' o y:Nat}{l:ME}{l':List HO}{Z:Nat}{A1:z7}{H0:Nat->Option Hd}{D2:m8}{Ks:List Nat}{seen:List Nat}{q:Nat×Nat×Nat}
  (hX:X.Ok)(lO:eT X ro)(sC:sV c=true)(wV:Nat.beq (pO c) 0=true)(hi:J0 Z A1 A.i=.c c)(pY:nx<1048575)(WS:q.1≠Y8)(hr0:r0<nx)(hrr:r0≠pR c)(b07:∃hd,H0 r0=some hd)
  (G2:∀r,nx<=r->H0 r=none)(hz:m6 nx D2 (pR c)=.z)(hz0:m6 nx D2 r0=.z)(Sn:∀t,t ∉ Ks->o8 Z A1 t=.u)(hq:q∈l)(hy:y<cB)
  (h:wU A c mi ks vs clk l P Fu R I (Nt ops j tt ax x P R r0 s N (fun M=>Aj Ks Z A1 nx D2 p r0 M)) q Z A1 nx D2 p=.ok (.a o y) l')
  {F:Nat->Prop}{K:b8}{a aN:Act}{w wN:World}{D0 DN:m8}{EN:Nat}{AN:z7}{Q:Exit->Act->World->Prop}
  (hDN:∀r,m6 nx DN r=if r=pR c then .i mi G (q.1::seen) clk else if r=r0 then .c s N' else m6 nx D2 r)
  (qC:St (X.O4 g (gQ p)) B F n K H0 (TE Z A1) (l9 (p8 nx D0)) a w)(hTN:∀t',o8 EN AN t'=if t'=A.t then .t [(0,17),(ks,q.2.1),(vs,q.2.2)]else o8 Z A1 t')(C:St (X.O4 g (gQ p)) B F n K H0 (TE EN AN) (l9 (p8 nx DN)) aN wN)(hkN:Kept F w wN)
  (hQ:∀ (F':Nat->Prop) (K':b8) (a':Act) (w':World) (Sm:m8),(∀r,m6 nx Sm r=if r=pR c then .i mi G (q.1::seen) clk else if r=r0 then .c s (W2 N' o 1 y)else m6 nx D2 r)->St (X.O4 g (gQ p)) B F' n K' H0 (TE Z A1) (l9 (p8 nx Sm)) a' w'->(∀b,F b->F' b)->K.le K'->Fix F K K'->Kept F w w'->Q .normal a' w'):
  wpListIn (Wd ro) 0 P A.a1 (Exit.then ((Code.seq A.c1 (.block A.b (.seq (.region CQ A.a2 false) A.c2))).wpIn (Wd ro) 0 P Q) Q) A.r1 aN wN:=by
 have Qi:=bN;rw[Hl]at Qi;simp only[w7,ah]at Qi;have a4F:=ab wV;obtain⟨E2,A2,h2,hT2⟩:=M6 (show G3 A.t (.t [(0,17),(ks,q.2.1),(vs,q.2.2)]) Z A1 _=_ from h);have hTT:TE EN AN=TE E2 A2:=by funext t';unfold TE;rw[hTN,hT2]
 rw[hTT]at C;obtain⟨kZ,bi,Aw,wW⟩:=wX qC hi sC;obtain⟨Dx,ZN⟩:=b07;have hri:l9 (p8 nx DN) (pR c)=some (.z5 (.i mi G (q.1::seen) clk),.own):=F9 (by rw[hDN,aj rfl]) (by simp)
 have hrN:l9 (p8 nx DN) r0=some (.z5 (.c s N'),.own):=F9 (by rw[hDN,ai hrr,aj rfl]) (by simp)
 obtain⟨bi',mb,Av,g1,g2,g3,g4,g5⟩:=C.mem.cont (pR c) _ .own kZ hri (by simp) Aw
 rw[wW]at g1;cases g1;obtain⟨_,cs0,_,_,_,_,_,_,a2R⟩:=C.mem.cont r0 _ .own Dx hrN (by simp) ZN
 have So:(dC (bB H0 nx) X).Ok:=nC hX;have mY:St ((dC (bB H0 nx) X).O4 (eW H0 nx++g) (gQ p)) B F n K H0 (TE E2 A2) (l9 (p8 nx DN)) aN wN:=C.Yd (sA C.x (fun _ _ e=>e))
 have aT:=(mY.HH (So.grow _ _) hri);have hr2:eD (l9 (p8 nx DN)) (pR c) r0=some (.z5 (.c s N'),.own):=by unfold eD;rw[ai hrr];exact hrN
 have Yf:=(aT.HH (So.grow _ _) hr2);obtain⟨stN,Ye⟩:=B4.ex n (eW H0 nx++g) E2 A2 nx D2 p pY;have E:St ((dC (bB H0 nx) X).O4 stN.gh stN.o7) B (fun b=>(F b\/dD H0 (pR c) b)\/dD H0 r0 b) n K H0 stN.s6.T stN.s6.m aN wN:=Ye.st.2 (Yf.sub (fun r x hx=>by
  obtain⟨o,L,e2,e3⟩:=L3 hx;have Dy:r≠pR c:=fun e=>e2 (by rw[<-L,e,hz])
  have a7w:r≠r0:=fun e=>e2 (by rw[<-L,e,hz0])
  show(if r=r0 then none else if r=pR c then none else _)=_
  rw[ai a7w,ai Dy,e3]
  exact F9 (by rw[hDN,ai Dy,ai a7w];exact L) e2))
 refine IL m4 hR (nK _ _) (hB.imp id (fun hh=>hh _ _)) uN fZ Hk xJ BC bN Qi.2 Uw kB h2 So lO.pair (fun F K H p w hx=>(Y2 hx G2).1) sC a4F Aw wW g5 g3 g4 hq WS (F:=fun b=>(F b\/dD H0 (pR c) b)\/dD H0 r0 b) (.inl (.inr ⟨kZ,Aw,wW⟩)) g2 Ye E (fun r hr=>G2 r (by rw[Ye.nx]at hr;exact hr)) (fun E4 A4 IM D4 p4 Yb a4 w4 O xJ ZL=>?_)
 obtain⟨⟨F4,K4,H4,Uy,E,hK4,Yh,U⟩,J⟩:=ZL;have E:=xJ.st.1 E;have b09:aY H0 H4:=(Y2 E.x G2).1;have O:iB (Nat.ble (Nat.succ r0) IM) (aK IM D4 r0 (.c s N) fun D=>dP ops.toList P R ops (fun E' A' dE D' p' tr=>iB (eM (pW tr) (Y0 ops)) (iB (CN r0 j (pW tr) 0) (IE tt ax x P (fun M=>Aj Ks Z A1 nx D2 p r0 M) E' A' dE D' p') (.er 560 0)) (.er 504 0)) E4 A4 IM D p4 []) (.er 598 0)=.ok (.a o y) l':=O
 rw[a9]at O;split at O
 rotate_left
 .cases O
 rename_i yE;have yE:r0<IM:=af yE;obtain⟨D5,hk5,hD5⟩:=N7 (d:=D4) (o:=.c s N) yE (fun D=>dP ops.toList P R ops (fun E' A' dE D' p' tr=>iB (eM (pW tr) (Y0 ops)) (iB (CN r0 j (pW tr) 0) (IE tt ax x P (fun M=>Aj Ks Z A1 nx D2 p r0 M) E' A' dE D' p') (.er 560 0)) (.er 504 0)) E4 A4 IM D p4 [])
 rw[hk5]at O;rw[Wb]at a1f BF ⊢;have b1a:R3 ops=true:=by have:=a1f;simp[Code.j5]at this;exact this.1
 have hds:w7 n ops.toList=true:=BF;obtain⟨off,kk,y1,E6,A6,nx6,D6,S,a9Z,hk6,hT6,b53,hm6,b55,hS0,⟨EJ,AJ,hTJ,⟨c0,hc0,b1b,b57,b1c⟩,_,hxx⟩,hTj,HG⟩:=Uu (n:=n) (k:=IE tt ax x P (fun M=>Aj Ks Z A1 nx D2 p r0 M)) hR O hds xJ.lt hj RZ (s:=s) (N:=N) (by rw[hD5,aj rfl])
 obtain⟨c',y',hax,hxv,Wp,hy3,hy8,hk7⟩:=Qk hk6;obtain⟨rfl,Sp,Yg,b1f⟩:=IH hk7;injection b1f with a7x b4a;injection a7x with ho1 ho2;have hTE:TE E6 A6=TE EJ AJ:=by rw[<-hT6,<-WO,hTj hjd,hTJ]
 have hcc:c'=c0:=by
  have h1:=Yj hTE ax;rw[hax,hc0]at h1;have h4:c0 % 8=4:=R9.1 b1b;have:=a2P h1 (by omega)
  cases this;rfl
 have hyy:y1=y/\kk=1:=by
  have h1:=Yj hTE x;rw[hxv]at h1;have h2:=a2P h1.symm hy3;rcases hxx with⟨L,e2,_⟩|L
  .rw[L]at h2;cases h2;exact⟨ho2,e2⟩
  .rw[L]at h2;cases h2
 obtain⟨rfl,rfl⟩:=hyy;have hoo:off=o:=by rw[<-b1c,<-hcc];exact ho1
 subst hoo;have hy8:y1 % 8<=3:=by rw[<-ho2];exact hy8
 obtain⟨a4J,Yk⟩:=St.Qh (So.grow _ _) aT hr2 (E.sub (m2:=eD (l9 (p8 IM D4)) r0) (fun r x hx=>(aF hx).2)) (by unfold eD;rw[aj rfl]) Uy hK4 b09 (by rw[ZN];rfl) U J
 obtain⟨S',Ds',hA,Yl,a4K,a7z⟩:=HG N';have hT4:(S' 0).T=TE E4 A4:=by rw[a4K,hS0];rfl
 have hm4:(S' 0).m=N9 (eD (l9 (p8 IM D4)) r0) r0 (c7.z5 (.c s N'),p0.own):=by
  rw[a4K,hS0];funext r;show(if r=r0 then _ else l9 (p8 IM D5) r)=_
  by_cases e:r=r0
  .subst e;rw[aj rfl,j8]
  .rw[ai e,m7 _ _ _ _ e];unfold eD;rw[ai e,M0,M0,hD5,ai e]
 have hn4:(S' 0).nx=IM:=by rw[a4K,hS0];rfl
 refine yT (So.grow _ _) m4 (MJ P) hA b1a Yl (by rw[hT4,hm4];exact a4J) (fun r hr=>Yh r (by rw[hn4]at hr;rw[xJ.nx];exact hr)) (fun a6 w6 ht6=>?_)
 obtain⟨⟨K6,H6,a1h,hK6,b6h,a2S⟩,V⟩:=ht6;have a4L:aY H0 H6:=(Y2 a1h.x G2).1;have hml:∀r,(S' ops.toList.length).m r=if r=r0 then some (c7.z5 (.c s (W2 N' off 1 y1)),p0.own)else(S ops.toList.length).m r:=fun r=>by rw[a7z];rfl
 have hTl:(S' ops.toList.length).T=TE E6 A6:=by rw[a7z];exact hT6
 obtain⟨b1i,hF7⟩:=St.Qh (So.grow _ _) mY hri (a1h.sub (m2:=eD (S' ops.toList.length).m (pR c)) (fun r x hx=>(aF hx).2)) (by unfold eD;rw[aj rfl]) (fun b hb=>Yk b hb) (hK4.trans hK6) a4L (by rw[Aw];rfl) ((U.less fun b hb=>.inl hb).trans (a2S.less Yk)) ((J.less fun b hb=>.inl hb).trans (V.less Yk))
 have ZM:Kept F w w6:=hkN.trans ((J.less fun b hb=>.inl (.inl hb)).trans (V.less fun b hb=>Yk b (.inl hb)))
 obtain⟨D9,_,hD9⟩:=N7 (d:=DN) (o:=.c s (W2 N' off 1 y1)) hr0 (fun D=>D)
 have Y:∀r,m6 nx D9 r=if r=pR c then .i mi G (q.1::seen) clk else if r=r0 then .c s (W2 N' off 1 y1)else m6 nx D2 r:=fun r=>by
  rw[hD9,hDN];by_cases e:r=r0
  .subst e;rw[aj rfl,ai hrr,aj rfl]
  .rw[ai e,ai e,ai e]
 refine hQ _ K6 a6 w6 D9 Y (St.back (hX.grow _ _) qC.x qC.tmp C.mem b1i hF7 (hK4.trans hK6) a4L ZM (fun t=>?_) (fun r x' hx'=>?_)) hF7 (hK4.trans hK6) ((U.less fun b hb=>.inl (.inl hb)).trans (a2S.less fun b hb=>Yk b (.inl hb))) ZM
 .by_cases ht:t∈Ks
  .refine .inr ⟨o8 Z A1 t,rfl,?_,rfl⟩;rw[hTl];show I1 (o8 E6 A6 t)=_;rw[Sp t ht]
  .left;show I1 (o8 Z A1 t)=_;rw[Sn t ht];rfl
 .obtain⟨o',L,e2,rfl⟩:=L3 hx';by_cases e:r=pR c
  .subst e;rw[Y,aj rfl]at L;subst L;exact⟨by rw[j8],_,rfl,.inl hri⟩
  .rw[m7 _ _ _ _ e];have hid:eD (S' ops.toList.length).m (pR c) r=(S' ops.toList.length).m r:=by unfold eD;rw[ai e]
   rw[hid,hml];by_cases e0:r=r0
   .subst e0;rw[Y,ai e,aj rfl]at L;subst L;refine⟨by rw[aj rfl],_,rfl,.inr (fun hd hh hc=>?_)⟩
    obtain⟨b',cs,et,fz,q1,q2,q3,q4,q5⟩:=hc;refine⟨b',cs,et,fz,q1,q2,q3,q4,q5.1,q5.2.1,fun i v hv=>?_⟩
    have hc:=q5.2.2 i v hv;rw[Gw hy]at hc ⊢;by_cases ei:i=off
    .rw[aj ei]at hc ⊢;exact hc.free hy8
    .rw[ai ei]at hc ⊢;have hil:i<((cs0.toList.drop Dx.len).take s).length:=by
         have:=O8 hv;rw[q5.2.1]at this;rw[a2R.2.1];exact this
     exact hc.back a4L _ (a2R.2.2 i _ (ag hil))
   .rw[ai e0];rw[Y,ai e,ai e0]at L;have hlr:=fG L e2;refine⟨S0 ?_ e2,o',rfl,.inl (F9 (by rw[hDN,ai e,ai e0];exact L) e2)⟩
    rw[hm6,Yg r hlr e0];exact L
end
end Go.Abs
end
section
namespace Go.Abs
section
variable {X:fW} {B:Option Nat} {F:Nat->Prop} {n:Nat} {K:b8} {H:Nat->Option Hd} {T T2:Nat->a7} {m m2:Mm} {a:Act} {w:World}
theorem St.less(h:St X B F n K H T m a w)(b:∀t,T2 t=.S6\/T2 t=T t):St X B F n K H T2 m a w:=
 ⟨h.ok,h.mem,h.size,h.defers,fun t=>by
  rcases b t with e|e
  .rw[e];simp[b9]
  .rw[e];exact h.tmp t,h.x⟩
theorem St.swap(h:St X B F n K H T m a w){r0 s N p:Nat}(q:m r0=some (.z5 (.c s p),.own))(J:N/cB<cB^s)(L:∀i,i<s->P3 (N/cB) i=P3 (p/cB) i):St X B F n K H T (N9 m r0 (.z5 (.c s N),.own)) a w:=by
 have d:∀r x,N9 m r0 (c7.z5 (.c s N),p0.own) r=some x->(r=r0/\x=(.z5 (.c s N),.own))\/m r=some x:=fun r x k=>by
  by_cases e:r=r0
  .subst e;rw[j8]at k;cases k;exact .inl ⟨rfl,rfl⟩
  .rw[m7 _ _ _ _ e]at k;exact .inr k
 have l:∀r c,N9 m r0 (c7.z5 (.c s N),p0.own) r=some (c,.own)->∃c',m r=some (c',.own):=fun r c k=>by
  rcases d r _ k with⟨rfl,_⟩|k
  .exact⟨_,q⟩
  .exact⟨_,k⟩
 refine⟨h.ok,⟨?_,?_,?_,?_⟩,h.size,h.defers,h.tmp,h.x⟩
 .intro r c f hd j o q3;rcases d r _ j with⟨rfl,e⟩|j
  .cases e;obtain⟨M,cs,e,O,S,g2,U,V,t⟩:=h.mem.cont r _ .own hd q (by simp) q3
   refine⟨M,cs,e,O,S,g2,U,V,J,t.2.1,fun i v D=>?_⟩
   rw[L i (by rw[<-t.2.1];exact O8 D)]
   exact t.2.2 i v D
  .exact h.mem.cont r c f hd j o q3
 .intro r c hd b j o q3;rcases d r _ j with⟨rfl,e⟩|j
  .cases e;have:=h.mem.own r (.z5 (.c s p)) hd b q o q3;exact this
  .exact h.mem.own r c hd b j o q3
 .intro r c hd b j o q3;rcases d r _ j with⟨rfl,e⟩|j
  .cases e
  .exact h.mem.X9 r c hd b j o q3
 .intro E G Y Z u y b j o q3 q4 q5 q6;obtain⟨A,k1⟩:=l E Y j;obtain⟨C,k2⟩:=l G Z o;exact h.mem.inj E G A C u y b k1 k2 q3 q4 q5 q6
end
theorem IN{r0 E:Nat}{A:z7}:∀ {e:List Nat},a4u r0 E A e=true->∃t∈e,∃c,o8 E A t=.c c/\Ln c=true/\sR c=r0
 |[],h=>by cases h
 |t::e,h=>by
  have h:iB (@BV.rec (fun _=>Bool) (fun c=>iB (Ln c) (Nat.beq (sR c) r0) false) (fun _ _=>false) (fun _=>false) false (o8 E A t)) true (a4u r0 E A e)=true:=h
  rw[a9]at h;split at h
  .rename_i b;cases d:o8 E A t with
   |c c=>
    rw[d]at b;simp only[a9]at b;split at b
    .rename_i f;exact⟨t,ar ..,c,d,f,ab b⟩
    .cases b
   |a _ _=>rw[d]at b;cases b
   |t _=>rw[d]at b;cases b
   |u=>rw[d]at b;cases b
  .obtain⟨i,b,f⟩:=IN h;exact⟨i,al _ b,f⟩
section
variable {P:Program} {R:z0} {z:BV} {lo:List HO} {X:Ctx} {B:Option Nat} {ro:Option Nat} {n:Nat} {g:List a7} {Fu:Nat} {I:kF}
set_option maxHeartbeats 1000000 in
theorem Ql(m4:P.follows .mixedOrders=true)(hR:F7 P R)(nK:∀z lo,N3 P (mZ I z lo))(hB:(B=none->ro≠none)\/∀z lo y f args nx D k,I y f args nx D k≠ .ok z lo){nt r0:Nat}{O:Code}{M:WK}(Ym:lJ O=some M)(BC:Code.j5 O=true)(Kw:o9 n O=true)
  (hX:X.Ok)(lO:eT X ro){E:Nat}{A:z7}{nx:Nat}{D:m8}{p:Nat}{kc:KC}{st:j7}{F0 F:Nat->Prop}{K:b8}{H:Nat->Option Hd}{a:Act}{w:World}{Q:Exit->Act->World->Prop}
  (h:Sk nt r0 O M P Fu R I E A nx D p kc=.ok z lo)(he:B4 n g E A nx D p st)(hF:∀b,F0 b->F b)(qC:St (X.O4 st.gh st.o7) B F n K H st.s6.T st.s6.m a w)(G2:∀r,st.nx<=r->H r=none)
  (hQ:∀e E' A' dE D' p' xK a' w',kc e E' A' dE D' p'=.ok z lo->B4 n g E' A' dE D' p' xK->gD X B F0 F n K w xK a' w'->Q e.out a' w'):(Code.loop O).wpIn (Wd ro) 0 P Q a w:=by
 obtain⟨Sl,CQ,oN,oE,rfl,Hl,Ve,Qj,Ol,uN,fZ,Hk,xJ⟩:=CP Ym;have qC:=he.st.1 qC;have G2:∀r,nx<=r->H r=none:=fun r hr=>G2 r (by rw[he.nx];exact hr)
 have pY:=he.lt;simp only[Code.j5,ah]at BC;simp only[o9,ah]at Kw;have HI:Code.j5 M.c1=true:=by simp_all
 have Ny:Code.j5 M.c2=true:=by simp_all
 obtain⟨bN,BG,kB,BF⟩:=Kw;unfold Sk at h;cases hv:J0 E A M.i with
 |a _ _=>rw[hv]at h;cases h
 |t _=>rw[hv]at h;cases h
 |u=>rw[hv]at h;cases h
 |c c=>
 rw[hv]at h;simp only[a9]at h;split at h
 rotate_left
 .cases h
 rename_i sC;split at h
 rotate_left
 .cases h
 rename_i wV;cases S:m6 nx D (pR c)with
 |c _ _=>rw[S]at h;cases h
 |m _ _ _ _=>rw[S]at h;cases h
 |f _ _ _ _=>rw[S]at h;cases h
 |z=>rw[S]at h;cases h
 |i mi since seen last=>
 rw[S]at h;simp only at h;cases U:m6 nx D mi with
 |c _ _=>rw[U]at h;cases h
 |i _ _ _ _=>rw[U]at h;cases h
 |f _ _ _ _=>rw[U]at h;cases h
 |z=>rw[U]at h;cases h
 |m ks vs l clk=>
 rw[U]at h;simp only at h;split at h
 rotate_left
 .cases h
 rename_i hold;split at h
 rotate_left
 .cases h
 rename_i Yc;split at h
 rotate_left
 .cases h
 rename_i hsl;have hnw:∀q∈l,q.1≠Y8:=fun q hq e=>by
  have:=tY hold q hq;rw[e]at this;exact absurd (cc this (af Yc)) (by decide)
 split at h
 rotate_left
 .cases h
 rename_i hcl;have hcl:=ab hcl;subst hcl;split at h
 rotate_left
 .cases h
 rename_i b1j;split at h
 .cases h
 rename_i V;have V:mi≠pR c:=fun e=>V (by rw[e];exact fo _)
 split at h
 .cases h
 rename_i JQ;have JQ:mi≠r0:=fun e=>JQ (by rw[e];exact fo _)
 obtain⟨E1,A1,h,Ky⟩:=Gu h;generalize Sn:vM (Gt (.seq (.region Sl M.a1 false) (.seq M.c1 (.block M.b (.seq (.region CQ M.a2 false) M.c2))))) E A (SZ nt 0)=Ks at h Ky;have Yn:E.mod 4294967291<cB:=oo (fk _ (by decide)) (by decide)
 have CG:∀t,t ∉ Ks->o8 E1 A1 t=.u:=fun t ht=>by rw[Ky,ai ht,II Yn]
 split at h
 rotate_left
 .cases h
 rename_i hi;have hi:=eU _ _ hi;have a4M:=fG S (by simp)
 obtain⟨D1,h1,G⟩:=N7 (d:=D) (o:=.z) a4M (fun D1=>XR r0 M P Fu R I kc Ks E1 A1 nx D1 p c mi ks vs clk l (x6 seen l))
 rw[h1]at h;have pD:St (X.O4 g (gQ p)) B F n K H (TE E1 A1) (l9 (p8 nx D)) a w:=qC.less (fun t=>by
  by_cases ht:t∈Ks
  .right;show I1 (o8 E1 A1 t)=I1 (o8 E A t);rw[Ky,aj ht]
  .left;show I1 (o8 E1 A1 t)=_;rw[CG t ht];rfl)
 unfold XR at h;refine jx ((x6 seen l).length+1) ?_;cases hs0:iB (Nat.ble nx r0) none (Ai M.c2)with
 |none=>
  rw[hs0]at h;simp only[a9]at h;split at h
  rotate_left
  .cases h
  rename_i L;have L:=af L;obtain⟨C,h,_,Vg,_⟩:=Gv h;refine Nx (J:=fun v Dn=>Dn=m6 nx D1/\∀s,s∈seen->s∈v) m4 hR (nK _ _) (hB.imp id (fun hh=>hh _ _)) Hl Ve Qj Ol HI bN BG hX lO sC wV hi hold Yc hsl pY V G2 (fun v Dn hJ=>by rw[hJ.1,G,ai V];exact U) ?_ ?_ h hQ (x6 seen l).length seen (m6 nx D1) F K a w D (aw _) ⟨rfl,fun _ e=>e⟩ (fun r=>?_) pD hF (fun _ e=>e) (.refl K) (.refl F0 K) (.refl F0 w)
  .intro v Dn hJ hl F' K' T' a' w' D0 hD0 hs;refine hs.sub (fun r x hx=>?_)
   obtain⟨o,e1,e2,rfl⟩:=L3 hx;have Dy:r≠pR c:=fun e=>e2 (by rw[<-e1,e,G,aj rfl])
   exact F9 (by rw[hD0,ai Dy,hJ.1];exact e1) e2
  .intro v Dn hJ q hq F' K' a1 aN w1 wN D0 DN EN AN Q' hF0 hD0 hDN hs1 hTN hsN hkN hQ';obtain⟨hJ1,Lg⟩:=hJ;subst hJ1;obtain⟨Y,WS⟩:=mem_left.1 hq;obtain⟨o,y,l',hf,_⟩:=Vg q (mem_left.2 ⟨Y,fun e=>WS (Lg _ e)⟩)
   exact a4C m4 hR nK hB Hl uN fZ Hk xJ HI Ny bN BG kB BF hX lO sC wV hi pY V (hnw _ Y) L G2 (by rw[G,ai V];exact U) (by rw[G,aj rfl]) CG Y hf hDN hs1 hTN hsN hkN (fun Dn' F2 K2 a2 w2 Sm e1=>hQ' Dn' F2 K2 a2 w2 Sm ⟨e1,fun s hs=>al _ (Lg s hs)⟩)
  .rw[G];by_cases e:r=pR c
   .rw[aj e,e,S]
   .rw[ai e,ai e]
 |some s0=>
  rw[hs0]at h;obtain⟨ops,j,tt,ax,x⟩:=s0;have a4N:Ai M.c2=some (ops,j,tt,ax,x):=by
   rw[a9]at hs0;split at hs0
   .cases hs0
   .exact hs0
  obtain⟨id3,oj,Wb,hj,WO,RZ,hjd⟩:=KI a4N;simp only[a9]at h;split at h
  rotate_left
  .cases h
  rename_i L;have L:=af L;split at h
  .cases h
  rename_i hrr;have hrr:r0≠pR c:=fun e=>hrr (by rw[e];exact fo _)
  cases Z:m6 nx D1 r0 with
  |m _ _ _ _=>rw[Z]at h;cases h
  |i _ _ _ _=>rw[Z]at h;cases h
  |f _ _ _ _=>rw[Z]at h;cases h
  |z=>rw[Z]at h;cases h
  |c s N=>
  rw[Z]at h;simp only at h;split at h
  rotate_left
  .cases h
  rename_i a4O;obtain⟨D2,h2,IP⟩:=N7 (d:=D1) (o:=.z) L (fun D2=>Nu (fun q=>wU M c mi ks vs clk l P Fu R I (Nt ops j tt ax x P R r0 s N (fun out=>Aj Ks E1 A1 nx D2 p r0 out)) q E1 A1 nx D2 p) (x6 seen l) [] fun C=>
   fN (CO C N) fun N2=>if a1a s N2 C=true then(if Nat.ble (Nat.succ (Nat.div N2 cB)) (Nat.pow cB s)=true then aK nx D1 r0 (.c s N2) fun D3=>pZ M P Fu R I kc E1 A1 nx D3 p else .er 597 0)else .er 586 0)
  rw[h2]at h;obtain⟨C,h,_,Vg,b1l⟩:=Gv h;rw[B6]at h;split at h
  rotate_left
  .cases h
  rename_i Uz;split at h
  rotate_left
  .cases h
  rename_i hNN;have hNN:CO C N/cB<cB^s:=af hNN;obtain⟨D3,h3,hD3⟩:=N7 (d:=D1) (o:=.c s (CO C N)) L (fun D3=>pZ M P Fu R I kc E1 A1 nx D3 p)
  rw[h3]at h;have Uz:=IJ Uz;obtain⟨tr,htr,cr,hcr,Hz,hcR⟩:=IN a4O;have hHr:∃hd,H r0=some hd:=by
   have hb:=aR (pD.tmp tr);rw[hcr]at hb;have h5:=Z0.1 Hz;rcases hb with⟨e,_⟩|⟨e,_⟩|hc
   .omega
   .omega
   .obtain⟨hd,_,_,_,g1,_⟩:=hc.vQ Hz;rw[hcR]at g1;exact⟨hd,g1⟩
  have KA:∀q∈x6 seen l,∃o y l',wU M c mi ks vs clk l P Fu R I (Nt ops j tt ax x P R r0 s N (fun out=>Aj Ks E1 A1 nx D2 p r0 out)) q E1 A1 nx D2 p=.ok (.a o y) l'/\P3 (CO C N/cB) o=y:=fun q hq=>by
   obtain⟨o,y,l',hf,Tu⟩:=Vg q hq;exact⟨o,y,l',hf,(Uz _ Tu).1⟩
  refine Nx (ks:=ks) (vs:=vs) (J:=fun v Dn=>(∀s,s∈seen->s∈v)/\∃N',(Dn=fun r=>if r=r0 then .c s N' else m6 nx D2 r)/\∀i,i<s->P3 (N'/cB) i=P3 (CO C N/cB) i\/(P3 (N'/cB) i=P3 (N/cB) i/\∀q∈x6 seen l,q.1∈v->∀o y l',wU M c mi ks vs clk l P Fu R I (Nt ops j tt ax x P R r0 s N (fun out=>Aj Ks E1 A1 nx D2 p r0 out)) q E1 A1 nx D2 p=.ok (.a o y) l'->o≠i))
   m4 hR (nK _ _) (hB.imp id (fun hh=>hh _ _)) Hl Ve Qj Ol HI bN BG hX lO sC wV hi hold Yc hsl pY V G2 (fun v Dn hJ=>?_) ?_ ?_ h hQ (x6 seen l).length seen (fun r=>if r=r0 then .c s N else m6 nx D2 r) F K a w D (aw _) ⟨fun _ e=>e,N,rfl,fun i _=>.inr ⟨rfl,fun q hq hs=>absurd hs (mem_left.1 hq).2⟩⟩ (fun r=>?_) pD hF (fun _ e=>e) (.refl K) (.refl F0 K) (.refl F0 w)
  .obtain⟨_,N',rfl,_⟩:=hJ;show(if mi=r0 then _ else m6 nx D2 mi)=_
   rw[ai JQ,IP,ai JQ,G,ai V];exact U
  .rintro v Dn ⟨hJs,N',rfl,hJ⟩ hl F' K' T' a' w' D0 hD0 hs;have h0:l9 (p8 nx D0) r0=some (.z5 (.c s N'),.own):=F9 (by rw[hD0,ai hrr];exact aj rfl) (by simp)
   refine(hs.swap h0 hNN (fun i hi=>?_)).sub (fun r x hx=>?_)
   .rcases hJ i hi with e|⟨e1,e2⟩
    .exact e.symm
    .rw[e1];refine IK (fun q hq=>?_) (fun q hq=>?_)
     .rw[<-(Uz q hq).1];exact VZ _ _
     .rcases b1l q hq with e|⟨q',g1,l',g2⟩
      .cases e
      .refine e2 q' g1 ?_ _ _ l' g2;rcases re (q'.1∈v)with h'|h'
       .exact h'
       .have:=mem_left.2 ⟨(mem_left.1 g1).1,h'⟩;rw[hl]at this;cases this
   .obtain⟨o,e1,e2,rfl⟩:=L3 hx;by_cases e:r=r0
    .subst e;rw[hD3,aj rfl]at e1;rw[j8,e1]
    .rw[m7 _ _ _ _ e];rw[hD3,ai e]at e1;have Dy:r≠pR c:=fun ee=>e2 (by rw[<-e1,ee,G,aj rfl])
     exact F9 (by rw[hD0,ai Dy];show(if r=r0 then _ else m6 nx D2 r)=_;rw[ai e,IP,ai e];exact e1) e2
  .rintro v Dn ⟨hJs,N',rfl,hJ⟩ q hq F' K' a1 aN w1 wN D0 DN EN AN Q' hF0 hD0 hDN hs1 hTN hsN hkN hQ';obtain⟨Y,WS⟩:=mem_left.1 hq;have hqL:q∈x6 seen l:=mem_left.2 ⟨Y,fun e=>WS (hJs _ e)⟩
   obtain⟨o,y,l',hf,hfy⟩:=KA q hqL;have hy:y<cB:=by rw[<-hfy];exact VZ _ _
   refine a4I m4 hR nK hB Hl uN fZ Hk xJ Wb hj WO RZ hjd HI Ny bN BG kB BF hX lO sC wV hi pY (hnw _ Y) L hrr hHr G2 (by rw[IP];split<;>first|rfl|(rw[G,aj rfl])) (by rw[IP,aj rfl]) CG Y hy hf hDN hs1 hTN hsN hkN (fun F2 K2 a2 w2 Sm a4B=>hQ' (fun r=>if r=r0 then .c s (W2 N' o 1 y)else m6 nx D2 r) F2 K2 a2 w2 Sm ⟨fun s hs=>al _ (hJs s hs),W2 N' o 1 y,rfl,fun i hi=>?_⟩ a4B)
   rw[Gw hy];by_cases ei:i=o
   .left;rw[aj ei,ei];exact hfy.symm
   .rw[ai ei];rcases hJ i hi with e|⟨e1,e2⟩
    .exact .inl e
    .refine .inr ⟨e1,fun q' hq' hs' o' y' l'' hf'=>?_⟩
     rcases av.1 hs' with e|hs'
     .have:=a1b b1j (mem_left.1 hq').1 Y e;subst this;rw[hf]at hf';injection hf' with g1 _;injection g1 with g2 _;rw[<-g2];exact fun e=>ei e.symm
     .exact e2 q' hq' hs' o' y' l'' hf'
  .by_cases e:r=pR c
   .rw[aj e,e,S]
   .rw[ai e];by_cases e0:r=r0
    .subst e0;rw[G,ai e]at Z;exact Z.trans (aj rfl).symm
    .show _=(if r=r0 then _ else m6 nx D2 r)
     rw[ai e0,IP,ai e0,G,ai e]
end
end Go.Abs
end
section
namespace Go.Abs
section
variable {P:Program} {R:z0} {Fu:Nat} {I:kF} {nt r0:Nat}
theorem Qm(m4:P.follows .mixedOrders=true)(hR:F7 P R)(O:∀z lo,N3 P (mZ I z lo)){z:BV}{lo:List HO}{n:Nat}:∀ (c:Code),Code.j5 c=true->o9 n c=true->Sa P Fu R I z lo n (Nv nt r0 c) c:=by
 intro c
 induction c with
 |seq x y Bx By=>
  intro d f X B F0 ro g hX G hB E A nx D p U J F K H a w Q h Z V o C L;simp only[Code.j5,ah]at d;simp only[o9,ah]at f;refine jo (Bx d.1 f.1 X B F0 ro g hX G hB E A nx D p _ J F K H a w _ h Z V o C ?_);intro e E' A' M D' p' k S w' hk v ht;rcases O9 hk with⟨rfl,j⟩|⟨i,rfl,j⟩|⟨rfl,j⟩
  .obtain⟨⟨F',K',H',jT,Ah,hK,wR,Q7⟩,Y⟩:=ht;exact By d.2 f.2 X B F0 ro g hX G hB E' A' M D' p' U k F' K' H' S w' Q j v (fun b hb=>jT b (V b hb)) Ah wR (fun e E2 A2 qB D2 p2 kC a2 w2 jS fZ kX=>L e E2 A2 qB D2 p2 kC a2 w2 jS fZ (kX.trans jT hK Q7 Y))
  .exact L _ _ _ _ _ _ k S w' j v ht
  .exact L _ _ _ _ _ _ k S w' j v ht
 |cond c x y Bx By=>
  intro d f X B F0 ro g hX G hB E A nx D p U J F K H a w Q h Z V o C L;simp only[Code.j5,ah]at d;simp only[o9,ah]at f;have hc:=T7 (E:=E) (A:=A) (a:=a) (K:=K) (H:=H) (by rw[<-Z.tmps];exact o.tmp) c
  have h: @BV.rec (fun _=>Rn) (fun n=>iB (Nat.beq n 17) (Nv nt r0 x P Fu R I none E A nx D p U) (iB (Nat.beq n 9) (Nv nt r0 y P Fu R I none E A nx D p U) (.er 513 0))) (fun _ _=>.er 514 0) (fun _=>.er 515 0) (.er 516 0) (J0 E A c)=.ok z lo:=h
  cases hv:J0 E A c with
  |c q=>
   rw[hv]at h hc;simp only[a9]at h;split at h
   .rename_i e;have e:=ab e;subst e;exact ka ((hc.cell (by decide)).isBool.1 rfl) (Bx d.1 f.1 X B F0 ro g hX G hB E A nx D p U J F K H a w Q h Z V o C L)
   .split at h
    .rename_i e;have e:=ab e;subst e;exact kf ((hc.cell (by decide)).isBool.2 rfl) (By d.2 f.2 X B F0 ro g hX G hB E A nx D p U J F K H a w Q h Z V o C L)
    .cases h
  |a s n=>rw[hv]at h;cases h
  |t q=>rw[hv]at h;cases h
  |u=>rw[hv]at h;cases h
 |block id c ih=>
  intro d f X B F0 ro g hX G hB E A nx D p U J F K H a w Q h Z V o C L;refine pj (ih d f X B F0 ro g hX G hB E A nx D p _ J F K H a w _ h Z V o C ?_);intro e E' A' M D' p' k S w' hk v ht;rcases O9 hk with⟨rfl,j⟩|⟨i,rfl,j⟩|⟨rfl,j⟩
  .exact L .normal _ _ _ _ _ k S w' j v ht
  .simp only[E8.out,Exit.inBlock];rw[a9]at j;by_cases hi:i=id
   .rw[aj hi];rw[aj (by rw[hi];exact fo id)]at j
    exact L .normal _ _ _ _ _ k S w' j v ht
   .rw[ai hi];rw[ai (fun e=>hi (ab e))]at j
    exact L (.exit i) _ _ _ _ _ k S w' j v ht
  .exact L .ret _ _ _ _ _ k S w' j v ht
 |loop c ih=>
  intro d f X B F0 ro g hX G hB E A nx D p U J F K H a w Q h Z V o C L;have h: @Option.rec WK (fun _=>Rn) (fL (Nv nt r0 c P Fu R I none) U Fu E A nx D p) (fun wk=>Sk nt r0 c wk P Fu R I E A nx D p U) (lJ c)=.ok z lo:=h
  cases Ym:lJ c with
  |some wk=>
   rw[Ym]at h;exact Ql m4 hR O (.inl hB) Ym d f hX G h Z V o C L
  |none=>
  rw[Ym]at h;have h:fL (Nv nt r0 c P Fu R I none) U Fu E A nx D p=.ok z lo:=h;refine jx Fu ?_;have go:∀ (N:Nat) (E:Nat) (A:z7) (nx:Nat) (D:m8) (p:Nat) (J:j7) (F:Nat->Prop) (K:b8) (H:Nat->Option Hd) (a:Act) (w:World),fL (Nv nt r0 c P Fu R I none) U N E A nx D p=.ok z lo->B4 n g E A nx D p J->(∀b,F0 b->F b)->
    St (X.O4 J.gh J.o7) B F n K H J.s6.T J.s6.m a w->(∀r,J.nx<=r->H r=none)->(∀e E' A' M D' p' k S w',U e E' A' M D' p'=.ok z lo->B4 n g E' A' M D' p' k->gD X B F0 F n K w k S w'->Q e.out S w')->Code.roundsIn (Wd ro) 0 P c Q N a w:=by
   intro N
   induction N with
   |zero=>intro E A nx D p J F K H a w h;cases h
   |succ N ihN=>
    intro E A nx D p J F K H a w h Z V o C L;rw[mg];refine ih d f X B F0 ro g hX G hB E A nx D p _ J F K H a w _ h Z V o C ?_;intro e E' A' M D' p' k S w' hk v ht;rcases O9 hk with⟨rfl,j⟩|⟨i,rfl,j⟩|⟨rfl,j⟩
    .obtain⟨⟨F1,K1,H1,jT,mY,hK,uM,Q7⟩,Y⟩:=ht;exact ihN E' A' M D' p' k F1 K1 H1 S w' j v (fun b hb=>jT b (V b hb)) mY uM (fun e E2 A2 qB D2 p2 kC a2 w2 jS fZ kX=>L e E2 A2 qB D2 p2 kC a2 w2 jS fZ (kX.trans jT hK Q7 Y))
    .exact L _ _ _ _ _ _ k S w' j v ht
    .exact L _ _ _ _ _ _ k S w' j v ht
  exact go Fu E A nx D p J F K H a w h Z V o C L
 |scope c ih=>
  intro d f X B F0 ro g hX G hB E A nx D p U J F K H a w Q h Z V o C L;refine O3 (ih d f X B F0 ro g hX G hB E A nx D p U J F K H a w _ h Z V o C ?_);intro e E' A' M D' p' k S w' hk v ht;have:=L e E' A' M D' p' k S w' hk v ht;cases e<;>exact this
 |skip=>exact fun d f=>S5 m4 hR (O _ _) d f
 |region id ops draw=>exact fun d f=>S5 m4 hR (O _ _) d f
 |exit id=>exact fun d f=>S5 m4 hR (O _ _) d f
 |ret=>exact fun d f=>S5 m4 hR (O _ _) d f
 |label l=>exact fun d f=>S5 m4 hR (O _ _) d f
 |rangeFunc g0 ps assign body _ _=>exact fun d f=>S5 m4 hR (O _ _) d f
 |_=>exact fun d f=>S5 m4 hR (O _ _) d f
theorem Yo(m4:P.follows .mixedOrders=true)(b:F7 P R):F7 P (XS nt r0 Fu P R):=
 BD (ev:=Nv nt r0) (fun _ _ _ c a hd=>Qm m4 b (fun _ _=>Gp m4 b) c a hd)
def pG(P:Program)(a:Nat):Prop:=∀ks vs l clk,Kn P (.mk a [.c (kD 0)] [.m ks vs l clk] (.c (kD 1)) [.m ks vs l clk,.m ks vs l clk])
theorem UA{g:Nat}(d:pG P g){args:List BV}{b:List HO}{v:BV}{l:List HO}(h:KG args b=.ok v l):Kn P (.mk g args b v l):=by
 unfold KG at h
 match args,h with
 |[.c c],h=>
  simp only[a9]at h;split at h
  .rename_i e;have e:=ab e;subst e
   match b,h with
   |[.m ks vs es clk],h=>cases h;exact d ks vs es clk
   |[.c _ _],h=>cases h
   |[.f _ _ _ _],h=>cases h
   |[.i _ _ _ _],h=>cases h
   |[.z],h=>cases h
   |_::_::_,h=>cases h
   |[],h=>cases h
  .cases h
 |[.a _ _],h=>cases h
 |[.t _],h=>cases h
 |[.u],h=>cases h
 |_::_::_,h=>cases h
 |[],h=>cases h
theorem Nz(m4:P.follows .mixedOrders=true){c:Nat}(b:pG P c)(d:F7 P R):∀ (S:List (Nat×Nat×Nat)),F7 P (XT S c Fu P R)
 |[]=>fun f args a v l h=>by
  have g:iB (Nat.beq f c) (KG args a) (a2K Fu P R f args a)=.ok v l:=h;rw[a9]at g;split at g
  .rename_i e;rw[ab e];exact UA b g
  .exact BD (ev:=xV) (fun _ _ _ _ i hd=>S5 m4 d (Gp m4 d) i hd) f args a v l g
 |p::S=>fun f args a v l h=>by
  have h:iB (Nat.beq f p.1) (XS p.2.1 p.2.2 Fu P R f args a) (XT S c Fu P R f args a)=.ok v l:=h;rw[a9]at h;split at h
  .exact Yo m4 d f args a v l h
  .exact Nz m4 b d S f args a v l h
end
end Go.Abs
end
section
namespace Go.Abs
def U8(k v:Nat):ME->ME
 |[]=>[(Y8,k,v)]
 |p::l=>if p.2.1=k then(p.1,k,v)::l else p::U8 k v l
def Y6(k:Nat)(l:ME):Bool:=l.any fun p=>Nat.beq p.2.1 k
def sD(e:Nat×Nat)(s:ME×Nat):ME×Nat:=(U8 e.1 e.2 s.1,if Y6 e.1 s.1 then s.2 else s.2+1)
def S8:List (Nat×Nat)->ME×Nat->ME×Nat
 |[],s=>s
 |e::es,s=>S8 es (sD e s)
abbrev lL(l:ME):Prop:=(l.map (·.2.1)).Nodup
theorem bX{k:Nat}{l:ME}:Y6 k l=true↔ ∃p∈l,p.2.1=k:=by
 unfold Y6;rw[ij];exact⟨fun⟨p,a,b⟩=>⟨p,a,ab b⟩,fun⟨p,a,b⟩=>⟨p,a,by rw[b];exact fo _⟩⟩
theorem IQ{k:Nat}{l l':ME}(h:l.Perm l'):Y6 k l=Y6 k l':=by
 rw[ff,bX,bX];exact⟨fun⟨p,a,b⟩=>⟨p,h.mem_iff.1 a,b⟩,fun⟨p,a,b⟩=>⟨p,h.mem_iff.2 a,b⟩⟩
theorem IS{k v:Nat}:∀ {l:ME},Y6 k l=true->(U8 k v l).map (·.2.1)=l.map (·.2.1)
 |[],h=>by simp[Y6]at h
 |p::l,h=>by
  simp only[U8];split
  .rename_i e;simp[e]
  .rename_i e;have:Y6 k l=true:=by
    obtain⟨q,a,b⟩:=bX.1 h;rcases av.1 a with a|a
    .rw[a]at b;exact absurd b e
    .exact bX.2 ⟨q,a,b⟩
   simp[IS this]
theorem sG{k v:Nat}:∀ {l:ME},Y6 k l=false->U8 k v l=l++ [(Y8,k,v)]
 |[],_=>rfl
 |p::l,h=>by
  have e:¬p.2.1=k:=fun e=>by
   rw[bX.2 ⟨p,ar ..,e⟩]at h;cases h
  have:Y6 k l=false:=by
   cases a:Y6 k l with
   |false=>rfl
   |true=>
    obtain⟨q,b,c⟩:=bX.1 a;rw[bX.2 ⟨q,al _ b,c⟩]at h;cases h
  simp only[U8,ai e,sG this,gy]
theorem lA{k v:Nat}{l:ME}(h:lL l):lL (U8 k v l):=by
 cases a:Y6 k l with
 |true=>show((U8 k v l).map (·.2.1)).Nodup;rw[IS a];exact h
 |false=>
  show((U8 k v l).map (·.2.1)).Nodup
  rw[sG a,nv];refine wJ h fun b=>?_
  obtain⟨p,c,d⟩:=cd.1 b;rw[bX.2 ⟨p,c,d⟩]at a;cases a
theorem IU{k k' v:Nat}{l:ME}(a:k'≠k):Y6 k' (U8 k v l)=Y6 k' l:=by
 induction l with
 |nil=>simp only[U8,Y6,jv,List.any_nil,Bool.or_false];exact Bool.eq_false_iff.2 fun h=>a (ab h).symm
 |cons p l b=>
  simp only[U8];split
  .rename_i e;simp only[Y6,jv,e]
  .simp only[Y6,jv]at b ⊢;rw[b]
theorem IV{b f k2 g:Nat}(a:b≠k2):∀ (l:ME),(U8 b f (U8 k2 g l)).Perm (U8 k2 g (U8 b f l))
 |[]=>by
  simp only[U8,ai a,ai a.symm];exact .swap _ _ _
 |p::l=>by
  by_cases c:p.2.1=b
  .have d:¬p.2.1=k2:=fun e=>a (c.symm.trans e)
   simp only[U8,ai d,aj c,ai a];exact .refl _
  .by_cases d:p.2.1=k2
   .simp only[U8,aj d,ai c,ai a.symm];exact .refl _
   .simp only[U8,ai c,ai d];exact(IV a l).cons _
theorem Gx{k v:Nat}{p:Nat×Nat×Nat}:∀ {l:ME},lL l->p∈l->p.2.1=k->(U8 k v l).Perm ((p.1,k,v)::l.erase p)
 |[],_,h,_=>by cases h
 |q::l,a,h,e=>by
  simp only[lL,az,dn]at a;by_cases b:q=p
  .subst b;simp only[U8,aj e,List.erase_cons_head];exact .refl _
  .have d:p∈l:=(av.1 h).resolve_left (fun e=>b e.symm)
   have c:¬q.2.1=k:=fun c=>a.1 (cd.2 ⟨p,d,e.trans c.symm⟩)
   simp only[U8,ai c];rw[List.erase_cons_tail (by simpa using b)]
   exact((Gx a.2 d e).cons q).trans (.swap _ _ _)
theorem UB{k v:Nat}{l l':ME}(c:lL l)(h:l.Perm l'):(U8 k v l).Perm (U8 k v l'):=by
 have a:lL l':=(h.map (·.2.1)).nodup_iff.1 c
 cases b:Y6 k l with
 |true=>
  obtain⟨p,d,e⟩:=bX.1 b;exact((Gx c d e).trans ((h.erase p).cons _)).trans (Gx a (h.mem_iff.1 d) e).symm
 |false=>
  rw[sG b,sG ((IQ h).symm.trans b)];exact h.append_right _
theorem Al:∀ (es:List (Nat×Nat)) {s b:ME×Nat},lL s.1->s.1.Perm b.1->s.2=b.2->(S8 es s).1.Perm (S8 es b).1/\(S8 es s).2=(S8 es b).2
 |[],_,_,_,h,e=>⟨h,e⟩
 |a::es,s,b,c,h,e=>by
  refine Al es (lA c) (UB c h) ?_;show(if Y6 a.1 s.1 then s.2 else s.2+1)=if Y6 a.1 b.1 then b.2 else b.2+1
  rw[IQ h,e]
theorem Qn{es d:List (Nat×Nat)}(h:es.Perm d):∀ {s:ME×Nat},lL s.1->(es.map (·.1)).Nodup->(S8 es s).1.Perm (S8 d s).1/\(S8 es s).2=(S8 d s).2:=by
 induction h with
 |nil=>exact fun _ _=>⟨.refl _,rfl⟩
 |cons a _ j=>
  intro s f c;rw[az,dn]at c;exact j (lA f) c.2
 |swap a b l=>
  intro s f c;simp only[az,dn,av,ke]at c;refine Al l (lA (lA f)) (IV (fun e=>c.1.1 e.symm) s.1) ?_
  show(if Y6 a.1 (U8 b.1 b.2 s.1)then(if Y6 b.1 s.1 then s.2 else s.2+1)else(if Y6 b.1 s.1 then s.2 else s.2+1)+1)=if Y6 b.1 (U8 a.1 a.2 s.1)then(if Y6 a.1 s.1 then s.2 else s.2+1)else(if Y6 a.1 s.1 then s.2 else s.2+1)+1
  rw[IU (fun e=>c.1.1 e.symm),IU c.1.1]
  cases Y6 a.1 s.1<;>cases Y6 b.1 s.1<;>rfl
 |trans k _ g i=>
  intro s f c;obtain⟨a1,m⟩:=g f c;obtain⟨n,o⟩:=i f ((k.map (·.1)).nodup_iff.1 c)
  exact⟨a1.trans n,m.trans o⟩
theorem BH:∀ (a b:List (Nat×Nat)) (s:ME×Nat),S8 (a++b) s=S8 b (S8 a s)
 |[],_,_=>rfl
 |e::a,b,s=>BH a b (sD e s)
section
variable {H:Nat->Option Hd} {ks vs clk:Nat} {l l':ME} {es:Array MapEntry}
theorem D7.perm(h:D7 H ks vs l clk es)(a:l.Perm l'):D7 H ks vs l' clk es:=by
 obtain⟨b,c,d,e,f⟩:=h;exact⟨b,c,a.symm.trans d,(a.map (·.2.1)).nodup_iff.1 e,f⟩
theorem D7.keys(h:D7 H ks vs l clk es):lL l:=by
 obtain⟨b,c,d,a,e⟩:=h;exact a
end
end Go.Abs
end
section
namespace Go.Abs
section
variable {F:Fence} {n:Nat} {P:Program} {ops:Array Oper} {Q:Exit->Act->World->Prop}
theorem wY{c:List Oper}:∀ (b:List Oper) (a:Act) (w:World),wpListIn F n P ops (zZ F n P ops Q c) b a w->wpListIn F n P ops Q (b++c) a w
 |[],_,_,h=>h
 |o::b,a,w,h=>by
  show wpListIn F n P ops Q (o::(b++c)) a w;simp only[wpListIn]at h ⊢;split
  .rename_i d;rw[aj d]at h;exact vF (fun a w e=>wY b a w e) h
  .rename_i d;rw[ai d]at h;exact⟨h.1,wY b _ w h.2⟩
end
def DP(ops:Array Oper):Bool:=qL (ops.size- 1) (ops.toList.take (ops.size- 1)) && lT (ops.size- 1) ((Ee ops.toList).drop (ops.size- 1)) && R3 (V8 ops (ops.size- 1))
theorem KM{ops:Array Oper}(c:DP ops=true):RU ops (ops.size- 1)/\R3 (V8 ops (ops.size- 1))=true:=by
 unfold DP at c;simp only[ah]at c;refine⟨⟨Nat.sub_le _ _,fun i o f e j w q=>vE c.1.1 i o ?_ j w q,fun L r i o f e d j s=>?_⟩,c.2⟩
 .rw[ny,aj f];simpa using e
 .have k:ops.toList[i]? =some o:=by simpa using e
  have m:i<(Ee ops.toList).length:=by
   rw[Ee,lG];simpa using(eu.1 e).1
  have p:(Ee ops.toList)[i]? =some (Ee ops.toList)[i]:=ag m;refine rC r ops.toList [] (fun a=>by simp) (fun b l o h=>by simp at h) i _ o p k d j ?_
  refine rT c.1.2 (i- (ops.size- 1)) _ ?_ j (by omega)
  rw[dp,kq f];exact p
noncomputable section
def Gy(ops:Array Oper)(a:Bool)(P:Program)(R:z0)(k:KS):KS:=iB a (iB (DP ops) (xT (V8 ops (ops.size- 1)) P R k) (fun _ _ _ _ _=>.er 610 0)) (L6 (ops.toList.take (ops.size- 1)) P R none ops k)
end
section
variable {P:Program} {R:z0} {z:BV} {l:List HO} {X:Ctx} {B:Option Nat} {F0:Nat->Prop} {ro:Option Nat} {n:Nat} {g:List a7}
theorem BI{n:Nat}:∀ (l:List Oper) (c:Nat),w7 n l=true->w7 n (l.take c)=true
 |[],c,_=>by simp[w7]
 |o::l,0,_=>rfl
 |o::l,c+1,h=>by
  simp only[w7,ah,nj]at h ⊢;exact⟨h.1,BI l c h.2⟩
theorem Gz{Q:Exit->Act->World->Prop}(m4:P.follows .mixedOrders=true)(hX:X.Ok)(hR:F7 P R){id:Nat}{ops:Array Oper}{o:Oper}{f:Bool}(hl:ops.toList.getLast?=some o)(BC:f=true->R3 ops=true)(v:w7 n ops.toList=true)
  {E:Nat}{A:z7}{nx:Nat}{D:m8}{p:Nat}{k:KS}{s:j7}{F:Nat->Prop}{K:b8}{H:Nat->Option Hd}{a:Act}{w:World}(h:Gy ops f P R k E A nx D p=.ok z l)(y:B4 n g E A nx D p s)(hF:∀b,F0 b->F b)
  (J:St (X.O4 s.gh s.o7) B F n K H s.s6.T s.s6.m a w)(L:∀r,s.nx<=r->H r=none)(hQ:∀u A' c D' p' t C w',k u A' c D' p'=.ok z l->B4 n g u A' c D' p' t->gD X B F0 F n K w t C w'->wpListIn (Wd ro) 0 P ops Q [o] C w'):
  (Code.region id ops f).wpIn (Wd ro) 0 P Q a w:=by
 have M:∀ (j:Nat) (d:Tmp),(ops[j]?).bind (·.dst)=some d->d<n:=fun j d hj=>N1 v j d (by simpa using hj)
 have N:ops.toList=ops.toList.take (ops.size- 1)++ [o]:=by
  obtain⟨ys,e⟩:=qe.1 hl;have hs:ops.size- 1=ys.length:=by
   have:ops.toList.length=ys.length+1:=by rw[e];simp
   rw[bp]at this;omega
  rw[hs,e,rj];rfl
 have G:ops.toList.drop (ops.size- 1)=[o]:=by
  have O:(ops.toList.take (ops.size- 1)).length=ops.size- 1:=by rw[fw,bp];omega
  have:=pt (l₂:=[o]) O;rw[<-N]at this;exact this
 have U:St (X.O4 s.gh s.o7) B F n K H (TE E A) s.s6.m a w:=by rw[<-y.tmps];exact J
 have V:∀r,nx<=r->H r=none:=fun r I=>L r (by rw[y.nx];exact I)
 cases f with
 |true=>
  have h:iB (DP ops) (xT (V8 ops (ops.size- 1)) P R k) (fun _ _ _ _ _=>.er 610 0) E A nx D p=.ok z l:=h
  rw[a9]at h;split at h
  rotate_left
  .cases h
  rename_i Z;obtain⟨hc,htp⟩:=KM Z;have hdp:w7 n (V8 ops (ops.size- 1)).toList=true:=by simpa [V8]using BI ops.toList (ops.size- 1) v
  obtain⟨S,Ds,u,A',c,D',q0,q1,q2,q3,q4,q5,q6,_,q7⟩:=FW (n:=n) hR h hdp y.lt y.G9;refine a4m (hX.grow s.gh s.o7) m4 (MJ P) hc (BC rfl) q1 htp q6 (by rw[q0];exact U) (fun r I=>V r (by rw[q0]at I;exact I)) (fun C w' ht=>?_)
  obtain⟨i,q⟩:=B4.ex n g u A' c D' p q5;obtain⟨⟨K',H',t1,t2,t3,t4⟩,t5⟩:=ht;have mY:St (X.O4 i.gh i.o7) B F n K' H' i.s6.T i.s6.m C w':=by
   have e1:i.s6.T=TE u A':=q.tmps;rw[e1,q.gh,q.o7,<-y.gh,<-y.o7,<-q2];exact t1.sub (fun r x hx=>by rw[q.vJ]at hx;exact mU q4 r x hx)
  rw[G];exact hQ u A' c D' p i C w' q7 q ⟨⟨F,K',H',fun _ h=>h,mY,t2,fun r I=>t3 r (by rw[q3];rw[q.nx]at I;exact I),t4.less hF⟩,t5.less hF⟩
 |false=>
  have h:L6 (ops.toList.take (ops.size- 1)) P R none ops k E A nx D p=.ok z l:=h;refine gz ?_;rw[N];refine wY _ a w ?_;exact J1 (yl:=none) (Y:=none) (hh:=none) hX hR trivial trivial M _ E A nx D p _ s F K H a w h (BI _ _ v) y hF (fun _ e=>by cases e) J L (fun u A' c D' p' t C w' hk Vf ht=>hQ u A' c D' p' t C w' hk Vf ht)
end
end Go.Abs
end
section
namespace Go.Abs
section
variable {P:Program} {H:Nat->Option Hd} {w:World} {ks vs clk b:Nat} {L:ME} {es:Array MapEntry}
theorem Sq{key:Nat}{l:ME}:(ix key l).isSome=Y6 key l:=by
 rw[ff,bX];constructor
 .intro h;obtain⟨j,d⟩:=dv.1 h;obtain⟨p,a,c⟩:=jP d;exact⟨p,df a,c⟩
 .rintro⟨p,a,c⟩;cases h:ix key l with
  |none=>exact absurd c (hZ.1 h p a)
  |some j=>rfl
theorem KN{key v:Nat}:∀ {l:ME} {j:Nat} {p:Nat×Nat×Nat},ix key l=some j->l[j]? =some p->l.set j (p.1,key,v)=U8 key v l
 |[],_,_,h,_=>by cases h
 |q::l,j,p,h,a=>by
  simp only[ix]at h;split at h
  .rename_i e;cases h;simp at a;subst a;simp[U8,e]
  .rename_i e;cases c:ix key l with
   |none=>rw[c]at h;cases h
   |some d=>
    rw[c]at h;cases h;simp only[U8,ai e,List.set_cons_succ];rw[KN c (by simpa using a)]
theorem D7.b1q{s k v:Nat}(h:D7 H ks vs (L++ [(s,k,v)]) clk es):D7 H ks vs (L++ [(Y8,k,v)]) clk es:=by
 obtain⟨m,d,f,n,o⟩:=h;obtain⟨j,g⟩:=bn.1 (f.mem_iff.1 (dz L (cb.2 rfl)));have a:(L++ [(s,k,v)])[L.length]? =some (s,k,v):=by simp
 refine⟨m.set j (Y8,k,v),?_,?_,?_,o⟩
 .rw[E9]at d ⊢;refine⟨by simp[d.1],fun i q e c l=>?_⟩
  rw[ir]at c;split at c
  .rename_i p;subst p;split at c
   .cases c;obtain⟨r,g2⟩:=d.2 j _ e g l;exact⟨.inr rfl,g2⟩
   .cases c
  .exact d.2 i q e c l
 .have:=Mu (q:=(Y8,k,v)) f a g;have e:(L++ [(s,k,v)]).set L.length (Y8,k,v)=L++ [(Y8,k,v)]:=by simp
  rwa [e]at this
 .simpa using n
theorem Sr{t kt J:TypeId}{key n:Nat}{F s:Value}(G:P.underlying t=some (.map kt J))(g2:HA P kt ks)(u:y9 H ks key F)(v:gL ks key)(i:y9 H vs n s)(q5:w.heap[b]? =some (.map es clk))(K:D7 H ks vs L clk es):
  ∃Kz,(Instr.mapUpdate t (.map (some b)) F s).run P w=.ok () (w.putObj b (.map Kz (sD (key,n) (L,clk)).2))/\D7 H ks vs (sD (key,n) (L,clk)).1 (sD (key,n) (L,clk)).2 Kz:=by
 obtain⟨y,q6,a,f,k,m⟩:=K;have x:=kU u v;have I:∀w,(Instr.findKey kt (X1 ks key) es.toList).run P w=.ok ((ix key y).bind fun j=>(es.toList[j]?).map fun e=>(j,e.val)) w:=fun w=>oU g2 v (FG u) y es.toList q6
 have hh:=Sq (key:=key) (l:=L);cases g:ix key L with
 |none=>
  rw[g]at hh;have o:Y6 key L=false:=hh.symm;have h:=eB a g;refine⟨es.push {key:=X1 ks key,val:=s,born:=clk},?_,?_⟩
  .have e:(sD (key,n) (L,clk)).2=clk+1:=by show(if Y6 key L=true then clk else clk+1)=_;rw[o];rfl
   rw[e,x];unfold Instr.mapUpdate;simp only[au,dc G,ak,B3 q5,F6 g2,I,h,nc];exact E7 q5
  .have e:sD (key,n) (L,clk)=(L++ [(Y8,key,n)],clk+1):=by
    show(U8 key n L,if Y6 key L=true then clk else clk+1)=_
    rw[o,sG o];rfl
   rw[e];exact(Bq q6 a f k m g ⟨.inl rfl,x▸u,i,v⟩ rfl).b1q
 |some j=>
  rw[g]at hh;have o:Y6 key L=true:=hh.symm;obtain⟨p,z,q⟩:=jP g;obtain⟨c,h,d⟩:=zD a f g z;obtain⟨M,N⟩:=(E9 _ _).1 q6;have A:c<es.toList.length:=by
   rw[M];rcases bh c y.length with B|B
   .exact B
   .rw[an B]at d;cases d
  have C:=N c p es.toList[c] d (ag A);have D:c<es.size:=by simpa using A
  have r:es[c]? =some es[c]:=ba D;have E:es[c].key=X1 ks key:=by
   have:=kU C.2.1 C.2.2.2;rw[q]at this;exact this
  have e:sD (key,n) (L,clk)=(L.set j (p.1,key,n),clk):=by
   show(U8 key n L,if Y6 key L=true then clk else clk+1)=_
   rw[o,KN g z];rfl
  rw[e];refine⟨es.modify c fun e=> {e with key:=X1 ks key,val:=s},?_,zF q6 a f k m z d r ⟨C.1,x▸u,i,v⟩ q.symm rfl⟩
  rw[x];unfold Instr.mapUpdate;simp only[au,dc G,ak,B3 q5,F6 g2,I,h,gx,ag A,da,r,ec,E,jQ];exact E7 q5
theorem a1l{t u ty kt l:TypeId}{j:Nat}{p:Nat×Nat×Nat}{a:ME}{iv:Value}(m:P.underlying t=some (.map kt l))(g2:HA P kt ks)(f:y9 H ks p.2.1 iv)(g:gL ks p.2.1)(q5:w.heap[b]? =some (.map es clk))(q6:G8 H ks vs a es.toList)(d:lL a)(c:a[j]? =some p):
  (Builtin.delete_ #[t,u] ty #[.map (some b),iv]).run P w=.ok (.tuple #[]) (w.putObj b (.map (es.eraseIdxIfInBounds j) clk)):=by
 have n:=kU f g;have o:∀w,(Instr.findKey kt (X1 ks p.2.1) es.toList).run P w=.ok ((ix p.2.1 a).bind fun j=>(es.toList[j]?).map fun e=>(j,e.val)) w:=fun w=>oU g2 g (FG f) a es.toList q6
 have r:ix p.2.1 a=some j:=by
  cases h:ix p.2.1 a with
  |none=>exact absurd rfl (hZ.1 h p (df c))
  |some i=>
   obtain⟨q,k,s⟩:=jP h;have e:(a.map (·.2.1))[i]? =(a.map (·.2.1))[j]? :=by rw[bo,bo,k,c];simp[s]
   have v:i<(a.map (·.2.1)).length:=by rw[dy];exact O8 k
   exact congrArg some ((mj v d).1 e)
 have x:j<es.toList.length:=by rw[((E9 _ _).1 q6).1];exact O8 c
 have y:(#[t,u]:Array TypeId)[0]? =some t:=rfl;have z:(#[.map (some b),iv]:Array Value)[0]? =some (.map (some b)):=rfl;have A:(#[.map (some b),iv]:Array Value)[1]? =some iv:=rfl;unfold Builtin.delete_;simp only[y,z,A];rw[n];simp only[au,dc m,ak,B3 q5,F6 g2,o,r,gx,ag x,da,E7 q5,bg]
end
end Go.Abs
end
section
namespace Go.Abs
section
variable {F F1:Nat->Prop} {w w0:World} {b:Nat} {o o':Obj}
theorem BJ:(w.putObj b o').heap.size=w.heap.size:=by simp[World.putObj]
theorem BK(h:w.heap[b]? =some o)(c:¬F b):Kept F w (w.putObj b o'):=
 ⟨rfl,rfl,rfl,by rw[BJ];exact aw _,fun d a=>by
  have e:d≠b:=fun e=>c (by rw[<-e];exact a)
  rw[I0 h,ai e],aw _⟩
theorem St.Yp{X:fW}{B:Option Nat}{n:Nat}{K K0:b8}{H H0:Nat->Option Hd}{T:Nat->a7}{m:Mm}{a:Act}(A:X.Ok)(C:X F K0 H0 w0)(h:St X B F1 n K H T m a w)(s:F1 b)(E:¬F b)(j:K.cells b=none)(t:K.inv b=none)
  (hh:w.heap[b]? =some o)(G:o.Vi=true)(I:∀b,F b->F1 b)(J:K0.le K)(L:aY H0 H)(M:Kept F w0 w):St X B F1 n K H T m a (w.putObj b o'):=by
 have d:∀i,i≠b->(w.putObj b o').heap[i]? =w.heap[i]? :=fun i e=>by rw[I0 hh,ai e]
 refine⟨⟨⟨fun i cs u=>?_,fun i p v=>?_⟩,fun i y=>by rw[BJ];exact h.ok.lt i y,h.ok.inv,h.ok.apart⟩,h.mem.world fun r c f hd i z N q3 q4=>d i fun e=>?_,h.size,?_,h.tmp,A.grow F F1 K0 K H0 H w0 _ C I J L (M.trans (BK hh E))⟩
 .obtain⟨e,O,g⟩:=h.ok.w8.1 i cs u;exact⟨e,O,by rw[d i (fun e=>by rw[e,j]at u;cases u)];exact g⟩
 .obtain⟨x,P,g2⟩:=h.ok.w8.2 i p v;exact⟨x,by rw[d i (fun e=>by rw[e,t]at v;cases v)];exact P,g2⟩
 .subst e;cases f with
  |dead=>exact N rfl
  |own=>exact(h.mem.own r c hd i z q3 q4).1 s
  |X9=>
   obtain⟨cs,g⟩:=h.mem.X9 r c hd i z q3 q4;rw[j]at g;cases g
 .have hd:=h.defers;cases B with
  |none=>exact hd
  |some q=>
   obtain⟨R,S,U,V,k⟩:=hd;refine⟨by rw[BJ];exact R,S,U,V,fun D l=>⟨(k D l).1,(k D l).2.1,?_⟩⟩
   rw[d D (fun e=>by have:=(k D l).2.2;rw[e,hh]at this;cases this;cases G)]
   exact(k D l).2.2
end
end Go.Abs
end
section
namespace Go.Abs
inductive LK where
 |plain
 |N9 (t:TypeId) (m x v:Operand)
 |del (t u:TypeId) (m x:Operand)
def jX(ops:Array Oper):LK:=match ops.toList.getLast? with
 |some o=>(match o.dst,o.guard,o.op with
  |none,none,.mapUpdate t m x v=>.N9 t m x v
  |none,none,.call c=>(match c.callee,c.args.toList,c.argTypes.toList with
   |.builtin .delete,[m,x],[t,u]=>.del t u m x
   |_,_,_=>.plain)
  |_,_,_=>.plain)
 |none=>.plain
def uB(_:Program)(b:Tmp)(ops:Array Oper):Option (Bool×Operand):=match ops.toList with
 |[c,d,e,f]=>(match c.op,c.dst,c.guard,d.op,d.dst,d.guard with
  |.move (.tmp a),some g,none,.move x,some h,none=>(match e.op,e.dst,e.guard,f.op,f.dst,f.guard with
   |.binOp op t (.tmp y1) (.tmp j) u,some i,none,.assign (.tmp k),some l,none=>
    if Nat.beq a b && Nat.beq l b && Nat.beq y1 g && Nat.beq j h && Nat.beq k i && !Nat.beq g b && !Nat.beq h b && !Nat.beq i b && !Nat.beq g h then(match op with
     |.add=>some (true,x)
     |.sub=>some (false,x)
     |_=>none)else none
   |_,_,_,_,_,_=>none)
  |_,_,_,_,_,_=>none)
 |_=>none
abbrev Ef:=Nat×Nat
structure Hid where
 kd:Nat
 p:Nat
 r0:Nat
 ks:Nat
 vs:Nat
 tA:Option Tmp
noncomputable section
def Yq(P:Program)(h:Hid)(t:TypeId)(m x v:BV):l6:=vC m fun c=>nB (vV c) 620 (nB (Nat.beq (mR c) h.r0) 621 (nB (Nat.beq (Nat.succ h.ks) (eK P t)) 622 (nB (Nat.beq (Hs x) (eK P t)) 623 (nB (Nat.beq (Nat.succ h.vs) (uJ P t)) 624 (nB (Nat.beq (Hs v) (Nat.succ h.vs)) 625
 (vR x fun b key=>nB (lV b key) 626 (vR v fun _ n=>nB (fJ (OF h.vs) n) 627 (.ok (.a key n) [] [] []))))))))
def Yr(P:Program)(h:Hid)(t:TypeId)(m x:BV):l6:=vC m fun c=>nB (vV c) 630 (nB (Nat.beq (mR c) h.r0) 631 (nB (Nat.beq (Nat.succ h.ks) (eK P t)) 632 (nB (Nat.beq (Hs x) (eK P t)) 633 (nB (Nat.beq (Nat.succ h.vs) (uJ P t)) 634
 (vR x fun b key=>nB (lV b key) 636 (.ok (.a key 0) [] [] []))))))
def efR(r:l6)(k:Nat->Nat->Rn):Rn:=@l6.rec (fun _=>Rn) (fun c x=>.er c x) (fun v _ _ _=>@BV.rec (fun _=>Rn) (fun _=>.er 628 0) (fun a b=>fN a fun a=>fN b fun b=>k a b) (fun _=>.er 628 1) (.er 628 2) v) r
abbrev Ss:=Program->Nat->z0->kF->Hid->List Ef->Nat->z7->Nat->m8->Nat->(List Ef->KS)->Rn
def Qo(ops:Array Oper)(a:Bool):Ss:=fun P F R I _ lg E A nx D p k=>JJ ops a P F R I none E A nx D p fun e E A nx D p=>pM e (k lg E A nx D p) (fun _=>.er 640 0) (.er 641 0)
def uC(E:Nat)(A:z7):List Nat->Bool:=@List.rec Nat (fun _=>Bool) true (fun t _ a=>iB (isSet (o8 E A t)) false a)
def b1r(ops:Array Oper)(a:Bool):Ss:=fun P F R I h lg E A nx D p k=>
 @Option.rec Tmp (fun _=>Rn)
  (@LK.rec (fun _=>Rn) (Qo ops a P F R I h lg E A nx D p k)
   (fun t m x v=>iB (Nat.beq h.kd 0) (Gy ops a P R (fun E A nx D p=>iB (Nat.beq p h.p) (efR (Yq P h t (J0 E A m) (J0 E A x) (J0 E A v)) fun key n=>k ((key,n)::lg) E A nx D p) (.er 681 0)) E A nx D p) (.er 682 0))
   (fun t _ m x=>iB (Nat.beq h.kd 1) (Gy ops a P R (fun E A nx D p=>iB (Nat.beq p h.p) (efR (Yr P h t (J0 E A m) (J0 E A x)) fun key n=>k ((key,n)::lg) E A nx D p) (.er 681 1)) E A nx D p) (.er 682 1)) (jX ops))
  (fun b=>iB a (.er 683 0) (@Option.rec (Bool×Operand) (fun _=>Rn)
   (iB (O0 b (lK ops.toList)) (.er 683 1) (L6 ops.toList P R none ops (k lg) E A nx D p))
   (fun s=>@BV.rec (fun _=>Rn) (fun c=>iB (Nat.beq (Nat.mod c 128) 32) (iB (uC E A (lK ops.toList)) (iB (Nat.ble (B8 lg) 1000) (iB (iB (Nat.ble (Nat.sub (n8 c) cZ) 1099511627776) (Nat.ble (Nat.sub cZ (n8 c)) 1099511627776) false) (k ((iB s.1 1 0,c)::lg) E A nx D p) (.er 642 3)) (.er 642 2)) (.er 642 1)) (.er 642 0)) (fun _ _=>.er 643 0) (fun _=>.er 644 0) (.er 645 0) (J0 E A s.2))
   (uB P b ops))) h.tA
def CT:Code->Ss:=@Code.rec (fun _=>Ss)
 (fun _ _ _ _ _ lg E A nx D p k=>k lg E A nx D p)
 (fun _ ops a=>b1r ops a)
 (fun _ _ b c P F R I h lg E A nx D p k=>b P F R I h lg E A nx D p fun lg E A nx D p=>c P F R I h lg E A nx D p k)
 (fun g _ _ b c P F R I h lg E A nx D p k=>@BV.rec (fun _=>Rn) (fun n=>iB (Nat.beq n 17) (b P F R I h lg E A nx D p k) (iB (Nat.beq n 9) (c P F R I h lg E A nx D p k) (.er 646 0))) (fun _ _=>.er 647 0) (fun _=>.er 648 0) (.er 649 0) (J0 E A g))
 (fun _ _ _ _ _ _ _ _ _ _ _ _ _ _ _=>.er 650 0) (fun _ _ _ _ _ _ _ _ _ _ _ _ _ _=>.er 651 0) (fun _ _ _ _ _ _ _ _ _ _ _ _ _ _ _ _ _ _=>.er 652 0) (fun _ _ _ _ _ _ _ _ _ _ _ _ _=>.er 653 0) (fun _ _ _ _ _ _ _ _ _ _ _ _ _ _=>.er 654 0)
 (fun _ _ _ _ _ _ _ _ _ _ _ _ _=>.er 655 0) (fun _ _ _ _ _ _ _ _ _ _ _ _ _=>.er 656 0) (fun _ _ _ _ _ _ _ _ _ _ _ _=>.er 657 0) (fun _ _ _ _ _ _ _ _ _ _ _ _ _=>.er 658 0)
def a4P(a:Nat)(b:m8)(nx:Nat)(D:m8):Nat->Bool:=@Nat.rec (fun _=>Bool) true (fun r c=>iB (XP (m6 a b r) (m6 nx D r)) c false)
def bY(b:List Nat)(c:Nat)(d:z7)(nx:Nat)(D:m8)(p:Nat)(lg:List Ef)(E:Nat)(A:z7)(a:Nat)(e:m8)(f:Nat):Rn:=iB (Nat.beq f p) (iB (a09 E A c d b) (iB (a4P a e nx D nx) (.ok (.t lg) []) (.er 661 0)) (.er 662 0)) (.er 663 0)
def S2(a:WK)(h:Hid)(c ks vs:Nat)(P:Program)(F:Nat)(R:z0)(I:kF)(b:List Ef->KS)(q:Nat×Nat×Nat):KS:=fun E A nx D p=>
 G3 a.t (.t [(0,17),(ks,q.2.1),(vs,q.2.2)]) E A fun E A=>L6 a.r1 P R none a.a1 (fun E A nx D p=>xV a.c1 P F R I none E A nx D p fun e E A nx D p=>pM e
  (iB (xU (J0 E A a.i2) (.c c)) (G3 a.t2 (.t [(ks,q.2.1),(vs,q.2.2)]) E A fun E A=>L6 a.r2 P R none a.a2 (fun E A nx D p=>CT a.c2 P F R I h [] E A nx D p b) E A nx D p) (.er 665 0)) (fun _=>.er 666 0) (.er 667 0)) E A nx D p
def KO(f:Nat×Nat×Nat->Rn):ME->List (List Ef)->(List (List Ef)->Rn)->Rn:=@List.rec (Nat×Nat×Nat) (fun _=>List (List Ef)->(List (List Ef)->Rn)->Rn) (fun a k=>k a) (fun q _ b a k=>@Rn.rec (fun _=>Rn) (fun c x=>.er c x) (fun v _=>@BV.rec (fun _=>Rn) (fun _=>.er 668 0) (fun _ _=>.er 668 1) (fun lg=>b (lg::a) k) (.er 668 2) v) (f q))
def nE:List (List Ef)->List Ef:=@List.rec (List Ef) (fun _=>List Ef) [] (fun a _ b=>List.append a b)
def BL:List Ef->Bool:=@List.rec Ef (fun _=>Bool) true (fun e l b=>iB (@List.rec Ef (fun _=>Bool) false (fun c _ a=>iB (Nat.beq c.1 e.1) true a) l) false b)
def NA(k v:Nat):ME->ME:=@List.rec (Nat×Nat×Nat) (fun _=>ME) [(Y8,k,v)] (fun p l a=>iB (Nat.beq p.2.1 k) ((p.1,k,v)::l) (p::a))
def NB(k:Nat):ME->Bool:=@List.rec (Nat×Nat×Nat) (fun _=>Bool) false (fun p _ a=>iB (Nat.beq p.2.1 k) true a)
def uD(l:ME)(k:ME->Rn):Rn:=@List.rec (Nat×Nat×Nat) (fun _=>(ME->Rn)->Rn) (fun k=>k []) (fun p _ d k=>fN p.1 fun a=>fN p.2.1 fun b=>fN p.2.2 fun c=>d fun l=>k ((a,b,c)::l)) l k
def IW:List Ef->ME->Nat->(ME->Nat->Rn)->Rn:=@List.rec Ef (fun _=>ME->Nat->(ME->Nat->Rn)->Rn) (fun L c k=>k L c) (fun e _ a L c k=>uD (NA e.1 e.2 L) fun b=>fN (iB (NB e.1 L) c (Nat.succ c)) fun c'=>a b c' k)
def Qp(f:Nat×Nat×Nat->Rn):ME->(ME->Rn)->Rn:=@List.rec (Nat×Nat×Nat) (fun _=>(ME->Rn)->Rn) (fun k=>k []) (fun q _ a k=>@Rn.rec (fun _=>Rn) (fun c x=>.er c x) (fun v _=>@BV.rec (fun _=>Rn) (fun _=>.er 669 0) (fun _ _=>.er 669 1) (fun lg=>@List.rec Ef (fun _=>Rn) (a fun l=>k (q::l)) (fun e r _=>iB (Nat.beq e.1 q.2.1) (@List.rec Ef (fun _=>Rn) (a k) (fun _ _ _=>.er 669 2) r) (.er 669 3)) lg) (.er 669 4) v) (f q))
def NC:List Ef->Nat->Nat->(Nat->Nat->Rn)->Rn:=@List.rec Ef (fun _=>Nat->Nat->(Nat->Nat->Rn)->Rn) (fun a b k=>k a b) (fun e _ c a b k=>iB (Nat.ble cZ (n8 e.2)) (iB (Nat.beq e.1 1) (fN (Nat.add a (Nat.sub (n8 e.2) cZ)) fun a=>c a b k) (fN (Nat.add b (Nat.sub (n8 e.2) cZ)) fun b=>c a b k))
 (iB (Nat.beq e.1 1) (fN (Nat.add b (Nat.sub cZ (n8 e.2))) fun b=>c a b k) (fN (Nat.add a (Nat.sub cZ (n8 e.2))) fun a=>c a b k)))
def GA(r0 N:Nat):Nat->Bool:=@Nat.rec (fun _=>Bool) false (fun i a=>iB (iB (vV (P3 N i)) (Nat.beq (mR (P3 N i)) r0) false) true a)
def Ys(r0 nx:Nat)(D:m8)(E:Nat)(A:z7):List Nat->Bool:=@List.rec Nat (fun _=>Bool) false (fun t _ a=>iB (@BV.rec (fun _=>Bool) (fun c=>iB (vV c) (Nat.beq (mR c) r0) (iB (sV c) (@HO.rec (fun _=>Bool) (fun s N=>GA r0 (Nat.div N cB) s) (fun _ _ _ _=>false) (fun _ _ _ _=>false) (fun _ _ _ _=>false) false (m6 nx D (pR c))) false)) (fun _ _=>false) (fun _=>false) false (o8 E A t)) true a)
def Qq:Code->Bool:=@Code.rec (fun _=>Bool) false (fun _ _ _=>false) (fun _ _ _ _=>false) (fun _ a b _ _=>@Code.rec (fun _=>Bool) (@Code.rec (fun _=>Bool) false (fun _ _ _=>false) (fun _ _ _ _=>false) (fun _ _ _ _ _=>false) (fun _ _ _=>false) (fun _ _=>false) (fun _ _ _ _ _ _=>false) (fun _=>true) (fun _ _=>false) (fun _=>false) (fun _=>false) false (fun _=>false) b) (fun _ _ _=>false) (fun _ _ _ _=>false) (fun _ _ _ _ _=>false) (fun _ _ _=>false) (fun _ _=>false) (fun _ _ _ _ _ _=>false) (fun _=>false) (fun _ _=>false) (fun _=>false) (fun _=>false) false (fun _=>false) a) (fun _ _ _=>false) (fun _ _=>false) (fun _ _ _ _ _ _=>false) (fun _=>false) (fun _ _=>false) (fun _=>false) (fun _=>false) false (fun _=>false)
def a1n(e:Nat)(v:BV)(f:WK)(P:Program)(F:Nat)(R:z0)(I:kF)(g:KC)(E:Nat)(A:z7)(nx:Nat)(D:m8)(p:Nat)(d:List (List Ef)):Rn:=
 @BV.rec (fun _=>Rn) (fun a0=>iB (Nat.beq (Nat.mod a0 128) 32) (NC (nE d) 0 0 fun a b=>iB (Nat.ble (Nat.add (Nat.add a b) (iB (Nat.ble cZ (n8 a0)) (Nat.sub (n8 a0) cZ) (Nat.sub cZ (n8 a0)))) 4611686018427387904)
  (G3 e (.c (N8 4 (Nat.sub (Nat.add (n8 a0) a) b))) E A fun E A=>pZ f P F R I g E A nx D p) (.er 677 0)) (.er 678 0)) (fun _ _=>.er 679 0) (fun _=>.er 679 1) (.er 679 2) v
def Qr(r s a:Nat)(b:WK)(P:Program)(F:Nat)(R:z0)(I:kF)(i:KC)(j:List Nat)(k:Nat)(n:z7)(E:Nat)(A:z7)(nx:Nat)(D:m8)(p c d ks vs clk:Nat)(l:ME):Rn:=
 Er s
  (iB (Nat.ble (Nat.succ a) nx) (iB (Nat.beq a (pR c)) (.er 672 0) (iB (Nat.beq a d) (.er 673 0) (@HO.rec (fun _=>Rn) (fun _ _=>.er 674 0) (fun e f o clk0=>iB (iB (nW e f o) (Ys a nx D k n (SZ r 0)) false) (aK nx D a .z fun t=>aK nx t d .z fun D2=>
   KO (fun q=>S2 b ⟨0,p,a,e,f,none⟩ c ks vs P F R I (bY j E A nx D2 p) q E A nx D2 p) l [] fun g=>iB (BL (nE g)) (IW (nE g) o clk0 fun u h=>aK nx D a (.m e f u h) fun D3=>pZ b P F R I i E A nx D3 p) (.er 675 0)) (.er 676 0))
   (fun _ _ _ _=>.er 674 1) (fun _ _ _ _=>.er 674 2) (.er 674 3) (m6 nx D a)))) (.er 671 0))
  (aK nx D d .z fun D2=>Qp (fun q=>S2 b ⟨1,p,d,ks,vs,none⟩ c ks vs P F R I (bY j E A nx D2 p) q E A nx D2 p) l fun v=>aK nx D d (.m ks vs v clk) fun D3=>pZ b P F R I i E A nx D3 p)
  (iB (iB (Qq b.c1) (iB (O0 a (lK b.a1.toList)) true (O0 a (lK b.a2.toList))) true) (.er 684 0) (aK nx D d .z fun D2=>KO (fun q=>S2 b ⟨2,p,d,ks,vs,some a⟩ c ks vs P F R I (bY j E A nx D2 p) q E A nx D2 p) l [] (a1n a (o8 k n a) b P F R I i E A nx D p)))
  (.er 680 0)
def BM(e k m:Nat)(a:Code)(f:WK)(P:Program)(F:Nat)(R:z0)(I:kF)(E:Nat)(A:z7)(nx:Nat)(D:m8)(p:Nat)(n:KC):Rn:=
 @BV.rec (fun _=>Rn) (fun c=>iB (sV c) (iB (Nat.beq (pO c) 0) (@HO.rec (fun _=>Rn) (fun _ _=>.er 543 2) (fun _ _ _ _=>.er 544 2) (fun _ _ _ _=>.er 545 2) (fun g b seen d=>@HO.rec (fun _=>Rn) (fun _ _=>.er 546 2) (fun ks vs l clk=>iB (Nat.beq clk b) (iB (Nat.beq clk d) (iB (@List.rec Nat (fun _=>Bool) true (fun _ _ _=>false) seen) (iB (Nat.beq g (pR c)) (.er 594 2)
  (Sj E A (vM (Gt a) E A (SZ e 0)) (Nat.mod E 4294967291) [] fun h j=>iB (xU (J0 h j f.i) (.c c)) (aK nx D (pR c) .z fun o=>Qr e k m f P F R I n (vM (Gt a) E A (SZ e 0)) E A h j nx o p c g ks vs clk l) (.er 596 2)))
  (.er 593 2)) (.er 547 2)) (.er 548 2)) (fun _ _ _ _=>.er 549 2) (fun _ _ _ _=>.er 550 2) (.er 551 2) (m6 nx D g)) (.er 552 2) (m6 nx D (pR c))) (.er 553 2)) (.er 554 2)) (fun _ _=>.er 555 2) (fun _=>.er 556 2) (.er 557 2) (J0 E A f.i)
end
end Go.Abs
end
section
namespace Go.Abs
def sJ:Op->Bool
 |.lookup _ _ _ _=>true
 |_=>false
def UC(d:Tmp):Operand->Bool
 |.tmp t=> !Nat.beq t d
 |_=>true
structure ND where
 c:Nat
 t:TypeId
 m:Tmp
 x:Operand
 v:Operand
 d1:Tmp
 d2:Tmp
def IX(ops:Array Oper):Option ND:=match ops.toList.drop (ops.size- 3)with
 |[c,d,e]=>(match c.op,c.dst,c.guard,d.op,d.dst,d.guard with
  |.mapEntry t (.tmp m) x,some a,none,.extract (.tmp y1) i,some b,none=>(match e.op,e.dst,e.guard with
   |.entryStore _ (.tmp f) (.tmp g) v,none,none=>if Nat.beq i 1 && Nat.beq y1 a && Nat.beq g b && Nat.beq f m && !Nat.beq a b && !Nat.beq m a && !Nat.beq m b && UC a v && UC b v then some ⟨ops.size- 3,t,m,x,v,a,b⟩else none
   |_,_,_=>none)
  |_,_,_,_,_,_=>none)
 |_=>none
noncomputable section
def KP:ME->Bool:=@List.rec (Nat×Nat×Nat) (fun _=>Bool) true (fun p _ a=>iB (Nat.beq p.1 Y8) a false)
def Yt(P:Program)(t:TypeId)(m x v:BV)(D:Hp):l6:=qQ P t m x D fun r key ks vs L clk=>nB (Nat.ble clk 1048576) 700 (nB (Nat.ble (B8 L) 1048576) 701 (nB (KP L) 702 (nB (NB key L) 703 (nB (Nat.beq (Hs v) (Nat.succ vs)) 704
 (vR v fun _ n=>.ok (.c 1) [] [(r,.m ks vs (NA key n L) clk)] [r])))))
def gA(r:Nat):List Oper->Ex->Bool:=@List.rec Oper (fun _=>Ex->Bool) (fun _=>true) (fun o _ a b=>@List.rec (List Nat×List Nat) (fun _=>Bool) false (fun p rest _=>iB (O0 r p.2) false (iB (O0 r p.1) (iB (sJ o.op) (a rest) false) (a rest))) b)
def Su(ops:Array Oper)(a:List Oper)(i:ND)(k:KS)(E:Nat)(A:z7)(nx:Nat)(D:m8)(p:Nat)(d:Ex)(b:l6):Rn:=
 @l6.rec (fun _=>Rn) (fun c x=>.er c x) (fun _ _ set _=>@List.rec (Nat×HO) (fun _=>Rn) (.er 690 0) (fun q _ _=>iB (gA q.1 a (pW d)) (iB (eM (pW (([q.1],[q.1])::([],[])::([q.1],[])::d)) (Y0 ops))
  (@HO.rec (fun _=>Rn) (fun _ _=>.er 691 0) (fun ks vs l clk=>iB (Nat.ble (Nat.succ q.1) nx) (uD l fun l=>aK nx D q.1 (.m ks vs l clk) fun D2=>G3 i.d1 .u E A fun E A=>G3 i.d2 .u E A fun E A=>k E A nx D2 p) (.er 691 1)) (fun _ _ _ _=>.er 691 2) (fun _ _ _ _=>.er 691 3) (.er 691 4) q.2) (.er 692 0)) (.er 692 1)) set) b
def GB(ops:Array Oper)(a:List Oper)(i:ND)(P:Program)(k:KS):KT:=fun E A nx D p b=>Su ops a i k E A nx D p b (Yt P i.t (J0 E A (.tmp i.m)) (J0 E A i.x) (J0 E A i.v) (m6 nx D))
def b1s(ops:Array Oper)(a:Bool):pX:=fun P F R I Y E A nx D p k=>@Option.rec ND (fun _=>Rn) (JJ ops a P F R I Y E A nx D p k)
 (fun i=>iB a (dP (ops.toList.take i.c) P R ops (GB ops (ops.toList.take i.c) i P (k .normal)) E A nx D p []) (.er 693 0)) (IX ops)
def lkW(b:Nat):List (Nat×Nat×Nat)->Option (Nat×Nat):=@List.rec (Nat×Nat×Nat) (fun _=>Option (Nat×Nat)) none (fun p _ a=>@Bool.rec (fun _=>Option (Nat×Nat)) a (some p.2) (Nat.beq p.1 b))
def vOf(E:Nat)(A:z7)(v:Nat):Nat:=iB (Nat.ble 2000000 v) (@BV.rec (fun _=>Nat) (fun c=>mR c) (fun _ _=>0) (fun _=>0) 0 (o8 E A (Nat.sub v 2000000))) v
def HJ(r:Nat)(T:List (Nat×Nat×Nat)):Code->pX:=@Code.rec (fun _=>pX)
 (fun _ _ _ _ _ E A nx D p k=>k .normal E A nx D p)
 (fun _ ops m=>b1s ops m)
 (fun _ _ d o P F R I Y E A nx D p k=>d P F R I Y E A nx D p fun e f h c D' j=>pM e (o P F R I Y f h c D' j k) (fun i=>k (.exit i) f h c D' j) (k .ret f h c D' j))
 (fun g _ _ d o P F R I Y E A nx D p k=>@BV.rec (fun _=>Rn) (fun n=>iB (Nat.beq n 17) (d P F R I Y E A nx D p k) (iB (Nat.beq n 9) (o P F R I Y E A nx D p k) (.er 513 0))) (fun _ _=>.er 514 0) (fun _=>.er 515 0) (.er 516 0) (J0 E A g))
 (fun id _ d P F R I Y E A nx D p k=>d P F R I Y E A nx D p fun e f h c D' j=>pM e (k .normal f h c D' j) (fun i=>iB (Nat.beq i id) (k .normal f h c D' j) (k (.exit i) f h c D' j)) (k .ret f h c D' j))
 (fun l d P F R I Y E A nx D p k=>@Option.rec WK (fun _=>Rn) (fL (d P F R I Y) k F E A nx D p) (fun q=>@Option.rec (Nat×Nat) (fun _=>Rn) (fL (d P F R I Y) k F E A nx D p) (fun s=>fN (vOf E A s.2) fun v=>BM r s.1 (iB (Nat.beq s.1 0) v s.2) l q P F R I E A nx D p k) (lkW q.b T)) (lJ l))
 (fun g ps a b _ _=>xV (.rangeFunc g ps a b))
 (fun i _ _ _ _ _ E A nx D p k=>k (.exit i) E A nx D p)
 (fun _ d=>d)
 (fun _ _ _ _ _ _ E A nx D p k=>k .normal E A nx D p)
 (fun _ _ _ _ _ _ _ _ _ _ _ _=>.er 522 0)
 (fun _ _ _ _ _ E A nx D p k=>k .ret E A nx D p)
 (fun _ _ _ _ _ _ _ _ _ _ _ _=>.er 523 0)
def Yu(g:Nat)(T:List (Nat×Nat×Nat))(F:Nat)(P:Program)(R:z0):z0:=fun f args a=>iB (Lz P f) (iB (Nat.ble (B8 a) 1000000) (kN args 0 (xW args) [] fun E A=>news a 0 .e fun m D=>HJ g T (lE P f) P F R (Td F P R) none E A m D 0 fun e c d b D' _=>
 pM e (AZ P f m a c d (m6 b D')) (fun _=>.er 535 f) (AZ P f m a c d (m6 b D'))) (.er 536 f)) (.er 537 f)
abbrev WT:=List (Nat×Nat×List (Nat×Nat×Nat))
def Sv(T:WT)(S:List (Nat×Nat×Nat))(b F:Nat)(P:Program)(R:z0):z0:=fun f args a=>@List.rec (Nat×Nat×List (Nat×Nat×Nat)) (fun _=>Rn) (XT S b F P R f args a) (fun p _ c=>iB (Nat.beq f p.1) (Yu p.2.1 p.2.2 F P R f args a) c) T
def Yv(T:WT)(S:List (Nat×Nat×Nat))(a F:Nat)(P:Program):Nat->z0:=@Nat.rec (fun _=>z0) (fun f _ _=>.er 534 f) (fun _ b=>Sv T S a F P b)
end
end Go.Abs
end
section
namespace Go.Abs
section
variable {P:Program} {R:z0} {z:BV} {lo:List HO} {n:Nat} {g:List a7} {Fu:Nat} {I:kF}
theorem Yw{r:l6}{k:Nat->Nat->Rn}(h:efR r k=.ok z lo):∃a b new set rd,r=.ok (.a a b) new set rd/\k a b=.ok z lo:=by
 cases r with
 |er c x=>cases h
 |ok v new set rd=>
  cases v with
  |a a b=>
   have h:fN a (fun a=>fN b fun b=>k a b)=.ok z lo:=h
   rw[B6,B6]at h;exact⟨a,b,new,set,rd,rfl,h⟩
  |c _=>cases h
  |t _=>cases h
  |u=>cases h
theorem a1o{h:Hid}{t:TypeId}{m x v:BV}{a b:Nat}{new:List HO}{set:List (Nat×HO)}{rd:List Nat}(hh:Yq P h t m x v=.ok (.a a b) new set rd):∃c d e,m=.c c/\vV c=true/\mR c=h.r0/\h.ks+1=eK P t/\Hs x=eK P t/\h.vs+1=uJ P t/\Hs v=h.vs+1/\((x=.c a/\d=1/\3<=a)\/x=.a d a)/\lV d a=true/\((v=.c b/\e=1/\3<=b)\/v=.a e b)/\fJ (OF h.vs) b=true:=by
 obtain⟨c,rfl,hh⟩:=x8 hh;obtain⟨f,hh⟩:=a8 hh;obtain⟨i,hh⟩:=a8 hh;obtain⟨j,hh⟩:=a8 hh;obtain⟨k,hh⟩:=a8 hh;obtain⟨l,hh⟩:=a8 hh;obtain⟨o,hh⟩:=a8 hh;obtain⟨d,key,p,hh⟩:=dV hh;obtain⟨q,hh⟩:=a8 hh;obtain⟨e,n,r,hh⟩:=dV hh;obtain⟨s,hh⟩:=a8 hh;cases hh;exact⟨c,d,e,rfl,f,ab i,ab j,ab k,ab l,ab o,p,q,r,s⟩
theorem a1p{h:Hid}{t:TypeId}{m x:BV}{a b:Nat}{new:List HO}{set:List (Nat×HO)}{rd:List Nat}(hh:Yr P h t m x=.ok (.a a b) new set rd):∃c d,m=.c c/\vV c=true/\mR c=h.r0/\h.ks+1=eK P t/\Hs x=eK P t/\h.vs+1=uJ P t/\((x=.c a/\d=1/\3<=a)\/x=.a d a)/\lV d a=true/\b=0:=by
 obtain⟨c,rfl,hh⟩:=x8 hh;obtain⟨e,hh⟩:=a8 hh;obtain⟨f,hh⟩:=a8 hh;obtain⟨i,hh⟩:=a8 hh;obtain⟨j,hh⟩:=a8 hh;obtain⟨k,hh⟩:=a8 hh;obtain⟨d,key,l,hh⟩:=dV hh;obtain⟨o,hh⟩:=a8 hh;cases hh;exact⟨c,d,rfl,e,ab f,ab i,ab j,ab k,l,o,rfl⟩
def pH(F:Nat->Prop)(a:Nat):Nat->Prop:=fun b=>F b\/b=a
structure TI(X:Ctx)(B:Option Nat)(F:Nat->Prop)(b0 n:Nat)(g:List a7)(K0:b8)(w0:World)(E:Nat)(A:z7)(nx:Nat)(D:m8)(p:Nat)(a:Act)(w:World):Prop where
 ex:∃st F1 K H,B4 n g E A nx D p st/\(∀b,pH F b0 b->F1 b)/\St (X.O4 st.gh st.o7) B F1 n K H st.s6.T st.s6.m a w/\K0.le K/\(∀r,st.nx<=r->H r=none)/\Fix (pH F b0) K0 K
 kept:Kept F w0 w
theorem TI.thn{X:Ctx}{B:Option Nat}{F h:Nat->Prop}{e:Nat}{K0 K:b8}{w0 w w':World}{i:Nat}{j:z7}{c:Nat}{D':m8}{k:Nat}{a:j7}{l:Act}(m:∀b,pH F e b->h b)(o:K0.le K)(d:Fix (pH F e) K0 K)(p:Kept F w0 w)(q:B4 n g i j c D' k a)(r:gD X B (pH F e) h n K w a l w'):TI X B F e n g K0 w0 i j c D' k l w':=by
 obtain⟨⟨s,K2,t,u,g2,v,x,y⟩,A⟩:=r;exact⟨⟨a,s,K2,t,q,fun b f=>u b (m b f),g2,o.trans v,x,d.trans y⟩,p.trans (A.less fun b f=>.inl f)⟩
structure TOk(P:Program)(h:Hid)(b0:Nat)(J:List Ef->Array MapEntry->Nat->Prop):Prop where
 N9:h.kd=0->∀ (lg:List Ef) (es:Array MapEntry) (clk key m:Nat) (w:World) (H:Nat->Option Hd) (t kt vt:TypeId) (iv yv:Value),J lg es clk->w.heap[b0]? =some (.map es clk)->P.underlying t=some (.map kt vt)->HA P kt h.ks->y9 H h.ks key iv->gL h.ks key->y9 H h.vs m yv->fJ (OF h.vs) m=true->
  ∃Kz wZ,(Instr.mapUpdate t (.map (some b0)) iv yv).run P w=.ok () (w.putObj b0 (.map Kz wZ))/\J ((key,m)::lg) Kz wZ
 del:h.kd=1->∀ (lg:List Ef) (es:Array MapEntry) (clk key:Nat) (w:World) (H:Nat->Option Hd) (t u ty kt vt:TypeId) (iv:Value),J lg es clk->w.heap[b0]? =some (.map es clk)->P.underlying t=some (.map kt vt)->HA P kt h.ks->y9 H h.ks key iv->gL h.ks key->
  ∃Kz wZ,(Builtin.delete_ #[t,u] ty #[.map (some b0),iv]).run P w=.ok (.tuple #[]) (w.putObj b0 (.map Kz wZ))/\J ((key,0)::lg) Kz wZ
theorem KQ{ops:Array Oper}{t:TypeId}{m x v:Operand}(h:jX ops=.N9 t m x v):∃o,ops.toList.getLast?=some o/\o.dst=none/\o.guard=none/\o.op=.mapUpdate t m x v:=by
 unfold jX at h;split at h
 .rename_i o a;refine⟨o,a,?_⟩;split at h
  .rename_i b c d;cases h;exact⟨b,c,d⟩
  .split at h<;>cases h
  .cases h
 .cases h
theorem KR{ops:Array Oper}{t u:TypeId}{m x:Operand}(h:jX ops=.del t u m x):∃o c,ops.toList.getLast?=some o/\o.dst=none/\o.guard=none/\o.op=.call c/\c.callee=.builtin .delete/\c.args.toList=[m,x]/\c.argTypes.toList=[t,u]:=by
 unfold jX at h;split at h
 .rename_i o a;split at h
  .cases h
  .rename_i c b d e;split at h
   .rename_i f i j;cases h;exact⟨o,c,a,b,d,e,f,i,j⟩
   .cases h
  .cases h
 .cases h
end
end Go.Abs
end
section
namespace Go.Abs
section
variable {P:Program} {R:z0} {z:BV} {lo:List HO} {n:Nat} {g:List a7} {Fu:Nat} {I:kF} {X:Ctx} {B:Option Nat} {ro:Option Nat} {F:Nat->Prop} {b0:Nat} {K0:b8} {H0:Nat->Option Hd} {w0:World} {h:Hid} {J:List Ef->Array MapEntry->Nat->Prop}
structure TB(X:Ctx)(F:Nat->Prop)(b0:Nat)(g:List a7)(K0:b8)(H0:Nat->Option Hd)(w0:World)(h:Hid):Prop where
 ok:X.Ok
 x:X.O4 g (gQ h.p) F K0 H0 w0
 a2U:∀F K H p w,X F K H g p w->aY H0 H
 hd:∃Dx,H0 h.r0=some Dx/\Dx.base=some b0
 nF:¬F b0
 cells:K0.cells b0=none
 inv:K0.inv b0=none
theorem TI.Yp(d:TB X F b0 g K0 H0 w0 h){E:Nat}{A:z7}{nx:Nat}{D:m8}{p:Nat}{a:Act}{w:World}(u:TI X B F b0 n g K0 w0 E A nx D p a w)(v:p=h.p){es k:Array MapEntry}{clk f:Nat}(hh:w.heap[b0]? =some (.map es clk)):TI X B F b0 n g K0 w0 E A nx D p a (w.putObj b0 (.map k f)):=by
 obtain⟨⟨e,q,K,H,j,l,i,r,m,c⟩,s⟩:=u;have y:aY H0 H:=d.a2U q K H e.o7 w (by have:=i.x;rw[j.gh]at this;exact this)
 have t:=c b0 (.inr rfl);refine⟨⟨e,q,K,H,j,l,?_,r,m,c⟩,s.trans (BK hh d.nF)⟩;have o:(X.O4 e.gh e.o7) F K0 H0 w0:=by rw[j.gh,j.o7,v];exact d.x
 exact St.Yp (d.ok.grow e.gh e.o7) o i (l b0 (.inr rfl)) d.nF (by rw[t.1];exact d.cells) (by rw[t.2];exact d.inv) hh rfl (fun b C=>l b (.inl C)) r y s
theorem TI.Yx(f:TB X F b0 g K0 H0 w0 h){E:Nat}{A:z7}{nx:Nat}{D:m8}{p:Nat}{a:Act}{w:World}(r:TI X B F b0 n g K0 w0 E A nx D p a w){m:Operand}{c:Nat}(s:J0 E A m=.c c)(i:vV c=true)(t:mR c=h.r0):a.eval m=.map (some b0):=by
 obtain⟨⟨u,v,K,H,j,M,d,N,y,k⟩,O⟩:=r;have C:aY H0 H:=f.a2U v K H u.o7 w (by have:=d.x;rw[j.gh]at this;exact this)
 obtain⟨G,L,g2⟩:=f.hd;have e:=j.st.1 d;have l:=T7 e.tmp m;rw[s]at l;obtain⟨hd,b,o,q,q3,_⟩:=(l.cell (by rw[kP]at i;omega)).isMap i
 rw[t,C _ _ L]at o;cases o;rw[g2]at q;cases q;exact q3
theorem TI.op(i:TB X F b0 g K0 H0 w0 h){E:Nat}{A:z7}{nx:Nat}{D:m8}{p:Nat}{a:Act}{w:World}(d:TI X B F b0 n g K0 w0 E A nx D p a w)(x:Operand):∃K H,u6 K H (J0 E A x) (a.eval x):=by
 obtain⟨⟨j,k,K,H,e,l,b,m,f,c⟩,o⟩:=d;exact⟨K,H,T7 (e.st.1 b).tmp x⟩
theorem TI.size{E:Nat}{A:z7}{nx:Nat}{D:m8}{p:Nat}{a:Act}{w:World}(d:TI X B F b0 n g K0 w0 E A nx D p a w):n<=a.tmps.size:=by
 obtain⟨⟨f,i,K,H,j,k,b,l,e,c⟩,m⟩:=d;exact b.size
theorem a1q(L:TB X F b0 g K0 H0 w0 h)(hT:TOk P h b0 J)(M:h.kd=0){all:Array Oper}{Q:Exit->Act->World->Prop}{o:Oper}{t:TypeId}{m x v:Operand}(hd:o.dst=none)(hg:o.guard=none)(ho:o.op=.mapUpdate t m x v){E:Nat}{A:z7}{nx:Nat}{D:m8}{p:Nat}{a:Act}{w:World}(G:TI X B F b0 n g K0 w0 E A nx D p a w)
  {es:Array MapEntry}{clk:Nat}{lg:List Ef}(hh:w.heap[b0]? =some (.map es clk))(hJ:J lg es clk){k:Nat->Nat->Rn}(r:iB (Nat.beq p h.p) (efR (Yq P h t (J0 E A m) (J0 E A x) (J0 E A v)) k) (.er 681 0)=.ok z lo)
  (hQ:∀key d w' i b,k key d=.ok z lo->TI X B F b0 n g K0 w0 E A nx D p a w'->w'.heap[b0]? =some (.map i b)->J ((key,d)::lg) i b->Q .normal a w'):wpListIn (Wd ro) 0 P all Q [o] a w:=by
 rw[a9]at r;split at r
 rotate_left
 .cases r
 rename_i N;have N:=ab N;obtain⟨key,d,new,set,rd,hu,r⟩:=Yw r;obtain⟨c,sk,sv,e1,e2,e3,O,e5,e6,e7,e8,e9,S,T⟩:=a1o hu;have U:=G.Yx L e1 e2 e3;obtain⟨kt,vt,inf,zz,g1,g2,g3,g4,g5⟩:=DH O e6;obtain⟨K1,H1,V⟩:=G.op L x;obtain⟨p1,p2⟩:=wK V e8 (e5.trans O.symm);have p3:gL h.ks key:=fun j hj=>mL e9 j (by rw[p2];exact hj)
 obtain⟨st,F1,K,H,he,hF,Y,hK,G2,Q7⟩:=G.ex;have l:=he.st.1 Y;have s:=T7 l.tmp x;have u:=T7 l.tmp v;obtain⟨Z,_⟩:=wK s e8 (e5.trans O.symm);obtain⟨y1,_⟩:=wK u S e7;obtain⟨i,b,y,hJ'⟩:=hT.N9 M lg es clk key d w H t kt vt (a.eval x) (a.eval v) hJ hh g1 g2 Z p3 y1 T;simp only[wpListIn];have hw:Region.wanted o (yielded all a.tmps)=true:=by unfold Region.wanted;rw[hg]
 rw[hw,aj rfl];refine⟨fun f _=>bU ro f,?_⟩
 rw[gu _ _ _ (fun c e=>by rw[ho]at e;cases e)]
 have q:(execOp a.eval o).run P w=.ok .skip (w.putObj b0 (.map i b)):=by
  simp only[execOp,ho,U];exact jI y
 rw[q];simp only[Oper.uponIn];have C:a.put o.dst undef=a:=by rw[hd];rfl
 rw[C];exact hQ key d _ i b r (G.Yp L N hh) (by rw[I0 hh,aj rfl]) hJ'
theorem a1r(v:TB X F b0 g K0 H0 w0 h)(O:TOk P h b0 J)(y:h.kd=1){all:Array Oper}{Q:Exit->Act->World->Prop}{o:Oper}{l:Call}{t u:TypeId}{m x:Operand}(hd:o.dst=none)(S:o.guard=none)(M:o.op=.call l)(T:l.callee=.builtin .delete)(U:l.args.toList=[m,x])(V:l.argTypes.toList=[t,u]){E:Nat}{A:z7}{nx:Nat}{D:m8}{p:Nat}{a:Act}{w:World}(C:TI X B F b0 n g K0 w0 E A nx D p a w)
  {es:Array MapEntry}{clk:Nat}{lg:List Ef}(hh:w.heap[b0]? =some (.map es clk))(Y:J lg es clk){k:Nat->Nat->Rn}(q:iB (Nat.beq p h.p) (efR (Yr P h t (J0 E A m) (J0 E A x)) k) (.er 681 1)=.ok z lo)
  (Z:∀key w' d b,k key 0=.ok z lo->TI X B F b0 n g K0 w0 E A nx D p a w'->w'.heap[b0]? =some (.map d b)->J ((key,0)::lg) d b->Q .normal a w'):wpListIn (Wd ro) 0 P all Q [o] a w:=by
 rw[a9]at q;split at q
 rotate_left
 .cases q
 rename_i G;have G:=ab G;obtain⟨key,val,new,set,rd,hu,q⟩:=Yw q;obtain⟨c,sk,e1,e2,e3,N,e5,e6,e8,e9,rfl⟩:=a1p hu;have H:=C.Yx v e1 e2 e3;obtain⟨kt,vt,inf,zz,g1,g2,g3,g4,g5⟩:=DH N e6;obtain⟨K1,H1,K⟩:=C.op v x;obtain⟨p1,p2⟩:=wK K e8 (e5.trans N.symm);have p3:gL h.ks key:=fun j hj=>mL e9 j (by rw[p2];exact hj)
 obtain⟨d,b,r,L⟩:=O.del y lg es clk key w H1 t u o.type kt vt (a.eval x) Y hh g1 g2 p1 p3;simp only[wpListIn];have hw:Region.wanted o (yielded all a.tmps)=true:=by unfold Region.wanted;rw[S]
 rw[hw,aj rfl];refine⟨fun f _=>bU ro f,?_⟩
 rw[gu _ _ _ (fun c e=>by rw[M]at e;cases e)]
 have ea:l.args.map a.eval= #[a.eval m,a.eval x]:=by apply db.1;simp[U]
 have et:l.argTypes= #[t,u]:=by apply db.1;simp[V]
 have i:(execOp a.eval o).run P w=.ok (.value (.tuple #[])) (w.putObj b0 (.map d b)):=by
  rw[D8 o M T,ea,et];simp only[builtin,H];exact c8 r
 rw[i];simp only[Oper.uponIn];have s:a.put o.dst (.tuple #[])=a:=by rw[hd];rfl
 rw[s];exact Z key _ d b q (C.Yp v G hh) (by rw[I0 hh,aj rfl]) L
end
end Go.Abs
end
section
namespace Go.Abs
section
variable {P:Program} {R:z0} {z:BV} {lo:List HO} {n:Nat} {g:List a7} {Fu:Nat} {I:kF} {X:Ctx} {B:Option Nat} {ro:Option Nat} {F:Nat->Prop} {b0:Nat} {K0:b8} {H0:Nat->Option Hd} {w0:World} {h:Hid} {J:List Ef->Array MapEntry->Nat->Prop}
theorem TI.fY{b:Nat->Prop}{K:b8}{w w':World}{a:j7}{c:Act}{o:Obj}(d:gD X B (pH F b0) b n K w a c w')(hh:w.heap[b0]? =some o):w'.heap[b0]? =some o:=by
 rw[d.kept.block b0 (.inr rfl)];exact hh
theorem NF(m4:P.follows .mixedOrders=true)(L:F7 P R)(M:TB X F b0 g K0 H0 w0 h){id:Nat}{ops:Array Oper}{b:Bool}(r:Code.j5 (.region id ops b)=true)(s:o9 n (.region id ops b)=true){lg:List Ef}{E:Nat}{A:z7}{nx:Nat}{D:m8}{p:Nat}{k:List Ef->KS}{a:Act}{w:World}{Q:Exit->Act->World->Prop}
  (N:Qo ops b P Fu R I h lg E A nx D p k=.ok z lo)(O:TI X B F b0 n g K0 w0 E A nx D p a w){o:Obj}(hh:w.heap[b0]? =some o)
  (S:∀j l c D' m q w',k lg j l c D' m=.ok z lo->TI X B F b0 n g K0 w0 j l c D' m q w'->w'.heap[b0]? =some o->Q .normal q w'):(Code.region id ops b).wpIn (Wd ro) 0 P Q a w:=by
 obtain⟨⟨Z,F1,K,H,T,C,t,U,u,f⟩,d⟩:=O;refine Ix (Fu:=Fu) (I:=I) (yl:=none) (Y:=none) (hh:=none) (F0:=pH F b0) M.ok m4 L trivial trivial id ops b r s N T C (fun _ e=>by cases e) t u (fun j l c D' m V q w' v x G=>?_)
 rcases O9 v with⟨_,y⟩|⟨i,e,_⟩|⟨e,_⟩
 .exact S j l c D' m q w' y (TI.thn C U f d x G) (TI.fY G hh)
 .cases e
 .cases e
theorem CU(m4:P.follows .mixedOrders=true)(hR:F7 P R)(tb:TB X F b0 g K0 H0 w0 h)(hT:TOk P h b0 J)(hA:h.tA=none):∀ (c:Code),Code.j5 c=true->o9 n c=true->∀ (lg:List Ef) (E:Nat) (A:z7) (nx:Nat) (D:m8) (p:Nat) (k:List Ef->KS) (a:Act) (w:World) (es:Array MapEntry) (clk:Nat) (Q:Exit->Act->World->Prop),
  CT c P Fu R I h lg E A nx D p k=.ok z lo->TI X B F b0 n g K0 w0 E A nx D p a w->w.heap[b0]? =some (.map es clk)->J lg es clk->
  (∀Z O S i D' T U w' r d,k Z O S i D' T=.ok z lo->TI X B F b0 n g K0 w0 O S i D' T U w'->w'.heap[b0]? =some (.map r d)->J Z r d->Q .normal U w')->c.wpIn (Wd ro) 0 P Q a w:=by
 intro c
 induction c with
 |skip=>
  intro _ _ lg E A nx D p k a w es clk Q b M hh V Y;exact qv (Y lg E A nx D p a w es clk b M hh V)
 |region id ops l=>
  intro j f lg E A nx D p k a w es clk Q b M hh V Y;have b: @Option.rec Tmp (fun _=>Rn) (@LK.rec (fun _=>Rn) (Qo ops l P Fu R I h lg E A nx D p k)
   (fun t m x v=>iB (Nat.beq h.kd 0) (Gy ops l P R (fun E A nx D p=>iB (Nat.beq p h.p) (efR (Yq P h t (J0 E A m) (J0 E A x) (J0 E A v)) fun key n=>k ((key,n)::lg) E A nx D p) (.er 681 0)) E A nx D p) (.er 682 0))
   (fun t _ m x=>iB (Nat.beq h.kd 1) (Gy ops l P R (fun E A nx D p=>iB (Nat.beq p h.p) (efR (Yr P h t (J0 E A m) (J0 E A x)) fun key n=>k ((key,n)::lg) E A nx D p) (.er 681 1)) E A nx D p) (.er 682 1)) (jX ops)) _ h.tA=.ok z lo:=b
  rw[hA]at b;have Us:l=true->R3 ops=true:=fun e=>by have:=j;simp[Code.j5,e]at this;exact this.1
  cases hl:jX ops with
  |plain=>
   rw[hl]at b;exact NF m4 hR tb j f b M hh (fun O S i D' T U w' C ti' hh'=>Y lg O S i D' T U w' es clk C ti' hh' V)
  |N9 t m x v=>
   rw[hl]at b;have b:iB (Nat.beq h.kd 0) (Gy ops l P R (fun E A nx D p=>iB (Nat.beq p h.p) (efR (Yq P h t (J0 E A m) (J0 E A x) (J0 E A v)) fun key n=>k ((key,n)::lg) E A nx D p) (.er 681 0)) E A nx D p) (.er 682 0)=.ok z lo:=b
   rw[a9]at b;split at b
   rotate_left
   .cases b
   rename_i G;have G:=ab G;obtain⟨o,ho1,ho2,ho3,ho4⟩:=KQ hl;obtain⟨⟨st,F1,K,H,he,hF,qC,hK,G2,N⟩,L⟩:=M;refine Gz (F0:=pH F b0) m4 tb.ok hR ho1 Us f b he hF qC G2 (fun O S i D' T xK U w' C Vf ht=>?_)
   exact a1q tb hT G ho2 ho3 ho4 (TI.thn hF hK N L Vf ht) (TI.fY ht hh) V C (fun key val w2 r d jS ti2 Yy Lg=>Y _ O S i D' T U w2 r d jS ti2 Yy Lg)
  |del t u m x=>
   rw[hl]at b;have b:iB (Nat.beq h.kd 1) (Gy ops l P R (fun E A nx D p=>iB (Nat.beq p h.p) (efR (Yr P h t (J0 E A m) (J0 E A x)) fun key n=>k ((key,n)::lg) E A nx D p) (.er 681 1)) E A nx D p) (.er 682 1)=.ok z lo:=b
   rw[a9]at b;split at b
   rotate_left
   .cases b
   rename_i G;have G:=ab G;obtain⟨o,cl,ho1,ho2,ho3,ho4,ho5,ho6,ho7⟩:=KR hl;obtain⟨⟨st,F1,K,H,he,hF,qC,hK,G2,N⟩,L⟩:=M;refine Gz (F0:=pH F b0) m4 tb.ok hR ho1 Us f b he hF qC G2 (fun O S i D' T xK U w' C Vf ht=>?_)
   exact a1r tb hT G ho2 ho3 ho4 ho5 ho6 ho7 (TI.thn hF hK N L Vf ht) (TI.fY ht hh) V C (fun key w2 r d jS ti2 Yy Lg=>Y _ O S i D' T U w2 r d jS ti2 Yy Lg)
 |seq x y Bx By=>
  intro j f lg E A nx D p k a w es clk Q b M hh V Y;simp only[Code.j5,ah]at j;simp only[o9,ah]at f;refine jo (Bx j.1 f.1 lg E A nx D p _ a w es clk _ b M hh V ?_);intro Z O S i D' T U w' r d C ti' hh' hJ';exact By j.2 f.2 Z O S i D' T k U w' r d Q C ti' hh' hJ' Y
 |cond c x y Bx By=>
  intro j f lg E A nx D p k a w es clk Q b M hh V Y;simp only[Code.j5,ah]at j;simp only[o9,ah]at f;obtain⟨K1,H1,hc⟩:=M.op tb c;have b: @BV.rec (fun _=>Rn) (fun q=>iB (Nat.beq q 17) (CT x P Fu R I h lg E A nx D p k) (iB (Nat.beq q 9) (CT y P Fu R I h lg E A nx D p k) (.er 646 0))) (fun _ _=>.er 647 0) (fun _=>.er 648 0) (.er 649 0) (J0 E A c)=.ok z lo:=b
  cases hv:J0 E A c with
  |c q=>
   rw[hv]at b hc;simp only[a9]at b;split at b
   .rename_i e;have e:=ab e;subst e;exact ka ((hc.cell (by decide)).isBool.1 rfl) (Bx j.1 f.1 lg E A nx D p k a w es clk Q b M hh V Y)
   .split at b
    .rename_i e;have e:=ab e;subst e;exact kf ((hc.cell (by decide)).isBool.2 rfl) (By j.2 f.2 lg E A nx D p k a w es clk Q b M hh V Y)
    .cases b
  |a s q=>rw[hv]at b;cases b
  |t q=>rw[hv]at b;cases b
  |u=>rw[hv]at b;cases b
 |_=>intro _ _ lg E A nx D p k a w es clk Q b;cases b
end
end Go.Abs
end
section
namespace Go.Abs
def frQ(Pa:Act->Prop)(Q:Exit->Act->World->Prop):Exit->Act->World->Prop:=Exit.then (fun a w=>Pa a->Q .normal a w) Q
section
variable {F:Fence} {n:Nat} {P:Program} {all:Array Oper} {Q:Exit->Act->World->Prop} {Pa:Act->Prop}
theorem a1s{o:Oper}(hd:∀ (a:Act) k,Pa a->Pa {a with defers:=k})(c:∀a v,Pa a->Pa (a.put o.dst v)){a:Act}{w:World}(i:Pa a){K:Act->World->Prop}(h:o.wpIn F n P a w (fun a w=>Pa a->K a w) (frQ Pa Q)):o.wpIn F n P a w K Q:=by
 unfold Oper.wpIn at*
 refine⟨h.1,?_⟩;have hh:=h.2;generalize (o.semAt F.round a.eval).run P w=r at*
 cases r with
 |ok x w'=>
  cases x<;>simp only[Oper.uponIn]at hh ⊢
  case value v=>exact hh (c _ _ i)
  case skip=>exact hh (c _ _ i)
  case defer d=>exact hh (c _ _ (hd _ _ i))
  case enter f args=>exact⟨hh.1,CallsIn.mono hh.2 (fun e j b=>by cases e<;>first|exact b (c _ _ i)|exact b)⟩
  case row r args=>exact⟨hh.1,RowsIn.mono hh.2 (fun v j b=>b (c _ _ i))⟩
  case round=>exact⟨hh.1,RoundIn.mono hh.2 (fun e j b=>by cases e<;>first|exact b (c _ _ i)|exact b)⟩
 |halt x w'=>cases x<;>simp only[Oper.uponIn]at hh ⊢ <;>exact hh
theorem nG(hd:∀ (a:Act) i,Pa a->Pa {a with defers:=i}):∀ (l:List Oper),(∀o∈l,∀a v,Pa a->Pa (a.put o.dst v))->∀ (a:Act) (w:World),Pa a->wpListIn F n P all (frQ Pa Q) l a w->wpListIn F n P all Q l a w
 |[],_,_,_,c,h=>h c
 |o::l,d,a,w,c,h=>by
  simp only[wpListIn]at h ⊢;split
  .rename_i e;rw[aj e]at h;exact a1s hd (d o (ar ..)) c (Oper.wpIn_mono (fun j w' k f=>nG hd l (fun o' b=>d o' (al _ b)) j w' f k) h)
  .rename_i e;rw[ai e]at h;exact⟨h.1,nG hd l (fun o' b=>d o' (al _ b)) _ w (d o (ar ..) _ _ c) h.2⟩
end
theorem UD{c:Code}(h:Qq c=true):∃g i,c=.cond g .skip (.exit i):=by
 cases c with
 |cond g a b=>
  cases a with
  |skip=>
   cases b with
   |exit i=>exact⟨g,i,rfl⟩
   |_=>cases h
  |_=>cases h
 |_=>cases h
section
variable {P:Program} {R:z0} {z:BV} {lo:List HO} {X:Ctx} {B:Option Nat} {ro:Option Nat} {n:Nat} {g:List a7} {Fu:Nat} {I:kF}
theorem Qs(m4:P.follows .mixedOrders=true)(hR:F7 P R)(nK:N3 P (mZ I z lo))(hB:(B=none->ro≠none)\/∀y f args nx D k,I y f args nx D k≠ .ok z lo){l:WK}{CQ:Nat}{Z:Oper}(uN:l.a2.toList=Z::l.r2)(fZ:Z.op=.entry l.i2)(Hk:Z.dst=some l.t2)(xJ:Z.guard=none)
  (BC:Code.j5 l.c1=true)(bN:w7 n l.a1.toList=true)(Qi:w7 n l.r1=true)(Uw:o9 n l.c1=true)(kB:w7 n l.a2.toList=true)
  {c ks vs clk N mb bi:Nat}{es:Array MapEntry}{seen:Array Nat}{e:MapEntry}{q:Nat×Nat×Nat}{M:KS}{E1:Nat}{A1:z7}{nx:Nat}{D:m8}{p:Nat}{H0:Nat->Option Hd}{kZ:Hd}
  (h:L6 l.r1 P R none l.a1 (fun E A nx D p=>xV l.c1 P Fu R I none E A nx D p fun e E A nx D p=>pM e
   (iB (xU (J0 E A l.i2) (.c c)) (G3 l.t2 (.t [(ks,q.2.1),(vs,q.2.2)]) E A fun E A=>L6 l.r2 P R none l.a2 M E A nx D p) (.er 665 0)) (fun _=>.er 666 0) (.er 667 0)) E1 A1 nx D p=.ok z lo)
  (hX:X.Ok)(lO:eT X ro)(hXH:∀F K H p w,X F K H g p w->aY H0 H)(sC:sV c=true)(wV:pO c=0)(Aw:H0 (pR c)=some kZ)(wW:kZ.base=some bi)(Oi:kZ.len=0)(hem:e∈es.toList)(hbn:(es.toList.map (·.born)).Nodup)(hek:y9 H0 ks q.2.1 e.key)(n6:y9 H0 vs q.2.2 e.val)
  {F:Nat->Prop}(hFb:F bi)(hFm:F mb){st:j7}{K:b8}{H:Nat->Option Hd}{a:Act}{w:World}(hb:w.heap[bi]? =some (.mapIter (some mb) N (seen.push e.born) clk))(hm:w.heap[mb]? =some (.map es clk))(he:B4 n g E1 A1 nx D p st)(qC:St (X.O4 st.gh st.o7) B F n K H st.s6.T st.s6.m a w)(G2:∀r,st.nx<=r->H r=none){Q:Exit->Act->World->Prop}
  {Pa:Act->Prop}(hPd:∀ (a:Act) ds,Pa a->Pa {a with defers:=ds})(a4R:∀o∈l.r1,∀a v,Pa a->Pa (a.put o.dst v))(a1u:∀o∈l.a2.toList,∀a v,Pa a->Pa (a.put o.dst v))(hPc:(∀a,Pa a)\/Qq l.c1=true)(hPa:Pa a)
  (hQ:∀E' A' O D' p' S a' w',M E' A' O D' p'=.ok z lo->B4 n g E' A' O D' p' S->gD X B F F n K w S a' w'->Pa a'->l.c2.wpIn (Wd ro) 0 P (Exit.inBlock l.b Q) a' w'):
  wpListIn (Wd ro) 0 P l.a1 (Exit.then ((Code.seq l.c1 (.block l.b (.seq (.region CQ l.a2 false) l.c2))).wpIn (Wd ro) 0 P Q) Q) l.r1 a w:=by
 have XX:∀ (j:Nat) (d:Tmp),(l.a1[j]?).bind (·.dst)=some d->d<n:=fun j d hj=>N1 bN j d (by simpa using hj)
 have a2V:∀ (j:Nat) (d:Tmp),(l.a2[j]?).bind (·.dst)=some d->d<n:=fun j d hj=>N1 kB j d (by simpa using hj)
 refine nG hPd l.r1 a4R a w hPa ?_;refine J1 (yl:=none) (Y:=none) (hh:=none) (F0:=F) hX hR trivial trivial XX l.r1 E1 A1 nx D p _ st F K H a w h Qi he (fun _ h=>h) (fun _ e=>by cases e) qC G2 (fun E2 A2 qB D2 p2 kC a2 w2 C KJ kX b1w=>?_)
 show(Code.seq l.c1 _).wpIn (Wd ro) 0 P Q a2 w2;obtain⟨⟨F2,K2,H2,Bw,aT,CG,Af,Gf⟩,a4T⟩:=kX;refine jo ?_;have hc1:∀Q1:Exit->Act->World->Prop,(∀e E' A' O D' p' S a' w',pM e (iB (xU (J0 E' A' l.i2) (.c c)) (G3 l.t2 (.t [(ks,q.2.1),(vs,q.2.2)]) E' A' fun E A=>L6 l.r2 P R none l.a2 M E A O D' p') (.er 665 0)) (fun _=>.er 666 0) (.er 667 0)=.ok z lo->B4 n g E' A' O D' p' S->gD X B F F2 n K2 w2 S a' w'->Pa a'->Q1 e.out a' w')->l.c1.wpIn (Wd ro) 0 P Q1 a2 w2:=by
  intro Q1 hQ1;rcases hPc with hPc|hPc
  .exact eV m4 hR nK l.c1 BC Uw X B F ro none g none none hX lO trivial trivial hB E2 A2 qB D2 p2 _ kC F2 K2 H2 a2 w2 _ C KJ Bw (fun _ e=>by cases e) aT Af (fun e E' A' O D' p' S a' w' h1 h2 h3=>hQ1 e E' A' O D' p' S a' w' h1 h2 h3 (hPc a'))
  .obtain⟨gg,i,Hz⟩:=UD hPc;rw[Hz]at C ⊢;have hc:=T7 (E:=E2) (A:=A2) (a:=a2) (K:=K2) (H:=H2) (by rw[<-KJ.tmps];exact aT.tmp) gg
   have C: @BV.rec (fun _=>Rn) (fun n=>iB (Nat.beq n 17) _ (iB (Nat.beq n 9) (.er 666 0) (.er 513 0))) (fun _ _=>.er 514 0) (fun _=>.er 515 0) (.er 516 0) (J0 E2 A2 gg)=.ok z lo:=C
   cases hv:J0 E2 A2 gg with
   |c q=>
    rw[hv]at C hc;simp only[a9]at C;split at C
    .rename_i e;have e:=ab e;subst e;exact ka ((hc.cell (by decide)).isBool.1 rfl) (qv (hQ1 .normal E2 A2 qB D2 p2 kC a2 w2 (by simp only[a9];exact C) KJ ⟨⟨F2,K2,H2,fun _ h=>h,aT,.refl K2,Af,.refl F K2⟩,.refl F w2⟩ b1w))
    .split at C<;>cases C
   |a s n=>rw[hv]at C;cases C
   |t q=>rw[hv]at C;cases C
   |u=>rw[hv]at C;cases C
 refine hc1 _ ?_;intro ex E3 A3 nx3 D3 p3 Vc a3 w3 G U Vd b1x;rcases O9 G with⟨rfl,G⟩|⟨i,rfl,G⟩|⟨rfl,G⟩
 rotate_left
 .cases G
 .cases G
 show(Code.block l.b _).wpIn (Wd ro) 0 P Q a3 w3;have Vd:=Vd.trans Bw CG Gf a4T;obtain⟨⟨F3,K3,H3,XY,V,hK3,a4w,Nd⟩,J⟩:=Vd;simp only[a9]at G;split at G
 rotate_left
 .cases G
 rename_i RZ;have RZ:=eU _ _ RZ;refine pj (jo (gz ?_));rw[uN];obtain⟨E4,A4,Ux,hT4⟩:=M6 (show G3 l.t2 (.t [(ks,q.2.1),(vs,q.2.2)]) E3 A3 (fun E A=>L6 l.r2 P R none l.a2 M E A nx3 D3 p3)=.ok z lo from G)
 have XZ:aY H0 H3:=hXH F3 K3 H3 Vc.o7 w3 (by have:=V.x;rw[U.gh]at this;exact this)
 have L:=U.st.1 V;have Ak:u6 K3 H3 (.c c) (a3.eval l.i2):=by
  rw[<-RZ];exact T7 L.tmp l.i2
 have KA:a3.eval l.i2=.pointer (some ⟨bi,0,none⟩):=by
  have h4:c % 8=4:=R9.1 sC;rcases Ak with⟨e,_⟩|⟨e,_⟩|hc
  .omega
  .omega
  .obtain⟨hd,b,g1,g2,g3,_⟩:=hc.gP sC;rw[XZ _ _ Aw]at g1;cases g1;rw[wW]at g2;cases g2;rw[g3,wV,Oi]
 have Ya:w3.heap[bi]? =some (.mapIter (some mb) N (seen.push e.born) clk):=by rw[J.block bi hFb];exact hb
 have b1y:w3.heap[mb]? =some (.map es clk):=by rw[J.block mb hFm];exact hm
 have a7D:=qz (P:=P) w3 bi mb N seen es clk e Ya b1y hem hbn;have gI:(execOp a3.eval Z).run P w3=.ok (.value (.tuple #[e.key,e.val])) w3:=by
  simp only[execOp,fZ,KA];exact c8 a7D
 have oB:b9 K3 H3 (I1 (.t [(ks,q.2.1),(vs,q.2.2)])) (.tuple #[e.key,e.val]):=by
  simp only[I1,az,lj,b9];exact⟨_,rfl,.cons (by simp only[b9];exact hek.cP XZ) (.cons (by simp only[b9];exact n6.cP XZ) .nil)⟩
 simp only[wpListIn];have vH:∀ (j:Nat) (d:Tmp),(l.a2[j]?).bind (·.dst)=some d->d<a3.tmps.size:=fun j d h=>cc (a2V j d h) V.size
 have hgg:z9 l.a2 Z Vc.s6.T true:=by unfold z9;rw[xJ]
 rw[M5 V vH hgg,aj rfl];refine⟨fun f _=>bU ro f,?_⟩
 have PW:∀c,Z.op≠ .defer c:=fun c e=>by rw[fZ]at e;cases e
 rw[gu _ _ _ PW,gI];show wpListIn (Wd ro) 0 P l.a2 _ l.r2 (a3.put Z.dst (.tuple #[e.key,e.val])) w3;rw[uN]at kB;simp only[w7,ah]at kB;have KK:=L.put (o:=Z) kB.1 (hX.grow _ _) (.refl K3) (fun _ _ e=>e) (.refl F3 w3) L.ok L.mem oB
 obtain⟨Yb,UE⟩:=B4.ex n g E4 A4 nx3 D3 p3 U.lt;have hT:O7 (TE E3 A3) Z.dst (I1 (.t [(ks,q.2.1),(vs,q.2.2)]))=TE E4 A4:=by
  rw[Hk];funext t';unfold TE;rw[hT4];simp only[O7];split<;>rfl
 rw[hT]at KK;have Yz:Pa (a3.put Z.dst (.tuple #[e.key,e.val])):=a1u Z (by rw[uN];exact ar ..) _ _ b1x
 refine nG hPd l.r2 (fun o ho=>a1u o (by rw[uN];exact al _ ho)) _ w3 Yz ?_
 refine J1 (yl:=none) (Y:=none) (hh:=none) (F0:=F) hX hR trivial trivial a2V l.r2 E4 A4 nx3 D3 p3 M Yb F3 K3 H3 _ w3 Ux kB.2 UE XY (fun _ e=>by cases e) (UE.st.2 KK) (fun r hr=>a4w r (by rw[U.nx];rw[UE.nx]at hr;exact hr)) (fun E5 A5 nx5 D5 p5 st5 a5 w5 hk5 a4x ht5 b1z=>?_)
 show l.c2.wpIn (Wd ro) 0 P (Exit.inBlock l.b Q) a5 w5;exact hQ E5 A5 nx5 D5 p5 st5 a5 w5 hk5 a4x (ht5.trans XY hK3 Nd J) b1z
end
end Go.Abs
end
section
namespace Go.Abs
section
variable {P:Program} {X:Ctx} {B:Option Nat} {ro:Option Nat} {n:Nat}
theorem a7E{Q:Exit->Act->World->Prop}(J:X.Ok){all:Array Oper}{o:Oper}{rest:List Oper}{i:Operand}{t:Tmp}(O:o.op=.next i false)(Kw:o.dst=some t)(R:o.guard=none)(z:S7 n o.dst=true)
  {F q:Nat->Prop}{K0 K:b8}{H0 H:Nat->Option Hd}{w0 w:World}{s:List a7}{u:Option E8}{T:Nat->a7}{m:Mm}{a:Act}(k:St (X.O4 s u) B q n K H T m a w)(S:(X.O4 s u) F K0 H0 w0)(hF:∀b,F b->q b)(hK:K0.le K)(hH:aY H0 H)(hk:Kept F w0 w)
  {j p d L clk:Nat}{seen:Array Nat}{es:Array MapEntry}(U:q j)(A:¬F j)(V:K.cells j=none)(Y:K.inv j=none)(Dy:p≠j)(hi:a.eval i=.pointer (some ⟨j,0,none⟩))
  (h1:w.heap[j]? =some (.mapIter (some p) d seen L))(h2:w.heap[p]? =some (.map es clk))(C:∀x∈es.toList,x.born<d)(Z:d<=L)
  (D:leftOf es seen= #[]->(∀g,b9 K H (I1 g) (.tuple #[.bool false])->St (X.O4 s u) B q n K H (O7 T o.dst (I1 g)) m (a.put o.dst (.tuple #[.bool false])) w)->wpListIn (Wd ro) 0 P all Q rest (a.put o.dst (.tuple #[.bool false])) w)
  (v:∀e∈(leftOf es seen).toList,∀w',w'.heap[j]? =some (.mapIter (some p) d (seen.push e.born) clk)->(∀b,b≠j->w'.heap[b]? =w.heap[b]?)->Kept F w0 w'->(∀g,b9 K H (I1 g) (.tuple #[.bool true,e.key,e.val])->St (X.O4 s u) B q n K H (O7 T o.dst (I1 g)) m (a.put o.dst (.tuple #[.bool true,e.key,e.val])) w')->wpListIn (Wd ro) 0 P all Q rest (a.put o.dst (.tuple #[.bool true,e.key,e.val])) w'):
  wpListIn (Wd ro) 0 P all Q (o::rest) a w:=by
 have E:∀c,o.op≠ .defer c:=fun c e=>by rw[O]at e;cases e
 simp only[wpListIn];have M:Region.wanted o (yielded all a.tmps)=true:=by unfold Region.wanted;rw[R]
 rw[M,aj rfl];refine⟨fun f _=>bU ro f,?_⟩
 rw[gu _ _ _ E];rcases ta (P:=P) w o.type j p d L seen es clk h1 h2 C Z with⟨hz,l⟩|⟨e,G,r,hw1,l⟩
 .have h:(execOp a.eval o).run P w=.ok (.value (.tuple #[.bool false])) w:=by
   simp only[execOp,O,hi];exact c8 l
  rw[h];simp only[Oper.uponIn];exact D (ed hz) (fun g hc=>k.put (o:=o) z (J.grow _ _) (.refl K) (fun _ _ e=>e) (.refl q w) k.ok k.mem hc)
 .have h:(execOp a.eval o).run P w=.ok (.value (.tuple #[.bool true,e.key,e.val])) (r.putObj j (.mapIter (some p) d (seen.push e.born) clk)):=by
   simp only[execOp,O,hi];refine c8 ?_;rw[l];simp[ChangeMaps.setBlock,World.putObj]
  rw[h];simp only[Oper.uponIn];have key:∀r:World,r.heap=w.heap->St (X.O4 s u) B q n K H T m a r->Kept F w0 r->wpListIn (Wd ro) 0 P all Q rest (a.put o.dst (.tuple #[.bool true,e.key,e.val])) (r.putObj j (.mapIter (some p) d (seen.push e.born) clk)):=by
   intro r M hs I;have N:r.heap[j]? =some (.mapIter (some p) d seen L):=by rw[M];exact h1
   have y:=St.Yp (o':=.mapIter (some p) d (seen.push e.born) clk) (J.grow s u) S hs U A V Y N rfl hF hK hH I;exact v e G _ (by rw[I0 N,aj rfl]) (fun b hb=>by rw[I0 N,ai hb,M]) (I.trans (BK N A)) (fun g hc=>y.put (o:=o) z (J.grow _ _) (.refl K) (fun _ _ e=>e) (.refl q _) y.ok y.mem hc)
  rcases hw1 with rfl|rfl
  .exact key _ rfl k hk
  .exact key w.drew rfl (k.drawn (J.grow s u) _ (lf _)) (hk.of_heap rfl rfl rfl rfl (lf _))
end
end Go.Abs
end
