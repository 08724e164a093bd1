/- Part 3 of the road to this seat's statements: lemmas about a small interpreter over the model's code, and about the functions that it is used on. No condition of its own. -/
import Derived.IntWalk
import Derived.Test.YtgohechlcklfkaaGreatW2
set_option linter.all false
section
open Go.RowKit
namespace Go.Abs
def pW(r:Go.Loop):Option I3->Go.Loop
 |none=> {r with state:=.ready,pending:=none}
 |some e=> {r with state:=.done,pending:=some e.code}
structure S9 where
 X:Ctx
 F:Nat->Prop
 s7:Option I3
 y:Option Nat
 l:Nat
 r:Go.Loop
 V:List Value
def S9.holds(A:S9)(K:j0)(H:Nat->Option Hd)(b:List a7)(w:World):Prop:=
 ∃a g2,b=a++g2/\c9 (K.aZ A.y) H a A.V/\A.X A.F (K.aZ A.y) H g2 A.s7 w
def S9.it(A:S9):Ctx:=fun F K H a p w=>
 F A.l/\(∀b,A.F b->F b)/\w.heap[A.l]? =some (.loop (pW A.r p))/\A.holds K H a w
def S9.rd(A:S9)(s:LoopState)(c:List Value):Ctx:=fun F K H d p w=>
 F A.l/\(∀b,A.F b->F b)/\p=none/\w.heap[A.l]? =some (.loop {A.r with state:=s,pending:=none})/\
  ∃a g2,d=a++g2/\c9 (K.aZ (some A.l)) H a c/\A.holds K H g2 w
theorem pX(l:List Nat):∀ (a b:List a7),N5 l (a++b)=N5 l a++N5 l b
 |[],_=>rfl
 |v::a,b=>by simp[N5,pX l a b]
theorem S9.mZ(A:S9)(d:A.X.Ok){K K':j0}{H H':Nat->Option Hd}{a:List a7}{w w':World}(h:A.holds K H a w)(b:K.le K')(c:bY H H')(f:Kept A.F w w'):A.holds K' H' a w':=by
 obtain⟨g,g2,e,i,j⟩:=h;exact⟨g,g2,e,c9.mono (b.aZ _) c _ _ i,(d.grow g2 A.s7).grow _ _ _ _ _ _ _ _ j (fun _ h=>h) (b.aZ _) c f⟩
theorem S9.GF(A:S9)(b:A.X.Ok){K:j0}{H:Nat->Option Hd}{a:List a7}{w:World}(l:List Nat)(h:A.holds K H a w):A.holds K (aK l H) (N5 l a) w:=by
 obtain⟨c,g2,e,d,f⟩:=h;exact⟨N5 l c,N5 l g2,by rw[e,pX],O8 _ _ d,b.dW _ _ _ _ _ _ _ f⟩
theorem S9.YC(A:S9){K:j0}{H:Nat->Option Hd}{a:List a7}{w:World}(y:Option Nat):A.holds (K.aZ y) H a w↔A.holds K H a w:=Iff.rfl
theorem S9.a4H(A:S9)(hX:A.X.Ok):A.it.Ok where
 grow:=fun gh p=>⟨fun F F' K K' H H' w w' h hF hK hH hk=>by
  obtain⟨h1,h2,h3,h4⟩:=h
  exact⟨hF _ h1,fun b hb=>hF _ (h2 b hb),by rw[hk.block _ h1];exact h3,A.mZ hX h4 hK hH (hk.less h2)⟩⟩
 dW:=fun F K H l gh p w h=>by
  obtain⟨h1,h2,h3,h4⟩:=h;exact⟨h1,h2,h3,A.GF hX l h4⟩
theorem S9.a0u(A:S9)(s:LoopState)(VI:List Value)(hX:A.X.Ok):(A.rd s VI).Ok where
 grow:=fun gh p=>⟨fun F F' K K' H H' w w' h hF hK hH hk=>by
  obtain⟨h1,h2,h3,h4,g1,g2,e,h5,h6⟩:=h
  exact⟨hF _ h1,fun b hb=>hF _ (h2 b hb),h3,by rw[hk.block _ h1];exact h4,g1,g2,e,c9.mono (hK.aZ _) hH _ _ h5,A.mZ hX h6 hK hH (hk.less h2)⟩⟩
 dW:=fun F K H l gh p w h=>by
  obtain⟨h1,h2,h3,h4,g1,g2,e,h5,h6⟩:=h;exact⟨h1,h2,h3,h4,N5 l g1,N5 l g2,by rw[e,pX],O8 _ _ h5,A.GF hX l h6⟩
theorem S9.a0v(A:S9)(s:LoopState)(a:List Value):oK (A.rd s a) (some A.l):=by
 intro l b F K H c p w h;cases b;exact⟨_,h.2.2.2.1⟩
theorem Vc{K:j0}{y:Option Nat}(h:K.y=y):K.aZ y=K:=by
 cases K;simp[j0.aZ]at h ⊢;exact h.symm
theorem T3(r:Go.Loop):∀cs e fz,Obj.loop r≠ .cells cs e fz:=fun _ _ _ h=>by cases h
theorem DE{K:j0}{H:Nat->Option Hd}{a g2:List a7}{V:List Value}{n:Nat}(h:c9 K H a V)(b:V.length=n):(a++g2).take n=a/\(a++g2).drop n=g2:=by
 have:a.length=n:=by rw[<-c9.length h];exact b
 subst this;exact⟨List.take_left ..,List.drop_left ..⟩
section
variable {P:Program}
theorem YD(A:S9)(hX:A.X.Ok)(hl:¬A.F A.l)(F0:Nat->Prop)(hF0:¬F0 A.l){J:Nat}{N6 ps:List Nat}{ao:Act}{i C:Code}{Ja Jb:j9->(I3->j9->Prop)->Prop}
  (hr:A.r.tmps=ao.tmps/\A.r.params.toList=ps/\A.r.assign=i/\A.r.body=C)(XK:J<=ao.tmps.size)(hV:A.V=N6.map (fun t=>ao.tmps.getD t undef))
  (ha:∀ (F0:Nat->Prop) VI,Sound P (A.rd .ready VI) none F0 (some A.l) none J Ja i)(D:∀ (F0:Nat->Prop) VI,Sound P (A.rd .busy VI) none F0 (some A.l) none J Jb C):
  Is P A.it F0 A.l (CC J N6 ps Ja Jb):=by
 obtain⟨hr1,Yw,rfl,rfl⟩:=hr;intro n args d kk F K H a w vs h hn hF hKy k H7 o;unfold CC at h;split at h
 ·rename_i hc;obtain⟨hp,E,AD,hya,hym⟩:=hc;obtain⟨x1,x2,x3,x4⟩:=k.x;rw[hp]at x3;have x3:w.heap[A.l]? =some (.loop {A.r with state:=.ready,pending:=none}):=x3;have hvl:vs.length=ps.length:=by rw[c9.length o,E]
  have hps:vs.toArray.size=A.r.params.size:=by
   rw[<-Array.length_toList (xs:=A.r.params),Yw];simpa using hvl
  have hy:=run_yield (P:=P) (args:=vs.toArray) x3 hps;refine⟨_,_,_,_,hy,?_⟩
  let VI:List Value:=(dedup (d.tmps.map (·.1))).map (fun t=>a.tmps.getD t undef)
  have hVI:c9 K H ((dedup (d.tmps.map (·.1))).map (y9 d.tmps)) VI:=Iq _ _ k.tmp _
  have a8E:VI.length=(dedup (d.tmps.map (·.1))).length:=by simp[VI]
  refine roundIn_of_wpIn (eU none _) ?_;show Code.wpIn (Wd (some A.l)) 0 P A.r.assign _ _ w;have L:((K.aZ A.y).aZ (some A.l))=K:=Vc (K:=K) hKy;obtain⟨g3,g4,eg,u,gh2⟩:=x4;have a8F:St ((A.rd .ready VI).bA ((dedup (d.tmps.map (·.1))).map (y9 d.tmps)++d.gh) none) none F J (K.aZ A.y) H (y9 (setArgs ps args (iU N6 (d.gh.take N6.length)))) (n9 d.M)
    {tmps:=(A.r.params.zip vs.toArray).foldl (fun tmps (t,a)=>tmps.setIfInBounds t a) A.r.tmps,defers:=[]} w:=by
   have q:(A.r.params.zip vs.toArray).foldl (fun tmps (t,a)=>tmps.setIfInBounds t a) A.r.tmps=(ps.zip vs).foldl (fun tmps (x:Nat×Value)=>tmps.setIfInBounds x.1 x.2) ao.tmps:=by
    rw[hr1,<-Array.foldl_toList,Array.toList_zip,Yw]
   refine⟨k.ok.aZ _,k.mem.aZ _ (fun r c f h=>pP hym h),?_,rfl,?_,?_⟩
   ·show J<=Array.size _;rw[q,wV];exact XK
   ·show ∀t,c8 _ _ _ (Array.getD _ t undef);rw[q];refine AP ps args vs _ _ E (S7 _ _ _ hya o) (fun p hp=>Nat.lt_of_lt_of_le (Dw AD p hp) XK) ?_
    rw[eg,(DE u (by rw[hV];simp)).1]
    rw[hV]at u;exact wU _ _ _ u
   ·exact⟨x1,x2,rfl,x3,_,_,rfl,by rw[L];exact hVI,g3,g4,eg,u,gh2⟩
  refine ha F VI _ _ F (K.aZ A.y) H _ w _ h rfl (fun _ h=>h) (fun l e=>by cases e) a8F H7 ?_
  intro e s1 a1 w1 N RY ht1;cases e with
  |exit id=>exact N.elim
  |ret=>exact N.elim
  |normal=>
   obtain⟨⟨F1,K1,H1,G,g,Qj,KN,O⟩,v⟩:=ht1;obtain⟨y1,y2,y3,Z,y5⟩:=g.x;refine⟨_,run_beginRound Z rfl,?_⟩;show Code.wpIn (Wd (some A.l)) 0 P A.r.body _ a1 _;have R:K1.inv A.l=none:=by
    cases hi:K1.inv A.l with
    |none=>rfl
    |some p=>exact absurd y1 (g.ok.inv _ _ hi)
   let wb:=w1.putObj A.l (.loop {A.r with state:=.busy,pending:=none})
   have hkb:Kept A.F w1 wb:=eC Z hl;obtain⟨q1,q2,eq,hq1,hq2⟩:=y5;have a8G:St ((A.rd .busy VI).bA s1.gh s1.s7) none F1 J K1 H1 s1.z6.T s1.z6.m a1 wb:=by
    refine⟨Db g.ok Z (T3 _) R,BQ g.mem Z (T3 _) (fun _ _ h=>by cases h) (fun _ _ _ _ h=>by cases h),g.size,g.defers,g.tmp,y1,y2,y3,?_,q1,q2,eq,hq1,A.mZ hX hq2 (.refl _) (.refl _) hkb⟩
    rw[L5 Z,if_pos rfl]
   have a8H:Kept F0 w wb:=(v.less hF).trans (eC Z hF0);refine D F1 VI s1 _ F1 K1 H1 a1 wb _ N RY (fun _ h=>h) (fun l e=>by cases e) a8G KN ?_
   intro e s2 a2 w2 s Qb pV;obtain⟨⟨F2,K2,H2,On,j,FV,Iv,S⟩,z⟩:=pV;obtain⟨z1,z2,z3,I,p1,p2,ep,hp1,hp2⟩:=j.x;split at s
   ·rename_i a8I;have U:K2.inv A.l=none:=by
     cases hi:K2.inv A.l with
     |none=>rfl
     |some p=>exact absurd z1 (j.ok.inv _ _ hi)
    have Y:∀ (o':Obj),o'=.loop (pW A.r e.left)->sN A.it none F0 F n K w
      {n:=d.n,tmps:=iU (dedup (d.tmps.map (·.1))) (s2.gh.take (dedup (d.tmps.map (·.1))).length),nx:=s2.nx,M:=s2.M,gh:=s2.gh.drop (dedup (d.tmps.map (·.1))).length,s7:=e.left} a (w2.putObj A.l o'):=by
     intro o' ho';have hkF:∀b,F0 b->F1 b:=fun b D=>G b (hF b D)
     have htk:=DE (g2:=p2) hp1 a8E;refine⟨⟨F2,K2.aZ (some A.l),H2,fun b D=>On b (G b D),⟨?_,?_,?_,k.defers,?_,z1,z2,?_,?_⟩,⟨fun b cs h=>FV.cells _ _ (Qj.cells _ _ h),fun b p h=>FV.inv _ _ (Qj.inv _ _ h),fun l' h=>by rw[hKy]at h;exact h⟩,Iv,?_⟩,?_⟩
     ·exact(Db j.ok I (T3 _) U).aZ _
     ·exact(BQ j.mem I (T3 _) (fun _ _ h=>by cases h) (fun _ _ _ _ h=>by cases h)).aZ _ (fun r c f h=>pP a8I h)
     ·exact k.size
     ·show ∀t,c8 (K2.aZ (some A.l)) H2 (y9 (iU _ (s2.gh.take _)) t) (a.tmps.getD t undef);rw[ep,htk.1];exact wU _ _ _ hp1
     ·rw[L5 I,if_pos rfl,ho']
     ·rw[ep,htk.2];exact(A.YC _).2 (A.mZ hX hp2 (.refl K2) (.refl H2) (eC I hl))
     ·intro b D;have f1:=O b (hF b D);have f2:=S b (hkF b D);exact⟨f2.1.trans f1.1,f2.2.trans f1.2⟩
     ·exact(a8H.trans (z.less hkF)).trans (eC I hF0)
    cases e with
    |normal=>exact⟨_,_,run_endRound none I,true,_,rfl,s,hn,Y _ rfl⟩
    |exit id=>exact⟨_,_,run_endRound (some (.exit id)) I,false,_,rfl,s,hn,Y _ rfl⟩
    |ret=>exact⟨_,_,run_endRound (some .ret) I,false,_,rfl,s,hn,Y _ rfl⟩
   ·exact s.elim
 ·exact h.elim
theorem cN{f:FuncId}{a:Func}{c:Code}(d:P.funcs[f]? =some a)(e:a.body=some c)(g:(a.name== "runtime.NumGoroutine")=false)(args:Array Value)(w:World):(callFunc f args).run P w=.ok (.enter f args) w:=by
 have b:a.name≠ "runtime.NumGoroutine" :=by simpa using g
 simp[callFunc,d,e,b,go_sem]
def bK(P:Program)(e:Iter):Prop:=
 ∀ (h:Hand) (c:FuncId) (args:List a7) (s0:j9) (k:j9->Prop) (X:Ctx) (F0 F:Nat->Prop) (K:j0) (H:Nat->Option Hd) (w:World) (vs:List Value) (l:Nat) (R:Ending->World->Prop),
  e h c args s0 k->X.Ok->Is P X F0 l h->(∀b,F0 b->F b)->K.y=some l->J0 F K w->j8 F K H w (n9 s0.M)->(∀r,s0.nx<=r->H r=none)->c9 K H args vs->X F K H ((s0.tmps.map (·.1)).map (y9 s0.tmps)++s0.gh) none w->
  (∀a d K' H' w' v,k a->(∀b,F b->d b)->J0 d K' w'->j8 d K' H' w' (n9 a.M)->(∀r,a.nx<=r->H' r=none)->X d K' H' a.gh a.s7 w'->K.le K'->Fix F0 K K'->Kept F0 w w'->R (.returned v) w')->
  (∀args w,(callFunc c args).run P w=.ok (.enter c args) w)/\CallsIn (Wd none) 0 P c vs.toArray w R
theorem Vd:bK P Gr:=fun _ _ _ _ _ _ _ _ _ _ _ _ _ _ h=>h.elim
variable {X:Ctx} {B:Option Nat} {F0:Nat->Prop} {ro yl:Option Nat} {n:Nat}
theorem RZ{Q:Exit->Act->World->Prop}{a:Act}{w:World}{ro:Option Nat}(e:I3)(h:Q e.out a w):e.code.wpIn (Wd ro) 0 P Q a w:=by
 cases e with
 |normal=>exact wpIn_skip h
 |exit id=>exact wpIn_exit h
 |ret=>exact wpIn_ret h
theorem DF{IT:Iter}(Iw:bK P IT)(hX:X.Ok)(DC:oK X ro)(hB:B=none->ro≠none){g:Operand}{ps:Array Tmp}{assign body:Code}{Ja Jb:j9->(I3->j9->Prop)->Prop}
  (ha:∀ (X:Ctx) (F0:Nat->Prop) (l:Nat),X.Ok->oK X (some l)->Sound P X none F0 (some l) none n Ja assign)(d:∀ (X:Ctx) (F0:Nat->Prop) (l:Nat),X.Ok->oK X (some l)->Sound P X none F0 (some l) none n Jb body)
  {s0:j9}{k:I3->j9->Prop}{F:Nat->Prop}{K:j0}{H:Nat->Option Hd}{a:Act}{w:World}{Q:Exit->Act->World->Prop}(hn:s0.n=n)(hF:∀b,F0 b->F b)
  (i:St (X.bA s0.gh s0.s7) B F n K H s0.z6.T s0.z6.m a w)(H7:∀r,s0.nx<=r->H r=none){gf:FuncId}{cap:List a7}{ca:Array Value}(e1:a.eval g=.func (.func gf) #[] ca)(e3:c9 K H cap ca.toList)(hny:eY cap=true/\CB s0.M=true)
  (h:IT (CC s0.n (s0.tmps.map (·.1)) ps.toList Ja Jb) gf (.J2::cap) s0 (fun j=>if CB j.M=true then k (j.s7.getD .normal) {n:=s0.n,tmps:=iU (s0.tmps.map (·.1)) (j.gh.take (s0.tmps.map (·.1)).length),nx:=j.nx,M:=j.M,gh:=j.gh.drop (s0.tmps.map (·.1)).length,s7:=s0.s7} else False))
  (hQ:∀e U a' w',k e U->U.n=n->sN X B F0 F n K w U a' w'->Q e.out a' w'):(Code.rangeFunc g ps assign body).wpIn (Wd ro) 0 P Q a w:=by
 have enter:∀fn,∃ (l:Nat) (mk:List Deferred) (w2:World) (r:Go.Loop),(Instr.enterLoop fn a.tmps ps assign body ro).run P w=.ok (l,mk) w2/\w2.heap[l]? =some (.loop (pW r none))/\
   r.tmps=a.tmps/\r.params=ps/\r.assign=assign/\r.body=body/\w.heap.size<=l/\l<w2.heap.size/\Kept (fun b=>b<w.heap.size) w w2/\(∀G w',(∀b,F b->G b)->(∀b,w.heap.size<=b->b<w2.heap.size->b≠l->G b)->Kept G w2 w'->Marks B G (mk++a.defers) w'):=by
  intro fn;cases hr:ro with
  |none=>
   refine⟨_,_,_,{state:=.ready,pending:=none,fn,tmps:=a.tmps,params:=ps,assign,body,defers:=w.heap.size},run_enterLoop_outer fn a.tmps ps assign body,?_,rfl,rfl,rfl,rfl,by omega,by simp,?_,?_⟩
   ·have:=World.alloc_heap_new (w.alloc (.deferred (some []))) (.loop {state:=.ready,pending:=none,fn,tmps:=a.tmps,params:=ps,assign,body,defers:=w.heap.size});rwa [World.size_alloc]at this
   ·exact⟨rfl,rfl,rfl,by simp;omega,fun b d=>(Below.heap_alloc _ _ _ (by simp;omega)).trans (Below.heap_alloc _ _ _ d),Nat.le_refl _⟩
   ·intro G w' hG I2 J;cases u:B with
    |none=>exact absurd hr (hB u)
    |some b0=>
     have Y:=i.defers;rw[u]at Y;obtain⟨m0,Ds,m1,m2,m3⟩:=Y;have hs2:((w.alloc (.deferred (some []))).alloc (.loop {state:=.ready,pending:=none,fn,tmps:=a.tmps,params:=ps,assign,body,defers:=w.heap.size})).heap.size=w.heap.size+2:=by simp
     have hD:((w.alloc (.deferred (some []))).alloc (.loop {state:=.ready,pending:=none,fn,tmps:=a.tmps,params:=ps,assign,body,defers:=w.heap.size})).heap[w.heap.size]? =some (.deferred (some [])):=
      (Below.heap_alloc _ _ _ (by simp)).trans (World.alloc_heap_new w _)
     refine⟨?_,w.heap.size::Ds,by rw[m1];rfl,?_,?_⟩
     ·have:=J.size;omega
     ·refine List.nodup_cons.2 ⟨fun RX=>?_,m2⟩
      have:=u5 (m3 _ RX).2.2;omega
     ·intro D z;rcases List.mem_cons.1 z with rfl|z
      ·have o:G w.heap.size:=I2 _ (Nat.le_refl _) (by omega) (by omega)
       exact⟨m0,o,by rw[J.block _ o];exact hD⟩
      ·obtain⟨n1,n2,n3⟩:=m3 D z;have o:=hG D n2;refine⟨n1,o,?_⟩;rw[J.block _ o];exact((Below.heap_alloc _ _ _ (by have:=u5 n3;simp;omega)).trans (Below.heap_alloc _ _ _ (u5 n3))).trans n3
  |some l0=>
   obtain⟨r0,hr0⟩:=DC l0 hr _ _ _ _ _ _ i.x;refine⟨_,_,_,{state:=.ready,pending:=none,fn,tmps:=a.tmps,params:=ps,assign,body,defers:=r0.defers},run_enterLoop_inner hr0 fn a.tmps ps assign body,World.alloc_heap_new w _,rfl,rfl,rfl,rfl,Nat.le_refl _,by simp,?_,?_⟩
   ·exact⟨rfl,rfl,rfl,by simp,fun b d=>Below.heap_alloc _ _ _ d,Nat.le_refl _⟩
   ·intro G w' hG I2 J;have hs2:(w.alloc (.loop {state:=.ready,pending:=none,fn,tmps:=a.tmps,params:=ps,assign,body,defers:=r0.defers})).heap.size=w.heap.size+1:=by simp
    have Y:=i.defers;cases u:B with
    |none=>rw[u]at Y;exact Y
    |some b0=>
     rw[u]at Y;obtain⟨m0,Ds,m1,m2,m3⟩:=Y;refine⟨?_,Ds,by rw[m1];rfl,m2,?_⟩
     ·have:=J.size;omega
     ·intro D z;obtain⟨n1,n2,n3⟩:=m3 D z;have o:=hG D n2;refine⟨n1,o,?_⟩;rw[J.block _ o];exact(Below.heap_alloc _ _ _ (u5 n3)).trans n3
 refine wpIn_rangeFunc (fun fn _=>?_)
 obtain⟨l,mk,w2,r,a12,hl,hr1,Yw,hr3,hr4,hll,a8J,Z,L⟩:=enter fn
 let F1:Nat->Prop:=fun b=>F b\/w.heap.size<=b/\b<w2.heap.size
 let C:Nat->Prop:=fun b=>F b\/(w.heap.size<=b/\b<w2.heap.size/\b≠l)
 have hFl:¬F l:=fun d=>by have:=i.ok.lt l d;omega
 have O:¬C l:=fun d=>by
  rcases d with d|d
  ·exact hFl d
  ·exact d.2.2 rfl
 have E:∀b,C b->F1 b:=fun b d=>by
  rcases d with d|d
  ·exact .inl d
  ·exact .inr ⟨d.1,d.2.1⟩
 have hkF:Kept F w w2:=Z.less (fun b d=>i.ok.lt b d)
 let V:List Value:=(s0.tmps.map (·.1)).map (fun t=>a.tmps.getD t undef)
 let A:S9:=⟨X,F,s0.s7,K.y,l,r,V⟩
 let K1:=K.aZ (some l)
 have hKK:K1.aZ K.y=K:=by cases K;rfl
 have hV:c9 K H ((s0.tmps.map (·.1)).map (y9 s0.tmps)) V:=Iq _ _ i.tmp _
 have N:A.X.Ok:=hX;have a4M:Is P A.it C l (CC s0.n (s0.tmps.map (·.1)) ps.toList Ja Jb):=by
  refine YD A N hFl C O (ao:=a) ⟨hr1,by rw[Yw],hr3,hr4⟩ (by rw[hn];exact i.size) rfl ?_ ?_
  ·intro F0 VI;rw[hn];exact ha _ F0 l (A.a0u _ _ N) (A.a0v _ _)
  ·intro F0 VI;rw[hn];exact d _ F0 l (A.a0u _ _ N) (A.a0v _ _)
 have wG:c9 K1 H (.J2::cap) (.func (.yield l) #[] #[]::ca.toList):=
  .cons (by simp only[c8];exact⟨l,rfl,rfl⟩) (S7 _ _ _ hny.1 e3)
 have hxi:A.it F1 K1 H ((s0.tmps.map (·.1)).map (y9 s0.tmps)++s0.gh) none w2:=
  ⟨.inr ⟨hll,a8J⟩,fun b d=>.inl d,hl,_,_,rfl,by show c9 (K1.aZ K.y) H _ V;rw[hKK];exact hV,by
   show X F (K1.aZ K.y) H s0.gh s0.s7 w2;rw[hKK]
   exact(hX.grow s0.gh s0.s7).grow _ _ _ _ _ _ _ _ i.x (fun _ h=>h) (.refl K) (.refl H) hkF⟩
 have main:=Iw _ gf _ s0 _ A.it C F1 K1 H w2 (.func (.yield l) #[] #[]::ca.toList) l (rangePost (Wd ro) 0 P l Q {a with defers:=mk++a.defers}) h (A.a4H N) a4M E rfl
  ((UR i.ok Z (fun b d=>d)).aZ _) ((RR i.mem Z (fun b d=>d)).aZ _ (fun r c f h=>pP hny.2 h)) H7 wG hxi
 obtain⟨Ve,hC⟩:=main (by
  intro j F' K' H' w' v J a8L R hm' It hx' hK' Qk q;split at J
  ·rename_i a8N;obtain⟨x1,x2,x3,g1,g2,eg,x4,x5⟩:=hx';have x1:F' l:=x1;have x3:w'.heap[l]? =some (.loop (pW r j.s7)):=x3;have x4:c9 (K'.aZ K.y) H' g1 V:=x4;have x5:X F (K'.aZ K.y) H' g2 s0.s7 w':=x5;have XL:(pW r j.s7).state≠ .busy:=by cases j.s7<;>simp[pW]
   have hinv:K'.inv l=none:=by
        cases hi:K'.inv l with
        |none=>rfl
        |some p=>exact absurd x1 (R.inv _ _ hi)
   have a8O:=run_endLoop (P:=P) x3 XL
   let w4:=w'.putObj l (.loop {pW r j.s7 with state:=.exhausted})
   have htk:=DE (g2:=g2) (n:=(s0.tmps.map (·.1)).length) x4 (by simp[V])
   have I:∀b,C b->F' b:=fun b d=>a8L b (E b d)
   have S:Kept F w' w4:=eC x3 hFl;have a4N:Kept C w' w4:=eC x3 O;have a8P:sN X B F0 F n K w {n:=s0.n,tmps:=iU (s0.tmps.map (·.1)) (j.gh.take (s0.tmps.map (·.1)).length),nx:=j.nx,M:=j.M,gh:=j.gh.drop (s0.tmps.map (·.1)).length,s7:=s0.s7} {a with defers:=mk++a.defers} w4:=by
        refine⟨⟨C,K'.aZ K.y,H',fun b d=>.inl d,⟨?_,?_,i.size,?_,?_,?_⟩,⟨fun b cs h=>hK'.cells _ _ h,fun b p h=>hK'.inv _ _ h,fun _ h=>h⟩,It,?_⟩,?_⟩
        ·exact((Db R x3 (T3 _) hinv).less I).aZ _
        ·exact((BQ hm' x3 (T3 _) (fun _ _ h=>by cases h) (fun _ _ _ _ h=>by cases h)).less I).aZ _ (fun r c f h=>pP a8N h)
        ·exact L C w4 (fun b d=>.inl d) (fun b h1 h2 h3=>.inr ⟨h1,h2,h3⟩) (q.trans a4N)
        ·show ∀t,c8 (K'.aZ K.y) H' (y9 (iU _ (j.gh.take _)) t) (a.tmps.getD t undef);rw[eg,htk.1];exact wU _ _ _ x4
        ·show X C (K'.aZ K.y) H' (j.gh.drop _) s0.s7 w4;rw[eg,htk.2];have y1:=(hX.grow g2 s0.s7).grow _ _ _ _ _ _ _ _ x5 (fun _ h=>h) (.refl _) (.refl _) S
         exact(hX.grow g2 s0.s7).grow _ C _ _ _ _ _ _ y1 (fun b d=>.inl d) (.refl _) (.refl _) (.refl _ _)
        ·intro b d;exact Qk b (.inl (hF b d))
        ·exact((hkF.less hF).trans (q.less (fun b d=>.inl (hF b d)))).trans (S.less hF)
   refine⟨_,_,a8O,?_⟩;have s:=hQ _ _ _ _ J hn a8P;cases hp:j.s7 with
   |none=>
    rw[hp]at s;simp only[pW];have e4:w4=w'.putObj l (.loop {pW r none with state:=.exhausted}):=by simp only[w4,hp]
    rw[e4]at s;exact s
   |some e=>
    rw[hp]at s;simp only[pW];have e4:w4=w'.putObj l (.loop {pW r (some e)with state:=.exhausted}):=by simp only[w4,hp]
    rw[e4]at s;exact RZ e s
  ·exact J.elim)
 refine⟨l,mk,w2,{target:=.fn (.func gf) ca,args:= #[.func (.yield l) #[] #[]]},w2,gf,#[.func (.yield l) #[] #[]]++ca,w2,?_,?_,?_,?_,lH ro,?_⟩
 ·exact a12
 ·simp only[resolve,e1];simp[go_sem]
 ·intro f' _;exact eU ro f'
 ·simp[invoke,go_sem,Ve]
 ·have e:(Value.func (.yield l) #[] #[]::ca.toList).toArray= #[.func (.yield l) #[] #[]]++ca:=by
   apply Array.ext';simp
  rw[e]at hC;exact hC
theorem KO{p:Iter}(f:bK P p)(q:X.Ok)(i:oK X ro)(r:B=none->ro≠none){g:Operand}{ps:Array Tmp}{b c:Code}{Ja Jb:j9->(I3->j9->Prop)->Prop}
  (s:∀ (X:Ctx) (F0:Nat->Prop) (l:Nat),X.Ok->oK X (some l)->Sound P X none F0 (some l) none n Ja b)(t:∀ (X:Ctx) (F0:Nat->Prop) (l:Nat),X.Ok->oK X (some l)->Sound P X none F0 (some l) none n Jb c):
  Sound P X B F0 ro yl n (CD p g ps.toList Ja Jb) (.rangeFunc g ps b c):=by
 intro s0 k F K H a w Q h u v E e j x;unfold CD at h;split at h
 ·rename_i G cap y;split at h
  ·rename_i m;have d:=e.ev g;rw[<-show As s0.tmps=Tq s0.z6.T from pJ _,y]at d;simp only[c8]at d;obtain⟨z,I,A,C,D⟩:=d;have o:z= #[]:=by
    have:=c9.H8.1 C;simpa using this
   subst o;exact DF f q i r s t u v e j A D m h x
  ·exact h.elim
 ·exact h.elim
end
end Go.Abs
end
section
namespace Go.Abs
def noGoto(Q:Exit->Act->World->Prop):Exit->Act->World->Prop
 |.goto _,_,_=>False
 |e,a,w=>Q e a w
theorem KP{P:Program}{b:Frame}{a:Act}{k:List Item}{cs:List Frame}{w:World}{c:Code}:step P (lone (b.atR a (.code (.scope c)::k)) cs w)=.next (lone (b.atR a (.code c:: .inScope c::k)) cs w):=
 step_lone_go (by simp[stepG,stepG.exec,Frame.atR])
theorem FW{P:Program}{b:Frame}{a:Act}{k:List Item}{cs:List Frame}{w:World}{c:Code}:step P (lone (b.atR a (.inScope c::k)) cs w)=.next (lone (b.atR a k) cs w):=
 step_lone_go (by simp[stepG,stepG.exec,Frame.atR])
theorem aL{F:Fence}{n:Nat}{P:Program}{Q:Exit->Act->World->Prop}{a:Act}{w:World}{c:Code}(h:c.wpIn F n P (noGoto Q) a w):(Code.scope c).wpIn F n P Q a w:=by
 intro b k cs f g i;obtain⟨e,m,o,j,d⟩:=h b (.inScope c::k) cs f g i;refine⟨e,m,o,?_,.of_steps (.one (fenced_calm g i rfl) KP) ?_⟩
 ·cases e<;>first|exact j|exact j.elim
 ·cases e with
  |normal=>exact StepsIn.trans d (.one (fenced_calm g i rfl) FW)
  |exit id=>exact⟨fun k' p=>d.1 k' (by simp[exitTo,p]),fun q r=>d.2 q (by simp[exitTo,r])⟩
  |goto l=>exact j.elim
  |ret=>exact d
  |panic ch=>exact d
  |outgrown=>exact d
theorem KQ{g:Operand}{ps:List Nat}{Ja Jb:j9->(I3->j9->Prop)->Prop}{s0:j9}{k:I3->j9->Prop}(h:CD Gr g ps Ja Jb s0 k):False:=by
 unfold CD at h;split at h
 ·split at h
  ·exact h
  ·exact h
 ·exact h
section
variable {Γ:Env} {P:Program} {sT:Nat->List Nat} {IT:Iter}
theorem zK(o7:P.follows .mixedOrders=true)(hG:Good P Γ)(Iw:bK P IT):∀ (c:Code),Code.j3 c=true->∀ (X:Ctx) (B:Option Nat) (F0:Nat->Prop) (ro yl:Option Nat) (n:Nat) (Y:Av),X.Ok->oK X ro->a4E P X B F0 ro yl Y->((B=none->ro≠none)\/IT=Gr)->
  Sound P X B F0 ro yl n (Gq Γ P sT IT c Y) c:=by
 intro c
 induction c with
 |skip=>
  intro d X B F0 ro yl n Y t f G v st k F K H a w Q h z D A j m q;exact wpIn_skip (q .normal st a w h z (Y4 j m))
 |region id ops draw=>
  intro d X B F0 ro yl n Y t f G v;exact Iu t o7 hG sT IT G id ops draw d
 |seq x y Vf Vg=>
  intro d X B F0 ro yl n Y t f G v st k F K H a w Q h z D A j m q;simp only[Code.j3,Bool.and_eq_true]at d;refine wpIn_seq (Vf d.1 X B F0 ro yl n Y t f G v st _ F K H a w _ h z D A j m ?_);intro e o I w' C p J;cases e with
  |normal=>
   obtain⟨⟨F',K',H',M,u,hK,E,O⟩,L⟩:=J;exact Vg d.2 X B F0 ro yl n Y t f G v o k F' K' H' I w' Q C p (fun b hb=>M b (D b hb)) (fun l e=>hK.y l (A l e)) u E (fun e sP a2 w2 sQ R pV=>q e sP a2 w2 sQ R (pV.trans M hK O L))
  |exit id=>exact q _ o I w' C p J
  |ret=>exact q _ o I w' C p J
 |cond c x y Vf Vg=>
  intro d X B F0 ro yl n Y t f G v st k F K H a w Q h z D A j m q;simp only[Code.j3,Bool.and_eq_true]at d;simp only[Gq]at h;split at h
  ·rename_i b hb;have hc:=j.ev c;rw[<-show As st.tmps=Tq st.z6.T from pJ _,hb]at hc;simp only[c8]at hc;rw[tY]at h;cases b with
   |true=>exact wpIn_cond_true hc (Vf d.1 X B F0 ro yl n Y t f G v st k F K H a w Q (h.1 rfl) z D A j m q)
   |false=>exact wpIn_cond_false hc (Vg d.2 X B F0 ro yl n Y t f G v st k F K H a w Q (h.2 rfl) z D A j m q)
  ·exact absurd h id
 |block id c ih=>
  intro d X B F0 ro yl n Y t f G v st k F K H a w Q h z D A j m q;refine wpIn_block (ih d X B F0 ro yl n Y t f G v st _ F K H a w _ h z D A j m ?_);intro e o I w' C p J;cases e with
  |normal=>exact q _ o I w' C p J
  |ret=>exact q _ o I w' C p J
  |exit i=>
   simp only[I3.out,Exit.inBlock];simp only at C;by_cases hi:i=id
   ·rw[if_pos hi]at C ⊢;exact q .normal o I w' C p J
   ·rw[if_neg hi]at C ⊢;exact q (.exit i) o I w' C p J
 |loop c ih=>
  intro d X B F0 ro yl n Y t f G v st k F K H a w Q h z D A j m q;simp only[Gq]at h;obtain⟨K0,DG,hK0,U,XN,a4O⟩:=Im t (sT (K9 c)) j;have Vh:∀r,(sJ (sT (K9 c)) st).nx<=r->H r=none:=fun r hr=>m r (by rw[<-a4O];exact hr)
  obtain⟨H',u,E⟩:=Dv t (sT (K9 c)) DG Vh;have p:(canon (sT (K9 c)) (sJ (sT (K9 c)) st)).n=n:=XN.trans z;generalize shapeOf (canon (sT (K9 c)) (sJ (sT (K9 c)) st))=S at h;unfold Z' at h;split at h
  ·rename_i x0 hx0;obtain⟨N,h⟩:=h;have e0:=Shape.W8 hx0;rw[<-e0]at u E p;have hQ0:∀e o I w',k e o->o.n=n->sN X B F0 F n K0 w o I w'->Q e.out I w':=fun e o I w' C p J=>q e o I w' C p (J.trans (fun _ h=>h) hK0 (U.less D) (.refl F0 w))
   have hy0:=fun l e=>hK0.y l (A l e)
   clear j m z hx0 e0 DG Vh XN a4O q A U hK0;revert hQ0 hy0 u;generalize K0=K0';intro u q A;refine wpIn_loop_rounds N ?_
   induction N generalizing x0 F K0' H' a w with
   |zero=>exact absurd h id
   |succ N ihN=>
    rw[roundsIn_succ];refine ih d X B F0 ro yl n Y t f G v (S.enc x0) _ F K0' H' a w _ h p D A u E ?_;intro e o I w' C RY J;cases e with
    |normal=>
     obtain⟨⟨F1,K1,H1,M,V,hK,Z,O⟩,L⟩:=J;obtain⟨K2,V,FV,Vi,R,a8R⟩:=Im t (sT (K9 c)) V;have Z:∀r,(sJ (sT (K9 c)) o).nx<=r->H1 r=none:=fun r hr=>Z r (by rw[<-a8R];exact hr)
     obtain⟨H2,iX,Iv⟩:=Dv t (sT (K9 c)) V Z;simp only at C;split at C
     ·rename_i y hy';have e2:=Shape.W8 hy';rw[<-e2]at iX Iv;have hn3:(S.enc y).n=n:=by rw[e2];exact R.trans RY
      have hK3:=hK.trans FV;have Vj:=O.trans (Vi.less (fun b hb=>M b (D b hb)))
      refine ihN F1 I w' (fun b hb=>M b (D b hb)) H2 y ?_ ?_ ?_ K2 ?_ (fun e sP a2 w2 sQ R pV=>q e sP a2 w2 sQ R (pV.trans M hK3 Vj L)) (fun l e=>hK3.y l (A l e))<;>assumption
     ·exact C.elim
    |exit id=>exact q _ o I w' C RY J
    |ret=>exact q _ o I w' C RY J
  ·exact h.elim
 |exit id=>
  intro d X B F0 ro yl n Y t f G v st k F K H a w Q h z D A j m q;exact wpIn_exit (q (.exit id) st a w h z (Y4 j m))
 |ret=>
  intro d X B F0 ro yl n Y t f G v st k F K H a w Q h z D A j m q;exact wpIn_ret (q .ret st a w h z (Y4 j m))
 |scope c ih=>
  intro d X B F0 ro yl n Y t f G v st k F K H a w Q h z D A j m q;refine aL (ih d X B F0 ro yl n Y t f G v st k F K H a w _ h z D A j m ?_);intro e o I w' C p J;have:=q e o I w' C p J;cases e<;>exact this
 |label l=>
  intro d X B F0 ro yl n Y t f G v st k F K H a w Q h z D A j m q;exact wpIn_label (q .normal st a w h z (Y4 j m))
 |rangeFunc g ps assign body iha ihb=>
  intro d X B F0 ro yl n Y t f G v st k F K H a w Q h z D A j m q;simp only[Gq]at h;simp only[Code.j3,Bool.and_eq_true]at d;obtain⟨H',u,E⟩:=Dv t (sT (1000+K9 body)) j m;rcases v with v|v
  ·refine KO Iw t f v (ps:=ps) (Ja:=fun s k'=>Gq Γ P sT IT assign .rd s k') (Jb:=fun s k'=>Gq Γ P sT IT body .rd s k') ?_ ?_ (canon (sT (1000+K9 body)) st) k F K H' a w Q h z D A u E q
   ·intro X F0 l t f;exact iha d.1 X none F0 (some l) none n .rd t f ⟨trivial,fun h=>by cases h⟩ (.inl (fun _=>by simp))
   ·intro X F0 l t f;exact ihb d.2 X none F0 (some l) none n .rd t f ⟨trivial,fun h=>by cases h⟩ (.inl (fun _=>by simp))
  ·subst v;exact(KQ h).elim
 |_=>intro d X B F0 ro yl n Y t f G v st k F K H a w Q h;exact absurd h id
end
end Go.Abs
end
section
namespace Go.Abs
section
variable {P:Program} {F:Nat->Prop} {K:j0} {H HR:Nat->Option Hd} {w:World} {m:Mm}
structure uO(F:Nat->Prop)(K:j0)(H:Nat->Option Hd)(w:World)(m:Mm)(HR:Nat->Option Hd)(cs:List c7):Prop where
 ok:J0 F K w
 mem:j8 F K H w m
 res:j8 F K HR w (E8 (fun _=>none) 0 cs)
 none:∀r,cs.length<=r->HR r=none
 apart:∀r c hd r' c' W3 b,m r=some (c,.own)->H r=some hd->E8 (fun _=>Option.none) 0 cs r'=some (c',.own)->HR r'=some W3->hd.base=some b->W3.base≠some b
theorem jC.cells{α:Type}{K K':j0}{a:Nat}{R c:α->List Value->Prop}{l:List α}{base:Option Addr}
  (d:∀b cs,K.cells b=some cs->K'.cells b=some cs)(e:∀x cs,R x cs->c x cs)(h:jC K a R l base):jC K' a c l base:=by
 rcases h with h|⟨b,off,arr,f,g,j⟩
 ·exact .inl h
 ·exact .inr ⟨b,off,arr,f,d _ _ g,fun i hi=>e _ _ (j i hi)⟩
theorem s9.cells{K K':j0}(c:∀b cs,K.cells b=some cs->K'.cells b=some cs):∀ (t:Ty) (x:t.den) (cs:List Value),s9 K t x cs->s9 K' t x cs
 |.int _,_,_,h=>h
 |.bool,_,_,h=>h
 |.slice e,l,cs,h=>by
  obtain⟨base,cap,d,f,g⟩:=h;exact⟨base,cap,d,f,g.cells c (s9.cells c e)⟩
 |.pair a b,x,cs,h=>by
  obtain⟨i,j,d,f,g⟩:=h;exact⟨i,j,d,s9.cells c a _ _ f,s9.cells c b _ _ g⟩
mutual
theorem GG{K K':j0}{H H':Nat->Option Hd}(j:∀b cs,K.cells b=some cs->K'.cells b=some cs):∀ (a:a7) (v:Value),a.aH=true->c8 K H a v->c8 K' H' a v
 |.bool _,_,_,h=>by simpa [c8]using h
 |.int _ _,_,_,h=>by simpa [c8]using h
 |.W2,_,_,h=>by simpa [c8]using h
 |.R9 _,_,_,h=>by simpa [c8]using h
 |.U0,_,_,h=>by simpa [c8]using h
 |.P5 _ _ _,_,_,h=>by
  simp only[c8]at h ⊢;obtain⟨base,cap,e,g,k,l⟩:=h;exact⟨base,cap,e,g,k,l.cells j (s9.cells j _)⟩
 |.V5 _ _,_,_,h=>by
  simp only[c8]at h ⊢;obtain⟨cs,e,g,k⟩:=h;exact⟨cs,e,g,fun i hi=>s9.cells j _ _ _ (k i hi)⟩
 |.L8 cs,_,d,h=>by
  simp only[c8]at h ⊢;obtain⟨b,off,arr,e,g,k⟩:=h;exact⟨b,off,arr,e,j _ _ g,dK j cs _ (by simpa [a7.aH]using d) k⟩
 |.agg cs,_,d,h=>by
  simp only[c8]at h ⊢;obtain⟨c,e,g⟩:=h;exact⟨c,e,dK j cs _ (by simpa [a7.aH]using d) g⟩
 |.I9 cs,_,d,h=>by
  simp only[c8]at h ⊢;obtain⟨c,e,g⟩:=h;exact⟨c,e,dK j cs _ (by simpa [a7.aH]using d) g⟩
 |.fn f a b,_,d,h=>by
  simp only[c8]at h ⊢;simp only[a7.aH,Bool.and_eq_true]at d;obtain⟨n,o,e,g,k⟩:=h;exact⟨n,o,e,dK j a _ d.1 g,dK j b _ d.2 k⟩
 |.R3,_,d,_=>by simp[a7.aH]at d
 |.B6 _ _,_,d,_=>by simp[a7.aH]at d
 |.sub _ _ _ _,_,d,_=>by simp[a7.aH]at d
 |.ptr _ _,_,d,_=>by simp[a7.aH]at d
 |.P9 _ _ _,_,d,_=>by simp[a7.aH]at d
 |.O2 _,_,d,_=>by simp[a7.aH]at d
 |.z8 _,_,d,_=>by simp[a7.aH]at d
 |.J2,_,d,_=>by simp[a7.aH]at d
 |.z6 _,_,d,_=>by simp[a7.aH]at d
theorem dK{K K':j0}{H H':Nat->Option Hd}(g:∀b cs,K.cells b=some cs->K'.cells b=some cs):∀ (d:List a7) (vs:List Value),eZ d=true->c9 K H d vs->c9 K' H' d vs
 |[],_,_,h=>by simpa [c9]using h
 |a::d,vs,f,h=>by
  simp only[eZ,Bool.and_eq_true]at f;simp only[c9]at h ⊢;obtain⟨c,e,i,j,k⟩:=h;exact⟨c,e,i,GG g a c f.1 j,dK g d e f.2 k⟩
end
theorem rH(m:Mm)(n:Nat)(cs:List c7)(c:c7):E8 m n (cs++ [c])=S0 (E8 m n cs) (n+cs.length) (c,.own):=by
 funext r;rw[u6];by_cases e:r=n+cs.length
 ·subst e;rw[j6,dif_pos (by simp)]
  simp
 ·rw[n6 _ _ _ _ e,u6];by_cases h:n<=r/\r<n+cs.length
  ·rw[dif_pos h,dif_pos (by simp;omega)]
   rw[List.getElem_append_left]
  ·rw[dif_neg h,dif_neg (by simp;omega)]
theorem Oo{P5:Bool}{X:List Nat}(hL:bY (aK X H) HR){v v':a7}{d cs:List c7}{u:List (Nat×p8)}{x:Value}(h:Nk P5 m X v d.length=some (v',cs,u))(E:c8 K H v x)(hI:uO F K H w m HR d):
  ∃K' i,K.le K'/\bY HR i/\Fix F K K'/\uO F K' H w (y7 m u) i (d++cs)/\c8 K' i v' x:=by
 have hn:HR d.length=none:=hI.none _ (Nat.le_refl _);have o:∀n N,view m 6 v=some (N,n)->v'=N.dW X->cs=[]->u=J9 n->
   ∃K' i,K.le K'/\bY HR i/\Fix F K K'/\uO F K' H w (y7 m u) i (d++cs)/\c8 K' i v' x:=by
  intro n N j q s z;subst q;subst s;subst z;have R:∀r f,(r,f)∈n->f≠ .dead/\∃c,m r=some (c,f)/\c.isCells=true:=(dD m 6).1 _ _ _ j;have hB:∀r f hd b cs e fz,(r,f)∈n->H r=some hd->hd.base=some b->w.heap[b]? =some (.cells cs e fz)->(K.plus w (R8 H n)).cells b=some cs:=
   fun r f hd b cs e fz k G O h4=>gT (dC k G O) hI.ok.y6 h4
  have Y:=(kY hI.mem (K.M9 w (R8 H n)) H (.refl H) 6).1 _ x _ _ j hB E;obtain⟨Z,lE⟩:=hI.ok.frozen hI.mem n R;obtain⟨hmF,_⟩:=hI.mem.freeze hI.ok.y6 n R;refine⟨K.plus w (R8 H n),HR,K.M9 w _,.refl HR,lE,⟨Z,hmF,?_,by simpa using hI.none,?_⟩,?_⟩
  ·rw[List.append_nil];refine hI.res.Ry (K.M9 w _) (fun r c hd b k G O=>?_)
   obtain⟨_,g1,g2,_⟩:=hI.res.own r c hd b k G O;refine⟨?_,g2⟩;cases S:R8 H n b with
   |false=>rw[kX S];exact g1
   |true=>
    exfalso;obtain⟨J,f2,p,I,L,q3⟩:=mL S;obtain⟨q4,V,q5,_⟩:=R J f2 I;cases f2 with
    |dead=>exact q4 rfl
    |own=>exact hI.apart J V p r c hd b q5 L k G q3 O
    |aQ=>
     obtain⟨cs,q6⟩:=hI.mem.aQ J V p b q5 L q3;rw[g1]at q6;cases q6
  ·intro r c hd r' c' A b k G O h4 h5;rw[List.append_nil]at O;rw[fD]at k;cases T:m r with
   |none=>rw[T]at k;cases k
   |some y=>
    obtain⟨c0,g⟩:=y;rw[T]at k;simp only[Option.some.injEq,Prod.mk.injEq]at k;obtain⟨rfl,k⟩:=k;split at k
    ·cases k
    ·subst k;exact hI.apart r c0 hd r' c' A b T G O h4 h5
  ·exact c8.mono (.refl _) hL _ _ (BP (l:=X) (H:=H) N x Y)
 have B:∀ (r:Nat) (c:c7) (a:a7),m r=some (c,.own)->(∀ (i:Nat->Option Hd) (hd:Hd),H r=some hd->i d.length=some hd->c8 K i a x)->(∃hd,H r=some hd)->c.plain=true->v'=a->cs=[c]->u=[(r,.dead)]->
   ∃K' i,K.le K'/\bY HR i/\Fix F K K'/\uO F K' H w (y7 m u) i (d++cs)/\c8 K' i v' x:=by
  intro r c a C ha RJ U q s z;subst q;subst s;subst z;obtain⟨hd,k⟩:=RJ;refine⟨K,S0 HR d.length hd,.refl K,L9 hn,.refl F K,⟨hI.ok,?_,?_,fun r' D=>?_,?_⟩,?_⟩
  ·have e:y7 m [(r,p8.dead)]=S0 m r (c,.dead):=by
    funext r';simp only[y7];rw[W0];by_cases e:r'=r
    ·subst e;simp[S0,C]
    ·simp[S0,e]
   rw[e];exact hI.mem.flag r _ _ .dead C (by simp) (fun e=>by cases e)
  ·rw[rH,Nat.zero_add];refine hI.res.new d.length hn c hd (kG U (.refl K) (hI.mem.cont r _ _ hd C (by simp) k)) (fun b S=>?_)
   obtain⟨g1,g2,g3,g4⟩:=hI.mem.own r _ hd b C k S;exact⟨g1,g2,g3,g4,fun r' c' A I L=>hI.apart r _ hd r' c' A b C k I L S⟩
  ·have D:d.length+1<=r':=by simpa using D
   rw[n6 _ _ _ _ (by omega)]
   exact hI.none r' (by omega)
  ·intro r1 c1 M J V p b I L q3 q4 q5 q6;have Gv:r1≠r:=by
    intro e;subst e;have:y7 m [(r1,p8.dead)] r1=some (c,.dead):=by
     simp only[y7];rw[W0];simp[C]
    rw[this]at I;cases I
   have q1':m r1=some (c1,.own):=by
    have:y7 m [(r,p8.dead)] r1=m r1:=mT _ _ (by simpa using Gv)
    rw[this]at I;exact I
   rw[rH,Nat.zero_add]at q3;by_cases e:J=d.length
   ·subst e;rw[j6]at q3 q4;cases q3;cases q4;exact Gv (hI.mem.inj r1 r _ _ M hd b q1' C L k q5 q6)
   ·rw[n6 _ _ _ _ e]at q3 q4;exact hI.apart r1 c1 M J V p b q1' L q3 q4 q5 q6
  ·exact ha _ hd k (j6 _ _ _)
 unfold Nk at h;split at h
 ·simp only[Option.some.injEq,Prod.mk.injEq]at h;obtain⟨rfl,rfl,rfl⟩:=h;refine⟨K,HR,.refl K,.refl HR,.refl F K,by simpa [y7]using hI,?_⟩
  exact c8.mono (.refl _) hL _ _ (BP (l:=X) (H:=H) v x E)
 rename_i hno;clear hno;split at h
 ·rename_i r f;split at h
  ·rename_i t l C;simp only[Option.some.injEq,Prod.mk.injEq]at h;obtain⟨q,s,z⟩:=h;simp only[c8]at E;obtain⟨hd,k,G,O⟩:=E;refine B r _ (.B6 d.length false) C (fun i A k1 k2=>?_) ⟨hd,k⟩ rfl q.symm s.symm z.symm
   rw[k]at k1;cases k1;simp only[c8];exact⟨hd,k2,G,by simp⟩
  ·cases h
 ·rename_i r;split at h
  ·rename_i mk l clk C;simp only[Option.some.injEq,Prod.mk.injEq]at h;obtain⟨q,s,z⟩:=h;simp only[c8]at E;obtain⟨hd,b,k,G⟩:=E;refine B r _ (.z8 d.length) C (fun i A k1 k2=>?_) ⟨hd,k⟩ rfl q.symm s.symm z.symm
   rw[k]at k1;cases k1;simp only[c8];exact⟨hd,b,k2,G⟩
  ·cases h
 ·rename_i t;simp only[Option.some.injEq,Prod.mk.injEq]at h;obtain⟨rfl,rfl,rfl⟩:=h;simp only[c8]at E;subst E
  let hd:Hd:=⟨none,t.size,0,0⟩
  refine⟨K,S0 HR d.length hd,.refl K,L9 hn,.refl F K,⟨hI.ok,hI.mem,?_,fun r' D=>?_,?_⟩,?_⟩
  ·rw[rH,Nat.zero_add];exact hI.res.new d.length hn (.sl t []) hd ⟨rfl,rfl,⟨Nat.le_refl _,Nat.zero_le _⟩,.inl ⟨rfl,rfl⟩⟩ (fun b S=>by cases S)
  ·have D:d.length+1<=r':=by simpa using D
   rw[n6 _ _ _ _ (by omega)]
   exact hI.none r' (by omega)
  ·intro r1 c1 M J V p b I L q3 q4 q5 q6;rw[rH,Nat.zero_add]at q3;by_cases e:J=d.length
   ·subst e;rw[j6]at q4;cases q4;cases q6
   ·rw[n6 _ _ _ _ e]at q3 q4;exact hI.apart r1 c1 M J V p b I L q3 q4 q5 q6
  ·simp only[c8];exact⟨hd,j6 _ _ _,rfl,by simp⟩
 ·rename_i t l;simp only[Option.some.injEq,Prod.mk.injEq]at h;obtain⟨rfl,rfl,rfl⟩:=h;exact⟨K,HR,.refl K,.refl HR,.refl F K,by simpa [y7]using hI,by simpa only[c8]using E⟩
 ·rename_i cells;split at h
  ·rename_i U;simp only[Option.some.injEq,Prod.mk.injEq]at h;obtain⟨rfl,rfl,rfl⟩:=h;exact⟨K,HR,.refl K,.refl HR,.refl F K,by simpa [y7]using hI,GG (fun _ _ h=>h) (.agg cells) x (by simpa [a7.aH]using U) E⟩
  ·split at h
   ·rename_i N n j;simp only[Option.some.injEq,Prod.mk.injEq]at h;obtain⟨q,s,z⟩:=h;exact o n N j q.symm s.symm z.symm
   ·cases h
 ·split at h
  ·rename_i N n j;simp only[Option.some.injEq,Prod.mk.injEq]at h;obtain⟨q,s,z⟩:=h;exact o n N j q.symm s.symm z.symm
  ·cases h
theorem DH{e:Bool}{o:List Nat}:∀ (vs b:List a7) (a cs:List c7) (xs:List Value) (K:j0) (m:Mm) (HR:Nat->Option Hd),yY e o m vs a.length=some (b,cs)->bY (aK o H) HR->c9 K H vs xs->uO F K H w m HR a->
  ∃K' c s,K.le K'/\bY HR c/\Fix F K K'/\uO F K' H w s c (a++cs)/\c9 K' c b xs
 |[],b,a,cs,xs,K,m,HR,h,f,g,hI=>by
  simp only[yY,Option.some.injEq,Prod.mk.injEq]at h;obtain⟨rfl,rfl⟩:=h;have:xs=[]:=c9.H8.1 g;subst this;exact⟨K,HR,m,.refl K,.refl HR,.refl F K,by rw[List.append_nil];exact hI,.nil⟩
 |v::vs,b,a,cs,xs,K,m,HR,h,f,g,hI=>by
  obtain⟨x,i,rfl,t,u⟩:=g.inv;simp only[yY]at h;split at h
  ·rename_i L y M z;split at h
   ·rename_i j k d;simp only[Option.some.injEq,Prod.mk.injEq]at h;obtain⟨rfl,rfl⟩:=h;obtain⟨A,l,a1,p,B,C,D⟩:=Oo f z t hI;rw[<-List.length_append]at d;obtain⟨E,n,m2,q,r,G,I,J⟩:=DH vs j (a++y) k i A _ l d (f.trans p) (c9.mono a1 (.refl H) _ _ u) C;refine⟨E,n,m2,a1.trans q,p.trans r,B.trans G,by rw[<-List.append_assoc];exact I,.cons (c8.mono q r _ _ D) J⟩
   ·cases h
  ·cases h
def Ql(P:Program)(m:Mm)(c:List (Nat×a7))(r:ResultVar):Prop:=
 ∀a t,r=.cell a t->∀b ty l f,y9 c a=.O2 b->m b=some (.sl ty l,f)->l.length*ty.size=j7 P t
theorem Z9{P:Program}{m:Mm}{s:List (Nat×a7)}:∀ (c:List ResultVar) (q:Prop),jE P m s c q->q/\∀r∈c,Ql P m s r
 |[],q,h=>⟨h,fun _ h=>by cases h⟩
 |r::c,q,h=>by
  unfold jE at h;split at h
  ·obtain⟨d,g⟩:=Z9 c q h;refine⟨d,fun o b=>?_⟩
   rcases List.mem_cons.1 b with rfl|b
   ·intro a t e;cases e
   ·exact g _ b
  ·split at h
   ·rename_i a t B n;split at h
    ·rename_i ty l f p;obtain⟨A,h⟩:=h;obtain⟨d,g⟩:=Z9 c q h;refine⟨d,fun o b=>?_⟩
     rcases List.mem_cons.1 b with rfl|b
     ·intro u v e x j y z i k;cases e;rw[n]at i;cases i;rw[p]at k;cases k;exact A
     ·exact g _ b
    ·rename_i p;obtain⟨d,g⟩:=Z9 c q h;refine⟨d,fun o b=>?_⟩
     rcases List.mem_cons.1 b with rfl|b
     ·intro u v e x j y z i k;cases e;rw[n]at i;cases i;exact absurd k (p _ _ _)
     ·exact g _ b
   ·rename_i a t n;obtain⟨d,g⟩:=Z9 c q h;refine⟨d,fun o b=>?_⟩
    rcases List.mem_cons.1 b with rfl|b
    ·intro u v e x j y z i k;cases e;exact absurd i (n _)
    ·exact g _ b
theorem Oq{X:iW}{B:Option Nat}{n:Nat}{T:Nat->a7}{a:Act}(d:St X B F n K H T m a w){r:ResultVar}{v:a7}{I:List (Nat×a7)}(R:T=y9 I)(J:Ql P m I r)(h:Yd P m I r=some v):
  ∃x,(match r with
   |.tmp t=>(pure (a.tmps.getD t undef):Sem Value)
   |.cell c t=>do loadVar t (<-asAddr (a.tmps.getD c undef))).run P w=.ok x w/\c8 K H v x:=by
 subst R;cases r with
 |tmp t=>
  simp only[Yd,Option.some.injEq]at h;subst h;exact⟨_,rfl,d.tmp t⟩
 |cell c t=>
  simp only[Yd]at h;have q:=d.tmp c;split at h
  ·rename_i r off D;rw[D]at q;simp only[c8]at q;obtain⟨hd,b,L,E,e⟩:=q;split at h
   ·rename_i cells f g;split at h
    ·cases h
    ·rename_i k;obtain⟨S,cs,u,y,A,g2,s⟩:=d.mem.cont r _ f hd g k L;rw[E]at A;cases A;have C:=c9.drop off s;have M:(cells.drop off).length=cs.size- off:=by
      have:=c9.length s;simp at this ⊢;omega
     obtain⟨z,U,V⟩:=mM (P:=P) g2 (off:=off) (by rw[M,CN];exact C) h
     refine⟨z,?_,V⟩;simp only[e,asAddr,Sem.run_bind,Sem.run_pure,Result.andThen_ok];exact U
   ·cases h
  ·rename_i r D;rw[D]at q;simp only[c8]at q;obtain⟨hd,b,L,E,_,e⟩:=q;split at h
   ·rename_i ty l f n et g N;split at h
    ·cases h
    ·rename_i k;cases h;have j:=J c t rfl r ty l f D g;obtain⟨c1,c2,c3,G⟩:=d.mem.cont r _ f hd g k L;have o:∃cs u y,w.heap[b]? =some (.cells cs u y)/\hd.cap*ty.size<=cs.size/\bX K ty l cs 0:=by
      rcases G with⟨G,_⟩|⟨S,cs,u,y,A,g2,s,C⟩
      ·rw[E]at G;cases G
      ·rw[E]at A;cases A;exact⟨cs,u,y,g2,s,C⟩
     obtain⟨cs,u,y,g2,s,C⟩:=o;have Y:l.length*ty.size<=cs.size:=Nat.le_trans (Nat.mul_le_mul_right _ (by omega)) s
     have O:Q1 P t=true:=by simp[Q1,N]
     have p:=run_loadCells P g2 0 (j7 P t) 0 #[] (by omega)
     refine⟨.agg (u0 cs 0 (j7 P t)).toArray,?_,?_⟩
     ·simp only[e,asAddr,Sem.run_bind,Sem.run_pure,Result.andThen_ok,loadVar,W7 N,O,if_true,qS N,loadCells,p];simp
     ·simp only[c8];refine⟨_,rfl,?_,?_⟩
      ·rw[<-j];simp[u0];omega
      ·intro i hi;have:=C i hi;have Z:u0 (u0 cs 0 (j7 P t)).toArray (0+i*ty.size) ty.size=u0 cs (0+i*ty.size) ty.size:=by
        have:u0 (u0 cs 0 (j7 P t)).toArray (0+i*ty.size) ty.size=((u0 cs 0 (j7 P t)).drop (0+i*ty.size)).take ty.size:=by
         unfold u0;simp
        rw[this,yQ]
        ·simp
        ·rw[<-j];have:(i+1)*ty.size<=l.length*ty.size:=Nat.mul_le_mul_right _ hi;rw[Nat.add_mul]at this;omega
       rw[Z];exact this
   ·cases h
  ·cases h
theorem DI{X:iW}{B:Option Nat}{n:Nat}{T:Nat->a7}{a:Act}(b:St X B F n K H T m a w){f:List (Nat×a7)}(i:T=y9 f):∀ (d:List ResultVar) (vs:List a7),(∀r∈d,Ql P m f r)->uC P m f d=some vs->
  ∃xs,(d.mapM fun(r:ResultVar)=>(match r with
   |.tmp t=>(pure (a.tmps.getD t undef):Sem Value)
   |.cell c t=>do loadVar t (<-asAddr (a.tmps.getD c undef)))).run P w=.ok xs w/\c9 K H vs xs
 |[],vs,_,h=>by
  simp only[uC,Option.some.injEq]at h;subst h;exact⟨[],rfl,.nil⟩
 |r::d,vs,e,h=>by
  simp only[uC]at h;split at h
  ·rename_i v g j k;simp only[Option.some.injEq]at h;subst h;obtain⟨x,a1,l⟩:=Oq (P:=P) b i (e _ (List.mem_cons_self ..)) j;obtain⟨xs,o,p⟩:=DI b i d g (fun r q=>e r (List.mem_cons_of_mem _ q)) k
   refine⟨x::xs,?_,.cons l p⟩;rw[List.mapM_cons,Sem.run_bind,a1];simp only[Result.andThen_ok,Sem.run_bind,o,Sem.run_pure]
  ·cases h
theorem AT{X:iW}{B:Option Nat}{n:Nat}{T:Nat->a7}{a:Act}(c:St X B F n K H T m a w){d:List (Nat×a7)}(f:T=y9 d){b:Func}{vs:List a7}(e:∀r∈b.results.toList,Ql P m d r)(h:uC P m d b.results.toList=some vs):
  ∃xs,(results b a.tmps).run P w=.ok (if h:xs.length=1 then xs[0]else .tuple xs.toArray) w/\c9 K H vs xs:=by
 obtain⟨xs,g,i⟩:=DI (P:=P) c f b.results.toList vs e h;refine⟨xs,?_,i⟩;unfold results;rw[Array.mapM_eq_mapM_toList];generalize j:List.mapM (m:=Sem) _ b.results.toList=z;have k:z.run P w=.ok xs w:=by rw[<-j];exact g
 simp[Sem.run_map,k]
end
theorem zL:∀ (cs:List c7) (k r:Nat),n9 (BA cs k) r=if h:k<=r/\r<k+cs.length then some (cs[r- k]'(by omega),.own)else none
 |[],k,r=>by simp[BA,n9]
 |c::cs,k,r=>by
  simp only[BA,n9];by_cases e:k=r
  ·subst e;simp
  ·rw[if_neg e,zL cs];by_cases h:k+1<=r/\r<k+1+cs.length
   ·rw[dif_pos h,dif_pos (by simp;omega)]
    have a:r- k=(r- (k+1))+1:=by omega
    simp only[a,List.getElem_cons_succ]
   ·rw[dif_neg h,dif_neg (by simp;omega)]
theorem Qm(cs:List c7):n9 (BA cs 0)=E8 (fun _=>none) 0 cs:=by
 funext r;rw[zL,u6]
theorem DJ:∀ (a:List a7) (k t:Nat),y9 (CA a k) t=if k<=t then(a[t- k]?).getD .R3 else .R3
 |[],k,t=>by simp[CA,y9]
 |v::vs,k,t=>by
  simp only[CA,y9];by_cases e:k=t
  ·subst e;simp
  ·rw[if_neg e,DJ vs];by_cases h:k+1<=t
   ·have b:t- k=(t- (k+1))+1:=by omega
    rw[if_pos h,if_pos (by omega),b,List.getElem?_cons_succ]
   ·rw[if_neg h,if_neg (by omega)]
def shut(a:List Nat)(w:World):World:=a.foldl (fun w D=>w.putObj D (.deferred none)) w
theorem jL{F:Fence}{n:Nat}{P:Program}{d:Func}{a:Array Value}{R:Ending->World->Prop}:∀ (b:List Nat) (w:World),b.Nodup->(∀D∈b,w.heap[D]? =some (.deferred (some [])))->
  (∃v,(results d a).run P (shut b w)=.ok v (shut b w)/\R (.returned v) (shut b w))->LeavesInM F n P d a R (b.map mark) .returning w
 |[],w,_,_,h=>h
 |D::b,w,g,f,h=>by
  obtain⟨i,j⟩:=List.nodup_cons.1 g;have hd:=f D (by simp)
  refine⟨by simp,.inl ⟨D,_,rfl,run_takeDeferred hd,jL b _ j (fun D' c=>?_) h⟩⟩
  rw[L5 hd,if_neg (fun(e:D'=D)=>i (e▸c))]
  exact f D' (List.mem_cons_of_mem _ c)
theorem BR{b F:Nat->Prop}{K:j0}{H:Nat->Option Hd}{m:Mm}:∀ (a:List Nat) (w:World),a.Nodup->(∀D∈a,b D/\¬F D/\w.heap[D]? =some (.deferred (some [])))->J0 b K w->j8 b K H w m->
  J0 b K (shut a w)/\j8 b K H (shut a w) m/\Kept F w (shut a w)
 |[],w,_,_,f,i=>⟨f,i,.refl F w⟩
 |D::a,w,l,j,f,i=>by
  obtain⟨n,o⟩:=List.nodup_cons.1 l;obtain⟨q,r,g⟩:=j D (by simp)
  have c:K.inv D=none:=by
   cases hi:K.inv D with
   |none=>rfl
   |some p=>exact absurd q (f.inv _ _ hi)
  have k:∀cs e fz,Obj.deferred (some [])≠ .cells cs e fz:=fun _ _ _ h=>by cases h
  obtain⟨s,g2,t⟩:=BR (F:=F) a (w.putObj D (.deferred none)) o (fun D' d=>by
   obtain⟨u,v,k3⟩:=j D' (List.mem_cons_of_mem _ d);refine⟨u,v,?_⟩;rw[L5 g,if_neg (fun(e:D'=D)=>n (e▸d))]
   exact k3) (Db f g k c) (BQ i g k (fun _ _ h=>by cases h) (fun _ _ _ _ h=>by cases h))
  exact⟨s,g2,(eC g r).trans t⟩
theorem pY{K:j0}{H:Nat->Option Hd}{a:List a7}{vs:List Value}(b:c9 K H a vs)(k t:Nat):c8 K H (y9 (CA a 0) t) ((vs.toArray++Array.replicate k undef).getD t undef):=by
 rw[DJ,if_pos (Nat.zero_le _),Nat.sub_zero];cases f:a[t]? with
 |none=>simp[c8]
 |some v=>
  obtain⟨x,d,g⟩:=c9.get t v b f;simp only[Option.getD_some];have c:t<vs.length:=Z7 d;rw[List.getElem?_eq_getElem c]at d;simp only[Option.some.injEq]at d;have e:(vs.toArray++Array.replicate k undef).getD t undef=x:=by
   rw[Array.getD_eq_getD_getElem?,Array.getElem?_append_left (by simpa using c)]
   simp[c,d]
  rw[e];exact g
theorem KR{Γ:Env}{P:Program}(o7:P.follows .mixedOrders=true)(I:Good P Γ)(kt:FuncId->Nat->List Nat):bK P (PU Γ P kt Gr):=by
 intro h V args s0 k X F0 F K H w vs l R a J i L M B N C d O j;unfold PU at a;split at a
 ·rename_i z p;split at a
  ·rename_i c G;split at a
   ·rename_i hh;obtain⟨D,q,n⟩:=hh;refine⟨cN p G n,?_⟩;have r:=c9.length d;refine callsIn_of_wp_marks p G (eU none _) ?_;refine zK o7 I Vd c D X none F0 none (some l) _ (.it h) J (fun l h=>by cases h) ⟨⟨rfl,rfl,l,rfl,i⟩,fun _=>rfl⟩ (.inr rfl) _ _ F K H _ w _ a rfl L (fun Y e=>by cases e;exact M) ?_ C ?_
    ·refine⟨B,N,?_,rfl,fun t=>pY d _ t,O⟩
     show max args.length z.ntmps<=_;simp[r];omega
    ·have s:∀b g w',k b->sN X none F0 F (max args.length z.ntmps) K w b g w'->LeavesInM (Wd none) 0 P z g.tmps R g.defers .returning w':=by
      intro b g w' u A;obtain⟨⟨S,K',H',E,f,T,v,y⟩,o⟩:=A;have hd:g.defers=[]:=f.defers;rw[hd];refine⟨.tuple #[],?_,j b S K' H' w' _ u E f.ok f.mem v f.x T y o⟩;have:z.results= #[]:=Array.eq_empty_of_size_eq_zero q;simp[results,this]
     intro e b g w' u U A;cases e with
     |normal=>exact s b g w' u A
     |ret=>exact s b g w' u A
     |exit id=>exact u.elim
   ·exact a.elim
  ·exact a.elim
 ·exact a.elim
def xB(V:List Value):Ctx:=fun _ K H a _ _=>c9 K H a V
theorem Ot(V:List Value):(xB V).Ok:=
 ⟨fun _ _=>⟨fun _ _ _ _ _ _ _ _ h _ a b _=>c9.mono a b _ _ h⟩,fun _ _ _ _ _ _ _ h=>O8 _ _ h⟩
theorem nA{K:j0}{H:Nat->Option Hd}:∀ (b:List a7) (vs:List Value),c9 K H b vs->∃V,c9 K H (X6 b) V
 |[],_,_=>⟨[],.nil⟩
 |a::b,vs,h=>by
  obtain⟨x,xs,rfl,d,e⟩:=h.inv;obtain⟨V,c⟩:=nA b xs e;cases a
  case B6 r f=>exact⟨x::V,.cons d c⟩
  case z8 r=>exact⟨x::V,.cons d c⟩
  all_goals exact⟨V,c⟩
theorem tH:∀ (d:List a7) (i:Nat) (cs:List c7),kS d i cs=true->d.length=cs.length/\∀ (q:Nat) (a:a7) (c:c7),d[q]? =some a->cs[q]? =some c->c.plain=true/\((∃f t l,a=.B6 (i+q) f/\c=.sl t l)\/∃mk l k,a=.z8 (i+q)/\c=.mp mk l k)
 |[],i,[],_=>⟨rfl,fun q a c h=>by simp at h⟩
 |[],_,_::_,h=>by simp[kS]at h
 |_::_,_,[],h=>by simp[kS]at h
 |v::d,i,o::cs,h=>by
  simp only[kS,Bool.and_eq_true]at h;obtain⟨j,n⟩:=tH d (i+1) cs h.2;refine⟨by simp[j],fun q a c e g=>?_⟩
  cases q with
  |zero=>
   simp only[List.getElem?_cons_zero,Option.some.injEq]at e g;subst e;subst g;have b:=h.1;split at b
   ·simp only[decide_eq_true_eq]at b;exact⟨rfl,.inl ⟨_,_,_,by rw[b];rfl,rfl⟩⟩
   ·simp only[decide_eq_true_eq]at b;exact⟨rfl,.inr ⟨_,_,_,by rw[b];rfl,rfl⟩⟩
   ·cases b
  |succ q=>
   simp only[List.getElem?_cons_succ]at e g;have:=n q a c e g;rw[show i+1+q=i+(q+1)by omega]at this
   exact this
theorem oD{m:Mm}:∀ (f:List a7) (b:List c7) (i:List Nat) (e:List c7),bD m f b=some (i,e)->i.length=f.length/\e.length=f.length/\b.length=f.length/\
  ∀q,q<f.length->∃a j c,f[q]? =some a/\b[q]? =some j/\e[q]? =some c/\sZ a=some (i.getD q 0)/\m (i.getD q 0)=some (c,.own)/\sameKind j c=true
 |[],[],i,e,h=>by
  simp only[bD,Option.some.injEq,Prod.mk.injEq]at h;obtain⟨rfl,rfl⟩:=h;exact⟨rfl,rfl,rfl,fun q k=>by simp at k⟩
 |[],_::_,_,_,h=>by simp[bD]at h
 |_::_,[],_,_,h=>by simp[bD]at h
 |v::f,j::b,i,e,h=>by
  simp only[bD]at h;split at h
  ·rename_i r o;split at h
   ·rename_i c' p;split at h
    ·rename_i s;split at h
     ·rename_i l n g;simp only[Option.some.injEq,Prod.mk.injEq]at h;obtain⟨rfl,rfl⟩:=h;obtain⟨a1,t,u,x⟩:=oD f b l n g;refine⟨by simp[a1],by simp[t],by simp[u],fun q k=>?_⟩
      cases q with
      |zero=>exact⟨v,j,c',rfl,rfl,rfl,by simpa using o,by simpa using p,s⟩
      |succ q=>
       obtain⟨a,y,d,z,A,B,C,D,E⟩:=x q (by simpa using k)
       exact⟨a,y,d,by simpa using z,by simpa using A,by simpa using B,by simpa using C,by simpa using D,E⟩
     ·cases h
    ·cases h
   ·cases h
  ·cases h
theorem DK{c c':c7}(h:sameKind c c'=true):c'.plain=true:=by
 unfold sameKind at h;split at h
 ·rfl
 ·rfl
 ·cases h
theorem head_eq{K K':j0}{H H':Nat->Option Hd}{w w':World}{a y:a7}{v:Value}{c c':c7}{hd h:Hd}{r I:Nat}(z:sZ a=some r)(A:sZ y=some I)(B:c8 K H a v)(j:c8 K' H' y v)(J:H r=some hd)(L:H' I=some h)
  (g:sameKind c c'=true)(M:o8 K H w hd c)(N:o8 K' H' w' h c')(C:(∃r f t l,a=.B6 r f/\c=.sl t l)\/∃r mk l k,a=.z8 r/\c=.mp mk l k):h=hd:=by
 rcases C with⟨Y,f0,t,l,rfl,rfl⟩|⟨Y,mk,l,kk,rfl,rfl⟩
 ·cases c' with
  |sl t' Z=>
   simp only[sameKind,decide_eq_true_eq]at g;subst g;simp only[sZ,Option.some.injEq]at z;subst z;simp only[c8]at B;obtain⟨D,q,g2,_⟩:=B;rw[J]at q;cases q;cases y<;>simp only[sZ]at A<;>try cases A
   case B6.refl r1 f1=>
    simp only[c8]at j;obtain⟨n,p,i,_⟩:=j;rw[L]at p;cases p;rw[g2]at i;simp only[Value.slice.injEq]at i;obtain⟨E,O,R⟩:=i;obtain⟨s,_⟩:=M;obtain⟨u,_⟩:=N;obtain⟨G,z1,l1,c1⟩:=hd;obtain⟨b2,z2,l2,c2⟩:=h;simp only at s u E O R;have eb:G=b2:=by
     cases G<;>cases b2<;>simp at E<;>simp[E]
    rw[eb,s,u,O,R]
   case z8.refl r1=>
    simp only[c8]at j;obtain⟨n,b,p,i,k3⟩:=j;rw[g2]at k3;cases k3
  |box x=>simp[sameKind]at g
  |mp a b c=>simp[sameKind]at g
  |it a b c d=>simp[sameKind]at g
  |bx a b c d e=>simp[sameKind]at g
  |F8 o=>simp[sameKind]at g
  |any=>simp[sameKind]at g
 ·cases c' with
  |mp mk' Z kk'=>
   simp only[sZ,Option.some.injEq]at z;subst z;simp only[c8]at B;obtain⟨D,b,q,g2,S⟩:=B;rw[J]at q;cases q;cases y<;>simp only[sZ]at A<;>try cases A
   case B6.refl=>
    simp only[c8]at j;obtain⟨n,p,i,_⟩:=j;rw[S]at i;cases i
   case z8.refl=>
    simp only[c8]at j;obtain⟨n,b2,p,i,k3⟩:=j;rw[L]at p;cases p;rw[S]at k3;cases k3;obtain⟨s,u,T,_⟩:=M;obtain⟨U,V,X,_⟩:=N;obtain⟨G,z1,l1,c1⟩:=hd;obtain⟨b2,z2,l2,c2⟩:=h;simp only at s u T U V X g2 i;rw[g2,i,s,u,T,U,V,X]
  |box x=>simp[sameKind]at g
  |sl a b=>simp[sameKind]at g
  |it a b c d=>simp[sameKind]at g
  |bx a b c d e=>simp[sameKind]at g
  |F8 o=>simp[sameKind]at g
  |any=>simp[sameKind]at g
theorem AU{F:Nat->Prop}{K:j0}{H:Nat->Option Hd}{w:World}:∀ (a:List Nat) (m:Mm),j8 F K H w m->j8 F K H w (y7 m (qP a))
 |[],_,h=>h
 |r::a,m,h=>by
  refine AU a _ ?_;unfold bN;split
  ·rename_i c f b;exact h.flag r c f .dead b (by simp) (fun e=>by cases e)
  ·exact h
theorem AV:∀ (f:List Nat) (m:Mm) (r:Nat) (c:c7),y7 m (qP f) r=some (c,.own)->r ∉ f/\m r=some (c,.own)
 |[],_,_,_,h=>⟨by simp,h⟩
 |a::f,m,r,c,h=>by
  obtain⟨g,d⟩:=AV f _ r c h;rw[W0]at d;by_cases e:r=a
  ·subst e;cases b:m r with
   |none=>rw[b]at d;simp at d
   |some x=>rw[b]at d;simp at d
  ·refine⟨by simp[e,g],?_⟩
   cases b:m r with
   |none=>rw[b]at d;simp at d
   |some x=>rw[b]at d;simpa [e]using d
theorem pZ:∀ {cs:List c7},FJ cs=true->∀c∈cs,c.yX=true
 |[],_,c,h=>by simp at h
 |c0::cs,a,c,h=>by
  simp only[FJ,Bool.and_eq_true]at a;rcases List.mem_cons.1 h with rfl|h
  ·exact a.1
  ·exact pZ a.2 c h
theorem Sa{c:c7}(h:c.plain=true):c.yX=true:=by cases c<;>first|rfl|cases h
theorem J5{Γ:Env}{P:Program}{kt:FuncId->Nat->List Nat}{Z:Bool}{f:FuncId}{J:Func}{s:List a7}{cs:List c7}{k:a7->List c7->Prop}(o7:P.follows .mixedOrders=true)(hG:Good P Γ)(hf:P.funcs[f]? =some J)(FD:(J.body.map Code.j3).getD true=true)
  (h:awpF Γ P kt f Z J s cs k):gU P f s cs k:=by
 intro F K H w vs l9 C hm H7 XP;unfold awpF at h;split at h
 ·rename_i c hc;split at h
  ·rename_i hny;simp only[Bool.and_eq_true]at hny;obtain⟨⟨a8U,a8V⟩,a8W⟩:=hny;refine Dl (n:=0) (callsIn_of_wp_marks hf hc (eU none _) ?_);have hlen:=c9.length C;have G:=S7 none _ _ a8U C;obtain⟨V,hV⟩:=nA s vs C;obtain⟨V0,hV0⟩:=nA s vs G;have HZ:j8 F (K.aZ none) H w (n9 (BA cs 0)):=by
    rw[Qm];refine hm.aZ none (fun r c f h=>?_)
    rw[u6]at h;split at h
    ·cases h;exact pZ a8V _ (List.getElem_mem _)
    ·cases h
   have BS:St ((xB V0).bA (X6 s) none) (some w.heap.size) F (max s.length J.ntmps) (K.aZ none) H (y9 (CA s 0)) (n9 (BA cs 0)) {tmps:=vs.toArray++Array.replicate (J.ntmps- vs.toArray.size) undef,defers:=[]} w:=by
    refine⟨l9.aZ _,HZ,?_,⟨Nat.le_refl _,[],rfl,List.nodup_nil,fun D hD=>by simp at hD⟩,fun t=>pY G _ t,hV0⟩
    simp[hlen];omega
   refine zK o7 hG (KR o7 hG kt) c (by simpa [hc]using FD) (xB V0) (some w.heap.size) F none none _ .top (Ot V0) (fun l h=>by cases h) ⟨trivial,fun _=>rfl⟩ (.inl (fun h=>by cases h)) _ _ F (K.aZ none) H _ w _ h rfl (fun _ h=>h) (fun l e=>by cases e) BS H7 ?_
   have fin:∀ (d:j9) (X:Act) (w':World),Ye Z P J cs d k->sN (xB V0) (some w.heap.size) F F (max s.length J.ntmps) (K.aZ none) w d X w'->LeavesInM (Wd none) 0 P J X.tmps (fun e w'=>
     ∃v r S K' H',e=.returned v/\k r S/\K.le K'/\c8 K' H' r v/\j8 F K' H' w' (E8 (fun _=>none) 0 S)/\(∀r,S.length<=r->H' r=none)/\J0 F K' w'/\Kept F w w'/\Fix F K K'/\cs.length<=S.length/\∀r,r<cs.length->H' r=H r) X.defers .returning w':=by
    intro d X w' j ht;obtain⟨⟨F',K1,R,uN,z,Qj,KN,Vk⟩,U⟩:=ht;obtain⟨m0,Ds,hDs,Jx,hD⟩:=z.defers;rw[hDs];refine jL Ds w' Jx (fun D h=>(hD D h).2.2) ?_
    obtain⟨ok2,L,N⟩:=BR (F:=F) Ds w' Jx (fun D h=>⟨(hD D h).2.1,fun hb=>by
     have h1:=l9.lt D hb;have h2:=(hD D h).1
     omega,(hD D h).2.2⟩) z.ok z.mem
    generalize shut Ds w'=w2 at ok2 L N ⊢;have YE:c9 K1 R d.gh V0:=z.x;have iX:St ((xB V0).bA d.gh d.s7) none F' (max s.length J.ntmps) K1 R d.z6.T d.z6.m {X with defers:=[]} w2:=⟨ok2,L,z.size,rfl,z.tmp,YE⟩;unfold Ye at j;split at j
    rotate_left
    ·exact j.elim
    rename_i u Qi a4R;split at j
    rotate_left
    ·exact j.elim
    rename_i a8X;have Ou:=jJ a8X;obtain⟨l1,l2,l3,hsp⟩:=oD _ _ _ _ a4R;split at j
    ·rename_i rs hrs;obtain⟨j,a4S⟩:=Z9 _ _ j;obtain⟨xs,pD,xA⟩:=AT (P:=P) iX rfl a4S hrs;refine⟨_,pD,?_⟩;have a4T:=bG P J.resultTypes.toList _ _ xA
     let HR0:Nat->Option Hd:=fun i=>if i<u.length then R (u.getD i 0)else none
     have A:j8 F K1 R w2 (n9 d.M):=L.less uN;have rg:∀r c f,E8 (fun _=>none) 0 Qi r=some (c,f)->r<u.length/\n9 d.M (u.getD r 0)=some (c,.own)/\c.plain=true/\HR0 r=R (u.getD r 0):=by
      intro r c f j;rw[u6]at j;split at j
      ·rename_i Yq;simp only[Option.some.injEq,Prod.mk.injEq]at j;have E:r<d.gh.length:=by omega
       obtain⟨a,c0,c',b1,b2,b3,b4,b5,b6⟩:=hsp r E;have e:Qi[r- 0]'(by omega)=c':=by
        rw[List.getElem?_eq_getElem (by omega)]at b3
        simpa using b3
       rw[e]at j;obtain⟨rfl,_⟩:=j;exact⟨by omega,b5,DK b6,by show(if r<u.length then _ else _)=_;rw[if_pos (by omega)]⟩
      ·cases j
     have hI:uO F K1 R w2 (y7 (n9 d.M) (qP u)) HR0 Qi:=by
      refine⟨ok2.less uN,AU u _ A,⟨?_,?_,?_,?_⟩,fun r j=>by show(if r<u.length then _ else _)=_;rw[if_neg (by omega)],?_⟩
      ·intro r c f hd I Y q3;obtain⟨a1,a2,a3,a4⟩:=rg r c f I;rw[a4]at q3;exact kG a3 (.refl K1) (A.cont _ c .own hd a2 (by simp) q3)
      ·intro r c hd b I Y q3;obtain⟨a1,a2,a3,a4⟩:=rg r c _ I;rw[a4]at Y;exact A.own _ c hd b a2 Y q3
      ·intro r c hd b I Y q3;rw[u6]at I;split at I
       ·cases I
       ·cases I
      ·intro r r' c c' hd O b I Y q3 q4 q5 q6;obtain⟨a1,a2,a3,a4⟩:=rg r c _ I;obtain⟨b1,b2,b3,b4⟩:=rg r' c' _ Y;rw[a4]at q3;rw[b4]at q4;exact getD_inj Ou a1 b1 (A.inj _ _ c c' hd O b a2 b2 q3 q4 q5 q6)
      ·intro r c hd r' c' O b I Y q3 q4 q5 q6;obtain⟨k1,k2⟩:=AV u _ r c I;obtain⟨a1,a2,a3,a4⟩:=rg r' c' _ q3;rw[a4]at q4;have e:=A.inj _ _ c c' hd O b k2 a2 Y q4 q5 q6;exact k1 (e▸pT a1)
     have hL:bY (aK u R) HR0:=by
      intro r hd j;unfold aK at j;cases hg:u[r]? with
      |none=>rw[hg]at j;cases j
      |some y=>
       rw[hg]at j;have E:r<u.length:=Z7 hg;show(if r<u.length then R (u.getD r 0)else none)=_
       rw[if_pos E,pS E];rw[List.getElem?_eq_getElem E]at hg;simp only[Option.some.injEq]at hg;rw[hg];exact j
     have go:∀os YF,yY Z u (y7 (n9 d.M) (qP u)) (K8 P J.resultTypes.toList rs) Qi.length=some (os,YF)->∀r,r.yX=true->FJ YF=true->(∀K' H',c9 K' H' os xs->c8 K' H' r (if h:xs.length=1 then xs[0]else .tuple xs.toArray))->k r (Qi++YF)->
       ∃v r S K' H',Ending.returned (if h:xs.length=1 then xs[0]else .tuple xs.toArray)=Ending.returned v/\k r S/\K.le K'/\c8 K' H' r v/\j8 F K' H' w2 (E8 (fun _=>none) 0 S)/\(∀r,S.length<=r->H' r=none)/\J0 F K' w2/\Kept F w w2/\Fix F K K'/\cs.length<=S.length/\∀r,r<cs.length->H' r=H r:=by
      intro os YF ho r o a8Y j hk;obtain⟨K2,HR,m2,b1,b2,b3,b4,b5⟩:=DH _ _ Qi YF xs K1 _ HR0 ho hL a4T hI;refine⟨_,r,Qi++YF,K2.aZ K.y,HR,rfl,hk,⟨fun b cs h=>b1.cells _ _ (Qj.cells _ _ h),fun b p h=>b1.inv _ _ (Qj.inv _ _ h),fun _ h=>h⟩,Ip _ _ _ o (j K2 HR b5),?_,b4.none,b4.ok.aZ _,U.trans N,fun b hb=>?_,by rw[List.length_append];omega,fun q hq=>?_⟩
      ·refine b4.res.aZ _ (fun r c f h=>?_)
       rw[u6]at h;split at h
       ·rename_i Yq;simp only[Option.some.injEq,Prod.mk.injEq]at h;have B:c∈Qi++YF:=by rw[<-h.1];exact List.getElem_mem _
        rcases List.mem_append.1 B with B|B
        ·obtain⟨i,hi,e⟩:=List.getElem_of_mem B;have:=rg i Qi[i] .own (by rw[u6,dif_pos (by omega)];simp)
         rw[<-e];exact Sa this.2.2.1
        ·exact pZ a8Y _ B
       ·cases h
      ·have f1:=Vk b hb;have f2:=b3 b hb;exact⟨f2.1.trans f1.1,f2.2.trans f1.2⟩
      ·have E:q<d.gh.length:=by omega
       obtain⟨a,c0,c',e1,e2,e3,e4,e5,e6⟩:=hsp q E;obtain⟨n1,n2⟩:=tH (X6 s) 0 cs a8W;have hq2:q<(X6 s).length:=by omega
       obtain⟨x,y1,y2⟩:=c9.get q a YE e1;obtain⟨x',z1,z2⟩:=c9.get q ((X6 s)[q]) hV0 (List.getElem?_eq_getElem hq2);rw[y1]at z1;cases z1;obtain⟨p1,p2⟩:=n2 q _ _ (List.getElem?_eq_getElem hq2) e2;rw[Nat.zero_add]at p2;have hcq:n9 (BA cs 0) q=some (c0,.own):=by
        rw[zL,dif_pos (by omega)]
        rw[List.getElem?_eq_getElem (by omega)]at e2
        simp only[Option.some.injEq]at e2;simpa using e2
       have oM:∃hd,H q=some hd:=by
        rcases p2 with⟨f,t,l,g1,_⟩|⟨mk,l,kk,g1,_⟩
        ·rw[g1]at z2;simp only[c8]at z2;obtain⟨hd,g,_⟩:=z2;exact⟨hd,g⟩
        ·rw[g1]at z2;simp only[c8]at z2;obtain⟨hd,_,g,_⟩:=z2;exact⟨hd,g⟩
       have Ax:∃hd,R (u.getD q 0)=some hd:=by
        cases a<;>simp only[sZ]at e4<;>try cases e4
        ·simp only[c8]at y2;obtain⟨hd,g,_⟩:=y2;exact⟨hd,g⟩
        ·simp only[c8]at y2;obtain⟨hd,_,g,_⟩:=y2;exact⟨hd,g⟩
       obtain⟨hd,g1⟩:=oM;obtain⟨O,g2⟩:=Ax;have rno:sZ ((X6 s)[q])=some q:=by
        rcases p2 with⟨f,t,l,g,_⟩|⟨mk,l,kk,g,_⟩<;>rw[g]<;>rfl
       have:=head_eq rno e4 z2 y2 g1 g2 e6 (HZ.cont q c0 .own hd hcq (by simp) g1) (A.cont _ c' .own O e5 (by simp) g2) (by
        rcases p2 with⟨f,t,l,g,g'⟩|⟨mk,l,kk,g,g'⟩
        ·exact .inl ⟨_,f,t,l,g,g'⟩
        ·exact .inr ⟨_,mk,l,kk,g,g'⟩)
       rw[g1,<-this];refine b2 _ _ ?_;show(if q<u.length then R (u.getD q 0)else none)=_
       rw[if_pos (by omega)]
       exact g2
     split at j
     ·rename_i v YF ho;split at j
      ·rename_i o;simp only[Bool.and_eq_true]at o;refine go _ _ ho v o.1 o.2 (fun K' H' hx=>?_) j
       obtain⟨x,xs',rfl,h1,h2⟩:=hx.inv;have:xs'=[]:=c9.H8.1 h2;subst this;simpa using h1
      ·exact j.elim
     ·rename_i os YF Gv ho;split at j
      ·rename_i o;simp only[Bool.and_eq_true]at o;refine go _ _ ho (.I9 os) (by simpa [a7.yX]using o.1) o.2 (fun K' H' hx=>?_) j
       have u:xs.length≠1:=by
        intro e;have:=c9.length hx;rw[e]at this
        match os,Gv with
        |[v],Gv=>exact Gv v rfl
        |[],_=>simp at this
        |_::_::_,_=>simp at this
       rw[dif_neg u];simp only[c8];exact⟨xs.toArray,rfl,hx⟩
      ·exact j.elim
     ·exact j.elim
    ·exact j.elim
   intro e d X w' hk hn' ht;cases e with
   |normal=>exact fin d X w' hk ht
   |ret=>exact fin d X w' hk ht
   |exit id=>exact hk.elim
  ·exact h.elim
 ·exact h.elim
def aY(b:List Hd):Ctx:=fun _ _ H c _ _=>c.length=b.length/\∀ (q:Nat) (a:a7) (r:Nat),c[q]? =some a->S3 a=some r->∃hd,b[q]? =some hd/\H r=some hd
theorem Ov{l:List Nat}{a:a7}{i:Nat}(h:S3 (a.dW l)=some i):∃r,S3 a=some r/\idx l r 0=some i:=by
 cases a<;>simp only[a7.dW]at h<;>try (simp[S3]at h;done)
 case B6 r f=>
  cases c:idx l r 0 with
  |none=>rw[c]at h;simp[S3]at h
  |some j=>rw[c]at h;simp only[S3,Option.some.injEq]at h;exact⟨r,rfl,by rw[c,h]⟩
 case z8 r=>
  cases c:idx l r 0 with
  |none=>rw[c]at h;simp[S3]at h
  |some j=>rw[c]at h;simp only[S3,Option.some.injEq]at h;exact⟨r,rfl,by rw[c,h]⟩
 case ptr r o=>
  cases c:idx l r 0 with
  |none=>rw[c]at h;simp[S3]at h
  |some j=>rw[c]at h;simp only[S3,Option.some.injEq]at h;exact⟨r,rfl,by rw[c,h]⟩
 case sub r a b f=>
  cases c:idx l r 0<;>rw[c]at h<;>simp[S3]at h
 case P9 r a b=>
  cases c:idx l r 0<;>rw[c]at h<;>simp[S3]at h
 case O2 r=>
  cases c:idx l r 0<;>rw[c]at h<;>simp[S3]at h
theorem KU(l:List Nat):∀ (b:List a7),(N5 l b).length=b.length
 |[]=>by simp[N5]
 |a::b=>by simp[N5,KU l b]
theorem KV(l:List Nat):∀ (b:List a7) (q:Nat),(N5 l b)[q]? =(b[q]?).map (·.dW l)
 |[],q=>by simp[N5]
 |a::b,q=>by
  cases q with
  |zero=>simp[N5]
  |succ q=>simp only[N5,List.getElem?_cons_succ];exact KV l b q
theorem nC(d:List Hd):(aY d).Ok:=
 ⟨fun _ _=>⟨fun _ _ _ _ _ _ _ _ h _ _ i _=>⟨h.1,fun q a r c e=>by
   obtain⟨hd,f,g2⟩:=h.2 q a r c e
   exact⟨hd,f,i _ _ g2⟩⟩⟩,
  fun _ _ H l j _ _ h=>⟨by rw[KU];exact h.1,fun q a r c e=>by
   rw[KV]at c;cases g:j[q]? with
   |none=>rw[g]at c;cases c
   |some b=>
    rw[g]at c;simp only[Option.map_some,Option.some.injEq]at c;subst c;obtain⟨k,f,g2⟩:=Ov e;obtain⟨hd,n,o⟩:=h.2 q b k g f;refine⟨hd,n,?_⟩;unfold aK;rw[Qd g2]
    exact o⟩⟩
theorem lL:∀ (cs:List c7) (i:Nat) (j:List a7),Us cs i=some j->j.length=cs.length/\∀q a,j[q]? =some a->S3 a=some (i+q)
 |[],i,j,h=>by
  simp only[Us,Option.some.injEq]at h;subst h;exact⟨rfl,fun q a h=>by simp at h⟩
 |c::cs,i,j,h=>by
  unfold Us at h;split at h
  ·rename_i t l b e;simp only[Option.some.injEq]at h;subst h;obtain⟨f,g⟩:=lL cs (i+1) b e;refine⟨by simp[f],fun q a d=>?_⟩
   cases q with
   |zero=>simp at d;subst d;rfl
   |succ q=>have:=g q a (by simpa using d);rw[this];congr 1;omega
  ·rename_i mk l clk b e;simp only[Option.some.injEq]at h;subst h;obtain⟨f,g⟩:=lL cs (i+1) b e;refine⟨by simp[f],fun q a d=>?_⟩
   cases q with
   |zero=>simp at d;subst d;rfl
   |succ q=>have:=g q a (by simpa using d);rw[this];congr 1;omega
  ·rename_i cells b e;simp only[Option.some.injEq]at h;subst h;obtain⟨f,g⟩:=lL cs (i+1) b e;refine⟨by simp[f],fun q a d=>?_⟩
   cases q with
   |zero=>simp at d;subst d;rfl
   |succ q=>have:=g q a (by simpa using d);rw[this];congr 1;omega
  ·rename_i k n o p r b e;simp only[Option.some.injEq]at h;subst h;obtain⟨f,g⟩:=lL cs (i+1) b e;refine⟨by simp[f],fun q a d=>?_⟩
   cases q with
   |zero=>simp at d;subst d;rfl
   |succ q=>have:=g q a (by simpa using d);rw[this];congr 1;omega
  ·cases h
theorem AW:∀ (vs:List a7) (b:List Nat),yZ vs=some b->b.length=vs.length/\∀q,q<vs.length->∃a,vs[q]? =some a/\S3 a=some (b.getD q 0)
 |[],b,h=>by
  simp only[yZ,Option.some.injEq]at h;subst h;exact⟨rfl,fun q c=>by simp at c⟩
 |v::vs,b,h=>by
  unfold yZ at h;split at h
  ·rename_i r d e f;simp only[Option.some.injEq]at h;subst h;obtain⟨g,g2⟩:=AW vs d f;refine⟨by simp[g],fun q c=>?_⟩
   cases q with
   |zero=>exact⟨v,rfl,by simpa using e⟩
   |succ q=>
    obtain⟨a,i,j⟩:=g2 q (by simpa using c)
    exact⟨a,by simpa using i,by simpa using j⟩
  ·cases h
theorem YG{X:iW}{P:Program}{s:Func}{st:j9}{k:a7->List c7->Prop}{F Y:Nat->Prop}{t:j0}{u:Nat->Option Hd}{a:Act}{y:World}{n:Nat}(J:St X none Y n t u st.z6.T st.z6.m a y)(N:j8 F t u y (n9 st.M))(b:Ut P s st k):
  ∃z L I j r v,yZ st.gh=some z/\L=z++I/\L.length=j.length/\(results s a.tmps).run P y=.ok v y/\k r j/\r.yX=true/\FJ j=true/\c8 t (aK L u) r v/\j8 F t (aK L u) y (E8 (fun _=>none) 0 j):=by
 unfold Ut at b;split at b
 rotate_left
 ·exact b.elim
 rename_i z d;split at b
 rotate_left
 ·exact b.elim
 rename_i A;have l:=jJ A;split at b
 rotate_left
 ·exact b.elim
 rename_i O R;obtain⟨b,o⟩:=Z9 _ _ b;obtain⟨xs,f,B⟩:=AT (P:=P) J rfl o R;have p:=bG P s.resultTypes.toList _ _ B;obtain⟨L,Z,C,I,h⟩:=KI (n9 st.M) (K8 P s.resultTypes.toList O) l;rw[Z]at b;split at b
 rotate_left
 ·exact b.elim
 rename_i j D;split at b
 rotate_left
 ·exact b.elim
 rename_i i;have E:=(dR _ _ D).1;have G:=Oi N C D;have c:c9 t (aK L u) (N5 L (K8 P s.resultTypes.toList O)) xs:=O8 _ _ p;generalize N5 L (K8 P s.resultTypes.toList O)=V at b c;split at b
 ·rename_i v;split at b
  rotate_left
  ·exact b.elim
  rename_i g;obtain⟨x,S,rfl,h1,h2⟩:=c.inv;have:S=[]:=c9.H8.1 h2;subst this;exact⟨z,L,I,j,v,x,d,h,E.symm,by simpa using f,b,g,i,h1,G⟩
 ·rename_i q;split at b
  rotate_left
  ·exact b.elim
  rename_i g;have U:xs.length≠1:=by
   intro e;have:=c9.length c;rw[e]at this
   match V,q with
   |[v],q=>exact q v rfl
   |[],_=>simp at this
   |_::_::_,_=>simp at this
  rw[dif_neg U]at f;exact⟨z,L,I,j,.I9 V,_,d,h,E.symm,f,b,by simpa [a7.yX]using g,i,by simp only[c8];exact⟨xs.toArray,rfl,c⟩,G⟩
theorem aM{Γ:Env}{P:Program}{kt:FuncId->Nat->List Nat}{f:FuncId}{z:Func}{j:List a7}{cs:List c7}{k:a7->List c7->Prop}(o7:P.follows .mixedOrders=true)(hG:Good P Γ)(hf:P.funcs[f]? =some z)(FD:(z.body.map Code.j3).getD true=true)
  (h:awpG Γ P kt f z j cs k):gU P f j cs k:=by
 intro F K H w vs U o hm H7 XP;unfold awpG at h;split at h
 ·rename_i c gs hc hgs;split at h
  ·rename_i V;simp only[Bool.and_eq_true]at V;obtain⟨X,Y⟩:=V;refine Dl (n:=0) (callsIn_of_wp_marks hf hc (eU none _) ?_);have Z:=c9.length o;have A:=S7 none _ _ X o;obtain⟨gl,gr⟩:=lL cs 0 gs hgs
   let g:List Hd:=(List.range cs.length).map (fun q=>(H q).getD ⟨none,0,0,0⟩)
   have C:∀q,q<cs.length->∃hd,g[q]? =some hd/\H q=some hd:=fun q O=>by
    obtain⟨hd,e⟩:=XP q O;exact⟨hd,by simp[g,O,e],e⟩
   have HZ:j8 F (K.aZ none) H w (n9 (BA cs 0)):=by
    rw[Qm];refine hm.aZ none (fun r c f h=>?_)
    rw[u6]at h;split at h
    ·cases h;exact pZ Y _ (List.getElem_mem _)
    ·cases h
   have hx0:aY g F (K.aZ none) H gs none w:=by
    refine⟨by simp[g,gl],fun q a r h1 h2=>?_⟩
    have:=gr q a h1;rw[h2]at this;simp only[Option.some.injEq]at this;have O:q<cs.length:=by rw[<-gl];exact Z7 h1
    obtain⟨hd,e1,e2⟩:=C q O;exact⟨hd,e1,by rw[this,Nat.zero_add];exact e2⟩
   have BS:St ((aY g).bA gs none) (some w.heap.size) F (max j.length z.ntmps) (K.aZ none) H (y9 (CA j 0)) (n9 (BA cs 0)) {tmps:=vs.toArray++Array.replicate (z.ntmps- vs.toArray.size) undef,defers:=[]} w:=by
    refine⟨U.aZ _,HZ,?_,⟨Nat.le_refl _,[],rfl,List.nodup_nil,fun D R=>by simp at R⟩,fun t=>pY A _ t,hx0⟩
    simp[Z];omega
   refine zK o7 hG (KR o7 hG kt) c (by simpa [hc]using FD) (aY g) (some w.heap.size) F none none _ .top (nC g) (fun l h=>by cases h) ⟨trivial,fun _=>rfl⟩ (.inl (fun h=>by cases h)) _ _ F (K.aZ none) H _ w _ h rfl (fun _ h=>h) (fun l e=>by cases e) BS H7 ?_
   have fin:∀ (d:j9) (E:Act) (w':World),Ut P z d k->sN (aY g) (some w.heap.size) F F (max j.length z.ntmps) (K.aZ none) w d E w'->LeavesInM (Wd none) 0 P z E.tmps (fun e w'=>
     ∃v r S K' H',e=.returned v/\k r S/\K.le K'/\c8 K' H' r v/\j8 F K' H' w' (E8 (fun _=>none) 0 S)/\(∀r,S.length<=r->H' r=none)/\J0 F K' w'/\Kept F w w'/\Fix F K K'/\cs.length<=S.length/\∀r,r<cs.length->H' r=H r) E.defers .returning w':=by
    intro d E w' hr ht;obtain⟨⟨F',K1,H1,uN,i,Qj,KN,I⟩,B⟩:=ht;obtain⟨m0,Ds,hDs,Jx,R⟩:=i.defers;rw[hDs];refine jL Ds w' Jx (fun D h=>(R D h).2.2) ?_
    obtain⟨J,s,u⟩:=BR (F:=F) Ds w' Jx (fun D h=>⟨(R D h).2.1,fun hb=>by
     have h1:=U.lt D hb;have h2:=(R D h).1
     omega,(R D h).2.2⟩) i.ok i.mem
    generalize shut Ds w'=w2 at J s u ⊢;have YE:aY g F' K1 H1 d.gh d.s7 w':=i.x;obtain⟨xl,xh⟩:=YE;have iX:St ((aY g).bA d.gh d.s7) none F' (max j.length z.ntmps) K1 H1 d.z6.T d.z6.m {E with defers:=[]} w2:=⟨J,s,i.size,rfl,i.tmp,xl,xh⟩;obtain⟨hl,L,tl,S,r,v,M,G,hLl,pD,hk,a80,a81,xA,hgr⟩:=YG (P:=P) iX (s.less uN) hr;obtain⟨l1,l2⟩:=AW _ _ M;have hlc:hl.length=cs.length:=by rw[l1,xl];simp[g]
    have b3T:L.length=hl.length+tl.length:=by rw[G,List.length_append]
    refine⟨_,pD,?_⟩;have N:∀q,q<cs.length->aK L H1 q=H q:=fun q O=>by
     obtain⟨a,g1,g2⟩:=l2 q (by omega)
     obtain⟨hd,k1,k2⟩:=xh q a _ g1 g2;obtain⟨W3,e1,e2⟩:=C q O;rw[e1]at k1;cases k1;rw[wZ (by omega),e2,<-k2,G]
     congr 1;simp only[List.getD,List.getElem?_append_left (show q<hl.length by omega)]
    refine⟨v,r,S,K1.aZ K.y,aK L H1,rfl,hk,⟨fun b cs h=>Qj.cells _ _ h,fun b p h=>Qj.inv _ _ h,fun _ h=>h⟩,Ip _ _ _ a80 xA,?_,fun r hr=>KH (by omega),(J.less uN).aZ _,B.trans u,fun b hb=>I b hb,by omega,N⟩
    refine hgr.aZ _ (fun r c f h=>?_)
    rw[u6]at h;split at h
    ·rename_i Yq;simp only[Option.some.injEq,Prod.mk.injEq]at h;rw[<-h.1];exact pZ a81 _ (List.getElem_mem _)
    ·cases h
   intro e d E w' hk hn' ht;cases e with
   |normal=>exact fin d E w' hk ht
   |ret=>exact fin d E w' hk ht
   |exit id=>exact hk.elim
  ·exact h.elim
 ·exact h.elim
end Go.Abs
end
section
namespace Go.Abs
theorem Loop.intro{σ:Type}{B:(σ->Prop)->σ->Prop}(Inv:σ->Prop)(μ:σ->Nat)(h:∀x (K:σ->Prop),Inv x->(∀y,Inv y->μ y<μ x->K y)->B K x){s:σ}(b:Inv s):Loop B s:=by
 have a:∀n x,μ x<n->Inv x->iter B n x:=by
  intro n
  induction n with
  |zero=>intro x c _;omega
  |succ n d=>intro x c hi;exact h x _ hi (fun y e f=>d y (by omega) e)
 exact⟨μ s+1,a _ s (Nat.lt_succ_self _) b⟩
theorem m6{P:Program}:Good P (m4 []):=⟨fun f c h=>(by cases h),fun f c h=>(by cases h)⟩
theorem zM{P:Program}{l:List (FuncId×V6)}{f:FuncId}{b:Func}{c:Code}{d:V6}(i:Good P (m4 l))(j:P.funcs[f]? =some b)(m:b.body=some c)(n:(b.name== "runtime.NumGoroutine")=false)
  (o:∀a cs k,d.run a cs k->gU P f a cs k):Good P (m4 ((f,d)::l)):=by
 refine⟨fun g c' h=>?_,fun g c' h=>?_⟩
 ·unfold m4 at h;split at h
  ·rename_i e;subst e;cases h;exact o
  ·exact i.spec g c' h
 ·unfold m4 at h;split at h
  ·rename_i e;subst e;exact cN j m n
  ·exact i.call g c' h
theorem KW:∀ (n i q:Nat),(CE i n)[q]? =if q<n then some (i+q)else none
 |0,i,q=>by simp[CE]
 |n+1,i,q=>by
  cases q with
  |zero=>simp[CE]
  |succ q=>
   simp only[CE,List.getElem?_cons_succ,KW n (i+1) q];by_cases h:q<n
   ·rw[if_pos h,if_pos (by omega)];congr 1;omega
   ·rw[if_neg h,if_neg (by omega)]
theorem Sb{P:Program}{f:FuncId}{b:List a7}{cs:List c7}{k:a7->List c7->Prop}(h:gU P f (N5 (CE 0 cs.length) b) cs k):gU P f b cs k:=by
 intro F K H w vs d a j c g;have e:aK (CE 0 cs.length) H=H:=by
  funext r;simp only[aK,KW];by_cases i:r<cs.length
  ·rw[if_pos i];simp
  ·rw[if_neg i];exact(c r (by omega)).symm
 have:=O8 (l:=CE 0 cs.length) _ _ a;rw[e]at this;exact h F K H w vs d this j c g
def Var.Kept(v:Var)(P:Program)(f:FuncId):Prop:=
 ∀x:v.D,v.pre x->∀k:a7->List c7->Prop,(v.res x).run k->gU P f (v.args x) (v.B2 x) k
theorem KX:∀ (l:List CS) (vs:List c7) (R:Type) (r:R) (x:sM l R),Nl l vs R r=some x->Uu l R x=(vs,r)
 |[],vs,R,r,x,h=>by
  cases vs with
  |nil=>simp only[Nl]at h;cases h;rfl
  |cons c vs=>simp[Nl]at h
 |c::l,vs,R,r,x,h=>by
  cases vs with
  |nil=>simp[Nl]at h
  |cons y ys=>
   simp only[Nl]at h;split at h
   ·rename_i z a;have b:=CS.W8 c y (sM l R) z x h;have d:=KX l ys R r z a;simp only[Uu,b,d]
   ·cases h
theorem Var.W8{v:Var}{a:List a7}{cs:List c7}{x:v.D}(h:v.dec a cs=some x):v.args x=a/\v.B2 x=cs:=by
 unfold Var.dec at h;split at h
 ·rename_i y b;have c:=VS.W8 v.S a (sM v.C Unit) y x h;have d:=KX v.C cs Unit () y b;unfold Var.args Var.B2;rw[c];exact⟨rfl,by rw[d]⟩
 ·cases h
theorem GH{P:Program}{f:FuncId}:∀ (vs:List Var),(∀v∈vs,v.Kept P f)->∀a cs k,(N9 vs).run a cs k->gU P f a cs k:=by
 intro vs d a cs k h;obtain⟨b,c⟩:=h;simp only[N9]at b c;refine Sb ?_;generalize N5 (CE 0 cs.length) a=e at b c
 induction vs with
 |nil=>exact b.elim
 |cons v vs g=>
  unfold HT at b;unfold HU at c;cases hd:v.dec e cs with
  |some x=>
   rw[hd]at b c;obtain⟨i,j⟩:=Var.W8 hd;have:=d v (by simp) x b k c
   rw[i,j]at this;exact this
  |none=>
   rw[hd]at b c;exact g (fun v l=>d v (List.mem_cons_of_mem _ l)) b c
theorem Loop.upto{σ:Type}{B:(σ->Prop)->σ->Prop}(st:Nat->σ)(p:Nat->Prop)(n:Nat){s:σ}(f:st 0=s)(g:p 0)(h:∀i (K:σ->Prop),i<n->p i->(p (i+1)->K (st (i+1)))->B K (st i))(a:∀K:σ->Prop,p n->B K (st n)):Loop B s:=by
 have b:∀j i,i+j=n->p i->iter B (j+1) (st i):=by
  intro j
  induction j with
  |zero=>
   intro i hi c;have e:i=n:=by omega
   subst e;exact a _ c
  |succ j k=>intro i hi c;exact h i _ (by omega) c (fun d=>k (i+1) (by omega) d)
 exact⟨n+1,f▸b n 0 (by omega) g⟩
theorem e9(c:Prop)[Decidable c](p q:Prop):br (decide c) p q↔(c->p)/\(¬c->q):=by
 by_cases h:c<;>simp[br,h]
theorem T4(c:Prop)[Decidable c](p q:Prop):br (decide c==false) p q↔(¬c->p)/\(c->q):=by
 by_cases h:c<;>simp[br,h]
theorem jM(c:Prop)[Decidable c](p q:Prop):br (decide c==true) p q↔(c->p)/\(¬c->q):=by
 by_cases h:c<;>simp[br,h]
theorem Ow(a b:Int)(p q:Prop):br (a !=b) p q↔(a≠b->p)/\(a=b->q):=by
 by_cases h:a=b
 ·simp[br,h]
 ·have e:(a !=b)=true:=by simp[h]
  simp[br,e,h]
theorem Ix(a b:Int)(p q:Prop):br (a==b) p q↔(a=b->p)/\(a≠b->q):=by
 by_cases h:a=b
 ·simp[br,h]
 ·have e:(a==b)=false:=by simp[h]
  simp[br,e,h]
theorem qA(b:Bool)(p q:Prop):br (Bool.not b) p q↔(b=false->p)/\(b=true->q):=by
 cases b<;>simp[br]
theorem Vl(b:Bool)(p q:Prop):br (b==false) p q↔(b=false->p)/\(b=true->q):=by
 cases b<;>simp[br]
theorem Vm(b:Bool)(p q:Prop):br (b==true) p q↔(b=true->p)/\(b=false->q):=by
 cases b<;>simp[br]
theorem m5{n:Int}(a: -9223372036854775808<=n)(b:n<=9223372036854775807):U1 .i64 n:=by
 unfold U1;rw[IntKind.wrap_i64];omega
end Go.Abs
end
