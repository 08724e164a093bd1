/- Part 11 of the road to this seat's statements: lemmas about a small interpreter over the model's code, and about the functions that it is used on. No condition of its own. -/
import Derived.Test.YtmpngboelipooaaGreatW7
import Derived.Test.YtmpngboelipooaaGreatW8
import Derived.Test.YtmpngboelipooaaGreatW9
import Derived.Test.YtmpngboelipooaaGreatW10
set_option linter.all false
section
open Go Go.Abs Go.Proofs
theorem a5o:Kn Tryz.prog (.mk 15 [] [] (.c 17) []):=aV (Fu:=100000) m4 Z3 SX WW (T:=[K1.k42,K2.k35,K3.k37]) ⟨K1.a5i,K2.a5k,K3.a5l,trivial⟩ 60 (by decide+kernel)
theorem Zq:Kn Tryz.prog (.mk 5 [] [] (.c 17) []):=aV (Fu:=100000) m4 Z3 SX WW (T:=[.mk 15 [] [] (.c 17) [],K4.k54]) ⟨a5o,K4.a5n,trivial⟩ 60 (by decide+kernel)
end
section
open Go Go.Abs Go.Proofs
set_option linter.unusedVariables false
set_option maxRecDepth 100000
namespace Go.Abs.T2
theorem SH:F7 Tryz.prog RR:=rZ (GK m4 Z3 SX WW 60) ⟨Zq,trivial⟩
theorem SI{nx:Nat}{z:BV}{lo:List HO}:∀ {l:List (Nat×List Nat)} {D:m8} {k:m8->Rn},UO nx l D k=.ok z lo->(∀p∈l,p.1<nx)->∃D',k D'=.ok z lo/\∀r,m6 nx D' r=m6 nx D r\/∃cs,(r,cs)∈l/\m6 nx D' r=.c (B8 cs) (bH (Z4 cs))
 |[],D,k,h,_=>⟨D,h,fun r=>.inl rfl⟩
 |p::l,D,k,h,f=>by
  have h:fN (bH (Z4 p.2)) (fun n=>fN (B8 p.2) fun s=>fN p.1 fun r=>aK nx D r (.c s n) fun D=>UO nx l D k)=.ok z lo:=h
  rw[B6,B6,B6]at h;have g:=f p (ar ..);obtain⟨w,i,g2⟩:=mS (k:=fun D=>UO nx l D k) (d:=D) (o:=.c (B8 p.2) (bH (Z4 p.2))) (gw g)
  rw[i]at h;obtain⟨D',j,m⟩:=SI h (fun q t=>f q (al _ t))
  refine⟨D',j,fun r=>?_⟩
  rcases m r with e|⟨cs,u,v⟩
  .rw[e,T5,T5];by_cases a:r<nx
   .rw[aj a,aj a,g2 r (by omega)]
    by_cases b:r=p.1
    .rw[aj b];exact .inr ⟨p.2,by rw[b];exact ar ..,rfl⟩
    .rw[ai b];exact .inl rfl
   .rw[ai a,ai a];exact .inl rfl
  .exact .inr ⟨cs,al _ u,v⟩
theorem Jj{nx:Nat}{D:m8}:∀ {l:List (Nat×List Nat)},YR nx D l=true->∀p∈l,∃n,m6 nx D p.1=.c (B8 p.2) n/\n/cB=Z4 p.2
 |[],_,p,h=>by cases h
 |q::l,h,p,b=>by
  have h:iB (isObj (m6 nx D q.1) q.2) (YR nx D l) false=true:=h;rw[a9]at h;split at h
  .rename_i a;rcases av.1 b with rfl|b
   .cases d:m6 nx D p.1 with
    |c s n=>
     rw[d]at a;have a:iB (Nat.beq s (B8 p.2)) (Nat.beq (Nat.div n cB) (Z4 p.2)) false=true:=a;rw[a9]at a;split at a
     .rename_i e;exact⟨n,by rw[ab e],ab a⟩
     .cases a
    |_=>rw[d]at a;cases a
   .exact Jj h p b
  .cases h
theorem Zr:∀ (n r:Nat),(zs n)[r]?.getD .z=.z
 |0,r=>rfl
 |n+1,0=>rfl
 |n+1,r+1=>by
  have:(zs (n+1))[r+1]? =(zs n)[r]? :=rfl;rw[this];exact Zr n r
theorem txT:Code.j5 GL=true:=by kernel_rfl
theorem dsT:o9 197 GL=true:=by kernel_rfl
theorem txR:Code.j5 Ap=true:=by kernel_rfl
theorem dsR:o9 197 Ap=true:=by kernel_rfl
theorem onR:vL 19 Oc true Ap:=by
 repeat' first|exact trivial|exact(fun h=>absurd h (by decide))|exact(fun _=>⟨rfl,rfl⟩)|apply And.intro
theorem Zt:∀n,(zs n).length=n
 |0=>rfl
 |n+1=>congrArg Nat.succ (Zt n)
theorem iB2{x y:Bool}(h:iB x y false=true):x=true/\y=true:=by
 rw[a9]at h;split at h
 .rename_i e;exact⟨e,h⟩
 .cases h
theorem Of(a p b:List Nat):GM a p b<4294967291:=fk _ (by decide)
abbrev stF(nx:Nat):j7:=⟨197,[(4,.bool true)],nx,[],[],none⟩
theorem UX{b:List Bool}{a:Nat}{E:Nat}{A:z7}{nx:Nat}{D:m8}{p:Nat}{z:BV}{lo:List HO}(h:YU b a E A nx D p=.ok z lo):
  nx=7+10*B8 b/\o8 E A 5=.c (G5 (B8 b))/\o8 E A 9=.c (bO 5 0)/\o8 E A 11=.c (G5 a)/\YR nx D (UN (pS b) (B8 b))=true:=by
 have h:iB (iB (Nat.beq nx (Nat.add 7 (Nat.mul 10 (B8 b)))) (iB (UM (o8 E A 5) (G5 (B8 b))) (iB (UM (o8 E A 9) (bO 5 0)) (iB (UM (o8 E A 11) (G5 a)) (YR nx D (UN (pS b) (B8 b))) false) false) false) false) (Rn.ok (.c 1) []) (.er 930 0)=.ok z lo:=h;rw[a9]at h;split at h
 .rename_i d;obtain⟨e,h⟩:=iB2 d;obtain⟨f,h⟩:=iB2 h;obtain⟨g,h⟩:=iB2 h;obtain⟨i,h⟩:=iB2 h;exact⟨ab e,nJ f,nJ g,nJ i,h⟩
 .cases h
theorem a1W{H0:Nat->Option Hd}{F0 F:Nat->Prop}{B:Option Nat}(hB:B.isSome=true){K:b8}{H:Nat->Option Hd}{E:Nat}{A:z7}{nx:Nat}{D:m8}{p:Nat}{a:Act}{w:World}{Q:Exit->Act->World->Prop}{v:List Bool}{g:Nat}{s:j7}{z:BV}{lo:List HO}
  (hc:YU v g E A nx D p=.ok z lo)(u:TL (v,g)=true)(Y:B4 197 (eW H0 3++ []) E A nx D p s)(hF:∀x,F0 x->F x)(Z:St ((dC (bB H0 3) (T8 [])).O4 s.gh s.o7) B F 197 K H s.s6.T s.s6.m a w)(G2:∀r,s.nx<=r->H r=none)
  (hQ:∀a' w' dE,gD (T8 []) B F0 F 197 K w (stF dE) a' w'->Q .ret a' w'):GL.wpIn (Wd none) 0 Tryz.prog Q a w:=by
 obtain⟨c1,c5,c9,c11,cO⟩:=UX hc;have hO:=Jj cO;have d:=Y.st.1 Z;have u:news (zs (Nat.add 7 (Nat.mul 10 (B8 v)))) 0 .e (fun nx D=>UO nx (UN (pS v) (B8 v)) D fun D=>
  fN (GM (pS v) [] [g]) fun e0=>G3 5 (.c (G5 (B8 v))) e0 [] fun E A=>G3 9 (.c (bO 5 0)) E A fun E A=>G3 11 (.c (G5 g)) E A fun E A=>
  xV GL Tryz.prog 100000 RR (Td 100000 Tryz.prog RR) none E A nx D 0 a42)=.ok (.c 1) []:=Oe u
 obtain⟨D1,g1,g2⟩:=mT (zs (Nat.add 7 (Nat.mul 10 (B8 v)))) 0 .e (fun nx D=>UO nx (UN (pS v) (B8 v)) D fun D=>
  fN (GM (pS v) [] [g]) fun e0=>G3 5 (.c (G5 (B8 v))) e0 [] fun E A=>G3 9 (.c (bO 5 0)) E A fun E A=>G3 11 (.c (G5 g)) E A fun E A=>
  xV GL Tryz.prog 100000 RR (Td 100000 Tryz.prog RR) none E A nx D 0 a42)
 rw[g1]at u;clear g1;have hN:0+(zs (Nat.add 7 (Nat.mul 10 (B8 v)))).length=nx:=by rw[Zt,bz];exact c1.symm
 rw[hN]at u g2;obtain⟨D2,u,q⟩:=SI u (fun p hp=>by
  obtain⟨n,e,_⟩:=hO p hp
  exact fG e (by simp))
 rw[B6]at u;obtain⟨E1,A1,u,t1⟩:=M6 u;obtain⟨E2,A2,u,t2⟩:=M6 u;obtain⟨E3,A3,u,t3⟩:=M6 u;have key:∀r c f,l9 (p8 nx D2) r=some (c,f)->f=.own/\∃n cs,c=.z5 (.c (B8 cs) (bH (Z4 cs)))/\l9 (p8 nx D) r=some (.z5 (.c (B8 cs) n),.own)/\n/cB=Z4 cs:=by
  intro r c f h;obtain⟨o,G,O,h3⟩:=L3 h;cases h3;rcases q r with e|⟨cs,C,J⟩
  .rw[G,g2,aj (fx r),kl,Zr]at e;exact absurd e O
  .obtain⟨n,I,e4⟩:=hO _ C;exact⟨rfl,n,cs,by rw[<-G,J],F9 I (by simp),e4⟩
 obtain⟨s1,L⟩:=B4.ex 197 (eW H0 3++ []) E3 A3 nx D2 0 Y.lt;refine S5 (c:=GL) (Fu:=100000) m4 SH (Gp m4 SH) txT dsT _ B F0 none _ (nC (jV [])) (fun l h=>by cases h) (fun e=>by subst e;cases hB) E3 A3 nx D2 0 _ s1 F K H a w Q u L hF (L.st.2 ⟨d.ok,⟨fun r c f hd C J I=>?_,fun r c hd b C J I=>?_,fun r c hd b C J I=>?_,fun r r' c c' hd S9 b C J I e4 e5 e6=>?_⟩,d.size,d.defers,fun t=>?_,d.x⟩) (fun r X=>G2 r (by rw[Y.nx];rw[L.nx]at X;exact X)) ?_
 .obtain⟨rfl,n,cs,rfl,G,O⟩:=key r c f C;obtain⟨b',P,e,fz,k1,k2,k3,k4,k5⟩:=d.mem.cont r _ _ hd G (by simp) I
  exact⟨b',P,e,fz,k1,k2,k3,k4,by rw[rK,<-O];exact k5⟩
 .obtain⟨_,n,cs,rfl,G,O⟩:=key r c _ C;have q:=d.mem.own r _ hd b G J I;exact⟨q.1,q.2.1,q.2.2.1,fun _=>q.2.2.2 rfl⟩
 .obtain⟨y,_⟩:=key r c _ C;cases y
 .obtain⟨_,n,cs,rfl,G,O⟩:=key r c _ C;obtain⟨_,n',P,rfl,h1',h2'⟩:=key r' c' _ J;exact d.mem.inj r r' _ _ hd S9 b G h1' I e4 e5 e6
 .unfold TE;have y:=d.tmp t;unfold TE at y;rw[t3];by_cases M:t=11
  .rw[aj M];rw[M]at y ⊢;rw[c11]at y;exact y
  rw[ai M,t2];by_cases g9:t=9
  .rw[aj g9];rw[g9]at y ⊢;rw[c9]at y;exact y
  rw[ai g9,t1];by_cases g5:t=5
  .rw[aj g5];rw[g5]at y ⊢;rw[c5]at y;exact y
  rw[ai g5,Zl (Of _ _ _)];trivial
 .intro e E4 A4 IM D4 p4 s4 a4 w4 hk R ht;have hk:pM e (.er 910 0) (fun _=>.er 911 0) (iB (UM (o8 E4 A4 4) 17) (.ok (.c 1) []) (.er 912 0))=.ok (.c 1) []:=hk
  rcases O9 hk with⟨rfl,k⟩|⟨i,rfl,k⟩|⟨rfl,k⟩
  .cases k
  .cases k
  .rw[a9]at k;split at k
   .rename_i h4;have h4:=nJ h4;obtain⟨⟨F',K',H',jT,S,hK,U,V⟩,N⟩:=ht;have j:=R.st.1 S;refine hQ a4 w4 IM ⟨⟨F',K',H',jT,⟨j.ok,j.mem.sub (fun r x hx=>by cases hx),j.size,j.defers,fun t=>?_,rfl⟩,hK,fun r X=>U r (by rw[R.nx];exact X),V⟩,N⟩
    show b9 K' H' (if 4=t then .bool true else .S6) _
    by_cases g4:4=t
    .rw[aj g4,<-g4];have:=j.tmp 4;unfold TE at this;rw[h4]at this;exact this
    .rw[ai g4];trivial
   .cases k
end Go.Abs.T2
end
section
open Go Go.Abs Go.Proofs
set_option linter.unusedVariables false
set_option maxRecDepth 100000
namespace Go.Abs.T2
abbrev toI(l:List Nat):List Int:=List.map (fun n:Nat=>(n:Int)) l
theorem Zu{H H':Nat->Option Hd}{hd:Hd}{r len a:Nat}{cs:Array Value}{v:Value}(d:r<1048576)(e:hd.len=len)(c:len<1048576)(f:v=.slice (hd.base.map fun b=>⟨b,0,none⟩) hd.len hd.cap)(g:hd.base=some a)(i:hd.len<=hd.cap)(k:hd.cap<=cs.size)(j:H' r=some ⟨some a,cs.size,0,0⟩):j6 H' (pJ r 0 len 1 0) v:=by
 subst e;rw[f,g];exact .sl r 0 hd.len 1 0 _ a 0 hd.cap d (by decide) c (by decide) (by decide) j rfl i (fun h=>by cases h) (.inr rfl) (by show 0+hd.cap*1<=cs.size;omega)
theorem a1X{F0 F:Nat->Prop}{B:Option Nat}(hB:B.isSome=true){K:b8}{H:Nat->Option Hd}{s:j7}{a:Act}{w:World}{Q:Exit->Act->World->Prop}{X li ga fa:Int}{j:List Hr}{g:List Bool}{p b:List Nat}
  (e2:u9 s.tmps 2=.ptr 0 0)(e5:u9 s.tmps 5=rI (j.length:Nat))(e6:u9 s.tmps 6=.O1 1 false)(e8:u9 s.tmps 8=.O1 2 false)
  (m0:l9 s.M 0=some (.box (cM X li ga fa j),.own))(m1:l9 s.M 1=some (.sl tI (toI b),.own))(m2:l9 s.M 2=some (.sl tI (toI p),.own))(pY:s.nx=3)
  (hp1:p.length=j.length)(hb1:b.length=j.length)(Y:g.length=j.length)(hn:1<=j.length)(hn4:j.length<=12)(hpb:∀n∈p,n<=1)(hbb:∀n∈b,n<=1)
  (Z:∀h∈j,v10.p (X,li,ga,fa,j,0,h.1.2,1,()))(Vb:∀i (h:i<j.length),g[i]? =some (decide (l7 ga fa 0 j[i].1.2 1>li)))(hG:Good Tryz.prog (u0 [(10,X8 [v10])]))
  (k:LL g p b=true)(hT:TL (g,Lc b)=true)(hF:∀x,F0 x->F x)(d:St ((T8 []).O4 s.gh s.o7) B F 197 K H s.s6.T s.s6.m a w)(G2:∀r,s.nx<=r->H r=none)
  (hQ:∀a' w' I,gD (T8 []) B F0 F 197 K w (stF I) a' w'->Q .ret a' w'):Ap.wpIn (Wd none) 0 Tryz.prog Q a w:=by
 have n0:B8 g=j.length:=by rw[He,Y]
 have hv:view s.s6.m 6 (.ptr 0 0)=some (.G7 (cM X li ga fa j),[(0,.own)]):=by
  have m0:s.s6.m 0=some (.box (cM X li ga fa j),.own):=m0;simp only[view];rw[m0];rfl
 have WE:=(cJ s.s6.m 6).1 _ _ _ hv;have J:=(d.mem.freeze d.ok.w8 _ WE).1;obtain⟨G,u⟩:=d.ok.frozen d.mem _ WE;have L:=K.M4 w (Q5 H [(0,.own)]);have q2:=d.tmp 2;rw[show s.s6.T 2=.ptr 0 0 from e2]at q2;simp only[b9]at q2;obtain⟨Dx,bm,i1,i2,i3⟩:=q2;obtain⟨bm',arr,ea,fz,j1,j2,j3⟩:=d.mem.cont 0 _ _ Dx m0 (by simp) i1
 rw[i2]at j1;cases j1;have v:(K.plus w (Q5 H [(0,.own)])).cells bm=some arr:=fM (cW (cb.2 rfl) i1 i2) d.ok.w8 j2;generalize Ky:K.plus w (Q5 H [(0,.own)])=K1 at J G u L v;have q6:=d.tmp 6;rw[show s.s6.T 6=.O1 1 false from e6]at q6;simp only[b9]at q6;obtain⟨N,k1,k2,_⟩:=q6;have q8:=d.tmp 8;rw[show s.s6.T 8=.O1 2 false from e8]at q8;simp only[b9]at q8;obtain⟨O,l1,l2,_⟩:=q8;obtain⟨b1,cs1,u1,u2,u3,u4,u5⟩:=Zm (d.mem.cont 1 _ _ N m1 (by simp) k1) rfl (fun n h=>lr (hbb n h) (by decide)) (by omega)
 obtain⟨b2,ZF,x1,x2,x3,x4,x5⟩:=Zm (d.mem.cont 2 _ _ O m2 (by simp) l1) rfl (fun n h=>lr (hpb n h) (by decide)) (by omega)
 have k:news [.z,.c (B8 b) (bH (Z4 (uP b))),.c (B8 p) (bH (Z4 (uP p)))] 0 .e (fun nx D=>
  fN (GM (pS g) p b) fun e0=>G3 2 (.c (bO 0 0)) e0 [] fun E A=>G3 5 (.c (G5 (B8 g))) E A fun E A=>G3 6 (.c (pJ 1 0 (B8 g) 1 0)) E A fun E A=>G3 8 (.c (pJ 2 0 (B8 g) 1 0)) E A fun E A=>
  YS 19 (a1J g) 5 Ap Tryz.prog 100000 RR (Td 100000 Tryz.prog RR) E A nx D 0 (YU g (Lc b)))=.ok (.c 1) []:=Oe k
 obtain⟨D,g1,g2⟩:=mT [.z,.c (B8 b) (bH (Z4 (uP b))),.c (B8 p) (bH (Z4 (uP p)))] 0 .e (fun nx D=>
  fN (GM (pS g) p b) fun e0=>G3 2 (.c (bO 0 0)) e0 [] fun E A=>G3 5 (.c (G5 (B8 g))) E A fun E A=>G3 6 (.c (pJ 1 0 (B8 g) 1 0)) E A fun E A=>G3 8 (.c (pJ 2 0 (B8 g) 1 0)) E A fun E A=>
  YS 19 (a1J g) 5 Ap Tryz.prog 100000 RR (Td 100000 Tryz.prog RR) E A nx D 0 (YU g (Lc b)))
 rw[g1]at k;clear g1;have hD:∀r,m6 3 D r=[HO.z,.c (B8 b) (bH (Z4 (uP b))),.c (B8 p) (bH (Z4 (uP p)))][r]?.getD .z:=fun r=>by
  have:=g2 r;rw[aj (fx r),kl]at this;exact this
 clear g2;rw[B6]at k;obtain⟨E1,A1,k,t1⟩:=M6 k;obtain⟨E2,A2,k,t2⟩:=M6 k;obtain⟨E3,A3,k,t3⟩:=M6 k;obtain⟨E4,A4,k,t4⟩:=M6 k
 let q:Nat->Option Hd:=fun r=>match r with
  |0=>some ⟨some bm,0,0,0⟩
  |1=>some ⟨some b1,cs1.size,0,0⟩
  |2=>some ⟨some b2,ZF.size,0,0⟩
  |_=>none
 have h3:∀r,3<=r->q r=none:=fun r hr=>by
  match r,hr with
  |r+3,_=>rfl
 have key:∀r c f hd,l9 (p8 3 D) r=some (c,f)->q r=some hd->f=.own/\((r=1/\hd=⟨some b1,cs1.size,0,0⟩/\c=.z5 (.c (B8 b) (bH (Z4 (uP b)))))\/(r=2/\hd=⟨some b2,ZF.size,0,0⟩/\c=.z5 (.c (B8 p) (bH (Z4 (uP p)))))):=by
  intro r c f hd h hh;obtain⟨o,y,h2,h4⟩:=L3 h;cases h4;rw[hD]at y
  match r,y,hh with
  |0,y,_=>exact absurd y.symm h2
  |1,y,hh=>exact⟨rfl,.inl ⟨rfl,(cz hh).symm,by rw[<-y];rfl⟩⟩
  |2,y,hh=>exact⟨rfl,.inr ⟨rfl,(cz hh).symm,by rw[<-y];rfl⟩⟩
  |r+3,y,hh=>cases hh
 have f1:y8 s.s6.m (J6 [(0,.own)]) 1=some (.sl tI (toI b),.own):=(dY _ _ (by decide)).trans m1
 have f2:y8 s.s6.m (J6 [(0,.own)]) 2=some (.sl tI (toI p),.own):=(dY _ _ (by decide)).trans m2
 have o1:=J.own 1 _ N b1 f1 k1 u1;have o2:=J.own 2 _ O b2 f2 l1 x1;have Dy:b1≠b2:=fun e=>by
  have:=d.mem.inj 1 2 _ _ N O b1 m1 m2 k1 l1 u1 (by rw[e];exact x1)
  cases this
 obtain⟨s1,P⟩:=B4.ex 197 (eW q 3++ []) E4 A4 3 D 0 (by decide)
 have mY:St ((dC (bB q 3) (T8 [])).O4 (eW q 3++ []) (gQ 0)) B F 197 K1 q (TE E4 A4) (l9 (p8 3 D)) a w:=by
  refine⟨G,⟨fun r c f hd y1 U R=>?_,fun r c hd bb y1 U R=>?_,fun r c hd bb y1 U R=>?_,fun r r' c c' hd S9 bb y1 U R y4 y5 y6=>?_⟩,d.size,d.defers,fun t=>?_,sA (show c6 K1 q [] []from rfl) (aY.refl q)⟩
  .obtain⟨_,⟨rfl,rfl,rfl⟩|⟨rfl,rfl,rfl⟩⟩:=key r c f hd y1 R
   .exact u5 K1 q
   .exact x5 K1 q
  .obtain⟨_,⟨rfl,rfl,rfl⟩|⟨rfl,rfl,rfl⟩⟩:=key r c _ hd y1 U
   .cases R;exact⟨o1.1,o1.2.1,o1.2.2.1,fun _=>o1.2.2.2 rfl⟩
   .cases R;exact⟨o2.1,o2.2.1,o2.2.2.1,fun _=>o2.2.2.2 rfl⟩
  .obtain⟨h,_⟩:=key r c _ hd y1 U;cases h
  .obtain⟨_,⟨rfl,rfl,rfl⟩|⟨rfl,rfl,rfl⟩⟩:=key r c _ hd y1 R<;>obtain⟨_,⟨rfl,rfl,rfl⟩|⟨rfl,rfl,rfl⟩⟩:=key r' c' _ S9 U y4
   .rfl
   .cases y5;cases y6;exact absurd rfl Dy
   .cases y5;cases y6;exact absurd rfl Dy
   .rfl
  .unfold TE;rw[t4];by_cases g8:t=8
   .rw[aj g8,g8];exact u6.I1 (.inr (.inr (Zu (H:=H) (by decide) (by rw[x2,n0,hp1]) (by omega) l2 x1 x3 x4 rfl)))
   rw[ai g8,t3];by_cases g6:t=6
   .rw[aj g6,g6];exact u6.I1 (.inr (.inr (Zu (H:=H) (by decide) (by rw[u2,n0,hb1]) (by omega) k2 u1 u3 u4 rfl)))
   rw[ai g6,t2];by_cases g5:t=5
   .rw[aj g5,g5,n0];have q5:=d.tmp 5;rw[show s.s6.T 5=rI (j.length:Nat)from e5]at q5;simp only[b9]at q5;rw[q5];exact u6.I1 (.inr (.inr (Hc _ (by omega))))
   rw[ai g5,t1];by_cases g2:t=2
   .rw[aj g2,g2,i3];exact u6.I1 (.inr (.inr (.ptr 0 0 ⟨some bm,0,0,0⟩ bm (by decide) (by decide) rfl rfl)))
   rw[ai g2,Zl (Of _ _ _)];trivial
 have hC:c6 K1 q (cM X li ga fa j) arr.toList:=aE (fun b cs e=>L.cells b cs e) _ _ rfl j3
 refine GZ m4 SH (Gp m4 SH) (nC (jV [])) (fun l h=>by cases h) (fun e=>by subst e;cases hB) (a1U (z:=.c 1) (lo:=[]) (F0:=F0) (V:=[]) (m0:=0) rfl h3 v hC hn4 hG Z Vb Y hB) 5 Ap txR dsR onR E4 A4 3 D 0 _ s1 F K1 q a w Q k P (.refl K1) hF (P.st.2 mY) (fun r hr=>h3 r (by rw[P.nx]at hr;exact hr)) ?_
 intro E5 A5 nx5 D5 p5 s5 F5 K5 H5 a5 w5 hk5 he5 Yk a4J hK5 a4G S C;refine a1W hB hk5 hT he5 (fun x hx=>Yk x (hF x hx)) a4J a4G (fun a' w' I ht=>hQ a' w' I ?_)
 exact ht.trans Yk (L.trans hK5) ((u.less hF).trans S) C
end Go.Abs.T2
end
