/- Part 5 of the road to this seat's statements: lemmas about a small interpreter over the model's code, and about the functions that it is used on. No condition of its own. -/
import Derived.Test.YtmpngboelipooaaGreatW4
set_option linter.all false
section
namespace Go.Abs
abbrev Zs:=List ((Nat×Nat×Nat)×MapEntry)
abbrev Z2(v:Zs):List Nat:=v.map (·.2.born)
structure a7F(zs:Zs)(seen:List Nat)(es:Array MapEntry):Prop where
 sub:∀e∈es.toList,∃q,(q,e)∈zs
 has:∀z∈zs,z.2.born ∉ seen->z.2∈es.toList
 nd:(es.toList.map (·.born)).Nodup
structure YA(X:Ctx)(g:List a7)(p:Nat)(F Hid:Nat->Prop)(K0:b8)(H0:Nat->Option Hd)(w0:World)(bi mb since ks vs:Nat)(zs:Zs):Prop where
 ok:X.Ok
 x:X.O4 g (gQ p) F K0 H0 w0
 hF:∀b,F b->Hid b
 hi:Hid bi
 hm:Hid mb
 nFi:¬F bi
 ci:K0.cells bi=none
 ii:K0.inv bi=none
 ne:mb≠bi
 old:∀z∈zs,z.2.born<since
 rep:∀z∈zs,y9 H0 ks z.1.2.1 z.2.key/\y9 H0 vs z.1.2.2 z.2.val
 nd:(Z2 zs).Nodup
structure WSt(X:Ctx)(B:Option Nat)(n:Nat)(g:List a7)(p:Nat)(F Hid:Nat->Prop)(K0:b8)(H0:Nat->Option Hd)(w0:World)(bi mb since:Nat)(T:Nat->a7)(m:Mm)(vis:Zs)(a:Act)(w:World):Prop where
 st:∃F1 K1,(∀b,Hid b->F1 b)/\St (X.O4 g (gQ p)) B F1 n K1 H0 T m a w/\K0.le K1/\Fix Hid K0 K1
 kept:Kept F w0 w
 it:∃c0,w.heap[bi]? =some (.mapIter (some mb) since (Z2 vis).reverse.toArray c0)/\since<=c0
section
variable {P:Program} {R:z0} {z:BV} {lo:List HO} {X:Ctx} {B:Option Nat} {ro:Option Nat} {n:Nat} {g:List a7} {Fu:Nat} {I:kF}
theorem Qt{zs:Zs}:∀ {vis:Zs},(∀z∈vis,z∈zs)->(Z2 vis).Nodup->vis.length<=zs.length:=by
 intro vis h a;have b:vis.Nodup:=sd _ (fun _ _ h e=>h (by rw[e])) a
 exact b.length_le_of_subset h
theorem BN(m4:P.follows .mixedOrders=true)(hR:F7 P R)(nK:N3 P (mZ I z lo))(hB:(B=none->ro≠none)\/∀y f args nx D k,I y f args nx D k≠ .ok z lo){l:WK}{Sl CQ:Nat}{oN:Oper}(Hl:l.a1.toList=oN::l.r1)(Ve:oN.op=.next l.i false)(Qj:oN.dst=some l.t)(Ol:oN.guard=none)
  (BC:Code.j5 l.c1=true)(bN:w7 n l.a1.toList=true)(Uw:o9 n l.c1=true)
  {c ks vs since nx p O mb:Nat}{E1 E3:Nat}{A1 A3:z7}{H0:Nat->Option Hd}{kZ:Hd}{D2 D3:m8}{kc:KC}{F0 F Hid:Nat->Prop}{K0:b8}{w0:World}{zs:Zs}{J:Zs->Act->World->Prop}
  (lO:eT X ro)(m:YA X g p F Hid K0 H0 w0 O mb since ks vs zs)(sC:sV c=true)(wV:pO c=0)(hi:J0 E1 A1 l.i=.c c)(Aw:H0 (pR c)=some kZ)(wW:kZ.base=some O)(Oi:kZ.len=0)(pY:nx<1048575)
  (G2:∀r,nx<=r->H0 r=none)(S:∀b,F0 b->F b)
  (hJm:∀vis a w,J vis a w->∃es clk,w.heap[mb]? =some (.map es clk)/\since<=clk/\a7F zs (Z2 vis) es)
  (hJn:∀vis a w w' v,J vis a w->(∀b,b≠O->w'.heap[b]? =w.heap[b]?)->J vis (a.put (some l.t) v) w')
  (hJe:∀vis,(∀z∈vis,z∈zs)->(Z2 vis).Nodup->(∀z∈zs,z.2.born∈Z2 vis)->∀F1 K1 a w,(∀b,Hid b->F1 b)->K0.le K1->Fix Hid K0 K1->Kept F w0 w->St (X.O4 g (gQ p)) B F1 n K1 H0 (O7 (TE E1 A1) (some l.t) (I1 (.t [(0,9)]))) (l9 (p8 nx D2)) a w->J vis a w->
   ∃F2,(∀b,F b->F2 b)/\St (X.O4 g (gQ p)) B F2 n K1 H0 (O7 (TE E3 A3) (some l.t) (I1 (.t [(0,9)]))) (l9 (p8 nx D3)) a w)
  {Q:Exit->Act->World->Prop}
  (T:∀ (Q':Exit->Act->World->Prop) vis,(∀z∈vis,z∈zs)->(Z2 vis).Nodup->∀z∈zs,z.2.born ∉ Z2 vis->∀aN wN,WSt X B n g p F Hid K0 H0 w0 O mb since (O7 (TE E1 A1) (some l.t) (I1 (.t [(0,17),(ks,z.1.2.1),(vs,z.1.2.2)]))) (l9 (p8 nx D2)) (z::vis) aN wN->J vis aN wN->∀es clk,wN.heap[O]? =some (.mapIter (some mb) since ((Z2 vis).reverse.toArray.push z.2.born) clk)->wN.heap[mb]? =some (.map es clk)->z.2∈es.toList->a7F zs (Z2 vis) es->
   (∀a' w',WSt X B n g p F Hid K0 H0 w0 O mb since (TE E1 A1) (l9 (p8 nx D2)) (z::vis) a' w'->J (z::vis) a' w'->Q' .normal a' w')->
   wpListIn (Wd ro) 0 P l.a1 (Exit.then ((Code.seq l.c1 (.block l.b (.seq (.region CQ l.a2 false) l.c2))).wpIn (Wd ro) 0 P Q') Q') l.r1 aN wN)
  (h:pZ l P Fu R I kc E3 A3 nx D3 p=.ok z lo)
  (hQ:∀e E' A' dE D' p' xK a' w',kc e E' A' dE D' p'=.ok z lo->B4 n g E' A' dE D' p' xK->gD X B F0 F n K0 w0 xK a' w'->Q e.out a' w'):
  ∀ (k:Nat) (vis:Zs) (a:Act) (w:World),zs.length<=vis.length+k->(∀z∈vis,z∈zs)->(Z2 vis).Nodup->WSt X B n g p F Hid K0 H0 w0 O mb since (TE E1 A1) (l9 (p8 nx D2)) vis a w->J vis a w->
   Code.roundsIn (Wd ro) 0 P (.seq (.region Sl l.a1 false) (.seq l.c1 (.block l.b (.seq (.region CQ l.a2 false) l.c2)))) Q (k+1) a w:=by
 have HG:∀ (j:Nat) (d:Tmp),(l.a1[j]?).bind (·.dst)=some d->d<n:=fun j d hj=>N1 bN j d (by simpa using hj)
 have u:=bN;rw[Hl]at u;simp only[w7,ah]at u;obtain⟨EE,AE,hk0,hTE⟩:=M6 (show G3 l.t (.t [(0,9)]) E3 A3 (fun E A=>L6 l.r1 P R none l.a1 (fun E A nx D p=>xV l.c1 P Fu R I none E A nx D p fun e E A nx D p=>pM e (.er 584 0) (fun i=>kc (.exit i) E A nx D p) (kc .ret E A nx D p)) E A nx D3 p)=.ok z lo from h)
 have b1A:O7 (TE E3 A3) (some l.t) (I1 (.t [(0,9)]))=TE EE AE:=by
  funext t';unfold TE;rw[hTE];simp only[O7];split<;>rfl
 intro k
 induction k using Nat.strongRecOn with
 |_ k ih=>
 intro vis a w hk G Cs qC hJ;rw[mg];refine jo (gz ?_);rw[Hl];obtain⟨⟨F1,K1,U,hS,hK,C⟩,o,c0,XM,hc0⟩:=qC;obtain⟨es,clk,Se,Sp,V⟩:=hJm vis a w hJ;have KA:a.eval l.i=.pointer (some ⟨O,0,none⟩):=by
  have Ak:u6 K1 H0 (.c c) (a.eval l.i):=by
   rw[<-hi];exact T7 hS.tmp l.i
  have h4:c % 8=4:=R9.1 sC;rcases Ak with⟨e,_⟩|⟨e,_⟩|hc
  .omega
  .omega
  .obtain⟨hd,b,g1,g2,g3,_⟩:=hc.gP sC;rw[Aw]at g1;cases g1;rw[wW]at g2;cases g2;rw[g3,wV,Oi]
 have hfb:=C O m.hi;have hold:∀x∈es.toList,x.born<since:=fun x hx=>by
  obtain⟨q,hq⟩:=V.sub x hx;exact m.old _ hq
 have H:∀e,e∈(leftOf es (Z2 vis).reverse.toArray).toList↔e∈es.toList/\e.born ∉ Z2 vis:=fun e=>by
  simp only[leftOf,sj,ft];simp
 refine a7E (F:=F) (K0:=K0) (H0:=H0) (w0:=w0) m.ok Ve Qj Ol u.1 hS m.x (fun b hb=>U b (m.hF b hb)) hK (fun _ _ e=>e) o (U O m.hi) m.nFi (by rw[hfb.1];exact m.ci) (by rw[hfb.2];exact m.ii) m.ne KA XM Se hold hc0 (fun hz K=>?_) (fun e he w' hw1 hw2 ZM K=>?_)
 ·
   have Qu:∀z∈zs,z.2.born∈Z2 vis:=fun z hz'=>by
    rcases re (z.2.born∈Z2 vis)with h'|h'
    .exact h'
    .have:=(H z.2).2 ⟨V.has z hz' h',h'⟩;rw[hz]at this;simp at this
   have L:=K (.t [(0,9)]) (by simp only[I1,az,lj,b9];exact⟨_,rfl,.cons (by simp only[b9];exact j6.Ax) .nil⟩)
   rw[Qj]at L ⊢;obtain⟨F2,hF2,hS2⟩:=hJe vis G Cs Qu F1 K1 _ w U hK C o L (hJn vis a w w _ hJ (fun _ _=>rfl))
   rw[b1A]at hS2;obtain⟨stE,heE⟩:=B4.ex n g EE AE nx D3 p pY;refine J1 (yl:=none) (Y:=none) (hh:=none) (F0:=F0) m.ok hR trivial trivial HG l.r1 EE AE nx D3 p _ stE F2 K1 H0 _ w hk0 u.2 heE (fun b hb=>hF2 b (S b hb)) (fun _ e=>by cases e) (heE.st.2 hS2) (fun r hr=>G2 r (by rw[heE.nx]at hr;exact hr)) (fun E2 A2 qB D2 p2 kC a2 w2 jS KJ kX=>?_)
   refine jo ?_;obtain⟨⟨F3,K2,H2,Bw,M,CG,Af,Gf⟩,Z⟩:=kX;refine eV m4 hR nK l.c1 BC Uw X B F0 ro none g none none m.ok lO trivial trivial hB E2 A2 qB D2 p2 _ kC F3 K2 H2 a2 w2 _ jS KJ (fun b hb=>Bw b (hF2 b (S b hb))) (fun _ e=>by cases e) M Af ?_
   intro e E4 A4 IM D4 p4 Yb a4 w4 s UE ZL;have ZL:=(ZL.trans Bw CG Gf Z).trans hF2 hK (C.less fun b hb=>m.hF b (S b hb)) (o.mono S)
   rcases O9 s with⟨rfl,s⟩|⟨i,rfl,s⟩|⟨rfl,s⟩
   .cases s
   .exact hQ (.exit i) _ _ _ _ _ Yb a4 w4 s UE ZL
   .exact hQ .ret _ _ _ _ _ Yb a4 w4 s UE ZL
 ·
   obtain⟨uN,fZ⟩:=(H e).1 he;obtain⟨q,hq⟩:=V.sub e uN;obtain⟨hrk,hrv⟩:=m.rep _ hq;have L:=K (.t [(0,17),(ks,q.2.1),(vs,q.2.2)]) (by
    simp only[I1,az,lj,b9]
    exact⟨_,rfl,.cons (by simp only[b9];exact j6.SN) (.cons (by simp only[b9];exact hrk) (.cons (by simp only[b9];exact hrv) .nil))⟩)
   rw[Qj]at L ⊢;have a7H:(Z2 ((q,e)::vis)).Nodup:=dn.2 ⟨fZ,Cs⟩;have N:∀z∈(q,e)::vis,z∈zs:=fun z hz=>(av.1 hz).elim (fun e=>e▸hq) (G z)
   have hlen:=Qt N a7H;obtain⟨k',rfl⟩:∃k',k=k'+1:=⟨k- 1,by simp only[bq]at hlen;omega⟩
   refine T _ vis G Cs (q,e) hq fZ _ w' ⟨⟨F1,K1,U,L,hK,C⟩,ZM,clk,?_,Sp⟩ (hJn vis a w w' _ hJ hw2) es clk hw1 (by rw[hw2 mb m.ne];exact Se) uN V (fun a2 w2 M Lg=>?_)
   .rw[hw1];simp
   .exact ih k' (by omega) ((q,e)::vis) a2 w2 (by simp only[bq];omega) N a7H M Lg
end
end Go.Abs
end
section
namespace Go.Abs
section
variable {P:Program} {R:z0} {z:BV} {lo:List HO} {X:Ctx} {B:Option Nat} {ro:Option Nat} {n:Nat} {g:List a7} {Fu:Nat} {I:kF}
theorem IY{a:Nat}{b:m8}{nx:Nat}{D:m8}:∀ {k:Nat},a4P a b nx D k=true->∀r,r<k->m6 a b r=m6 nx D r
 |0,_,r,c=>absurd c (rl r)
 |k+1,h,r,c=>by
  have h:iB (XP (m6 a b k) (m6 nx D k)) (a4P a b nx D k) false=true:=h;rw[a9]at h;split at h
  .rename_i d;by_cases e:r=k
   .rw[e];exact IF d
   .exact IY h r (by omega)
  .cases h
theorem Qv{b:List Nat}{c:Nat}{d:z7}{nx:Nat}{D:m8}{p:Nat}{lg:List Ef}{E:Nat}{A:z7}{a:Nat}{e:m8}{f:Nat}(h:bY b c d nx D p lg E A a e f=.ok z lo):f=p/\(∀t∈b,o8 E A t=o8 c d t)/\(∀r,r<nx->m6 a e r=m6 nx D r)/\z=.t lg:=by
 unfold bY at h;simp only[a9]at h;split at h
 .rename_i i;split at h
  .rename_i j;split at h
   .rename_i k;cases h;exact⟨ab i,BE j,IY k,rfl⟩
   .cases h
  .cases h
 .cases h
theorem Qw(m4:P.follows .mixedOrders=true)(hR:F7 P R)(nK:N3 P (mZ I z lo))(hB:(B=none->ro≠none)\/∀y f args nx D k,I y f args nx D k≠ .ok z lo){d:WK}{CQ:Nat}{oN oE:Oper}(Hl:d.a1.toList=oN::d.r1)(uN:d.a2.toList=oE::d.r2)(fZ:oE.op=.entry d.i2)(Hk:oE.dst=some d.t2)(xJ:oE.guard=none)
  (BC:Code.j5 d.c1=true)(bN:w7 n d.a1.toList=true)(Uw:o9 n d.c1=true)(kB:w7 n d.a2.toList=true)
  {c ks vs j nx p bi mb s:Nat}{G:Nat}{L:z7}{H0:Nat->Option Hd}{kZ Dx:Hd}{D2:m8}{Ks:List Nat}{F M:Nat->Prop}{K0:b8}{w0:World}{zs:Zs}{hid:Hid}
  (lO:eT X ro)(U:YA X g p F (pH M s) K0 H0 w0 bi mb j ks vs zs)(sC:sV c=true)(wV:pO c=0)(Aw:H0 (pR c)=some kZ)(wW:kZ.base=some bi)(Oi:kZ.len=0)(pY:nx<1048575)
  (V:∀r,nx<=r->H0 r=none)(Sn:∀t,t ∉ Ks->o8 G L t=.u)(Wi:o8 G L d.t=.u)
  (hFr:∀b,F b->M b)(hFi:M bi)(hF0:¬M s)(hc0:K0.cells s=none)(hv0:K0.inv s=none)(hp:hid.p=p)(hh1:H0 hid.r0=some Dx)(Yy:Dx.base=some s)
  {vis:Zs}{q:Nat×Nat×Nat}{e:MapEntry}{aN:Act}{wN:World}{es es0:Array MapEntry}{clk clk0:Nat}
  (qC:WSt X B n g p F (pH M s) K0 H0 w0 bi mb j (O7 (TE G L) (some d.t) (I1 (.t [(0,17),(ks,q.2.1),(vs,q.2.2)]))) (l9 (p8 nx D2)) ((q,e)::vis) aN wN)
  (hb:wN.heap[bi]? =some (.mapIter (some mb) j ((Z2 vis).reverse.toArray.push e.born) clk))(hm:wN.heap[mb]? =some (.map es clk))(hem:e∈es.toList)(hes:(es.toList.map (·.born)).Nodup)(hqe:(q,e)∈zs)(RC:wN.heap[s]? =some (.map es0 clk0))
  (h:S2 d hid c ks vs P Fu R I (bY Ks G L nx D2 p) q G L nx D2 p=.ok z lo)
  {Pa:Act->Prop}(hPd:∀ (a:Act) ds,Pa a->Pa {a with defers:=ds})(a4R:∀o∈d.r1,∀a v,Pa a->Pa (a.put o.dst v))(a1u:∀o∈d.a2.toList,∀a v,Pa a->Pa (a.put o.dst v))(hPc:(∀a,Pa a)\/Qq d.c1=true)(hPa:Pa aN)
  {J:List Ef->Array MapEntry->Nat->Act->Prop}
  (hT:∀ (X':Ctx) (g':List a7) (Kr:b8) (E4:Nat) (A4:z7) (Y:Nat) (D4:m8) (p4:Nat) (a4:Act) (w4:World) (Q4:Exit->Act->World->Prop),TB X' M s g' Kr H0 wN hid->CT d.c2 P Fu R I hid [] E4 A4 Y D4 p4 (bY Ks G L nx D2 p)=.ok z lo->TI X' B M s n g' Kr wN E4 A4 Y D4 p4 a4 w4->w4.heap[s]? =some (.map es0 clk0)->Pa a4->
   (∀lg' E' A' dE D' p' a' w' A i,bY Ks G L nx D2 p lg' E' A' dE D' p'=.ok z lo->TI X' B M s n g' Kr wN E' A' dE D' p' a' w'->w'.heap[s]? =some (.map A i)->J lg' A i a'->Q4 .normal a' w')->d.c2.wpIn (Wd ro) 0 P Q4 a4 w4)
  {Q:Exit->Act->World->Prop}
  (hQ:∀lg A i a' w',z=.t lg->WSt X B n g p F (pH M s) K0 H0 w0 bi mb j (TE G L) (l9 (p8 nx D2)) ((q,e)::vis) a' w'->Kept M wN w'->w'.heap[s]? =some (.map A i)->J lg A i a'->Q .normal a' w'):
  wpListIn (Wd ro) 0 P d.a1 (Exit.then ((Code.seq d.c1 (.block d.b (.seq (.region CQ d.a2 false) d.c2))).wpIn (Wd ro) 0 P Q) Q) d.r1 aN wN:=by
 have O:=bN;rw[Hl]at O;simp only[w7,ah]at O;obtain⟨⟨F1,Kr,N,hS,hK,Q7⟩,S,c0,XM,b1D⟩:=qC;obtain⟨E2,A2,h2,hT2⟩:=M6 (show G3 d.t (.t [(0,17),(ks,q.2.1),(vs,q.2.2)]) G L _=_ from h);have hTT:O7 (TE G L) (some d.t) (I1 (.t [(0,17),(ks,q.2.1),(vs,q.2.2)]))=TE E2 A2:=by
  funext t';unfold TE;rw[hT2];simp only[O7];split<;>rfl
 have So:(dC (bB H0 nx) X).Ok:=nC U.ok;have hSr:=hS;rw[hTT]at hSr;obtain⟨Z,Ye⟩:=B4.ex n (eW H0 nx++g) E2 A2 nx D2 p pY;have Yf:St ((dC (bB H0 nx) X).O4 Z.gh Z.o7) B F1 n Kr H0 Z.s6.T Z.s6.m aN wN:=Ye.st.2 (hSr.Yd (sA hSr.x (fun _ _ e=>e)))
 obtain⟨hrk,hrv⟩:=U.rep _ hqe;have b1F:∀b,M b->F1 b:=fun b hb=>N b (.inl hb)
 have tb:TB (dC (bB H0 nx) X) M s (eW H0 nx++g) Kr H0 wN hid:=by
  have hfx:=Q7 s (.inr rfl);refine⟨So,?_,fun F K H p w hx=>(Y2 hx V).1,⟨Dx,hh1,Yy⟩,hF0,by rw[hfx.1];exact hc0,by rw[hfx.2];exact hv0⟩
  rw[hp];exact sA ((U.ok.grow g (gQ p)).grow F M K0 Kr H0 H0 w0 wN U.x hFr hK (fun _ _ e=>e) S) (fun _ _ e=>e)
 refine Qs m4 hR nK hB uN fZ Hk xJ BC bN O.2 Uw kB (es:=es) (e:=e) h2 So lO.pair (fun F K H p w hx=>(Y2 hx V).1) sC wV Aw wW Oi hem hes hrk hrv (F:=F1) (N bi U.hi) (N mb U.hm) hb hm Ye Yf (fun r hr=>V r (by rw[Ye.nx]at hr;exact hr)) hPd a4R a1u hPc hPa (fun E4 A4 Y D4 p4 Yb a4 w4 Ux xJ ZL Yz=>?_)
 obtain⟨⟨F4,K4,H4,Uy,KK,hK4,Yh,Yi⟩,C⟩:=ZL;refine hT _ _ Kr E4 A4 Y D4 p4 a4 w4 _ tb Ux ⟨⟨Yb,F4,K4,H4,xJ,fun b hb=>Uy b (N b hb),KK,hK4,Yh,Yi.less N⟩,C.mono b1F⟩ (by rw[C.block s (N s (.inr rfl))];exact RC) Yz (fun lg E5 A5 nx5 D5 p5 a5 w5 A i hk5 ti hh5 hJ5=>?_)
 obtain⟨rfl,Sp,Yg,rfl⟩:=Qv hk5;obtain⟨⟨st5,F5,K5,H5,he5,Yk,E,hK5,a4G,a7I⟩,l⟩:=ti;have E:=he5.st.1 E;have XZ:aY H0 H5:=(Y2 E.x V).1;have ZM:Kept F w0 w5:=S.trans (l.mono hFr);refine hQ lg A i a5 w5 rfl ⟨⟨F5,K5,Yk,St.back (U.ok.grow g (gQ p5)) U.x hS.tmp hS.mem E (fun b hb=>Yk b (U.hF b hb)) (hK.trans hK5) XZ ZM (fun t=>?_) (fun r x hx=>?_),hK.trans hK5,Q7.trans a7I⟩,ZM,c0,?_,b1D⟩ l hh5 hJ5
 .by_cases ht:t∈Ks
  .by_cases kX:t=d.t
   .left;show I1 (o8 G L t)=_;rw[kX,Wi];rfl
   .refine .inr ⟨o8 G L t,rfl,?_,?_⟩
    .show I1 (o8 E5 A5 t)=_;rw[Sp t ht]
    .simp only[O7,ai kX];rfl
  .left;show I1 (o8 G L t)=_;rw[Sn t ht];rfl
 .obtain⟨o',e1,e2,e3⟩:=L3 hx;refine⟨?_,o',e3,.inl hx⟩;rw[e3];have yE:=fG e1 e2;exact F9 (by rw[Yg r yE,e1]) e2
 .rw[l.block bi hFi];exact XM
end
end Go.Abs
end
section
namespace Go.Abs
section
variable {H H':Nat->Option Hd} {P:Program}
theorem y9.free{b m:Nat}{v:Value}(h:y9 H b m v)(d:∀i,i<nL b->P3 m i % 8<=3):y9 H' b m v:=by
 cases b with
 |zero=>
  have h:j6 H m v:=h;have e:=d 0 (Nat.zero_lt_one);rw[X6 h.lt.2]at e;exact h.free e
 |succ k=>
  obtain⟨cs,e,o,f,q⟩:=h;exact⟨cs,e,o,f,fun i x j=>(q i x j).free (d i (by show i<k;rw[<-f];exact O8 j))⟩
theorem xA{b m:Nat}(h:fJ (OF b) m=true):∀i,i<nL b->P3 m i % 8<=3:=fun i d=>by
 have:=Xa (Ih h i (by rw[Kf];exact d))
 omega
theorem gL.free{ks key:Nat}(h:gL ks key):∀i,i<nL ks->P3 key i % 8<=3:=fun i b=>by
 have:=h i b;omega
theorem GC{ks vs:Nat}:∀ {L:ME},nW ks vs L=true->∀p∈L,fJ (OF ks) p.2.1=true/\fJ (OF vs) p.2.2=true
 |[],_,p,b=>by cases b
 |a::L,h,p,b=>by
  have h:iB (fJ (OF ks) a.2.1) (iB (fJ (OF vs) a.2.2) (nW ks vs L) false) false=true:=h;simp only[a9]at h;split at h
  .rename_i d;split at h
   .rename_i e;rcases av.1 b with rfl|b
    .exact⟨d,e⟩
    .exact GC h p b
   .cases h
  .cases h
theorem D7.free{ks vs clk:Nat}{L:ME}{es:Array MapEntry}(h:D7 H ks vs L clk es)(i:nW ks vs L=true):∀H',D7 H' ks vs L clk es:=fun H'=>by
 obtain⟨l',b,d,k⟩:=h;refine⟨l',?_,d,k⟩;rw[E9]at b ⊢;refine⟨b.1,fun j p e f o=>?_⟩
 obtain⟨q,g2,r,s⟩:=b.2 j p e f o;obtain⟨t,u⟩:=GC i p (d.mem_iff.2 (df f));exact⟨q,g2.free (xA t),r.free (xA u),s⟩
theorem b1G{h:Hid}(q:h.kd=0){r:Nat}(s:ME×Nat):TOk P h r (fun lg es clk=>clk=(S8 lg.reverse s).2/\∀H,D7 H h.ks h.vs (S8 lg.reverse s).1 clk es):=by
 refine⟨fun _ lg es clk key m w H t kt I J L A hh x g2 y u k C=>?_,fun e=>absurd (q.symm.trans e) (by decide)⟩
 obtain⟨v,o⟩:=A;obtain⟨f,d,z⟩:=Sr (P:=P) (n:=m) x g2 y u k hh (o H);have e:S8 ((key,m)::lg).reverse s=sD (key,m) ((S8 lg.reverse s).1,clk):=by
  rw[mn,BH,v];rfl
 refine⟨f,_,d,by rw[e],fun H'=>?_⟩
 obtain⟨E,b,i⟩:=Sr (P:=P) (n:=m) x g2 (y.free (H':=H') u.free) u (k.free (H':=H') (xA C)) hh (o H');rw[d]at b;have G:=(Result.ok.inj b).2;have j:(w.putObj r (.map f (sD (key,m) ((S8 lg.reverse s).1,clk)).2)).heap[r]? =some (.map f (sD (key,m) ((S8 lg.reverse s).1,clk)).2):=by rw[I0 hh,aj rfl]
 rw[G,I0 hh,aj rfl]at j;injection j with j;injection j with j;subst j;rw[e];exact i
end
section
variable {X:fW} {B:Option Nat} {F F1:Nat->Prop} {n:Nat} {K K0:b8} {H:Nat->Option Hd} {T:Nat->a7} {m:Mm} {a:Act} {w w0:World}
theorem St.Sw(V:X.Ok)(o:X F K0 H w0)(h:St X B F1 n K H T m a w){r ks vs clk b:Nat}{L:ME}{es:Array MapEntry}{hd:Hd}(hm:m r=none)(z:H r=some hd)(A:hd.base=some b)(hh:w.heap[b]? =some (.map es clk))(u:D7 H ks vs L clk es)
  (I:F1 b)(Y:¬F b)(J:∀b,F b->F1 b)(Z:K.cells b=none)(hi:K.inv b=none)(hK:K0.le K)(hk:Kept F w0 w):
  St X B (fun x=>F1 x/\x≠b) n K H T (N9 m r (.z5 (.m ks vs L clk),.own)) a w/\∀x,F x->F1 x/\x≠b:=by
 have s:∀x,F x->F1 x/\x≠b:=fun x o=>⟨J x o,fun e=>Y (e▸o)⟩
 have cs:∀i x,N9 m r (c7.z5 (.m ks vs L clk),p0.own) i=some x->(i=r/\x=(.z5 (.m ks vs L clk),.own))\/(i≠r/\m i=some x):=fun i x o=>by
  by_cases e:i=r
  .subst e;rw[j8]at o;cases o;exact .inl ⟨rfl,rfl⟩
  .rw[m7 _ _ _ _ e]at o;exact .inr ⟨e,o⟩
 refine⟨⟨⟨h.ok.w8,fun t M=>h.ok.lt t M.1,fun t p hp s=>h.ok.inv t p hp s.1,h.ok.apart⟩,⟨?_,?_,?_,?_⟩,h.size,?_,h.tmp,V.grow F _ K0 K H H w0 w o s hK (fun _ _ e=>e) hk⟩,s⟩
 .intro i c f d j k q3;rcases cs i _ j with⟨rfl,e⟩|⟨e,j⟩
  .cases e;rw[z]at q3;cases q3;exact⟨b,es,A,hh,u⟩
  .exact h.mem.cont i c f d j k q3
 .intro i c d t j k q3;rcases cs i _ j with⟨rfl,e⟩|⟨e,j⟩
  .cases e;rw[z]at k;cases k;rw[A]at q3;cases q3;exact⟨fun hh=>hh.2 rfl,Z,hi,fun h=>by cases h⟩
  .obtain⟨g1,g2,g3,g4⟩:=h.mem.own i c d t j k q3;exact⟨fun hh=>g1 hh.1,g2,g3,g4⟩
 .intro i c d t j k q3;rcases cs i _ j with⟨rfl,e⟩|⟨e,j⟩
  .cases e
  .exact h.mem.X9 i c d t j k q3
 .intro N C c1 c2 v y t j k q3 q4 q5 q6;have not:∀i c d,m i=some (c,p0.own)->H i=some d->d.base=some b->False:=fun i c d e1 e2 e3=>(h.mem.own i c d b e1 e2 e3).1 I
  rcases cs N _ j with⟨U,e⟩|⟨e,y1⟩
  .rcases cs C _ k with⟨O,R⟩|⟨R,S⟩
   .rw[U,O]
   .rw[U,z]at q3;cases q3;rw[A]at q5;cases q5;exact(not C _ y S q4 q6).elim
  .rcases cs C _ k with⟨O,R⟩|⟨R,S⟩
   .rw[O,z]at q4;cases q4;rw[A]at q6;cases q6;exact(not N _ v y1 q3 q5).elim
   .exact h.mem.inj N C c1 c2 v y t y1 S q3 q4 q5 q6
 .have hd:=h.defers;cases B with
  |none=>exact hd
  |some q=>
   obtain⟨h0,Ds,h1,h2,E⟩:=hd;refine⟨h0,Ds,h1,h2,fun D G=>⟨(E D G).1,⟨(E D G).2.1,fun e=>?_⟩,(E D G).2.2⟩⟩
   have:=(E D G).2.2;rw[e,hh]at this;cases this
end
structure uO(X:Ctx)(B:Option Nat)(n:Nat)(g:List a7)(p:Nat)(F:Nat->Prop)(K:b8)(H:Nat->Option Hd)(a:Act)(w:World)(E1:Nat)(A1:z7)(nx:Nat)(D D1:m8)(wk:WK)(c mi ks vs clk:Nat)(l l':ME)(bi mb:Nat)(kZ Av:Hd)(es:Array MapEntry)(Ks:List Nat):Prop where
 ok:X.Ok
 st:St (X.O4 g (gQ p)) B F n K H (TE E1 A1) (l9 (p8 nx D)) a w
 lt:nx<1048575
 P1:sV c=true
 P2:pO c=0
 hi:J0 E1 A1 wk.i=.c c
 Di:m6 nx D (pR c)=.i mi clk [] clk
 Dm:m6 nx D mi=.m ks vs l clk
 mr:mi≠pR c
 d1:∀r,m6 nx D1 r=if r=pR c then .z else m6 nx D r
 i1:H (pR c)=some kZ
 i2:kZ.base=some bi
 i0:kZ.len=0
 m1:H mi=some Av
 m2:Av.base=some mb
 it:w.heap[bi]? =some (.mapIter (some mb) clk #[] clk)
 hm:w.heap[mb]? =some (.map es clk)
 rel:G8 H ks vs l' es.toList
 perm:l.Perm l'
 keys:(l.map (·.2.1)).Nodup
 Qx:(es.toList.map (·.born)).Nodup
 old:∀e∈es.toList,e.born<clk
 fr:∀r,nx<=r->H r=none
 ks0:∀t,t ∉ Ks->o8 E1 A1 t=.u
 tu:o8 E1 A1 wk.t=.u
section
variable {X:Ctx} {B:Option Nat} {n:Nat} {g:List a7} {p:Nat} {F:Nat->Prop} {K:b8} {H:Nat->Option Hd} {a:Act} {w:World} {E1:Nat} {A1:z7} {nx:Nat} {D D1:m8} {wk:WK} {c mi ks vs clk:Nat} {l l':ME} {bi mb:Nat} {kZ Av:Hd} {es:Array MapEntry} {Ks:List Nat}
theorem Sx{α β:Type}{a:α}{b:β}:∀ {l:List α} {m:List β},(a,b)∈l.zip m->∃i:Nat,l[i]? =some a/\m[i]? =some b:=fun {l m} h=>by
 obtain⟨i,d⟩:=bn.1 h;rw[qf]at d;exact⟨i,d⟩
theorem uO.len(h:uO X B n g p F K H a w E1 A1 nx D D1 wk c mi ks vs clk l l' bi mb kZ Av es Ks):es.toList.length=l'.length:=((E9 _ _).1 h.rel).1
theorem uO.fst(h:uO X B n g p F K H a w E1 A1 nx D D1 wk c mi ks vs clk l l' bi mb kZ Av es Ks):(l'.zip es.toList).map Prod.fst=l':=List.map_fst_zip (by rw[h.len];exact aw _)
theorem uO.snd(h:uO X B n g p F K H a w E1 A1 nx D D1 wk c mi ks vs clk l l' bi mb kZ Av es Ks):(l'.zip es.toList).map Prod.snd=es.toList:=List.map_snd_zip (by rw[h.len];exact aw _)
theorem uO.rep(h:uO X B n g p F K H a w E1 A1 nx D D1 wk c mi ks vs clk l l' bi mb kZ Av es Ks){z:(Nat×Nat×Nat)×MapEntry}(f:z∈l'.zip es.toList):eH H ks vs z.1 z.2/\z.1∈l/\z.2∈es.toList:=by
 obtain⟨i,d,e⟩:=Sx (a:=z.1) (b:=z.2) f;exact⟨((E9 _ _).1 h.rel).2 i _ _ d e,h.perm.mem_iff.2 (df d),df e⟩
theorem uO.blk(h:uO X B n g p F K H a w E1 A1 nx D D1 wk c mi ks vs clk l l' bi mb kZ Av es Ks):(¬F bi/\K.cells bi=none/\K.inv bi=none)/\(¬F mb/\K.cells mb=none/\K.inv mb=none)/\mb≠bi:=by
 have b:l9 (p8 nx D) (pR c)=some (.z5 (.i mi clk [] clk),.own):=F9 h.Di (by simp)
 have d:l9 (p8 nx D) mi=some (.z5 (.m ks vs l clk),.own):=F9 h.Dm (by simp)
 obtain⟨a1,f,j,_⟩:=h.st.mem.own _ _ _ _ b h.i1 h.i2;obtain⟨k,o,q,_⟩:=h.st.mem.own _ _ _ _ d h.m1 h.m2;refine⟨⟨a1,f,j⟩,⟨k,o,q⟩,fun e=>h.mr ?_⟩
 exact h.st.mem.inj _ _ _ _ _ _ bi d b h.m1 h.i1 (by rw[<-e];exact h.m2) h.i2
theorem uO.base(h:uO X B n g p F K H a w E1 A1 nx D D1 wk c mi ks vs clk l l' bi mb kZ Av es Ks){Hid:Nat->Prop}(i:∀b,F b->Hid b)(j:Hid bi)(k:Hid mb):YA X g p F Hid K H w bi mb clk ks vs (l'.zip es.toList):=by
 obtain⟨⟨a1,o,q⟩,_,f⟩:=h.blk;refine⟨h.ok,h.st.x,i,j,k,a1,o,q,f,fun z d=>h.old _ (h.rep d).2.2,fun z d=>⟨(h.rep d).1.2.1,(h.rep d).1.2.2.1⟩,?_⟩
 have e:Z2 (l'.zip es.toList)=es.toList.map (·.born):=by
  have:=congrArg (List.map fun(e:MapEntry)=>e.born) h.snd
  rw[fm]at this;exact this
 rw[e];exact h.Qx
end
end Go.Abs
end
section
namespace Go.Abs
def bL(f:Nat×Nat×Nat->Rn)(q:Nat×Nat×Nat):List Ef:=match f q with
 |.ok (.t lg) _=>lg
 |_=>[]
section
variable {z:BV} {lo:List HO}
theorem KU{f:Nat×Nat×Nat->Rn}:∀ {L:ME} {b:List (List Ef)} {k:List (List Ef)->Rn},KO f L b k=.ok z lo->k ((L.map (bL f)).reverse++b)=.ok z lo/\∀q∈L,∃i,f q=.ok (.t (bL f q)) i
 |[],b,k,h=>⟨h,fun q j=>by cases j⟩
 |q::L,b,k,h=>by
  have h: @Rn.rec (fun _=>Rn) (fun c x=>.er c x) (fun v _=>@BV.rec (fun _=>Rn) (fun _=>.er 668 0) (fun _ _=>.er 668 1) (fun lg=>KO f L (lg::b) k) (.er 668 2) v) (f q)=.ok z lo:=h
  cases g:f q with
  |er c x=>rw[g]at h;cases h
  |ok v i=>
   rw[g]at h;cases v with
   |c _=>cases h
   |a _ _=>cases h
   |u=>cases h
   |t lg=>
    have e:bL f q=lg:=by unfold bL;rw[g]
    obtain⟨l,m⟩:=KU (L:=L) h;refine⟨?_,fun o d=>?_⟩
    .rw[az,mn,bk,e];exact l
    .rcases av.1 d with rfl|d
     .exact⟨i,by rw[g,e]⟩
     .exact m o d
theorem GD:∀ (l:List (List Ef)),nE l=l.flatten
 |[]=>rfl
 |a::l=>by
  show List.append a (nE l)=_;rw[GD l];rfl
theorem inE{k:Nat}{c:Ef}(b:c.1=k):∀ {l:List Ef},c∈l-> @List.rec Ef (fun _=>Bool) false (fun c _ d=>iB (Nat.beq c.1 k) true d) l=true
 |[],h=>by cases h
 |a::l,h=>by
  show iB (Nat.beq a.1 k) true _=true;rw[a9];split
  .rfl
  .rename_i e;rcases av.1 h with rfl|h
   .exact absurd (by rw[b];exact fo _) e
   .exact inE b h
theorem CV:∀ {l:List Ef},BL l=true->(l.map (·.1)).Nodup
 |[],_=>by simp
 |e::l,h=>by
  have h:iB (@List.rec Ef (fun _=>Bool) false (fun g _ b=>iB (Nat.beq g.1 e.1) true b) l) false (BL l)=true:=h
  rw[a9]at h;split at h
  .cases h
  .rename_i i;rw[az,dn];refine⟨fun j=>i ?_,CV h⟩
   obtain⟨g,c,d⟩:=cd.1 j;exact inE d c
theorem GF{k v:Nat}:∀ (l:ME),NA k v l=U8 k v l
 |[]=>rfl
 |p::l=>by
  show iB (Nat.beq p.2.1 k) ((p.1,k,v)::l) (p::NA k v l)=_;rw[a9,GF l];by_cases e:p.2.1=k
  .simp only[U8,e,di,fo]
  .simp only[U8,e,dw];rw[ai (fun hh=>e (ab hh))]
theorem GG{k:Nat}:∀ (l:ME),NB k l=Y6 k l
 |[]=>rfl
 |p::l=>by
  show iB (Nat.beq p.2.1 k) true (NB k l)=_;rw[a9,GG l];unfold Y6;rw[jv];cases Nat.beq p.2.1 k<;>rfl
theorem xB:∀ (l:ME) (k:ME->Rn),uD l k=k l
 |[],_=>rfl
 |p::l,k=>by
  show fN p.1 (fun a=>fN p.2.1 fun b=>fN p.2.2 fun c=>uD l fun l=>k ((a,b,c)::l))=_
  rw[B6,B6,B6,xB l]
theorem NG:∀ (es:List Ef) (L:ME) (c:Nat) (k:ME->Nat->Rn),IW es L c k=k (S8 es (L,c)).1 (S8 es (L,c)).2
 |[],_,_,_=>rfl
 |e::es,L,c,k=>by
  show uD (NA e.1 e.2 L) (fun b=>fN (iB (NB e.1 L) c (Nat.succ c)) fun c'=>IW es b c' k)=_
  rw[xB,B6,NG es,GF,GG,a9];rfl
end
def kH(f:Nat×Nat×Nat->Rn)(vis:Zs):List Ef:=(vis.reverse.map fun z=>(bL f z.1).reverse).flatten
theorem IZ{f:Nat×Nat×Nat->Rn}{z:(Nat×Nat×Nat)×MapEntry}{vis:Zs}:kH f (z::vis)=kH f vis++(bL f z.1).reverse:=by
 simp[kH]
section
variable {α β:Type} {f:α->List β}
theorem UF{l e:List α}(h:l.Perm e):(l.map f).flatten.Perm (e.map f).flatten:=by
 induction h with
 |nil=>exact .refl _
 |cons a _ g=>simp only[az,gb];exact g.append_left _
 |swap a b l=>
  simp only[az,gb,<-bk];exact List.perm_append_comm.append_right _
 |trans _ _ c d=>exact c.trans d
theorem NH:∀ (l:List α),(l.map fun x=>(f x).reverse).flatten.Perm (l.map f).flatten
 |[]=>.refl _
 |a::l=>by
  simp only[az,gb];exact(ot _).append (NH l)
end
theorem BO{f:Nat×Nat×Nat->Rn}{vis:Zs}{l:ME}(h:(vis.map Prod.fst).Perm l):(kH f vis).Perm ((l.map (bL f)).reverse).flatten:=by
 unfold kH;refine(NH (f:=fun z=>bL f z.1) vis.reverse).trans ?_
 rw[<-List.map_reverse];have e:vis.reverse.map (fun z=>bL f z.1)=(vis.reverse.map Prod.fst).map (bL f):=by rw[fm];rfl
 rw[e,List.map_reverse (f:=Prod.fst)];exact UF ((ot _).trans (h.trans (ot _).symm))
theorem xC{zs vis:Zs}(g:∀z∈vis,z∈zs)(r:(Z2 vis).Nodup)(s:∀z∈zs,z.2.born∈Z2 vis)(k:(Z2 zs).Nodup):vis.Perm zs:=by
 have m:∀ {l:Zs},(Z2 l).Nodup->l.Nodup:=fun h=>sd _ (fun _ _ h e=>h (by rw[e])) h
 refine(List.perm_ext_iff_of_nodup (m r) (m k)).2 fun z=>⟨g z,fun o=>?_⟩
 obtain⟨p,b,e⟩:=cd.1 (s z o);have:p=z:=by
  obtain⟨i,c⟩:=bn.1 (g p b);obtain⟨j,q⟩:=bn.1 o;have d:(Z2 zs)[i]? =(Z2 zs)[j]? :=by
   show(zs.map _)[i]? =(zs.map _)[j]?;rw[bo,bo,c,q];simp[e]
  have:i=j:=(mj (by show i<(zs.map _).length;rw[dy];exact O8 c) k).1 d
  rw[this,q]at c;exact(cz c).symm
 exact this▸b
section
variable {X:fW} {B:Option Nat} {F:Nat->Prop} {n:Nat} {K:b8} {H:Nat->Option Hd} {E:Nat} {A:z7} {a:Act} {w:World} {nx:Nat} {D D1:m8} {v0:Nat}
theorem CW{r0 N:Nat}:∀ {s:Nat},GA r0 N s=true->∃i,i<s/\vV (P3 N i)=true/\mR (P3 N i)=r0
 |0,h=>by cases h
 |s+1,h=>by
  have h:iB (iB (vV (P3 N s)) (Nat.beq (mR (P3 N s)) r0) false) true (GA r0 N s)=true:=h;have key:GA r0 N s=true\/(vV (P3 N s)=true/\Nat.beq (mR (P3 N s)) r0=true):=by
   cases b:vV (P3 N s)with
   |false=>rw[b]at h;exact .inl h
   |true=>
    rw[b]at h;cases c:Nat.beq (mR (P3 N s)) r0 with
    |true=>exact .inr ⟨rfl,rfl⟩
    |false=>rw[c]at h;exact .inl h
  rcases key with h|⟨b,c⟩
  .obtain⟨i,b,c⟩:=CW h;exact⟨i,Nat.lt_succ_of_lt b,c⟩
  .exact⟨s,qt s,b,ab c⟩
theorem Jc(g:St X B F n K H (TE E A) (l9 (p8 nx D)) a w)(l:∀r s N,m6 nx D1 r=.c s N->m6 nx D r=.c s N):∀ {v:List Nat},Ys v0 nx D1 E A v=true->∃hd,H v0=some hd
 |[],h=>by cases h
 |t::v,h=>by
  have h:iB (@BV.rec (fun _=>Bool) (fun c=>iB (vV c) (Nat.beq (mR c) v0) (iB (sV c) (@HO.rec (fun _=>Bool) (fun s N=>GA v0 (Nat.div N cB) s) (fun _ _ _ _=>false) (fun _ _ _ _=>false) (fun _ _ _ _=>false) false (m6 nx D1 (pR c))) false)) (fun _ _=>false) (fun _=>false) false (o8 E A t)) true (Ys v0 nx D1 E A v)=true:=h
  rw[a9]at h;split at h
  rotate_left
  .exact Jc g l h
  rename_i d;have x:=aR (g.tmp t);cases p:o8 E A t with
  |a _ _=>rw[p]at d;cases d
  |t _=>rw[p]at d;cases d
  |u=>rw[p]at d;cases d
  |c c=>
   rw[p]at d x;simp only[a9]at d;split at d
   .rename_i o;obtain⟨hd,b,q,_⟩:=(x.cell (by rw[kP]at o;omega)).isMap o
    rw[ab d]at q;exact⟨hd,q⟩
   .split at d
    .rename_i o;obtain⟨hd,b,q,_⟩:=(x.cell (by rw[R9]at o;omega)).gP o
     cases k:m6 nx D1 (pR c)with
     |c s N=>
      rw[k]at d;obtain⟨i,G,I,J⟩:=CW d;obtain⟨O,cs,e,P,R,S,k3,k4,C⟩:=g.mem.cont _ _ .own hd (F9 (l _ _ _ k) (by simp)) (by simp) q
      have L:=C.2.1;have j:=C.2.2 i _ (ag (by rw[L];exact G))
      obtain⟨y,T,M,_⟩:=j.isMap I;exact⟨y,by rw[<-J];exact M⟩
     |m _ _ _ _=>rw[k]at d;cases d
     |f _ _ _ _=>rw[k]at d;cases d
     |i _ _ _ _=>rw[k]at d;cases d
     |z=>rw[k]at d;cases d
    .cases d
end
end Go.Abs
end
section
namespace Go.Abs
section
variable {P:Program} {R:z0} {z:BV} {lo:List HO} {X:Ctx} {B:Option Nat} {ro:Option Nat} {n:Nat} {g:List a7} {Fu:Nat} {I:kF}
set_option maxHeartbeats 1000000 in
theorem a1v(m4:P.follows .mixedOrders=true)(hR:F7 P R)(nK:∀z lo,N3 P (mZ I z lo))(hB:(B=none->ro≠none)\/∀z lo y f args nx D k,I y f args nx D k≠ .ok z lo){nt:Nat}{C:WK}{Sl CQ:Nat}{oN oE:Oper}
  (Hl:C.a1.toList=oN::C.r1)(Ve:oN.op=.next C.i false)(Qj:oN.dst=some C.t)(Ol:oN.guard=none)(uN:C.a2.toList=oE::C.r2)(fZ:oE.op=.entry C.i2)(Hk:oE.dst=some C.t2)(xJ:oE.guard=none)
  (HI:Code.j5 C.c1=true)(Ny:Code.j5 C.c2=true)(bN:w7 n C.a1.toList=true)(BG:o9 n C.c1=true)(kB:w7 n C.a2.toList=true)(BF:o9 n C.c2=true)(lO:eT X ro)
  {p:Nat}{F F0:Nat->Prop}{K:b8}{H:Nat->Option Hd}{a:Act}{w:World}{E V:Nat}{A Y:z7}{nx:Nat}{D D1:m8}{c mi ks vs clk:Nat}{l l':ME}{bi mb:Nat}{kZ Av:Hd}{es:Array MapEntry}{Ks:List Nat}{G:Nat}{kc:KC}
  (hp:uO X B n g p F K H a w V Y nx D D1 C c mi ks vs clk l l' bi mb kZ Av es Ks)(a4V:St (X.O4 g (gQ p)) B F n K H (TE E A) (l9 (p8 nx D)) a w)
  (h:iB (Nat.ble (Nat.succ G) nx) (iB (Nat.beq G (pR c)) (.er 672 0) (iB (Nat.beq G mi) (.er 673 0) (@HO.rec (fun _=>Rn) (fun _ _=>.er 674 0) (fun j u Z clk0=>iB (iB (nW j u Z) (Ys G nx D1 E A (SZ nt 0)) false) (aK nx D1 G .z fun Da=>aK nx Da mi .z fun D2=>
   KO (fun q=>S2 C ⟨0,p,G,j,u,none⟩ c ks vs P Fu R I (bY Ks V Y nx D2 p) q V Y nx D2 p) l [] fun S=>iB (BL (nE S)) (IW (nE S) Z clk0 fun L1 T=>aK nx D1 G (.m j u L1 T) fun D3=>pZ C P Fu R I kc V Y nx D3 p) (.er 675 0)) (.er 676 0))
   (fun _ _ _ _=>.er 674 1) (fun _ _ _ _=>.er 674 2) (.er 674 3) (m6 nx D1 G)))) (.er 671 0)=.ok z lo)
  (hF:∀b,F0 b->F b){Q:Exit->Act->World->Prop}(hQ:∀e E' A' dE D' p' xK a' w',kc e E' A' dE D' p'=.ok z lo->B4 n g E' A' dE D' p' xK->gD X B F0 F n K w xK a' w'->Q e.out a' w'):
  Code.roundsIn (Wd ro) 0 P (.seq (.region Sl C.a1 false) (.seq C.c1 (.block C.b (.seq (.region CQ C.a2 false) C.c2)))) Q ((l'.zip es.toList).length+1) a w:=by
 have hp':=hp;obtain⟨hX,M,pY,sC,wV,hi,hDi,ZO,yX,RY,Aw,wW,Oi,KB,Oj,XM,Se,UG,a2Y,YB,U,hold,G2,Sn,Wi⟩:=hp';obtain⟨⟨nFi,ci,ii⟩,⟨nFm,cm,im⟩,Qy⟩:=hp.blk;rw[a9]at h;split at h
 rotate_left
 .cases h
 rename_i hv0;have hv0:G<nx:=af hv0;rw[a9]at h;split at h
 .cases h
 rename_i hvi;have hvi:G≠pR c:=fun e=>hvi (by rw[e];exact fo _)
 rw[a9]at h;split at h
 .cases h
 rename_i hvm;have hvm:G≠mi:=fun e=>hvm (by rw[e];exact fo _)
 cases hDv:m6 nx D1 G with
 |c _ _=>rw[hDv]at h;cases h
 |i _ _ _ _=>rw[hDv]at h;cases h
 |f _ _ _ _=>rw[hDv]at h;cases h
 |z=>rw[hDv]at h;cases h
 |m j u Z clk0=>
 rw[hDv]at h;simp only at h;rw[a9 (iB _ _ _)]at h;split at h
 rotate_left
 .cases h
 rename_i Sp;have Sp:nW j u Z=true/\Ys G nx D1 E A (SZ nt 0)=true:=by
  rw[a9]at Sp;split at Sp
  .rename_i h1;exact⟨h1,Sp⟩
  .cases Sp
 obtain⟨hnr,a4O⟩:=Sp;obtain⟨Dx,ZN⟩:=Jc a4V (fun r s N e=>by
  rw[RY]at e;split at e
  .cases e
  .exact e) a4O
 have b1H:m6 nx D G=.m j u Z clk0:=by rw[RY,ai hvi]at hDv;exact hDv
 have hmv:l9 (p8 nx D) G=some (.z5 (.m j u Z clk0),.own):=F9 b1H (by simp)
 obtain⟨b0,es0,RC,hh0,a2Z⟩:=M.mem.cont G _ .own Dx hmv (by simp) ZN
 obtain⟨nF0,c0,i0,_⟩:=M.mem.own G _ Dx b0 hmv ZN RC;have UH:l9 (p8 nx D) mi=some (.z5 (.m ks vs l clk),.own):=F9 ZO (by simp)
 have hmI:l9 (p8 nx D) (pR c)=some (.z5 (.i mi clk [] clk),.own):=F9 hDi (by simp)
 have a7M:b0≠mb:=fun e=>hvm (M.mem.inj _ _ _ _ _ _ mb hmv UH ZN KB (by rw[<-e];exact RC) Oj)
 have a7N:b0≠bi:=fun e=>hvi (M.mem.inj _ _ _ _ _ _ bi hmv hmI ZN Aw (by rw[<-e];exact RC) wW)
 have UI:mi<nx:=fG ZO (by simp)
 obtain⟨Da,ha,hDa⟩:=N7 (d:=D1) (o:=.z) hv0 (fun Da=>aK nx Da mi .z fun D2=>
  KO (fun q=>S2 C ⟨0,p,G,j,u,none⟩ c ks vs P Fu R I (bY Ks V Y nx D2 p) q V Y nx D2 p) l [] fun S=>iB (BL (nE S)) (IW (nE S) Z clk0 fun L1 T=>aK nx D1 G (.m j u L1 T) fun D3=>pZ C P Fu R I kc V Y nx D3 p) (.er 675 0))
 rw[ha]at h;obtain⟨D2,h2,IP⟩:=N7 (d:=Da) (o:=.z) UI (fun D2=>
  KO (fun q=>S2 C ⟨0,p,G,j,u,none⟩ c ks vs P Fu R I (bY Ks V Y nx D2 p) q V Y nx D2 p) l [] fun S=>iB (BL (nE S)) (IW (nE S) Z clk0 fun L1 T=>aK nx D1 G (.m j u L1 T) fun D3=>pZ C P Fu R I kc V Y nx D3 p) (.er 675 0))
 rw[h2]at h;obtain⟨h,Vg⟩:=KU h;generalize hf:(fun q=>S2 C ⟨0,p,G,j,u,none⟩ c ks vs P Fu R I (bY Ks V Y nx D2 p) q V Y nx D2 p)=f at h Vg
 rw[bf,GD,a9]at h;split at h
 rotate_left
 .cases h
 rename_i Cs;have Cs:=CV Cs;rw[NG]at h;generalize hL1:S8 ((l.map (bL f)).reverse).flatten (Z,clk0)=s1 at h;obtain⟨D3,h3,hD3⟩:=N7 (d:=D1) (o:=.m j u s1.1 s1.2) hv0 (fun D3=>pZ C P Fu R I kc V Y nx D3 p)
 rw[h3]at h;have a7O:=a2Z.free hnr;have wb:=hp.base (Hid:=pH (fun b=>F b\/b=bi\/b=mb) b0) (fun b hb=>.inl (.inl hb)) (.inl (.inr (.inl rfl))) (.inl (.inr (.inr rfl)))
 have YC:WSt X B n g p F (pH (fun b=>F b\/b=bi\/b=mb) b0) K H w bi mb clk (TE V Y) (l9 (p8 nx D2)) [] a w:=by
  have s1:=St.HH (hX.grow g (gQ p)) M hmI;have s2:=St.HH (r:=mi) (hX.grow g (gQ p)) s1 (by unfold eD;rw[ai yX];exact UH)
  have s3:=St.HH (r:=G) (hX.grow g (gQ p)) s2 (by unfold eD;rw[ai hvm,ai hvi];exact hmv)
  refine⟨⟨_,K,fun b hb=>?_,s3.sub (fun r x hx=>?_),.refl K,.refl _ K⟩,.refl F w,clk,by simpa using XM,aw _⟩
  .rcases hb with(hb|rfl|rfl)|rfl
   .exact .inl (.inl (.inl hb))
   .exact .inl (.inl (.inr ⟨kZ,Aw,wW⟩))
   .exact .inl (.inr ⟨Av,KB,Oj⟩)
   .exact .inr ⟨Dx,ZN,RC⟩
  .obtain⟨o,O,e2,rfl⟩:=L3 hx;rw[IP,hDa,RY]at O;by_cases x1:r=mi
   .rw[aj x1]at O;exact absurd O.symm e2
   .rw[ai x1]at O;by_cases x2:r=G
    .rw[aj x2]at O;exact absurd O.symm e2
    .rw[ai x2]at O;by_cases x3:r=pR c
     .rw[aj x3]at O;exact absurd O.symm e2
     .rw[ai x3]at O;show(if r=G then none else if r=mi then none else if r=pR c then none else _)=_
      rw[ai x2,ai x1,ai x3];exact F9 O e2
 refine BN m4 hR (nK _ _) (hB.imp id (fun hh=>hh _ _)) Hl Ve Qj Ol HI bN BG (ks:=ks) (vs:=vs) (D2:=D2)
  (J:=fun vis a w=>w.heap[mb]? =some (.map es clk)/\∃esb L,w.heap[b0]? =some (.map esb L)/\L=(S8 (kH f vis) (Z,clk0)).2/\∀H,D7 H j u (S8 (kH f vis) (Z,clk0)).1 L esb)
  lO wb sC wV hi Aw wW Oi pY G2 hF (fun vis a w hJ=>⟨es,clk,hJ.1,aw _,?_⟩) (fun vis a w w' v hJ hw=>?_) ?_ ?_ h hQ (l'.zip es.toList).length [] a w (by simp) (fun z hz=>by cases hz) .nil YC ⟨Se,es0,clk0,hh0,rfl,a7O⟩
 .refine⟨fun e he=>?_,fun z hz _=>(hp.rep hz).2.2,U⟩
  have:e∈(l'.zip es.toList).map Prod.snd:=by rw[hp.snd];exact he
  obtain⟨z,hz,rfl⟩:=cd.1 this;exact⟨z.1,hz⟩
 .obtain⟨j1,esb,L,j2,j3⟩:=hJ;exact⟨by rw[hw mb Qy];exact j1,esb,L,by rw[hw b0 a7N];exact j2,j3⟩
 ·
   rintro vis Hu hvn Qu F1 K1 a' w' hHF hK Q7 R8 hS ⟨j1,esb,L,j2,j3,j4⟩;have hpm:=xC Hu hvn Qu wb.nd;have hpl:(vis.map Prod.fst).Perm l:=by
    have:=hpm.map Prod.fst;rw[hp.fst]at this;exact this.trans a2Y.symm
   obtain⟨O,e2⟩:=Qn (BO (f:=f) hpl) (s:=(Z,clk0)) a2Z.keys (((BO (f:=f) hpl).map (·.1)).nodup_iff.2 Cs)
   rw[hL1]at O e2;have YD:D7 H j u s1.1 s1.2 esb:=by
    rw[<-e2,<-j3];exact(j4 H).perm O
   have j2':w'.heap[b0]? =some (.map esb s1.2):=by rw[j2,j3,e2]
   have fx0:=Q7 b0 (.inr rfl);have fxm:=Q7 mb wb.hm;obtain⟨t1,t2⟩:=St.Sw (r:=mi) (hX.grow g (gQ p)) M.x hS (by rw[M0,IP,aj rfl]) KB Oj j1 ⟨l',UG,a2Y,YB,U,hold⟩ (hHF mb wb.hm) nFm (fun b hb=>hHF b (wb.hF b hb)) (by rw[fxm.1];exact cm) (by rw[fxm.2];exact im) hK R8
   obtain⟨u1,u2⟩:=St.Sw (r:=G) (hX.grow g (gQ p)) M.x t1 (by rw[m7 _ _ _ _ hvm,M0,IP,ai hvm,hDa,aj rfl]) ZN RC j2' YD ⟨hHF b0 (.inr rfl),a7M⟩ nF0 t2 (by rw[fx0.1];exact c0) (by rw[fx0.2];exact i0) hK R8
   refine⟨_,u2,u1.sub (fun r x hx=>?_)⟩
   obtain⟨o,O,e2,rfl⟩:=L3 hx;rw[hD3]at O;by_cases x1:r=G
   .rw[aj x1]at O;subst x1;rw[j8,<-O]
   .rw[ai x1]at O;rw[m7 _ _ _ _ x1];by_cases x2:r=mi
    .subst x2;rw[RY,ai yX,ZO]at O;rw[j8,<-O]
    .rw[m7 _ _ _ _ x2];exact F9 (by rw[IP,ai x2,hDa,ai x1];exact O) e2
 ·
   rintro Q' vis Hu hvn ⟨q,e⟩ hz hnv aN wN YE ⟨j1,esb,L,j2,j3,j4⟩ Kz wZ hbi hmb hem hes hQ';rw[j1]at hmb;cases hmb;obtain⟨hre,hql,_⟩:=hp.rep hz;obtain⟨lq,gI⟩:=Vg q hql;have Ae:S2 C ⟨0,p,G,j,u,none⟩ c ks vs P Fu R I (bY Ks V Y nx D2 p) q V Y nx D2 p=.ok (.t (bL f q)) lq:=gI;refine Qw m4 hR (nK _ _) (hB.imp id (fun hh=>hh _ _)) Hl uN fZ Hk xJ HI bN BG kB lO wb sC wV Aw wW Oi pY G2 Sn Wi (fun b hb=>.inl hb) (.inr (.inl rfl)) (fun hh=>?_) c0 i0 rfl ZN RC YE hbi j1 hem hes.nd hz j2 Ae (Pa:=fun _=>True) (fun _ _ _=>trivial) (fun _ _ _ _ _=>trivial) (fun _ _ _ _ _=>trivial) (.inl fun _=>trivial) trivial
    (J:=fun lg es clk _=>clk=(S8 lg.reverse (S8 (kH f vis) (Z,clk0))).2/\∀H,D7 H j u (S8 lg.reverse (S8 (kH f vis) (Z,clk0))).1 clk es)
    (fun X' g' Kr E4 A4 IM D4 p4 a4 w4 Q4 tb Ux ti hh4 _ hQ4=>?_) (fun lg es2 YF a2 w2 YG aT jS Yy Lg=>?_)
   .rcases hh with hh|hh|hh
    .exact nF0 hh
    .exact a7N hh
    .exact a7M hh
   .exact CU m4 hR tb (b1G (h:=⟨0,p,G,j,u,none⟩) rfl (S8 (kH f vis) (Z,clk0))) rfl C.c2 Ny BF [] E4 A4 IM D4 p4 _ a4 w4 esb L Q4 Ux ti hh4 ⟨j3,j4⟩ (fun lg' E' A' dE D' p' a' w' Kz wZ h1 h2 h3 h4=>hQ4 lg' E' A' dE D' p' a' w' Kz wZ h1 h2 h3 h4)
   .injection YG with YG;refine hQ' a2 w2 aT ⟨by rw[jS.block mb (.inr (.inr rfl))];exact j1,es2,YF,Yy,?_⟩
    rw[IZ,BH,YG];exact Lg
end
end Go.Abs
end
section
namespace Go.Abs
section
variable {z:BV} {lo:List HO}
theorem KV{f:Nat×Nat×Nat->Rn}:∀ {L:ME} {k:ME->Rn},Qp f L k=.ok z lo->k (L.filter fun q=>(bL f q).isEmpty)=.ok z lo/\∀q∈L,(∃g,f q=.ok (.t (bL f q)) g)/\(bL f q=[]\/∃x,bL f q=[(q.2.1,x)])
 |[],k,h=>⟨h,fun q n=>by cases n⟩
 |q::L,k,h=>by
  have h: @Rn.rec (fun _=>Rn) (fun c x=>.er c x) (fun v _=>@BV.rec (fun _=>Rn) (fun _=>.er 669 0) (fun _ _=>.er 669 1) (fun lg=>@List.rec Ef (fun _=>Rn) (Qp f L fun l=>k (q::l)) (fun e r _=>iB (Nat.beq e.1 q.2.1) (@List.rec Ef (fun _=>Rn) (Qp f L k) (fun _ _ _=>.er 669 2) r) (.er 669 3)) lg) (.er 669 4) v) (f q)=.ok z lo:=h
  cases d:f q with
  |er c x=>rw[d]at h;cases h
  |ok v g=>
   rw[d]at h;cases v with
   |c _=>cases h
   |a _ _=>cases h
   |u=>cases h
   |t lg=>
    have e:bL f q=lg:=by unfold bL;rw[d]
    cases lg with
    |nil=>
     obtain⟨i,j⟩:=KV (L:=L) h;refine⟨by rw[il,e];exact i,fun m b=>?_⟩
     rcases av.1 b with rfl|b
     .exact⟨⟨g,by rw[d,e]⟩,.inl e⟩
     .exact j m b
    |cons a r=>
     have h:iB (Nat.beq a.1 q.2.1) (@List.rec Ef (fun _=>Rn) (Qp f L k) (fun _ _ _=>.er 669 2) r) (.er 669 3)=.ok z lo:=h
     rw[a9]at h;split at h
     rotate_left
     .cases h
     rename_i o;cases r with
     |cons _ _=>cases h
     |nil=>
      obtain⟨i,j⟩:=KV (L:=L) h;refine⟨by rw[il,e];exact i,fun m b=>?_⟩
      rcases av.1 b with rfl|b
      .exact⟨⟨g,by rw[d,e]⟩,.inr ⟨a.2,by rw[e,<-ab o]⟩⟩
      .exact j m b
end
abbrev vN(zs:Zs):List Nat:=zs.map (·.1.2.1)
theorem KX{H:Nat->Option Hd}{ks vs:Nat}:∀ {zs:Zs},(∀z∈zs,eH H ks vs z.1 z.2)->G8 H ks vs (zs.map Prod.fst) (zs.map Prod.snd)
 |[],_=>rfl
 |z::zs,h=>⟨z.2,zs.map Prod.snd,rfl,h z (ar ..),KX fun b a=>h b (al _ a)⟩
theorem erase_filter{key:Nat}:∀ {zs:Zs} {j:Nat} {z:(Nat×Nat×Nat)×MapEntry},(vN zs).Nodup->zs[j]? =some z->z.1.2.1=key->zs.eraseIdx j=zs.filter fun y=> !Nat.beq key y.1.2.1
 |[],j,z,_,h,_=>by simp at h
 |y::zs,0,z,a,h,e=>by
  simp at h;subst h;simp only[vN,az,dn]at a;have:Nat.beq key y.1.2.1=true:=by rw[e];exact fo _
  rw[List.eraseIdx_cons_zero,il,this];simp only[so,dq,dw]
  symm
  rw[jq];intro f b;cases c:Nat.beq key f.1.2.1 with
  |false=>rfl
  |true=>exact absurd (cd.2 ⟨f,b,by rw[<-ab c,e]⟩) a.1
 |y::zs,j+1,z,a,h,e=>by
  simp only[vN,az,dn]at a;have g:zs[j]? =some z:=by simpa using h
  have:Nat.beq key y.1.2.1=false:=by
   cases c:Nat.beq key y.1.2.1 with
   |false=>rfl
   |true=>exact absurd (cd.2 ⟨z,df g,by rw[e];exact ab c⟩) a.1
  rw[qs,il,this];simp only[Bool.not_false,di];rw[erase_filter a.2 g e]
section
variable {P:Program} {H0:Nat->Option Hd}
theorem YI{w:World}{ks vs clk b:Nat}{es:Array MapEntry}{t u ty kt f:TypeId}{key:Nat}{a:ME}{iv:Value}(g:P.underlying t=some (.map kt f))(g2:HA P kt ks)(c:y9 H0 ks key iv)(d:gL ks key)(q5:w.heap[b]? =some (.map es clk))(q6:G8 H0 ks vs a es.toList)(h:ix key a=none):
  (Builtin.delete_ #[t,u] ty #[.map (some b),iv]).run P w=.ok (.tuple #[]) (w.putObj b (.map es clk)):=by
 have i:=kU c d;have k:∀w,(Instr.findKey kt (X1 ks key) es.toList).run P w=.ok ((ix key a).bind fun j=>(es.toList[j]?).map fun e=>(j,e.val)) w:=fun w=>oU g2 d (FG c) a es.toList q6
 have l:(#[t,u]:Array TypeId)[0]? =some t:=rfl;have m:(#[.map (some b),iv]:Array Value)[0]? =some (.map (some b)):=rfl;have n:(#[.map (some b),iv]:Array Value)[1]? =some iv:=rfl;unfold Builtin.delete_;simp only[l,m,n];rw[i];simp only[au,dc g,ak,B3 q5,F6 g2,k,h,nc,E7 q5,bg]
theorem b1K{h:Hid}(l:h.kd=1){r clk0:Nat}{zs:Zs}(f:∀z∈zs,eH H0 h.ks h.vs z.1 z.2)(s:(vN zs).Nodup):TOk P h r (fun lg es clk=>clk=clk0/\es.toList=(zs.filter fun z=> !(lg.any fun e=>Nat.beq e.1 z.1.2.1)).map Prod.snd):=by
 refine⟨fun e=>absurd (l.symm.trans e) (by decide),fun _ lg es clk key w H t u ty kt B iv d hh q g2 v m=>?_⟩
 obtain⟨rfl,d⟩:=d;generalize c:(zs.filter fun z=> !(lg.any fun e=>Nat.beq e.1 z.1.2.1))=ZP at d
 have g:∀z∈ZP,z∈zs:=fun z b=>by rw[<-c]at b;exact(ft.1 b).1
 have i:(vN ZP).Nodup:=by
  rw[<-c];exact(iy.map _).nodup s
 have q6:G8 H0 h.ks h.vs (ZP.map Prod.fst) es.toList:=by
  rw[d];exact KX fun z b=>f z (g z b)
 have k:y9 H0 h.ks key iv:=v.free m.free;have next:(zs.filter fun z=> !((((key,0):Ef)::lg).any fun e=>Nat.beq e.1 z.1.2.1))=ZP.filter fun y=> !Nat.beq key y.1.2.1:=by
  rw[<-c,nz];congr 1;funext z;rw[jv,Bool.not_or]
 cases n:ix key (ZP.map Prod.fst)with
 |none=>
  refine⟨es,clk,?_,rfl,?_⟩
  .exact YI q g2 k m hh q6 n
  .rw[next,d]
   have:(ZP.filter fun y=> !Nat.beq key y.1.2.1)=ZP:=by
    rw[jq];intro y x;cases A:Nat.beq key y.1.2.1 with
    |false=>rfl
    |true=>exact absurd (ab A).symm (hZ.1 n y.1 (cd.2 ⟨y,x,rfl⟩))
   rw[this]
 |some j=>
  obtain⟨p,a,o⟩:=jP n;subst o;obtain⟨z,b,rfl⟩:∃z,ZP[j]? =some z/\z.1=p:=by
   rw[bo]at a;cases b:ZP[j]? with
   |none=>rw[b]at a;cases a
   |some z=>rw[b]at a;cases a;exact⟨z,rfl,rfl⟩
  refine⟨es.eraseIdxIfInBounds j,clk,a1l q g2 k m hh q6 (by show((ZP.map Prod.fst).map (·.2.1)).Nodup;rw[fm];exact i) a,rfl,?_⟩
  rw[next,<-erase_filter i b rfl,gk,d,Be]
end
end Go.Abs
end
section
namespace Go.Abs
def nH(f:Nat×Nat×Nat->Rn)(vis:Zs)(z:(Nat×Nat×Nat)×MapEntry):Bool:=vis.any fun y=>Nat.beq y.1.2.1 z.1.2.1 && !(bL f y.1).isEmpty
section
variable {P:Program} {R:z0} {z:BV} {lo:List HO} {X:Ctx} {B:Option Nat} {ro:Option Nat} {n:Nat} {g:List a7} {Fu:Nat} {I:kF}
theorem key_inj{zs:Zs}(d:(vN zs).Nodup){y z:(Nat×Nat×Nat)×MapEntry}(f:y∈zs)(h:z∈zs)(e:y.1.2.1=z.1.2.1):y=z:=by
 obtain⟨i,a⟩:=bn.1 f;obtain⟨j,b⟩:=bn.1 h;have c:(vN zs)[i]? =(vN zs)[j]? :=by
  show(zs.map _)[i]? =(zs.map _)[j]?;rw[bo,bo,a,b];simp[e]
 have:i=j:=(mj (by show i<(zs.map _).length;rw[dy];exact O8 a) d).1 c
 subst this;rw[a]at b;exact cz b
set_option maxHeartbeats 1000000 in
theorem a1y(m4:P.follows .mixedOrders=true)(hR:F7 P R)(nK:∀z lo,N3 P (mZ I z lo))(hB:(B=none->ro≠none)\/∀z lo y f args nx D k,I y f args nx D k≠ .ok z lo){j:WK}{Sl CQ:Nat}{oN oE:Oper}
  (Hl:j.a1.toList=oN::j.r1)(Ve:oN.op=.next j.i false)(Qj:oN.dst=some j.t)(Ol:oN.guard=none)(uN:j.a2.toList=oE::j.r2)(fZ:oE.op=.entry j.i2)(Hk:oE.dst=some j.t2)(xJ:oE.guard=none)
  (Z:Code.j5 j.c1=true)(Ny:Code.j5 j.c2=true)(bN:w7 n j.a1.toList=true)(BG:o9 n j.c1=true)(kB:w7 n j.a2.toList=true)(BF:o9 n j.c2=true)(lO:eT X ro)
  {p:Nat}{F F0:Nat->Prop}{K:b8}{H:Nat->Option Hd}{a:Act}{w:World}{E:Nat}{G:z7}{nx:Nat}{D D1:m8}{c u ks vs clk:Nat}{l l':ME}{bi mb:Nat}{kZ Av:Hd}{es:Array MapEntry}{Ks:List Nat}{kc:KC}
  (hp:uO X B n g p F K H a w E G nx D D1 j c u ks vs clk l l' bi mb kZ Av es Ks)
  (h:aK nx D1 u .z (fun D2=>Qp (fun q=>S2 j ⟨1,p,u,ks,vs,none⟩ c ks vs P Fu R I (bY Ks E G nx D2 p) q E G nx D2 p) l fun l1=>aK nx D1 u (.m ks vs l1 clk) fun D3=>pZ j P Fu R I kc E G nx D3 p)=.ok z lo)
  (hF:∀b,F0 b->F b){Q:Exit->Act->World->Prop}(hQ:∀e E' A' T D' p' xK a' w',kc e E' A' T D' p'=.ok z lo->B4 n g E' A' T D' p' xK->gD X B F0 F n K w xK a' w'->Q e.out a' w'):
  Code.roundsIn (Wd ro) 0 P (.seq (.region Sl j.a1 false) (.seq j.c1 (.block j.b (.seq (.region CQ j.a2 false) j.c2)))) Q ((l'.zip es.toList).length+1) a w:=by
 have hp':=hp;obtain⟨hX,pD,pY,sC,wV,hi,hDi,ZO,yX,RY,Aw,wW,Oi,KB,Oj,XM,Se,UG,N,O,a9I,hold,G2,Sn,Wi⟩:=hp';obtain⟨⟨nFi,ci,ii⟩,⟨nFm,cm,im⟩,Qy⟩:=hp.blk;have UH:l9 (p8 nx D) u=some (.z5 (.m ks vs l clk),.own):=F9 ZO (by simp)
 have hmI:l9 (p8 nx D) (pR c)=some (.z5 (.i u clk [] clk),.own):=F9 hDi (by simp)
 have UI:u<nx:=fG ZO (by simp)
 obtain⟨D2,h2,IP⟩:=N7 (d:=D1) (o:=.z) UI (fun D2=>Qp (fun q=>S2 j ⟨1,p,u,ks,vs,none⟩ c ks vs P Fu R I (bY Ks E G nx D2 p) q E G nx D2 p) l fun l1=>aK nx D1 u (.m ks vs l1 clk) fun D3=>pZ j P Fu R I kc E G nx D3 p)
 rw[h2]at h;obtain⟨h,Vg⟩:=KV h;generalize hf:(fun q=>S2 j ⟨1,p,u,ks,vs,none⟩ c ks vs P Fu R I (bY Ks E G nx D2 p) q E G nx D2 p)=f at h Vg
 obtain⟨D3,h3,hD3⟩:=N7 (d:=D1) (o:=.m ks vs (l.filter fun q=>(bL f q).isEmpty) clk) UI (fun D3=>pZ j P Fu R I kc E G nx D3 p)
 rw[h3]at h;have wb:=hp.base (Hid:=pH (fun b=>F b\/b=bi) mb) (fun b U=>.inl (.inl U)) (.inl (.inr rfl)) (.inr rfl)
 have hkz:(vN (l'.zip es.toList)).Nodup:=by
  have e:vN (l'.zip es.toList)=l'.map (·.2.1):=by
   have:=congrArg (List.map fun(q:Nat×Nat×Nat)=>q.2.1) hp.fst
   rw[fm]at this;exact this
  rw[e];exact(N.map (·.2.1)).nodup_iff.1 O
 generalize hzs:l'.zip es.toList=zs at*
 have b1M:zs.map Prod.fst=l':=by rw[<-hzs];exact hp.fst
 have b1N:zs.map Prod.snd=es.toList:=by rw[<-hzs];exact hp.snd
 have C:∀z∈zs,eH H ks vs z.1 z.2/\z.1∈l/\z.2∈es.toList:=fun z s=>by rw[<-hzs]at s;exact hp.rep s
 have YC:WSt X B n g p F (pH (fun b=>F b\/b=bi) mb) K H w bi mb clk (TE E G) (l9 (p8 nx D2)) [] a w:=by
  have s1:=St.HH (hX.grow g (gQ p)) pD hmI;have s2:=St.HH (r:=u) (hX.grow g (gQ p)) s1 (by unfold eD;rw[ai yX];exact UH)
  refine⟨⟨_,K,fun b U=>?_,s2.sub (fun r x hx=>?_),.refl K,.refl _ K⟩,.refl F w,clk,by simpa using XM,aw _⟩
  .rcases U with(U|rfl)|rfl
   .exact .inl (.inl U)
   .exact .inl (.inr ⟨kZ,Aw,wW⟩)
   .exact .inr ⟨Av,KB,Oj⟩
  .obtain⟨o,A,e2,rfl⟩:=L3 hx;rw[IP,RY]at A;by_cases V:r=u
   .rw[aj V]at A;exact absurd A.symm e2
   .rw[ai V]at A;by_cases x3:r=pR c
    .rw[aj x3]at A;exact absurd A.symm e2
    .rw[ai x3]at A;show(if r=u then none else if r=pR c then none else _)=_
     rw[ai V,ai x3];exact F9 A e2
 refine BN m4 hR (nK _ _) (hB.imp id (fun hh=>hh _ _)) Hl Ve Qj Ol Z bN BG (ks:=ks) (vs:=vs) (D2:=D2)
  (J:=fun vis a w=>(∀y∈vis,y∈zs)/\∃ZQ,w.heap[mb]? =some (.map ZQ clk)/\ZQ.toList=(zs.filter fun z=> !nH f vis z).map Prod.snd)
  lO wb sC wV hi Aw wW Oi pY G2 hF (fun vis a w hJ=>?_) (fun vis a w w' v hJ hw=>?_) ?_ ?_ h hQ zs.length [] a w (by simp) (fun z s=>by cases s) .nil YC ⟨(fun y S=>by cases S),es,Se,?_⟩
 .obtain⟨j0,ZQ,Y,M⟩:=hJ;refine⟨ZQ,clk,Y,aw _,⟨fun e he=>?_,fun z s hnz=>?_,?_⟩⟩
  .rw[M]at he;obtain⟨z,s,rfl⟩:=cd.1 he;exact⟨z.1,(ft.1 s).1⟩
  .rw[M];refine cd.2 ⟨z,ft.2 ⟨s,?_⟩,rfl⟩;cases hd:nH f vis z with
   |false=>rfl
   |true=>
    unfold nH at hd;rw[ij]at hd;obtain⟨y,S,L⟩:=hd;rw[ah]at L;have:=key_inj hkz (j0 y S) s (ab L.1);exact absurd (cd.2 ⟨y,S,by rw[this]⟩) hnz
  .rw[M,fm];exact(iy.map _).nodup wb.nd
 .obtain⟨j0,ZQ,Y,M⟩:=hJ;exact⟨j0,ZQ,by rw[hw mb Qy];exact Y,M⟩
 ·
   rintro vis Hu hvn Qu F1 K1 a' w' hHF hK Q7 R8 hS ⟨j0,ZQ,Y,M⟩;have hpm:=xC Hu hvn Qu wb.nd;have a7U:∀z∈zs,nH f vis z= !(bL f z.1).isEmpty:=fun z s=>by
    rw[ff];unfold nH;rw[ij];constructor
    .rintro⟨y,S,L⟩;rw[ah]at L;rw[<-key_inj hkz (j0 y S) s (ab L.1)];exact L.2
    .intro hh;exact⟨z,hpm.mem_iff.2 s,by rw[ah];exact⟨fo _,hh⟩⟩
   have b1O:(zs.filter fun z=> !nH f vis z)=zs.filter fun z=>(bL f z.1).isEmpty:=iu fun z s=>by rw[a7U z s,rf]
   rw[b1O]at M;have Xk:(zs.filter fun z=>(bL f z.1).isEmpty).map Prod.fst=l'.filter fun q=>(bL f q).isEmpty:=by
    rw[<-b1M,List.filter_map];rfl
   have YD:D7 H ks vs (l.filter fun q=>(bL f q).isEmpty) clk ZQ:=by
    refine⟨l'.filter fun q=>(bL f q).isEmpty,?_,N.filter _,(iy.map _).nodup O,?_,fun e he=>?_⟩
    .rw[<-Xk,M];exact KX fun z s=>(C z (ft.1 s).1).1
    .rw[M,fm];exact(iy.map _).nodup wb.nd
    .rw[M]at he;obtain⟨z,s,rfl⟩:=cd.1 he;exact hold _ (C z (ft.1 s).1).2.2
   have fxm:=Q7 mb wb.hm;obtain⟨t1,t2⟩:=St.Sw (r:=u) (hX.grow g (gQ p)) pD.x hS (by rw[M0,IP,aj rfl]) KB Oj Y YD (hHF mb wb.hm) nFm (fun b U=>hHF b (wb.hF b U)) (by rw[fxm.1];exact cm) (by rw[fxm.2];exact im) hK R8
   refine⟨_,t2,t1.sub (fun r x hx=>?_)⟩
   obtain⟨o,A,e2,rfl⟩:=L3 hx;rw[hD3]at A;by_cases V:r=u
   .rw[aj V]at A;subst V;rw[j8,<-A]
   .rw[ai V]at A;rw[m7 _ _ _ _ V];exact F9 (by rw[IP,ai V];exact A) e2
 ·
   rintro Q' vis Hu hvn ⟨q,e⟩ s hnv aN wN YE ⟨j0,ZQ,Y,M⟩ Kz wZ hbi hmb hem hes hQ';rw[Y]at hmb;cases hmb;obtain⟨hre,hql,_⟩:=C _ s;obtain⟨⟨lq,gI⟩,hlg⟩:=Vg q hql;have Ae:S2 j ⟨1,p,u,ks,vs,none⟩ c ks vs P Fu R I (bY Ks E G nx D2 p) q E G nx D2 p=.ok (.t (bL f q)) lq:=gI;have a7V:∀z∈zs.filter (fun z=> !nH f vis z),z∈zs:=fun z s=>(ft.1 s).1
   refine Qw m4 hR (nK _ _) (hB.imp id (fun hh=>hh _ _)) Hl uN fZ Hk xJ Z bN BG kB lO wb sC wV Aw wW Oi pY G2 Sn Wi (fun b U=>.inl U) (.inr rfl) (fun hh=>?_) cm im rfl KB Oj YE hbi Y hem hes.nd s Y Ae (Pa:=fun _=>True) (fun _ _ _=>trivial) (fun _ _ _ _ _=>trivial) (fun _ _ _ _ _=>trivial) (.inl fun _=>trivial) trivial
    (J:=fun lg es YF _=>YF=clk/\es.toList=((zs.filter fun z=> !nH f vis z).filter fun z=> !(lg.any fun e=>Nat.beq e.1 z.1.2.1)).map Prod.snd)
    (fun X' g' Kr E4 A4 IM D4 p4 a4 w4 Q4 tb Ux ti hh4 _ hQ4=>?_) (fun lg es2 YF a2 w2 YG aT jS Yy Lg=>?_)
   .rcases hh with hh|hh
    .exact nFm hh
    .exact Qy hh
   .exact CU m4 hR tb (b1K (h:=⟨1,p,u,ks,vs,none⟩) (H0:=H) (clk0:=clk) (zs:=zs.filter fun z=> !nH f vis z) rfl (fun z s=>(C z (a7V z s)).1) ((iy.map _).nodup hkz)) rfl j.c2 Ny BF [] E4 A4 IM D4 p4 _ a4 w4 ZQ clk Q4 Ux ti hh4 ⟨rfl,by rw[M];congr 1;symm;rw[jq];intro _ _;rfl⟩ (fun lg' E' A' T D' p' a' w' Kz wZ h1 h2 h3 h4=>hQ4 lg' E' A' T D' p' a' w' Kz wZ h1 h2 h3 h4)
   .injection YG with YG;obtain⟨rfl,Lg⟩:=Lg;refine hQ' a2 w2 aT ⟨fun y S=>?_,es2,Yy,?_⟩
    .rcases av.1 S with rfl|S
     .exact s
     .exact j0 y S
    .rw[Lg,nz];congr 1;refine iu fun y S=>?_
     show(!(lg.any fun e=>Nat.beq e.1 y.1.2.1) && !nH f vis y)= !nH f ((q,e)::vis) y
     have A:nH f ((q,e)::vis) y=((Nat.beq q.2.1 y.1.2.1 && !(bL f q).isEmpty)||nH f vis y):=rfl;rw[A,Bool.not_or,<-YG];congr 2;rcases hlg with hl|⟨x,hl⟩
     .rw[hl];simp
     .rw[hl];simp
 .rw[<-b1N];congr 1
  symm
  rw[jq];intro _ _;rfl
end
end Go.Abs
end
section
namespace Go.Abs
def V5(c:Nat):Int:=(n8 c:Int) - (cZ:Int)
def jY(e:Ef):Int:=if e.1=1 then V5 e.2 else- V5 e.2
def J4(lg:List Ef):Int:=(lg.map jY).sum
def gB(lg:List Ef):Nat:=(lg.map fun e=>(V5 e.2).natAbs).sum
theorem Jd{b:Nat}:∀ {lg:List Ef},(∀e∈lg,(V5 e.2).natAbs<=b)->(J4 lg).natAbs<=lg.length*b
 |[],_=>by simp[J4]
 |e::lg,h=>by
  have f:=Jd (lg:=lg) fun c a=>h c (al _ a)
  have i:=h e (ar ..);have d:J4 (e::lg)=jY e+J4 lg:=by simp[J4]
  have j:(jY e).natAbs=(V5 e.2).natAbs:=by unfold jY;split<;>simp
  rw[d,bq,Nat.succ_mul];omega
theorem YJ{n:Int}(h:n.natAbs<=9223372036854775807):dJ .i64 n:=by
 unfold dJ;rw[pd];omega
theorem KY{P:Program}{o:Tmp}{ops:Array Oper}{b:Bool}{x:Operand}(h:uB P o ops=some (b,x)):∃d f k l m d2 p t u,ops.toList=[d,f,k,l]/\(d.op=.move (.tmp o)/\d.dst=some m/\d.guard=none)/\(f.op=.move x/\f.dst=some d2/\f.guard=none)/\
  (k.op=.binOp (if b then .add else .sub) t (.tmp m) (.tmp d2) u/\k.dst=some p/\k.guard=none)/\(l.op=.assign (.tmp p)/\l.dst=some o/\l.guard=none)/\m≠o/\d2≠o/\p≠o/\m≠d2:=by
 unfold uB at h;split at h
 rotate_left
 .cases h
 rename_i d f k l w;split at h
 rotate_left
 .cases h
 rename_i a m Z d2 q y A C D E;split at h
 rotate_left
 .cases h
 rename_i op t y1 y2 u p y3 d4 r G H s v J;split at h
 rotate_left
 .cases h
 rename_i K;simp only[ah,dx]at K;obtain⟨⟨⟨⟨⟨⟨⟨⟨S,T⟩,U⟩,V⟩,Y⟩,L⟩,M⟩,N⟩,O⟩:=K;have c:∀ {i j:Nat},Nat.beq i j=false->i≠j:=fun hh e=>by rw[e,fo]at hh;cases hh
 rw[ab S]at q;rw[ab T]at v;rw[ab U,ab V]at r;rw[ab Y]at s;split at h
 .cases h;exact⟨d,f,k,l,m,d2,p,t,u,w,⟨q,y,A⟩,⟨C,D,E⟩,⟨r,G,H⟩,⟨s,v,J⟩,c L,c M,c N,c O⟩
 .cases h;exact⟨d,f,k,l,m,d2,p,t,u,w,⟨q,y,A⟩,⟨C,D,E⟩,⟨r,G,H⟩,⟨s,v,J⟩,c L,c M,c N,c O⟩
 .cases h
theorem Am{E:Nat}{A:z7}:∀ {e:List Nat},uC E A e=true->∀t∈e,o8 E A t=.u
 |[],_,t,d=>by cases d
 |a::e,h,t,d=>by
  have h:iB (isSet (o8 E A a)) false (uC E A e)=true:=h;rw[a9]at h;split at h
  .cases h
  .rename_i b;rcases av.1 d with rfl|d
   .cases f:o8 E A t with
    |u=>rfl
    |c _=>rw[f]at b;exact absurd rfl b
    |a _ _=>rw[f]at b;exact absurd rfl b
    |t _=>rw[f]at b;exact absurd rfl b
   .exact Am h t d
theorem gC:∀ {l:List Oper} {o:Oper} {d:Nat},o∈l->o.dst=some d->d∈lK l
 |[],o,d,h,_=>by cases h
 |a::l,o,d,h,hd=>by
  show d∈ @Option.rec Tmp (fun _=>List Nat) (lK l) (fun t=>t::lK l) a.dst
  rcases av.1 h with rfl|h
  .rw[hd];exact ar ..
  .have:=gC h hd;cases a.dst with
   |none=>exact this
   |some t=>exact al _ this
theorem eval_put{a:Act}{d:Tmp}{v:Value}{x:Operand}(h:x≠ .tmp d):(a.put (some d) v).eval x=a.eval x:=by
 cases x with
 |tmp t=>
  have:d≠t:=fun e=>h (by rw[e])
  simp only[Act.eval,Act.put];simp[dg,gj this]
 |const v=>rfl
 |global g=>rfl
 |func f=>rfl
theorem uE{a:Act}{d:Tmp}{v:Value}(h:d<a.tmps.size):(a.put (some d) v).eval (.tmp d)=v:=by
 simp only[Act.eval,Act.put];simp[h]
section
variable {P:Program} {R:z0} {z:BV} {lo:List HO} {n:Nat} {g:List a7} {Fu:Nat} {I:kF} {X:Ctx} {B:Option Nat} {ro:Option Nat} {F:Nat->Prop} {b0:Nat} {K0:b8} {H0:Nat->Option Hd} {w0:World} {h:Hid}
theorem TI.a1z(m:TB X F b0 g K0 H0 w0 h){E:Nat}{A:z7}{nx:Nat}{D:m8}{p:Nat}{a:Act}{w:World}(q:TI X B F b0 n g K0 w0 E A nx D p a w){o:Oper}{d:Tmp}(r:o.dst=some d)(i:S7 n o.dst=true)(s:o8 E A d=.u)(v:Value):TI X B F b0 n g K0 w0 E A nx D p (a.put (some d) v) w:=by
 obtain⟨⟨c,k,K,H,l,y,b,C,j,f⟩,G⟩:=q;refine⟨⟨c,k,K,H,l,y,?_,C,j,f⟩,G⟩;have:=b.put (o:=o) (v:=v) (x:=.S6) i (m.ok.grow c.gh c.o7) (.refl K) (fun _ _ e=>e) (.refl k w) b.ok b.mem (by simp[b9])
 rw[r]at this;have e:O7 c.s6.T (some d) .S6=c.s6.T:=by
  funext t;simp only[O7];split
  .rename_i e;have J:c.s6.T=TE E A:=l.tmps;rw[J,e];show _=I1 (o8 E A d);rw[s];rfl
  .rfl
 rw[e]at this;exact this
theorem DQ{all:Array Oper}{Q:Exit->Act->World->Prop}{o:Oper}{l:List Oper}{a:Act}{w:World}{v:Value}(d:o.guard=none)(b:∀c,o.op≠ .defer c)(e:(execOp a.eval o).run P w=.ok (.value v) w)(h:wpListIn (Wd ro) 0 P all Q l (a.put o.dst v) w):wpListIn (Wd ro) 0 P all Q (o::l) a w:=by
 simp only[wpListIn];have i:Region.wanted o (yielded all a.tmps)=true:=by unfold Region.wanted;rw[d]
 rw[i,aj rfl];refine⟨fun f _=>bU ro f,?_⟩
 rw[gu _ _ _ b,e];exact h
theorem a1A(C:TB X F b0 g K0 H0 w0 h){id:Nat}{ops:Array Oper}{N:Tmp}{b:Bool}{x:Operand}(hk:uB P N ops=some (b,x))(f:w7 n ops.toList=true){E:Nat}{A:z7}{nx:Nat}{D:m8}{p:Nat}{a:Act}{w:World}(V:TI X B F b0 n g K0 w0 E A nx D p a w)
  (i:uC E A (lK ops.toList)=true){c:Nat}(O:J0 E A x=.c c)(hc:c % 128=32){s:Int}(ha:a.eval (.tmp N)=.int .i64 s)(Y:dJ .i64 (s+jY (iB b 1 0,c))){Q:Exit->Act->World->Prop}
  (hQ:∀Z,TI X B F b0 n g K0 w0 E A nx D p Z w->Z.eval (.tmp N)=.int .i64 (s+jY (iB b 1 0,c))->Q .normal Z w):(Code.region id ops false).wpIn (Wd ro) 0 P Q a w:=by
 obtain⟨o1,o2,o3,o4,m,q,d3,t,u,hl,⟨e1,r,e3⟩,⟨e4,S,e6⟩,⟨e7,T,e9⟩,⟨f1,U,f3⟩,n1,n2,n3,n4⟩:=KY hk;have i:=Am i;rw[hl]at f i;simp only[w7,ah]at f;have u1:=i m (gC (o:=o1) (by simp) r)
 have u2:=i q (gC (o:=o2) (by simp) S)
 have u3:=i d3 (gC (o:=o3) (by simp) T)
 have u4:=i N (gC (o:=o4) (by simp) U)
 have j:=V.size;have l:∀ {o:Oper} {d:Tmp},S7 n o.dst=true->o.dst=some d->d<n:=fun h1 h2=>by rw[h2]at h1;simpa [S7]using h1
 have l1:=l f.1 r;have l2:=l f.2.1 S;have l3:=l f.2.2.1 T;have l4:=l f.2.2.2.1 U;obtain⟨K1,H1,G⟩:=V.op C x;rw[O]at G;have hi:pK c=true:=cD.2 (by omega)
 obtain⟨k,k1,k2,k3,k4⟩:=(G.cell (by omega)).isInt hi
 have J:k=.i64:=a3U k1 (by
  have:AT c=4:=by show c % 128/8=4;omega
  rw[this];rfl)
 subst J;have hxv:a.eval x=.int .i64 (V5 c):=k2;have L:∀ {d:Tmp},o8 E A d=.u->x≠ .tmp d:=fun {d} hu e=>by
  rw[e]at O;have r:J0 E A (.tmp d)=o8 E A d:=rfl;rw[r,hu]at O;cases O
 have ti1:=V.a1z C r f.1 u1 (.int .i64 s);have ti2:=ti1.a1z C S f.2.1 u2 (.int .i64 (V5 c));have ti3:=ti2.a1z C T f.2.2.1 u3 (.int .i64 (s+jY (iB b 1 0,c)));have ti4:=ti3.a1z C U f.2.2.2.1 u4 (.int .i64 (s+jY (iB b 1 0,c)));refine gz ?_;rw[hl];refine DQ (v:=.int .i64 s) e3 (fun c e=>by rw[e1]at e;cases e) (by simp only[execOp,e1,ha];rfl) ?_
 rw[r];refine DQ (v:=.int .i64 (V5 c)) e6 (fun c e=>by rw[e4]at e;cases e) (by simp only[execOp,e4,eval_put (L u1),hxv];rfl) ?_
 rw[S];refine DQ (v:=.int .i64 (s+jY (iB b 1 0,c))) e9 (fun c e=>by rw[e7]at e;cases e) ?_ ?_
 .have s1:((a.put (some m) (.int .i64 s)).put (some q) (.int .i64 (V5 c))).eval (.tmp m)=.int .i64 s:=by
   rw[eval_put (fun e=>n4 (by injection e)),uE (cc l1 j)]
  have s2:((a.put (some m) (.int .i64 s)).put (some q) (.int .i64 (V5 c))).eval (.tmp q)=.int .i64 (V5 c):=uE (by rw[jJ];exact cc l2 j)
  have M:∃y,(do eqGuard (if b=true then .add else .sub) t (.tmp m) (.tmp q) (.int .i64 s) (.int .i64 (V5 c));binOp (if b=true then .add else .sub) t (.int .i64 s) (.int .i64 (V5 c)):Sem Value).run P w=.ok y w/\y=.int .i64 (s+jY (iB b 1 0,c)):=by
   have hb:V3 P (if b=true then .add else .sub) t (.int .i64 s) (.int .i64 (V5 c)) (fun v=>v=.int .i64 (s+jY (iB b 1 0,c))):=by
    cases b with
    |true=>simp only[V3,di];exact⟨Y,by first|trivial|rfl⟩
    |false=>
     have e:s+jY (iB false 1 0,c)=s- V5 c:=by show s+(if(0:Nat)=1 then _ else- V5 c)=_;rw[ai (by decide)];omega
     rw[e]at Y ⊢;simp only[V3,di,dq,dw];exact⟨Y,by first|trivial|rfl⟩
   obtain⟨v,y,g1,g2,g3⟩:=dR (K:=K1) (H:=H1) (w:=w) (ox:=.tmp m) (oy:=.tmp q) (x:=.int .i64 s) (y:=.int .i64 (V5 c)) (by simp[b9]) (by simp[b9]) hb
   subst g1;exact⟨y,g3,R7 g2⟩
  obtain⟨y,g1,g2⟩:=M;subst g2;simp only[execOp,e7,s1,s2];exact c8 g1
 rw[T];refine DQ (v:=.int .i64 (s+jY (iB b 1 0,c))) f3 (fun c e=>by rw[f1]at e;cases e) ?_ ?_
 .simp only[execOp,f1];rw[uE (by rw[jJ,jJ];exact cc l3 j)]
  rfl
 rw[U];exact hQ _ ti4 (uE (by rw[jJ,jJ,jJ];exact cc l4 j))
end
end Go.Abs
end
section
namespace Go.Abs
section
variable {P:Program} {R:z0} {z:BV} {lo:List HO} {n:Nat} {g:List a7} {Fu:Nat} {I:kF} {X:Ctx} {B:Option Nat} {ro:Option Nat} {F:Nat->Prop} {b0:Nat} {K0:b8} {H0:Nat->Option Hd} {w0:World} {h:Hid}
theorem BP{l:List Oper}{b:Tmp}{v0:Value}(h:O0 b (lK l)=false):∀o∈l,∀ (a:Act) (v:Value),a.eval (.tmp b)=v0->(a.put o.dst v).eval (.tmp b)=v0:=fun o f a v c=>by
 cases hd:o.dst with
 |none=>exact c
 |some d=>
  rw[eval_put (fun e=>?_)]
  .exact c
  .injection e with e;rw[e,X7.2 (gC f hd)]at h;cases h
theorem GH{α:Type}:∀ (l:List α),B8 l=l.length
 |[]=>rfl
 |_::l=>congrArg Nat.succ (GH l)
theorem NI(hR:F7 P R)(tb:TB X F b0 g K0 H0 w0 h){L:Tmp}(hA:h.tA=some L){s0:Int}(hs0:s0.natAbs<=4611686018427387904):∀ (c:Code),Code.j5 c=true->o9 n c=true->∀ (lg:List Ef) (E:Nat) (A:z7) (nx:Nat) (D:m8) (p:Nat) (k:List Ef->KS) (a:Act) (w:World) (o:Obj) (Q:Exit->Act->World->Prop),
  CT c P Fu R I h lg E A nx D p k=.ok z lo->TI X B F b0 n g K0 w0 E A nx D p a w->w.heap[b0]? =some o->a.eval (.tmp L)=.int .i64 (s0+J4 lg)->(∀e∈lg,(V5 e.2).natAbs<=1099511627776)->
  (∀C E' A' r D' p' M w',k C E' A' r D' p'=.ok z lo->TI X B F b0 n g K0 w0 E' A' r D' p' M w'->w'.heap[b0]? =some o->M.eval (.tmp L)=.int .i64 (s0+J4 C)->(∀e∈C,(V5 e.2).natAbs<=1099511627776)->Q .normal M w')->c.wpIn (Wd ro) 0 P Q a w:=by
 intro c
 induction c with
 |skip=>
  intro _ _ lg E A nx D p k a w o Q i J hh N O S;exact qv (S lg E A nx D p a w i J hh N O)
 |region id ops V=>
  intro m l lg E A nx D p k a w o Q i J hh N O S;have f: @Option.rec Tmp (fun _=>Rn) _ (fun L=>iB V (.er 683 0) (@Option.rec (Bool×Operand) (fun _=>Rn)
   (iB (O0 L (lK ops.toList)) (.er 683 1) (L6 ops.toList P R none ops (k lg) E A nx D p))
   (fun s=>@BV.rec (fun _=>Rn) (fun c=>iB (Nat.beq (Nat.mod c 128) 32) (iB (uC E A (lK ops.toList)) (iB (Nat.ble (B8 lg) 1000) (iB (iB (Nat.ble (Nat.sub (n8 c) cZ) 1099511627776) (Nat.ble (Nat.sub cZ (n8 c)) 1099511627776) false) (k ((iB s.1 1 0,c)::lg) E A nx D p) (.er 642 3)) (.er 642 2)) (.er 642 1)) (.er 642 0)) (fun _ _=>.er 643 0) (fun _=>.er 644 0) (.er 645 0) (J0 E A s.2))
   (uB P L ops))) h.tA=.ok z lo:=i
  rw[hA]at f;simp only at f;rw[a9]at f;split at f
  .cases f
  rename_i hdr;have hdr:V=false:=by simpa using hdr
  subst hdr;cases hac:uB P L ops with
  |none=>
   rw[hac]at f;simp only at f;rw[a9]at f;split at f
   .cases f
   rename_i hin;have hin:O0 L (lK ops.toList)=false:=by simpa using hin
   obtain⟨⟨st,F1,K,H,he,hF,qC,hK,G2,Q7⟩,R8⟩:=J;have HG:∀ (j:Nat) (d:Tmp),(ops[j]?).bind (·.dst)=some d->d<n:=fun j d hj=>N1 l j d (by simpa using hj)
   refine gz (nG (Pa:=fun a=>a.eval (.tmp L)=.int .i64 (s0+J4 lg)) (fun _ _ h=>h) ops.toList (BP hin) a w N ?_)
   refine J1 (yl:=none) (Y:=none) (hh:=none) (F0:=pH F b0) tb.ok hR trivial trivial HG ops.toList E A nx D p _ st F1 K H a w f l he hF (fun _ e=>by cases e) qC G2 (fun E' A' r D' p' xK M w' Pk Vf ht G=>?_)
   exact S lg E' A' r D' p' M w' Pk (TI.thn hF hK Q7 R8 Vf ht) (TI.fY ht hh) G O
  |some s=>
   obtain⟨b,x⟩:=s;rw[hac]at f;simp only at f;cases hx:J0 E A x with
   |a _ _=>rw[hx]at f;cases f
   |t _=>rw[hx]at f;cases f
   |u=>rw[hx]at f;cases f
   |c c=>
    rw[hx]at f;simp only at f;rw[a9 (Nat.beq (Nat.mod c 128) 32)]at f;split at f
    rotate_left
    .cases f
    rename_i hc;have hc:c % 128=32:=ab hc;rw[a9 (uC _ _ _)]at f;split at f
    rotate_left
    .cases f
    rename_i hns;rw[a9 (Nat.ble (B8 lg) 1000)]at f;split at f
    rotate_left
    .cases f
    rename_i Z;have Z:lg.length<=1000:=by rw[<-GH];exact af Z
    rw[a9 (iB _ _ _)]at f;split at f
    rotate_left
    .cases f
    rename_i v;have v:(V5 c).natAbs<=1099511627776:=by
     rw[a9]at v;split at v
     .rename_i h1;have h1:n8 c- cZ<=1099511627776:=af h1;have h2:cZ- n8 c<=1099511627776:=af v;unfold V5;omega
     .cases v
    have T:∀e∈((iB b 1 0,c)::lg:List Ef),(V5 e.2).natAbs<=1099511627776:=fun e he=>by
     rcases av.1 he with rfl|he
     .exact v
     .exact O e he
    have a7X:J4 ((iB b 1 0,c)::lg)=jY (iB b 1 0,c)+J4 lg:=by simp[J4]
    have hbd:=Jd T;refine a1A tb hac l J hns hx hc N (YJ ?_) (fun M ti' G=>S _ E A nx D p M w f ti' hh ?_ T)
    .have e:s0+J4 lg+jY (iB b 1 0,c)=s0+J4 ((iB b 1 0,c)::lg):=by rw[a7X];omega
     rw[e];rw[bq]at hbd;have hm:(lg.length+1)*1099511627776<=1001*1099511627776:=ay _ (by omega)
     have Oj:=ew hbd hm;have hm3:(1001*1099511627776:Nat)=1100611139403776:=rfl;rw[hm3]at Oj;clear hm hm3 hbd;generalize J4 ((iB b 1 0,c)::lg)=q at Oj ⊢;omega
    .rw[G,a7X,Int.add_assoc,Int.add_comm (J4 lg)]
 |seq x y Bx By=>
  intro m l lg E A nx D p k a w o Q i J hh N O S;simp only[Code.j5,ah]at m;simp only[o9,ah]at l;refine jo (Bx m.1 l.1 lg E A nx D p _ a w o _ i J hh N O ?_);intro C E' A' r D' p' M w' Pk ti' hh' G T;exact By m.2 l.2 C E' A' r D' p' k M w' o Q Pk ti' hh' G T S
 |cond c x y Bx By=>
  intro m l lg E A nx D p k a w o Q i J hh N O S;simp only[Code.j5,ah]at m;simp only[o9,ah]at l;obtain⟨K1,H1,hc⟩:=J.op tb c;have i: @BV.rec (fun _=>Rn) (fun q=>iB (Nat.beq q 17) (CT x P Fu R I h lg E A nx D p k) (iB (Nat.beq q 9) (CT y P Fu R I h lg E A nx D p k) (.er 646 0))) (fun _ _=>.er 647 0) (fun _=>.er 648 0) (.er 649 0) (J0 E A c)=.ok z lo:=i
  cases U:J0 E A c with
  |c q=>
   rw[U]at i hc;simp only[a9]at i;split at i
   .rename_i e;have e:=ab e;subst e;exact ka ((hc.cell (by decide)).isBool.1 rfl) (Bx m.1 l.1 lg E A nx D p k a w o Q i J hh N O S)
   .split at i
    .rename_i e;have e:=ab e;subst e;exact kf ((hc.cell (by decide)).isBool.2 rfl) (By m.2 l.2 lg E A nx D p k a w o Q i J hh N O S)
    .cases i
  |a s q=>rw[U]at i;cases i
  |t q=>rw[U]at i;cases i
  |u=>rw[U]at i;cases i
 |_=>intro _ _ lg E A nx D p k a w o Q i;cases i
end
theorem An{z:BV}{lo:List HO}:∀ {es:List Ef} {a b:Nat} {k:Nat->Nat->Rn},NC es a b k=.ok z lo->∃c d,k c d=.ok z lo/\(c:Int) - d=(a:Int) - b+J4 es/\c+d=a+b+gB es
 |[],a,b,k,h=>⟨a,b,h,by simp[J4],by simp[gB]⟩
 |e::es,a,b,k,h=>by
  have h:iB (Nat.ble cZ (n8 e.2)) (iB (Nat.beq e.1 1) (fN (Nat.add a (Nat.sub (n8 e.2) cZ)) fun a=>NC es a b k) (fN (Nat.add b (Nat.sub (n8 e.2) cZ)) fun b=>NC es a b k))
   (iB (Nat.beq e.1 1) (fN (Nat.add b (Nat.sub cZ (n8 e.2))) fun b=>NC es a b k) (fN (Nat.add a (Nat.sub cZ (n8 e.2))) fun a=>NC es a b k))=.ok z lo:=h
  simp only[B6]at h;have r:J4 (e::es)=jY e+J4 es:=by simp[J4]
  have s:gB (e::es)=(V5 e.2).natAbs+gB es:=by simp[gB]
  rw[r,s];unfold jY V5;have q:∀ {i j:Nat},Nat.beq i j=true->i=j:=fun h=>ab h
  rw[a9 (Nat.ble cZ (n8 e.2))]at h;split at h
  .rename_i p;have p:cZ<=n8 e.2:=af p;rw[a9]at h;split at h
   .rename_i f;rw[aj (q f)];obtain⟨c,d,l,g2,m⟩:=An h;refine⟨c,d,l,?_,?_⟩
    .rw[g2];show((a+(n8 e.2- cZ):Nat):Int) - _+_=_;generalize cZ=o at*;omega
    .rw[m];show a+(n8 e.2- cZ)+_+_=_;generalize cZ=o at*;omega
   .rename_i f;rw[ai (fun hh=>f (by rw[hh];rfl))]
    obtain⟨c,d,l,g2,m⟩:=An h;refine⟨c,d,l,?_,?_⟩
    .rw[g2];show _- ((b+(n8 e.2- cZ):Nat):Int)+_=_;generalize cZ=o at*;omega
    .rw[m];show a+(b+(n8 e.2- cZ))+_=_;generalize cZ=o at*;omega
  .rename_i p;have p:¬cZ<=n8 e.2:=fun hh=>p (dk hh)
   rw[a9]at h;split at h
   .rename_i f;rw[aj (q f)];obtain⟨c,d,l,g2,m⟩:=An h;refine⟨c,d,l,?_,?_⟩
    .rw[g2];show _- ((b+(cZ- n8 e.2):Nat):Int)+_=_;generalize cZ=o at*;omega
    .rw[m];show a+(b+(cZ- n8 e.2))+_=_;generalize cZ=o at*;omega
   .rename_i f;rw[ai (fun hh=>f (by rw[hh];rfl))]
    obtain⟨c,d,l,g2,m⟩:=An h;refine⟨c,d,l,?_,?_⟩
    .rw[g2];show((a+(cZ- n8 e.2):Nat):Int) - _+_=_;generalize cZ=o at*;omega
    .rw[m];show a+(cZ- n8 e.2)+_+_=_;generalize cZ=o at*;omega
theorem a1B(a b:List Ef):J4 (a++b)=J4 a+J4 b:=by simp[J4]
theorem a1C(a b:List Ef):gB (a++b)=gB a+gB b:=by simp[gB]
theorem a4Y(l:List Ef):(J4 l).natAbs<=gB l:=by
 induction l with
 |nil=>simp[J4,gB]
 |cons e l c=>
  have a:J4 (e::l)=jY e+J4 l:=by simp[J4]
  have b:gB (e::l)=(V5 e.2).natAbs+gB l:=by simp[gB]
  have d:(jY e).natAbs=(V5 e.2).natAbs:=by unfold jY;split<;>simp
  rw[a,b];omega
theorem NJ{a b:List Ef}(h:a.Perm b):J4 a=J4 b:=by
 unfold J4;have:=h.map jY;generalize a.map jY=x at*
 generalize b.map jY=y at*
 clear h
 induction this with
 |nil=>rfl
 |cons _ _ e=>simp[e]
 |swap x y l=>simp;omega
 |trans _ _ c d=>exact c.trans d
theorem YK{a b:List Ef}(h:a.Perm b):gB a=gB b:=by
 unfold gB;have:=h.map fun e:Ef=>(V5 e.2).natAbs
 generalize (a.map fun e:Ef=>(V5 e.2).natAbs)=x at*
 generalize (b.map fun e:Ef=>(V5 e.2).natAbs)=y at*
 clear h
 induction this with
 |nil=>rfl
 |cons _ _ f=>simp[f]
 |swap x y l=>simp;omega
 |trans _ _ c d=>exact c.trans d
end Go.Abs
end
section
namespace Go.Abs
theorem YL{f:Nat×Nat×Nat->Rn}{a b:Zs}:kH f (a++b)=kH f b++kH f a:=by simp[kH]
theorem a1D{P:Program}{R:z0}{z:BV}{lo:List HO}{Fu:Nat}{I:kF}{e:WK}{f i nx p:Nat}{j:z7}{k:m8}{l:KC}{d:List (List Ef)}{v:BV}(h:a1n f v e P Fu R I l i j nx k p d=.ok z lo):∃a0,v=.c a0/\a0 % 128=32/\NC (nE d) 0 0 (fun a b=>iB (Nat.ble (Nat.add (Nat.add a b) (iB (Nat.ble cZ (n8 a0)) (Nat.sub (n8 a0) cZ) (Nat.sub cZ (n8 a0)))) 4611686018427387904)
  (G3 f (.c (N8 4 (Nat.sub (Nat.add (n8 a0) a) b))) i j fun E A=>pZ e P Fu R I l E A nx k p) (.er 677 0))=.ok z lo:=by
 cases v with
 |a _ _=>cases h
 |t _=>cases h
 |u=>cases h
 |c a0=>
 have h:iB (Nat.beq (Nat.mod a0 128) 32) (NC (nE d) 0 0 fun a b=>iB (Nat.ble (Nat.add (Nat.add a b) (iB (Nat.ble cZ (n8 a0)) (Nat.sub (n8 a0) cZ) (Nat.sub cZ (n8 a0)))) 4611686018427387904)
  (G3 f (.c (N8 4 (Nat.sub (Nat.add (n8 a0) a) b))) i j fun E A=>pZ e P Fu R I l E A nx k p) (.er 677 0)) (.er 678 0)=.ok z lo:=h
 rw[a9 (Nat.beq (Nat.mod a0 128) 32)]at h;split at h
 rotate_left
 .cases h
 rename_i m;exact⟨a0,rfl,ab m,h⟩
theorem a4Z(v:Nat):iB (Nat.ble cZ v) (Nat.sub v cZ) (Nat.sub cZ v)=((v:Int) - (cZ:Int)).natAbs:=by
 rw[a9];split
 .rename_i a;have a:cZ<=v:=af a;show v- cZ=_;generalize cZ=b at*;omega
 .rename_i a;have a:¬cZ<=v:=fun hh=>a (dk hh)
  show cZ- v=_;generalize cZ=b at*;omega
theorem a40{v a b:Nat}{q:Int}(c:a+b+((v:Int) - (cZ:Int)).natAbs<=4611686018427387904)(d:(a:Int) - b=q):((v+a- b:Nat):Int) - (cZ:Int)=((v:Int) - (cZ:Int))+q/\v+a- b<73786976294838206464:=by
 have e:cZ=9223372036854775808:=rfl;generalize cZ=f at*
 omega
theorem a1E{H:Nat->Option Hd}{v a b:Nat}{q:Int}(f:a+b+(V5 v).natAbs<=4611686018427387904)(h:(a:Int) - b=q):j6 H (N8 4 (Nat.sub (Nat.add (n8 v) a) b)) (.int .i64 (V5 v+q)):=by
 obtain⟨d,g2⟩:=a40 (show a+b+((n8 v:Int) - (cZ:Int)).natAbs<=_ from f) h;show j6 H (N8 4 (n8 v+a- b)) _;generalize n8 v+a- b=c at d g2 ⊢;have e:V5 v+q=(c:Int) - (cZ:Nat):=d.symm;rw[e];exact j6.int .i64 c g2
theorem a41{a b c h d:Nat}{e f:Int}(i:a+b+f.natAbs<=4611686018427387904)(j:a+b=0+0+d)(k:h+c=d)(l:e.natAbs<=c):(f+e).natAbs<=4611686018427387904:=by omega
section
variable {P:Program} {R:z0} {z:BV} {lo:List HO} {X:Ctx} {B:Option Nat} {ro:Option Nat} {n:Nat} {g:List a7} {Fu:Nat} {I:kF}
set_option maxHeartbeats 1000000 in
theorem a1F(m4:P.follows .mixedOrders=true)(hR:F7 P R)(nK:∀z lo,N3 P (mZ I z lo))(hB:(B=none->ro≠none)\/∀z lo y f args nx D k,I y f args nx D k≠ .ok z lo){j:WK}{Sl CQ:Nat}{oN oE:Oper}
  (V:j.a1.toList=oN::j.r1)(Ve:oN.op=.next j.i false)(Qj:oN.dst=some j.t)(Ol:oN.guard=none)(uN:j.a2.toList=oE::j.r2)(fZ:oE.op=.entry j.i2)(Hk:oE.dst=some j.t2)(xJ:oE.guard=none)
  (HI:Code.j5 j.c1=true)(Ny:Code.j5 j.c2=true)(bN:w7 n j.a1.toList=true)(BG:o9 n j.c1=true)(kB:w7 n j.a2.toList=true)(BF:o9 n j.c2=true)(lO:eT X ro)
  {p:Nat}{F F0:Nat->Prop}{K:b8}{H:Nat->Option Hd}{a:Act}{w:World}{E N:Nat}{A O:z7}{nx:Nat}{D D1:m8}{c G ks vs clk:Nat}{l Y:ME}{bi mb:Nat}{kZ Av:Hd}{es:Array MapEntry}{Ks:List Nat}{v0:Nat}{kc:KC}
  (hp:uO X B n g p F K H a w N O nx D D1 j c G ks vs clk l Y bi mb kZ Av es Ks)(a4V:St (X.O4 g (gQ p)) B F n K H (TE E A) (l9 (p8 nx D)) a w)
  (h:iB (iB (Qq j.c1) (iB (O0 v0 (lK j.a1.toList)) true (O0 v0 (lK j.a2.toList))) true) (.er 684 0) (aK nx D1 G .z fun D2=>KO (fun q=>S2 j ⟨2,p,G,ks,vs,some v0⟩ c ks vs P Fu R I (bY Ks N O nx D2 p) q N O nx D2 p) l [] (a1n v0 (o8 E A v0) j P Fu R I kc N O nx D1 p))=.ok z lo)
  (hF:∀b,F0 b->F b){Q:Exit->Act->World->Prop}(hQ:∀e E' A' Z D' p' xK a' w',kc e E' A' Z D' p'=.ok z lo->B4 n g E' A' Z D' p' xK->gD X B F0 F n K w xK a' w'->Q e.out a' w'):
  Code.roundsIn (Wd ro) 0 P (.seq (.region Sl j.a1 false) (.seq j.c1 (.block j.b (.seq (.region CQ j.a2 false) j.c2)))) Q ((Y.zip es.toList).length+1) a w:=by
 have hp':=hp;obtain⟨hX,pD,pY,sC,wV,hi,hDi,ZO,yX,RY,Aw,wW,Oi,KB,Oj,XM,Se,UG,S,YB,u,hold,G2,Sn,Wi⟩:=hp';obtain⟨⟨nFi,ci,ii⟩,⟨nFm,cm,im⟩,Qy⟩:=hp.blk;have UH:l9 (p8 nx D) G=some (.z5 (.m ks vs l clk),.own):=F9 ZO (by simp)
 have hmI:l9 (p8 nx D) (pR c)=some (.z5 (.i G clk [] clk),.own):=F9 hDi (by simp)
 have UI:G<nx:=fG ZO (by simp)
 rw[a9]at h;split at h
 .cases h
 rename_i C;have a7Y:Qq j.c1=true/\O0 v0 (lK j.a1.toList)=false/\O0 v0 (lK j.a2.toList)=false:=by
  cases h1:Qq j.c1 with
  |false=>rw[h1]at C;exact absurd rfl C
  |true=>
   rw[h1]at C;cases h2:O0 v0 (lK j.a1.toList)with
   |true=>rw[h2]at C;exact absurd rfl C
   |false=>
    rw[h2]at C;cases h3:O0 v0 (lK j.a2.toList)with
    |true=>rw[h3]at C;exact absurd rfl C
    |false=>exact⟨rfl,rfl,rfl⟩
 obtain⟨Hz,MZ,Xx⟩:=a7Y;obtain⟨D2,h2,IP⟩:=N7 (d:=D1) (o:=.z) UI (fun D2=>KO (fun q=>S2 j ⟨2,p,G,ks,vs,some v0⟩ c ks vs P Fu R I (bY Ks N O nx D2 p) q N O nx D2 p) l [] (a1n v0 (o8 E A v0) j P Fu R I kc N O nx D1 p))
 rw[h2]at h;obtain⟨h,Vg⟩:=KU h;generalize hf:(fun q=>S2 j ⟨2,p,G,ks,vs,some v0⟩ c ks vs P Fu R I (bY Ks N O nx D2 p) q N O nx D2 p)=f at h Vg
 rw[bf]at h;have hbr:=aR (a4V.tmp v0);generalize hv:o8 E A v0=tv at h hbr;obtain⟨a0,rfl,ha0,h⟩:=a1D h;rw[GD]at h;obtain⟨aa,bb,h,b1R,b1S⟩:=An h;rw[a9 (Nat.ble _ _)]at h;split at h
 rotate_left
 .cases h
 rename_i L;have L:aa+bb+(iB (Nat.ble cZ (n8 a0)) (Nat.sub (n8 a0) cZ) (Nat.sub cZ (n8 a0)))<=4611686018427387904:=af L;rw[a4Z]at L;have L:aa+bb+(V5 a0).natAbs<=4611686018427387904:=L;have hs0:a.eval (.tmp v0)=.int .i64 (V5 a0):=by
  obtain⟨k,k1,k2,k3,k4⟩:=(hbr.cell (by omega)).isInt (cD.2 (by omega))
  have b1T:k=.i64:=a3U k1 (by
   have:AT a0=4:=by show a0 % 128/8=4;omega
   rw[this];rfl)
  subst b1T;exact k2
 obtain⟨E3,A3,h,hT3⟩:=M6 h;have wb:=hp.base (Hid:=pH (fun b=>F b\/b=bi) mb) (fun b hb=>.inl (.inl hb)) (.inl (.inr rfl)) (.inr rfl)
 have htv:j.t≠v0:=fun e=>by
  rw[X7.2 (gC (o:=oN) (by rw[V];exact ar ..) (by rw[Qj,e]))]at MZ
  cases MZ
 have YC:WSt X B n g p F (pH (fun b=>F b\/b=bi) mb) K H w bi mb clk (TE N O) (l9 (p8 nx D2)) [] a w:=by
  have s1:=St.HH (hX.grow g (gQ p)) pD hmI;have s2:=St.HH (r:=G) (hX.grow g (gQ p)) s1 (by unfold eD;rw[ai yX];exact UH)
  refine⟨⟨_,K,fun b hb=>?_,s2.sub (fun r x hx=>?_),.refl K,.refl _ K⟩,.refl F w,clk,by simpa using XM,aw _⟩
  .rcases hb with(hb|rfl)|rfl
   .exact .inl (.inl hb)
   .exact .inl (.inr ⟨kZ,Aw,wW⟩)
   .exact .inr ⟨Av,KB,Oj⟩
  .obtain⟨o,M,e2,rfl⟩:=L3 hx;rw[IP,RY]at M;by_cases x1:r=G
   .rw[aj x1]at M;exact absurd M.symm e2
   .rw[ai x1]at M;by_cases x3:r=pR c
    .rw[aj x3]at M;exact absurd M.symm e2
    .rw[ai x3]at M;show(if r=G then none else if r=pR c then none else _)=_
     rw[ai x1,ai x3];exact F9 M e2
 have T:∀ {vis rest:Zs},(vis++rest).Perm (Y.zip es.toList)->(kH f (vis++rest)).Perm ((l.map (bL f)).reverse).flatten:=fun U=>BO (by
  have:=U.map Prod.fst;rw[hp.fst]at this
  exact this.trans S.symm)
 have b1U:∀ {vis rest:Zs},(vis++rest).Perm (Y.zip es.toList)->(V5 a0+J4 (kH f vis)).natAbs<=4611686018427387904:=fun {vis rest} U=>by
  have h1:=YK (T U);rw[YL,a1C]at h1;exact a41 L b1S h1 (a4Y (kH f vis))
 refine BN m4 hR (nK _ _) (hB.imp id (fun hh=>hh _ _)) V Ve Qj Ol HI bN BG (ks:=ks) (vs:=vs) (D2:=D2) (D3:=D1) (E3:=E3) (A3:=A3)
  (J:=fun vis a w=>w.heap[mb]? =some (.map es clk)/\a.eval (.tmp v0)=.int .i64 (V5 a0+J4 (kH f vis))/\∃rest,(vis++rest).Perm (Y.zip es.toList))
  lO wb sC wV hi Aw wW Oi pY G2 hF (fun vis a w hJ=>⟨es,clk,hJ.1,aw _,?_⟩) (fun vis a w w' v hJ hw=>⟨by rw[hw mb Qy];exact hJ.1,?_,hJ.2.2⟩) ?_ ?_ h hQ (Y.zip es.toList).length [] a w (by simp) (fun z hz=>by cases hz) .nil YC ⟨Se,by rw[hs0];simp[kH,J4],Y.zip es.toList,.refl _⟩
 .refine⟨fun e he=>?_,fun z hz _=>(hp.rep hz).2.2,u⟩
  have:e∈(Y.zip es.toList).map Prod.snd:=by rw[hp.snd];exact he
  obtain⟨z,hz,rfl⟩:=cd.1 this;exact⟨z.1,hz⟩
 .rw[eval_put (fun e=>htv (by injection e with e;exact e.symm))]
  exact hJ.2.1
 ·
   rintro vis Hu hvn Qu F1 K1 a' w' hHF hK Q7 R8 hS ⟨j1,j2,_⟩;have U:=xC Hu hvn Qu wb.nd;have hpl:(kH f vis).Perm ((l.map (bL f)).reverse).flatten:=by
    have:=T (vis:=vis) (rest:=[]) (by rw[bf];exact U)
    rwa [bf]at this
   rw[NJ hpl]at j2;have fxm:=Q7 mb wb.hm;obtain⟨t1,t2⟩:=St.Sw (r:=G) (hX.grow g (gQ p)) pD.x hS (by rw[M0,IP,aj rfl]) KB Oj j1 ⟨Y,UG,S,YB,u,hold⟩ (hHF mb wb.hm) nFm (fun b hb=>hHF b (wb.hF b hb)) (by rw[fxm.1];exact cm) (by rw[fxm.2];exact im) hK R8
   have Ak:j6 H (N8 4 (Nat.sub (Nat.add (n8 a0) aa) bb)) (.int .i64 (V5 a0+J4 ((l.map (bL f)).reverse).flatten)):=by
    exact a1E L (by rw[b1R];simp)
   refine⟨_,t2,⟨t1.ok,t1.mem.sub (fun r x hx=>?_),t1.size,t1.defers,fun t=>?_,t1.x⟩⟩
   .obtain⟨o,M,e2,rfl⟩:=L3 hx;by_cases x2:r=G
    .subst x2;rw[RY,ai yX,ZO]at M;rw[j8,<-M]
    .rw[m7 _ _ _ _ x2];exact F9 (by rw[IP,ai x2];exact M) e2
   .have ht:=t1.tmp t;simp only[O7]at ht ⊢;by_cases M:t=j.t
    .rw[aj M]at ht ⊢;exact ht
    .rw[ai M]at ht ⊢;by_cases e2:t=v0
     .show b9 K1 H (I1 (o8 E3 A3 t)) _;rw[hT3,aj e2];have:a'.tmps.getD t undef=.int .i64 (V5 a0+J4 ((l.map (bL f)).reverse).flatten):=by rw[e2];exact j2
      rw[this];exact(show u6 K1 H (.c _) _ from .inr (.inr Ak)).I1
     .show b9 K1 H (I1 (o8 E3 A3 t)) _;rw[hT3,ai e2];exact ht
 ·
   rintro Q' vis Hu hvn ⟨q,e⟩ hz hnv aN wN YE ⟨j1,j2,rest,j3⟩ Kz wZ hbi hmb hem hes hQ';rw[j1]at hmb;cases hmb;obtain⟨hre,hql,_⟩:=hp.rep hz;obtain⟨lq,gI⟩:=Vg q hql;have Ae:S2 j ⟨2,p,G,ks,vs,some v0⟩ c ks vs P Fu R I (bY Ks N O nx D2 p) q N O nx D2 p=.ok (.t (bL f q)) lq:=gI;refine Qw m4 hR (nK _ _) (hB.imp id (fun hh=>hh _ _)) V uN fZ Hk xJ HI bN BG kB lO wb sC wV Aw wW Oi pY G2 Sn Wi (fun b hb=>.inl hb) (.inr rfl) (fun hh=>?_) cm im rfl KB Oj YE hbi j1 hem hes.nd hz j1 Ae
    (Pa:=fun a=>a.eval (.tmp v0)=.int .i64 (V5 a0+J4 (kH f vis))) (fun _ _ h=>h) (fun o ho a v=>BP MZ o (by rw[V];exact al _ ho) a v) (BP Xx) (.inr Hz) j2
    (J:=fun lg Kz wZ a=>Kz=es/\wZ=clk/\a.eval (.tmp v0)=.int .i64 (V5 a0+J4 (kH f vis)+J4 lg))
    (fun X' g' Kr E4 A4 IM D4 p4 a4 w4 Q4 tb Ux ti hh4 Yz hQ4=>?_) (fun lg es2 YF a2 w2 YG aT jS Yy Lg=>?_)
   .rcases hh with hh|hh
    .exact nFm hh
    .exact Qy hh
   .refine NI hR tb (h:=⟨2,p,G,ks,vs,some v0⟩) rfl (b1U j3) j.c2 Ny BF [] E4 A4 IM D4 p4 _ a4 w4 _ Q4 Ux ti hh4 (by rw[Yz];simp[J4]) (fun e he=>by cases he) (fun lg' E' A' Z D' p' a' w' h1 h2 h3 h4 h5=>hQ4 lg' E' A' Z D' p' a' w' es clk h1 h2 h3 ⟨rfl,rfl,h4⟩)
   .injection YG with YG;obtain⟨rfl,rfl,Lg⟩:=Lg;refine hQ' a2 w2 aT ⟨Yy,?_,?_⟩
    .rw[Lg,IZ,a1B,YG,NJ (ot lg),Int.add_assoc]
    .have hzv:(q,e) ∉ vis:=fun hm=>hnv (cd.2 ⟨_,hm,rfl⟩)
     have hzr:(q,e)∈rest:=(cj.1 (j3.mem_iff.2 hz)).resolve_left hzv;obtain⟨s,t,rfl⟩:=List.append_of_mem hzr;refine⟨s++t,?_⟩;refine List.Perm.trans ?_ j3;have h1:(s++(q,e)::t).Perm ((q,e)::(s++t)):=List.perm_middle;have h2:=(h1.append_left vis);exact(List.perm_middle.symm.trans h2.symm)
end
end Go.Abs
end
section
namespace Go.Abs
theorem uF{b:List Nat}{E:Nat}{A:z7}:∀ {l:List Nat} {t:Nat},t∈vM b E A l->O0 t b=false
 |[],t,h=>by cases h
 |a::l,t,h=>by
  have h:t∈iB (O0 a b) (vM b E A l) (iB (isSet (o8 E A a)) (a::vM b E A l) (vM b E A l)):=h;rw[a9 (O0 a b)]at h;split at h
  .exact uF h
  .rename_i c;rw[a9]at h;split at h
   .rcases av.1 h with rfl|h
    .simpa using c
    .exact uF h
   .exact uF h
section
variable {P:Program} {R:z0} {z:BV} {lo:List HO} {X:Ctx} {B:Option Nat} {ro:Option Nat} {n:Nat} {g:List a7} {Fu:Nat} {I:kF}
set_option maxHeartbeats 1000000 in
theorem NK(m4:P.follows .mixedOrders=true)(hR:F7 P R)(U:∀z lo,N3 P (mZ I z lo))(hB:(B=none->ro≠none)\/∀z lo y f args nx D k,I y f args nx D k≠ .ok z lo){nt kd v0:Nat}{q:Code}{j:WK}(Ym:lJ q=some j)(BC:Code.j5 q=true)(S:o9 n q=true)
  (hX:X.Ok)(V:eT X ro){E:Nat}{A:z7}{nx:Nat}{D:m8}{p:Nat}{kc:KC}{st:j7}{F0 F:Nat->Prop}{K:b8}{H:Nat->Option Hd}{a:Act}{w:World}{Q:Exit->Act->World->Prop}
  (h:BM nt kd v0 q j P Fu R I E A nx D p kc=.ok z lo)(he:B4 n g E A nx D p st)(hF:∀b,F0 b->F b)(C:St (X.O4 st.gh st.o7) B F n K H st.s6.T st.s6.m a w)(Y:∀r,st.nx<=r->H r=none)
  (hQ:∀e E' A' dE D' p' xK a' w',kc e E' A' dE D' p'=.ok z lo->B4 n g E' A' dE D' p' xK->gD X B F0 F n K w xK a' w'->Q e.out a' w'):(Code.loop q).wpIn (Wd ro) 0 P Q a w:=by
 obtain⟨Sl,CQ,oN,oE,rfl,N,Z,O,Ol,uN,fZ,Hk,xJ⟩:=CP Ym;have C:=he.st.1 C;have Y:∀r,nx<=r->H r=none:=fun r hr=>Y r (by rw[he.nx];exact hr)
 have pY:=he.lt;simp only[Code.j5,ah]at BC;simp only[o9,ah]at S;have G:Code.j5 j.c1=true:=by simp_all
 have J:Code.j5 j.c2=true:=by simp_all
 obtain⟨bN,L,kB,M⟩:=S;unfold BM at h;cases hv:J0 E A j.i with
 |a _ _=>rw[hv]at h;cases h
 |t _=>rw[hv]at h;cases h
 |u=>rw[hv]at h;cases h
 |c c=>
 rw[hv]at h;simp only[a9]at h;split at h
 rotate_left
 .cases h
 rename_i sC;split at h
 rotate_left
 .cases h
 rename_i wV;have wV:=ab wV;cases s:m6 nx D (pR c)with
 |c _ _=>rw[s]at h;cases h
 |m _ _ _ _=>rw[s]at h;cases h
 |f _ _ _ _=>rw[s]at h;cases h
 |z=>rw[s]at h;cases h
 |i mi since seen last=>
 rw[s]at h;simp only at h;cases v:m6 nx D mi with
 |c _ _=>rw[v]at h;cases h
 |i _ _ _ _=>rw[v]at h;cases h
 |f _ _ _ _=>rw[v]at h;cases h
 |z=>rw[v]at h;cases h
 |m ks vs l clk=>
 rw[v]at h;simp only at h;split at h
 rotate_left
 .cases h
 rename_i Hz;have Hz:=ab Hz;subst Hz;split at h
 rotate_left
 .cases h
 rename_i hcl;have hcl:=ab hcl;subst hcl;cases seen with
 |cons _ _=>cases h
 |nil=>
 rw[aj rfl]at h;split at h
 .cases h
 rename_i yX;have yX:mi≠pR c:=fun e=>yX (by rw[e];exact fo _)
 obtain⟨E1,A1,h,Ky⟩:=Gu h;generalize Sn:vM (Gt (.seq (.region Sl j.a1 false) (.seq j.c1 (.block j.b (.seq (.region CQ j.a2 false) j.c2))))) E A (SZ nt 0)=Ks at h Ky;have Yn:E.mod 4294967291<cB:=oo (fk _ (by decide)) (by decide)
 have CG:∀t,t ∉ Ks->o8 E1 A1 t=.u:=fun t ht=>by rw[Ky,ai ht,II Yn]
 split at h
 rotate_left
 .cases h
 rename_i hi;have hi:=eU _ _ hi;have a4M:=fG s (by simp)
 obtain⟨D1,h1,RY⟩:=N7 (d:=D) (o:=.z) a4M (fun D1=>Qr nt kd v0 j P Fu R I kc Ks E A E1 A1 nx D1 p c mi ks vs clk l)
 rw[h1]at h;have x:St (X.O4 g (gQ p)) B F n K H (TE E1 A1) (l9 (p8 nx D)) a w:=C.less (fun t=>by
  by_cases ht:t∈Ks
  .right;show I1 (o8 E1 A1 t)=I1 (o8 E A t);rw[Ky,aj ht]
  .left;show I1 (o8 E1 A1 t)=_;rw[CG t ht];rfl)
 have Wi:o8 E1 A1 j.t=.u:=CG _ fun hm=>by
  rw[<-Sn]at hm;have h1:=uF hm;have h2:j.t∈lK j.a1.toList:=gC (o:=oN) (by rw[N];exact ar ..) O
  have h3:O0 j.t (Gt (.seq (.region Sl j.a1 false) (.seq j.c1 (.block j.b (.seq (.region CQ j.a2 false) j.c2)))))=true:=X7.2 (by
   show j.t∈JI (lK j.a1.toList) _;rw[RT]
   exact ej _ h2)
  rw[h3]at h1;cases h1
 have hmI:l9 (p8 nx D) (pR c)=some (.z5 (.i mi clk [] clk),.own):=F9 s (by simp)
 have Se:l9 (p8 nx D) mi=some (.z5 (.m ks vs l clk),.own):=F9 v (by simp)
 obtain⟨kZ,bi,Aw,wW⟩:=wX x hi sC;obtain⟨bi',mb,Av,g1,g2,g3,g4,g5⟩:=x.mem.cont (pR c) _ .own kZ hmI (by simp) Aw
 rw[wW]at g1;cases g1;obtain⟨mb',es,f1,f2,l',f3,f4,f5,f6,f7⟩:=x.mem.cont mi _ .own Av Se (by simp) g3
 rw[g4]at f1;cases f1;have hp:uO X B n g p F K H a w E1 A1 nx D D1 j c mi ks vs clk l l' bi mb kZ Av es Ks:=
  ⟨hX,x,pY,sC,wV,hi,s,v,yX,RY,Aw,wW,g5,g3,g4,by simpa using g2,f2,f3,f4,f5,f6,f7,Y,CG,Wi⟩
 refine jx ((l'.zip es.toList).length+1) ?_;unfold Qr at h
 match kd,h with
 |0,h=>exact a1v m4 hR U hB N Z O Ol uN fZ Hk xJ G J bN L kB M V hp C h hF hQ
 |1,h=>exact a1y m4 hR U hB N Z O Ol uN fZ Hk xJ G J bN L kB M V hp h hF hQ
 |2,h=>exact a1F m4 hR U hB N Z O Ol uN fZ Hk xJ G J bN L kB M V hp C h hF hQ
 |_+3,h=>cases h
end
end Go.Abs
end
section
namespace Go.Abs
section
theorem Qz{key:Nat}:∀ {L LR:ME},LR.map Prod.snd=L.map Prod.snd->ix key LR=ix key L
 |[],[],_=>rfl
 |[],_::_,h=>by cases h
 |_::_,[],h=>by cases h
 |p::L,q::LR,h=>by
  simp only[az,iz]at h;simp only[ix,h.1];rw[Qz h.2]
theorem Ao:∀ {L:ME},KP L=true->∀p∈L,p.1=Y8
 |[],_,p,b=>by cases b
 |a::L,h,p,b=>by
  have h:iB (Nat.beq a.1 Y8) (KP L) false=true:=h;rw[a9]at h;split at h
  .rename_i c;rcases av.1 b with rfl|b
   .exact ab c
   .exact Ao h p b
  .cases h
theorem Je{α β:Type}{f:α->β}{x y:List β}(h:x.Perm y):∀ {l:List α},l.map f=x->∃c:List α,c.Perm l/\c.map f=y:=by
 induction h with
 |nil=>exact fun {l} e=>⟨l,.refl _,e⟩
 |cons a _ k=>
  intro l e;cases l with
  |nil=>cases e
  |cons b l=>
   simp only[az,iz]at e;obtain⟨c,d,g⟩:=k e.2;exact⟨b::c,d.cons b,by rw[az,g,e.1]⟩
 |swap a b t=>
  intro l e
  match l,e with
  |p::q::l,e=>
   simp only[az,iz]at e;exact⟨q::p::l,.swap _ _ _,by simp[e.1,e.2.1,e.2.2]⟩
 |trans _ _ i j=>
  intro l e;obtain⟨c,d,g⟩:=i e;obtain⟨m,n,o⟩:=j g;exact⟨m,n.trans d,o⟩
variable {H:Nat->Option Hd} {ks vs clk:Nat}
theorem NL{b:(Nat×Nat×Nat)×MapEntry->Nat×Nat×Nat}:∀ {zs:Zs},(∀z∈zs,eH H ks vs (b z) z.2)->G8 H ks vs (zs.map b) (zs.map Prod.snd)
 |[],_=>rfl
 |z::zs,h=>⟨z.2,zs.map Prod.snd,rfl,h z (ar ..),NL fun c a=>h c (al _ a)⟩
theorem D7.real{L:ME}{es:Array MapEntry}(h:D7 H ks vs L clk es):∃LR:ME,LR.map Prod.snd=L.map Prod.snd/\(∀p∈LR,p.1<clk)/\(LR.map Prod.fst).Nodup/\D7 H ks vs LR clk es:=by
 obtain⟨l',t,u,w,o,q⟩:=h;obtain⟨G,x⟩:=(E9 _ _).1 t;have s:(l'.zip es.toList).map Prod.fst=l':=List.map_fst_zip (by omega)
 have k:(l'.zip es.toList).map Prod.snd=es.toList:=List.map_snd_zip (by omega)
 have j:∀z∈l'.zip es.toList,eH H ks vs z.1 z.2:=fun z j=>by
  obtain⟨i,a1,y⟩:=Sx (a:=z.1) (b:=z.2) j;exact x i _ _ a1 y
 generalize l'.zip es.toList=zs at s k j;generalize d:zs.map (fun z=>((z.2.born,z.1.2):Nat×Nat×Nat))=f
 have g:f.map Prod.snd=l'.map Prod.snd:=by
  rw[<-d,<-s,fm,fm];rfl
 have c:f.map Prod.fst=es.toList.map (·.born):=by
  rw[<-d,<-k,fm,fm];rfl
 obtain⟨LR,m,g2⟩:=Je ((u.map Prod.snd).symm) (l:=f) g;have A:∀p∈LR,p.1<clk:=fun p B=>by
  have:p.1∈f.map Prod.fst:=cd.2 ⟨p,m.mem_iff.1 B,rfl⟩;rw[c]at this;obtain⟨e,C,hh⟩:=cd.1 this;rw[<-hh];exact q e C
 have E:LR.map (·.2.1)=L.map (·.2.1):=by
  have:=congrArg (List.map Prod.fst) g2;rw[fm,fm]at this;exact this
 refine⟨LR,g2,A,by rw[(m.map Prod.fst).nodup_iff,c];exact o,f,?_,m,by rw[E];exact w,o,q⟩
 rw[<-d,<-k];refine NL fun z n=>?_
 obtain⟨I,F,k3,k4⟩:=j z n;exact⟨.inl rfl,F,k3,k4⟩
theorem D7.loose{L LR:ME}{es:Array MapEntry}(h:D7 H ks vs LR clk es)(f:LR.map Prod.snd=L.map Prod.snd)(m:∀p∈L,p.1=Y8):D7 H ks vs L clk es:=by
 obtain⟨b,n,o,s,c⟩:=h;obtain⟨t,u⟩:=(E9 _ _).1 n;have w:LR.map (·.2.1)=L.map (·.2.1):=by
  have:=congrArg (List.map Prod.fst) f;rw[fm,fm]at this;exact this
 obtain⟨g,i,g2⟩:=Je (o.map Prod.snd) (l:=L) f.symm;refine⟨g,?_,i.symm,by rw[<-w];exact s,c⟩
 have a:g.length=b.length:=by
  have:=congrArg List.length g2;simpa using this
 refine(E9 _ _).2 ⟨by rw[a];exact t,fun j q e d x=>?_⟩
 have y:j<b.length:=by rw[<-a];exact O8 d
 have a1:=ag y;have z:q.2=b[j].2:=by
  have:=congrArg (fun l=>l[j]?) g2
  simp only[bo,d,a1,da]at this;exact cz this
 obtain⟨A,k,k3,k4⟩:=u j _ e a1 x;rw[<-z]at k k3 k4;exact⟨.inr (m q (i.mem_iff.1 (df d))),k,k3,k4⟩
end
section
variable {P:Program} {D D':Hp} {v:BV} {new:List HO} {set:List (Nat×HO)} {rd:List Nat} {r ks vs clk:Nat} {L LR:ME}
theorem a26{x:BV}{s n:Nat}{k:Nat->Nat->l6}(h:(x=.c n/\s=1/\3<=n)\/x=.a s n):vR x k=k s n:=by
 rcases h with⟨rfl,rfl,h⟩|rfl
 .show nB (Nat.ble 3 n) 5 (k 1 n)=_;rw[dk h];rfl
 .rfl
theorem UJ{t:TypeId}{x i:BV}{b:Bool}(h:eZ P t x i b D=.ok v new set rd)(y:D r=.m ks vs L clk)(k:D' r=.m ks vs LR clk)(u:LR.map Prod.snd=L.map Prod.snd)(z:∀n,n≠r->D' n=D n):eZ P t x i b D'=.ok v new set rd:=by
 obtain⟨c,A,o⟩:=x8 h;subst A;clear h;by_cases w:r=mR c
 .subst w;have d:=o;obtain⟨f,h⟩:=a8 o;show nB (vV c) 162 (hM (D' (mR c)) _)=_;have d:nB (vV c) 162 (hM (D (mR c)) _)=_:=d;rw[f,k];rw[f,y]at d;show nB (Nat.beq (Nat.succ ks) (eK P t)) 163 (nB (Nat.beq (Hs i) (eK P t)) 164 (nB (Nat.beq (Nat.succ vs) (uJ P t)) 165 (vR i fun s key=>nB (lV s key) 188 (qP key LR (fun _ v=>iB b (.ok (.t [(vs,v),(0,17)]) [] [] [mR c]) (.ok (uK vs v) [] [] [mR c])) (iB b (.ok (.t [(vs,JA P t),(0,9)]) [] [] [mR c]) (.ok (uK vs (JA P t)) [] [] [mR c]))))))=_
  have d:nB (Nat.beq (Nat.succ ks) (eK P t)) 163 (nB (Nat.beq (Hs i) (eK P t)) 164 (nB (Nat.beq (Nat.succ vs) (uJ P t)) 165 (vR i fun s key=>nB (lV s key) 188 (qP key L (fun _ v=>iB b (.ok (.t [(vs,v),(0,17)]) [] [] [mR c]) (.ok (uK vs v) [] [] [mR c])) (iB b (.ok (.t [(vs,JA P t),(0,9)]) [] [] [mR c]) (.ok (uK vs (JA P t)) [] [] [mR c]))))))=_:=d
  have e:∀key,qP key LR (fun _ v=>iB b (.ok (.t [(vs,v),(0,17)]) [] [] [mR c]) (.ok (uK vs v) [] [] [mR c])) (iB b (.ok (.t [(vs,JA P t),(0,9)]) [] [] [mR c]) (.ok (uK vs (JA P t)) [] [] [mR c]))=qP key L (fun _ v=>iB b (.ok (.t [(vs,v),(0,17)]) [] [] [mR c]) (.ok (uK vs v) [] [] [mR c])) (iB b (.ok (.t [(vs,JA P t),(0,9)]) [] [] [mR c]) (.ok (uK vs (JA P t)) [] [] [mR c])):=fun key=>by
   rw[aD,aD,Qz u];cases B:ix key L with
   |none=>rfl
   |some j=>
    have a:=congrArg (fun l=>l[j]?) u
    simp only[bo]at a;cases f:LR[j]? with
    |none=>
     rw[f]at a;cases g:L[j]? with
     |none=>simp only[f,g]
     |some q=>rw[g]at a;cases a
    |some p=>
     rw[f]at a;cases g:L[j]? with
     |none=>rw[g]at a;cases a
     |some q=>
      rw[g]at a;have a:p.2=q.2:=cz a;simp only[f,g,a]
  simp only[e];exact d
 .refine(?_:eZ P t (.c c) i b D'=_);have d:nB (vV c) 162 (hM (D (mR c)) _)=_:=o;show nB (vV c) 162 (hM (D' (mR c)) _)=_;rw[z _ (fun e=>w e.symm)]
  exact d
theorem Sy{t:TypeId}{m x y:BV}(h:Yt P t m x y D=.ok v new set rd):∃c b key d n ks vs L clk,m=.c c/\vV c=true/\D (mR c)=.m ks vs L clk/\Nat.beq (Nat.succ ks) (eK P t)=true/\Nat.beq (Hs x) (eK P t)=true/\Nat.beq (Nat.succ vs) (uJ P t)=true/\((x=.c key/\b=1/\3<=key)\/x=.a b key)/\lV b key=true/\
  clk<=1048576/\L.length<=1048576/\(∀p∈L,p.1=Y8)/\Y6 key L=true/\Nat.beq (Hs y) (Nat.succ vs)=true/\((y=.c n/\d=1/\3<=n)\/y=.a d n)/\set=[(mR c,.m ks vs (U8 key n L) clk)]:=by
 obtain⟨c,rfl,h⟩:=x8 h;obtain⟨g,h⟩:=a8 h;obtain⟨ks,vs,L,clk,i,h⟩:=rP h;obtain⟨j,h⟩:=a8 h;obtain⟨k,h⟩:=a8 h;obtain⟨l,h⟩:=a8 h;obtain⟨b,key,o,h⟩:=dV h;obtain⟨q,h⟩:=a8 h;obtain⟨s,h⟩:=a8 h;obtain⟨u,h⟩:=a8 h;obtain⟨w,h⟩:=a8 h;obtain⟨e,h⟩:=a8 h;obtain⟨f,h⟩:=a8 h;obtain⟨d,n,z,h⟩:=dV h;cases h;exact⟨c,b,key,d,n,ks,vs,L,clk,rfl,g,i,j,k,l,o,q,af s,by rw[<-GH];exact af u,Ao w,by rw[<-GG];exact e,f,z,by rw[GF]⟩
theorem NM{t:TypeId}{c b key:Nat}{x:BV}{j:Nat}{p:Nat×Nat×Nat}(f:vV c=true)(e:D' (mR c)=.m ks vs LR clk)(g:Nat.beq (Nat.succ ks) (eK P t)=true)(h:Nat.beq (Hs x) (eK P t)=true)(i:Nat.beq (Nat.succ vs) (uJ P t)=true)(k:(x=.c key/\b=1/\3<=key)\/x=.a b key)(l:lV b key=true)
  (d:clk<=1048576)(n:ix key LR=some j)(o:LR[j]? =some p)(q:p.1<=1048576):cU P t (.c c) x D'=.ok (.t [(vs,p.2.2),(0,G5 p.1)]) [] [] [mR c]:=by
 show nB (vV c) 162 (hM (D' (mR c)) _)=_;rw[f,e];show nB (Nat.beq (Nat.succ ks) (eK P t)) 163 (nB (Nat.beq (Hs x) (eK P t)) 164 (nB (Nat.beq (Nat.succ vs) (uJ P t)) 165 (vR x fun b key=>nB (lV b key) 188 (nB (Nat.ble clk 1048576) 189 (qP key LR (fun s v=>nB (Nat.ble s 1048576) 189 (.ok (.t [(vs,v),(0,G5 s)]) [] [] [mR c])) _)))))=_
 rw[g,h,i,a26 k,l,dk d,aD,n];simp only[o,dk q];rfl
theorem a27:∀ {LR:ME} {j:Nat} {p:Nat×Nat×Nat},(LR.map Prod.fst).Nodup->LR[j]? =some p->sx p.1 LR=some j
 |[],j,p,_,h=>by simp at h
 |q::LR,0,p,a,h=>by
  simp at h;subst h;simp[sx]
 |q::LR,j+1,p,a,h=>by
  simp only[az,dn]at a;have c:LR[j]? =some p:=by simpa using h
  have b:¬q.1=p.1:=fun e=>a.1 (cd.2 ⟨p,df c,e.symm⟩)
  simp[sx,b,a27 a.2 c]
theorem a7Z(s z:Nat):Nat.sub (s+z) z=s:=by show s+z- z=s;omega
theorem b1V{c:Nat}{k:Nat->l6}:vI (.c c) k=nB (pK c) 97 (nB (Nat.ble cZ (n8 c)) 98 (k (Nat.sub (n8 c) cZ))):=rfl
theorem a28(s z:Nat):Nat.div (128*s+128*z+32) 128=s+z:=by show(128*s+128*z+32) /128=_;omega
theorem a29(s z:Nat):(128*s+128*z+32) % 8=0:=by omega
theorem KZ(s:Nat):G5 s=128*s+128*cZ+32:=by show 128*s+1180591620717411303456=128*s+128*9223372036854775808+32;omega
theorem a1G{s:Nat}{k:Nat->l6}:vI (.c (G5 s)) k=k s:=by
 have a:pK (G5 s)=true:=cD.2 (by rw[KZ];exact a29 s cZ)
 have b:n8 (G5 s)=s+cZ:=by rw[KZ];exact a28 s cZ
 rw[b1V,a,b,dk (Nat.le_add_left cZ s),a7Z,HC,HC]
theorem HK{c f n:Nat}{y:BV}{j:Nat}{p:Nat×Nat×Nat}(h:vV c=true)(b:D' (mR c)=.m ks vs LR clk)(i:(LR.map Prod.fst).Nodup)(g:LR[j]? =some p)(k:p.1<=1048576)(d:Nat.beq (Hs y) (Nat.succ vs)=true)(o:(y=.c n/\f=1/\3<=n)\/y=.a f n):
  R6 (.c c) (.c (G5 p.1)) y D'=.ok (.c 1) [] [(mR c,.m ks vs (LR.set j (p.1,p.2.1,n)) clk)] [mR c]:=by
 show nB (vV c) 167 (vI (.c (G5 p.1)) fun s=>nB (Nat.ble s 1048576) 240 (hM (D' (mR c)) fun ks vs l clk=>nB (Nat.beq (Hs y) (Nat.succ vs)) 168 (vR y fun _ n=>
  Lu s n l (fun e=>.ok (.c 1) [] [(mR c,.m ks vs e clk)] [mR c]) (.er 169 0))))=_
 rw[h,a1G,dk k,b];show nB (Nat.beq (Hs y) (Nat.succ vs)) 168 (vR y fun _ n=>Lu p.1 n LR (fun e=>.ok (.c 1) [] [(mR c,.m ks vs e clk)] [mR c]) (.er 169 0))=_
 rw[d,a26 o,zC,a27 i g];simp only[g];rfl
theorem a1H{key n j:Nat}{p q:Nat×Nat×Nat}(c:LR.map Prod.snd=L.map Prod.snd)(d:ix key L=some j)(f:LR[j]? =some p)(b:L[j]? =some q):(LR.set j (p.1,p.2.1,n)).map Prod.snd=(U8 key n L).map Prod.snd:=by
 rw[<-KN d b,sr,sr,c];obtain⟨h,e,g⟩:=jP d;rw[b]at e;cases e;have a:=congrArg (fun l=>l[j]?) c
 simp only[bo,f,b,da]at a;have a:p.2=q.2:=cz a;rw[a,g]
theorem Jf{key n:Nat}:∀ {L:ME},(∀p∈L,p.1=Y8)->∀p∈U8 key n L,p.1=Y8
 |[],_,p,b=>by simp[U8]at b;rw[b]
 |a::L,h,p,b=>by
  simp only[U8]at b;split at b
  .rcases av.1 b with rfl|b
   .exact h a (ar ..)
   .exact h p (al _ b)
  .rcases av.1 b with rfl|b
   .exact h p (ar ..)
   .exact Jf (fun p b=>h p (al _ b)) p b
end
end Go.Abs
end
section
namespace Go.Abs
theorem O2.app{Γ:Env}{P:Program}{all:Array Oper}{n:Nat}{b p:List Oper}{g c:Nat->SS}{q D2:List L7}(f:O2 Γ P all n b g q)(r:O2 Γ P all n p c D2)(e:g b.length=c 0):O2 Γ P all n (b++p) (fun i=>if i<=b.length then g i else c (i- b.length)) (q++D2):=by
 refine⟨by rw[bu,bu,f.len,r.len],fun i o d h hd=>?_⟩
 by_cases j:i<b.length
 .rw[bc j]at h;rw[bc (by rw[f.len];exact j)]at hd
  simp only[aj (gw j),aj (Nat.succ_le_of_lt j)];exact f.step i o d h hd
 .rw[bd (by omega)]at h
  rw[bd (by rw[f.len];omega),f.len]at hd
  have k:=r.step _ o d h hd;have s:(if i+1<=b.length then g (i+1)else c (i+1- b.length))=c (i- b.length+1):=by
   rw[ai (by omega)];congr 1;omega
  rw[s];by_cases t:i=b.length
  .subst t;simp only[aw,di];rw[pz]at k ⊢;rw[e];exact k
  .rw[ai (by omega)]
   exact k
theorem NN{op:Op}(h:sJ op=true):∃t x i ck,op=.lookup t x i ck:=by
 cases op<;>first|exact⟨_,_,_,_,rfl⟩|cases h
theorem vO{r:Nat}:∀ {ops:List Oper} {b:Ex},gA r ops b=true->∀ (i:Nat) (o:Oper) (p:List Nat×List Nat),ops[i]? =some o->b[i]? =some p->r ∉ p.2/\(r∈p.1->sJ o.op=true)
 |[],_,_,i,o,p,c,_=>by simp at c
 |a::ops,[],h,i,o,p,_,d=>by simp at d
 |a::ops,q::b,h,i,o,p,c,d=>by
  have h:iB (O0 r q.2) false (iB (O0 r q.1) (iB (sJ a.op) (gA r ops b) false) (gA r ops b))=true:=h;have key:O0 r q.2=false/\(O0 r q.1=true->sJ a.op=true)/\gA r ops b=true:=by
   cases f:O0 r q.2 with
   |true=>rw[f]at h;cases h
   |false=>
    rw[f]at h;cases g:O0 r q.1 with
    |false=>rw[g]at h;exact⟨rfl,(fun e=>by cases e),h⟩
    |true=>
     rw[g]at h;cases j:sJ a.op with
     |false=>rw[j]at h;cases h
     |true=>rw[j]at h;exact⟨rfl,fun _=>rfl,h⟩
  obtain⟨f,g,j⟩:=key;cases i with
  |zero=>
   simp at c d;subst c;subst d;exact⟨(fun k=>by rw[X7.2 k]at f;cases f),fun k=>g (X7.2 k)⟩
  |succ i=>exact vO j i o p (by simpa using c) (by simpa using d)
theorem QA{ops:Array Oper}{i:ND}(h:IX ops=some i):∃b d f g,ops.toList.drop i.c=[b,d,f]/\b.op=.mapEntry i.t (.tmp i.m) i.x/\b.dst=some i.d1/\b.guard=none/\d.op=.extract (.tmp i.d1) 1/\d.dst=some i.d2/\d.guard=none/\f.op=.entryStore g (.tmp i.m) (.tmp i.d2) i.v/\f.dst=none/\f.guard=none/\
  i.d1≠i.d2/\i.m≠i.d1/\i.m≠i.d2/\UC i.d1 i.v=true/\UC i.d2 i.v=true:=by
 unfold IX at h;split at h
 rotate_left
 .cases h
 rename_i b d f r;split at h
 rotate_left
 .cases h
 rename_i t m x V y1 j Y s u y o A C;split at h
 rotate_left
 .cases h
 rename_i g Z y2 v p D E;split at h
 rotate_left
 .cases h
 rename_i q;cases h;simp only[ah,dx]at q;obtain⟨⟨⟨⟨⟨⟨⟨⟨G,I⟩,J⟩,L⟩,M⟩,N⟩,O⟩,S⟩,U⟩:=q;have k:∀ {i j:Nat},Nat.beq i j=false->i≠j:=fun hh e=>by rw[e,fo]at hh;cases hh
 rw[ab G,ab I]at o;rw[ab J,ab L]at p;exact⟨b,d,f,g,r,s,u,y,o,A,C,p,D,E,k M,k N,k O,S,U⟩
theorem YM{E b:Nat}{A c:z7}{d:Tmp}{v:BV}{x:Operand}(h:UC d x=true)(g:∀f,o8 b c f=if f=d then v else o8 E A f):J0 b c x=J0 E A x:=by
 cases x with
 |tmp t=>
  show o8 b c t=o8 E A t;rw[g,ai (fun e=>by simp[UC,e]at h)]
 |const _=>rfl
 |global _=>rfl
 |func _=>rfl
section
variable {z:BV} {l:List HO}
theorem QB{t:Nat}{E:Nat}{A:z7}{k:Nat->z7->Rn}(h:G3 t .u E A k=.ok z l):∃f,k (X5 E t 0) f=.ok z l/\(∀t',o8 (X5 E t 0) f t'=if t'=t then .u else o8 E A t')/\(∀q,∃b,∀t',o8 (X5 E t 0) b t'=if t'=t then .t q else o8 E A t')/\
  ∀n,1<=n->n<=1208925819614629174706175->∃i,∀t',o8 i A t'=if t'=t then .c n else o8 E A t':=by
 unfold G3 at h;rw[a9]at h;split at h
 rotate_left
 .cases h
 rename_i o;have d:E % cB+1<cB:=Kj (af o);have h:fN (X5 E t 0) (fun i=>AW .u A t fun b=>k i b)=.ok z l:=h
 rw[B6]at h;obtain⟨f,p,j⟩:=iI (.u) A t (fun b=>k (X5 E t 0) b)
 rw[p]at h;have e:∀ (v:BV) (b:z7),(∀t',Ht b t'=if t'=t then v else Ht A t')->∀t',o8 (X5 E t 0) b t'=if t'=t then v else o8 E A t':=fun v b j t'=>by
  rw[T6,T6,rR R4 d,j t'];by_cases g:t'=t
  .simp only[g,di]
  .simp only[g,dw]
 refine⟨f,h,e .u f j,fun q=>?_,fun n r s=>⟨X5 E t n,fun t'=>?_⟩⟩
 .obtain⟨b,x,g2⟩:=iI (.t q) A t (fun b=>k (X5 E t 0) b)
  exact⟨b,e (.t q) b g2⟩
 .rw[T6,T6,rR (by show n<1208925819614629174706176;omega) d]
  by_cases g:t'=t
  .simp only[g,di];rw[ai (by omega)]
  .simp only[g,dw]
end
section
variable {X:fW} {B:Option Nat} {F:Nat->Prop} {n:Nat} {K:b8} {H:Nat->Option Hd} {T:Nat->a7} {m:Mm} {a:Act} {w:World}
theorem St.a3a(h:St X B F n K H T m a w){r0 ks vs clk:Nat}{L L2:ME}(p:m r0=some (.z5 (.m ks vs L clk),.own))(C:∀hd b es,H r0=some hd->hd.base=some b->w.heap[b]? =some (.map es clk)->D7 H ks vs L clk es->D7 H ks vs L2 clk es):St X B F n K H T (N9 m r0 (.z5 (.m ks vs L2 clk),.own)) a w:=by
 have d:∀r x,N9 m r0 (c7.z5 (.m ks vs L2 clk),p0.own) r=some x->(r=r0/\x=(.z5 (.m ks vs L2 clk),.own))\/m r=some x:=fun r x i=>by
  by_cases e:r=r0
  .subst e;rw[j8]at i;cases i;exact .inl ⟨rfl,rfl⟩
  .rw[m7 _ _ _ _ e]at i;exact .inr i
 have j:∀r c,N9 m r0 (c7.z5 (.m ks vs L2 clk),p0.own) r=some (c,.own)->∃c',m r=some (c',.own):=fun r c i=>by
  rcases d r _ i with⟨rfl,_⟩|i
  .exact⟨_,p⟩
  .exact⟨_,i⟩
 refine⟨h.ok,⟨?_,?_,?_,?_⟩,h.size,h.defers,h.tmp,h.x⟩
 .intro r c f hd g k q3;rcases d r _ g with⟨rfl,e⟩|g
  .cases e;obtain⟨b,es,o,g2,q⟩:=h.mem.cont r _ .own hd p (by simp) q3
   exact⟨b,es,o,g2,C hd b es q3 o g2 q⟩
  .exact h.mem.cont r c f hd g k q3
 .intro r c hd b g k q3;rcases d r _ g with⟨rfl,e⟩|g
  .cases e;obtain⟨o,g2,q,_⟩:=h.mem.own r _ hd b p k q3;exact⟨o,g2,q,fun h=>by cases h⟩
  .exact h.mem.own r c hd b g k q3
 .intro r c hd b g k q3;rcases d r _ g with⟨rfl,e⟩|g
  .cases e
  .exact h.mem.X9 r c hd b g k q3
 .intro y A D E s t b g k q3 q4 q5 q6;obtain⟨u,G⟩:=j y D g;obtain⟨v,I⟩:=j A E k;exact h.mem.inj y A u v s t b G I q3 q4 q5 q6
end
section
variable {P:Program} {R:z0} {all:Array Oper} {n:Nat}
theorem YN(U:F7 P R){ops:List Oper}{S:Nat->SS}{Ds:List L7}(J:O2 Γ0 P all n ops S Ds)(hC:∀ (i:Nat) (o:Oper) (d:L7),ops[i]? =some o->Ds[i]? =some d->zV o d/\Iq P R o (S i) d)
  {r ks vs clk:Nat}{L h:ME}(V:h.map Prod.snd=L.map Prod.snd)(s:∀i,i<ops.length->r<(S i).nx)(Y:∀i,i<ops.length->(S i).m r=some (.z5 (.m ks vs L clk),.own))
  (y:∀ (i:Nat) (o:Oper) (d:L7),ops[i]? =some o->Ds[i]? =some d->r ∉ d.wr/\(r∈d.rd->sJ o.op=true)):O2 Γ0 P all n ops (fun i=>(S i).Z1 r (some (.z5 (.m ks vs h clk),.own))) Ds:=by
 refine⟨J.len,fun i o d j hd=>?_⟩
 have f:=J.step i o d j hd;obtain⟨Z,hl⟩:=y i o d j hd;obtain⟨k,c⟩:=hC i o d j hd;cases d with
 |skip=>exact f.Gq
 |quiet a b=>exact c.elim
 |write a=>exact c.elim
 |Y5 nx v new set rd=>
  have C:r ∉ set.map (·.1):=fun hm=>Z (ej _ hm)
  by_cases M:r∈rd
  .obtain⟨t,x,i',ck,g⟩:=NN (hl M);obtain⟨E,A,u,c1,c2,c3,c4,N⟩:=c;have p:new=[]/\set=[]:=by
    have:=k.1 (by rw[g];rfl)
    simp only[L7.wr,List.append_eq_nil_iff,List.map_eq_nil_iff]at this;refine⟨?_,this.1⟩;have h2:=this.2;cases new with
    |nil=>rfl
    |cons a b=>cases h2
   obtain⟨rfl,rfl⟩:=p;obtain⟨g1,g2,g3,g4,g5,O,g7⟩:=f;have hD:G9 (S i).m r=.m ks vs L clk:=by unfold G9;rw[Y i (O8 j)]
   have D:G9 ((S i).Z1 r (some (.z5 (.m ks vs h clk),.own))).m r=.m ks vs h clk:=by unfold G9;rw[KD]
   rw[g]at N;have G:HW o.op P R (J0 E A) nx (G9 ((S i).Z1 r (some (.z5 (.m ks vs h clk),.own))).m)=.ok u [] [] rd:=by
    rw[g];refine UJ (show eZ P t (J0 E A x) (J0 E A i') ck (G9 (S i).m)=.ok u [] [] rd from N) hD D V (fun q I=>?_)
    unfold G9;show(match(if q=r then _ else(S i).m q)with|some (.z5 o,.own)=>o|_=>.z)=_
    rw[ai I];rfl
   refine⟨g1,g2,g3,?_,g5,O,?_⟩
   .show(fun q=>if q=r then _ else(S (i+1)).m q)=((S i).Z1 r _).m
    have e:(S (i+1)).m=(S i).m:=g4;rw[e];rfl
   .have:=zR U (o:=o) (E:=E) (A:=A) (T:=(S i).T) (m:=((S i).Z1 r (some (.z5 (.m ks vs h clk),.own))).m) (nx:=nx) (v:=u) (new:=[]) (set:=[]) (rd:=rd) (fun t=>by rw[c1];rfl) rfl c3 G
    rw[c4];rw[O]at this;exact this
  .exact f.blind M C (s i (O8 j))
end
end Go.Abs
end
section
namespace Go.Abs
theorem Sz:∀ (L:ME) (j:Nat),∃c:ME,c.map Prod.snd=L.map Prod.snd/\(∀p∈c,p.1<j+L.length)/\(∀p∈c,j<=p.1)/\(c.map Prod.fst).Nodup
 |[],j=>⟨[],rfl,(fun p b=>by cases b),(fun p b=>by cases b),by simp⟩
 |a::L,j=>by
  obtain⟨c,f,h,d,i⟩:=Sz L (j+1);refine⟨(j,a.2)::c,by rw[az,az,f],fun p b=>?_,fun p b=>?_,?_⟩
  .rcases av.1 b with rfl|b
   .simp
   .have:=h p b;rw[bq];omega
  .rcases av.1 b with rfl|b
   .exact aw _
   .exact Nat.le_of_succ_le (d p b)
  .rw[az,dn];refine⟨fun k=>?_,i⟩
   obtain⟨p,b,e⟩:=cd.1 k;have:=d p b;simp at e;omega
section
variable {P:Program} {R:z0} {z:BV} {l:List HO} {X:Ctx} {B:Option Nat} {F0:Nat->Prop} {ro:Option Nat} {n:Nat} {g:List a7}
theorem GI(c:F7 P R){all:Array Oper}{o:Oper}{E a:Nat}{A b:z7}{nx:Nat}{m:Mm}{v:BV}{set:List (Nat×HO)}{rd:List Nat}(d:S7 n o.dst=true)(e:O7 (TE E A) o.dst (I1 v)=TE a b)(f:o.guard=none)(h:nx<1048575)(i:HW o.op P R (J0 E A) nx (G9 m)=.ok v [] set rd):
  U2 Γ0 P all n o ⟨TE E A,nx,m⟩ (.Y5 nx (I1 v) [] set rd) ⟨TE a b,nx,bF m set⟩:=
 ⟨d,e.symm,rfl,rfl,(by unfold z9;rw[f]),rfl,zR c (fun _=>rfl) rfl h i⟩
theorem UK{ops:Array Oper}{a:List Oper}{i:ND}{k:KS}{E:Nat}{A:z7}{nx:Nat}{D:m8}{p:Nat}{b:Ex}(h:GB ops a i P k E A nx D p b=.ok z l):∃v new set rd r ks vs L clk D2,Yt P i.t (J0 E A (.tmp i.m)) (J0 E A i.x) (J0 E A i.v) (m6 nx D)=.ok v new set rd/\set=[(r,.m ks vs L clk)]/\
  gA r a (pW b)=true/\eM (pW (([r],[r])::([],[])::([r],[])::b)) (Y0 ops)=true/\r<nx/\(∀f,m6 nx D2 f=if f=r then .m ks vs L clk else m6 nx D f)/\
  G3 i.d1 .u E A (fun E A=>G3 i.d2 .u E A fun E A=>k E A nx D2 p)=.ok z l:=by
 have h:Su ops a i k E A nx D p b (Yt P i.t (J0 E A (.tmp i.m)) (J0 E A i.x) (J0 E A i.v) (m6 nx D))=.ok z l:=h;generalize w:Yt P i.t (J0 E A (.tmp i.m)) (J0 E A i.x) (J0 E A i.v) (m6 nx D)=j at h;cases j with
 |er c x=>cases h
 |ok v new set rd=>
  obtain⟨r,ks,vs,L,clk,y⟩:∃r ks vs L clk,set=[(r,.m ks vs L clk)]:=by
   obtain⟨c,N,key,O,n,ks,vs,L,clk,S,T,U,V,Y,Z,e7,e8,e9,C,F,G,H,I,q⟩:=Sy w;exact⟨_,_,_,_,_,q⟩
  subst y;have h:iB (gA r a (pW b)) (iB (eM (pW (([r],[r])::([],[])::([r],[])::b)) (Y0 ops)) (iB (Nat.ble (Nat.succ r) nx) (uD L fun l=>aK nx D r (.m ks vs l clk) fun D2=>G3 i.d1 .u E A fun E A=>G3 i.d2 .u E A fun E A=>k E A nx D2 p) (.er 691 1)) (.er 692 0)) (.er 692 1)=.ok z l:=h
  rw[a9 (gA _ _ _)]at h;split at h
  rotate_left
  .cases h
  rename_i J;rw[a9 (eM _ _)]at h;split at h
  rotate_left
  .cases h
  rename_i K;rw[a9 (Nat.ble _ _)]at h;split at h
  rotate_left
  .cases h
  rename_i e;have e:r<nx:=af e;rw[xB]at h;obtain⟨D2,M,s⟩:=N7 (d:=D) (o:=.m ks vs L clk) e (fun D2=>G3 i.d1 .u E A fun E A=>G3 i.d2 .u E A fun E A=>k E A nx D2 p)
  rw[M]at h;exact⟨v,new,_,rd,r,ks,vs,L,clk,D2,rfl,rfl,J,K,e,s,h⟩
set_option maxHeartbeats 1000000 in
theorem UL{Q:Exit->Act->World->Prop}(m4:P.follows .mixedOrders=true)(hX:X.Ok)(hR:F7 P R){id:Nat}{ops:Array Oper}{i:ND}(hi:IX ops=some i)(BC:R3 ops=true)(hds:w7 n ops.toList=true)
  {E:Nat}{A:z7}{nx:Nat}{D:m8}{p:Nat}{k:KS}{st:j7}{F:Nat->Prop}{K:b8}{H:Nat->Option Hd}{a:Act}{w:World}(h:dP (ops.toList.take i.c) P R ops (GB ops (ops.toList.take i.c) i P k) E A nx D p []=.ok z l)(he:B4 n g E A nx D p st)(hF:∀b,F0 b->F b)
  (qC:St (X.O4 st.gh st.o7) B F n K H st.s6.T st.s6.m a w)(G2:∀r,st.nx<=r->H r=none)(hQ:∀G A' dE D' p' xK a' w',k G A' dE D' p'=.ok z l->B4 n g G A' dE D' p' xK->gD X B F0 F n K w xK a' w'->Q .normal a' w'):
  (Code.region id ops true).wpIn (Wd ro) 0 P Q a w:=by
 obtain⟨oM,oX,oS,t',a70,m1,m2,m3,x1,x2,x3,s1,s2,s3,n1,n2,n3,n4,n5⟩:=QA hi;have U:ops.toList=ops.toList.take i.c++ [oM,oX,oS]:=by rw[<-a70,fq]
 generalize b6O:ops.toList.take i.c=f at h U;have b1W:w7 n f=true/\(S7 n oM.dst=true/\S7 n oX.dst=true/\S7 n oS.dst=true):=by
  have key:∀ (l1:List Oper),w7 n (l1++ [oM,oX,oS])=true->w7 n l1=true/\(S7 n oM.dst=true/\S7 n oX.dst=true/\S7 n oS.dst=true):=by
   intro l1
   induction l1 with
   |nil=>intro h;simp only[gq,w7,ah]at h;exact⟨rfl,h.1,h.2.1,h.2.2.1⟩
   |cons o l1 ih=>intro h;simp only[gy,w7,ah]at h ⊢;exact⟨⟨h.1,(ih h.2).1⟩,(ih h.2).2⟩
  rw[U]at hds;exact key f hds
 obtain⟨hdp,od1,od2,od3⟩:=b1W;have pD:St (X.O4 g (gQ p)) B F n K H (TE E A) (l9 (p8 nx D)) a w:=he.st.1 qC;have Un:∀r,nx<=r->H r=none:=fun r J=>G2 r (by rw[he.nx];exact J)
 obtain⟨S,Ds,G,A',dE,D',q0,q1,q2,q3,q4,q5,q6,q7⟩:=tW hR f E A nx D p [] _ (l9 (p8 nx D)) h hdp he.lt (tV nx D);obtain⟨v0,b6S,b6T,rd0,r,ks,vs,L2,clk,D2,hH,a71,V,Uz,b1X,IP,XC⟩:=UK q7;obtain⟨c,sk,key,sv,nn,ks',vs',L,wZ,e1,e2,e3,e4,e5,e6,e7,e8,e9,e10,e11,e12,e13,e14,e15⟩:=Sy hH;rw[a71]at e15;injection e15 with e15 _;injection e15 with er eo;injection eo with ek1 ek2 ek3 ek4;subst er;subst ek1;subst ek2;subst ek3;subst ek4;rw[Kk,bf,na]at V;have M:∀ (i:Nat) (o:Oper) (d:L7),f[i]? =some o->Ds[i]? =some d->mR c ∉ d.wr/\(mR c∈d.rd->sJ o.op=true):=fun i o d y hd=>vO V i o (aS d) y (by rw[bo,hd];rfl)
 have hlen:∀i,i<=f.length->mR c<(S (f.length- i)).nx/\(S (f.length- i)).m (mR c)=(S f.length).m (mR c):=by
  intro i
  induction i with
  |zero=>intro _;rw[kl,q3];exact⟨b1X,rfl⟩
  |succ j ih=>
   intro hj;obtain⟨ih1,ih2⟩:=ih (by omega)
   have yE:f.length- (j+1)<f.length:=by omega
   have a1:=ag yE;obtain⟨d,a2⟩:∃d,Ds[f.length- (j+1)]? =some d:=⟨_,ag (by rw[q1.len];exact yE)⟩
   have hs:=q1.step _ _ _ a1 a2;have es:f.length- (j+1)+1=f.length- j:=by omega
   rw[es]at hs;have hw:=(M _ _ _ a1 a2).1;have a72:=(q6 _ _ _ a1 a2).2;have hm:=hs.m;have hn:=hs.nx;have b1Y:=hs.UY;cases d with
   |skip=>
    refine⟨?_,?_⟩
    .have:(S (f.length- j)).nx=(S (f.length- (j+1))).nx:=hn;omega
    .rw[<-ih2,hm];rfl
   |quiet _ _=>exact a72.elim
   |write _=>exact a72.elim
   |Y5 nx1 v new set rd=>
    have en:nx1=(S (f.length- (j+1))).nx:=b1Y.2.1;have hw1:mR c ∉ set.map (·.1):=fun hh=>hw (ej _ hh)
    have hw2:¬(nx1<=mR c/\mR c<nx1+new.length):=fun hh=>hw (dz _ ((jK _ _ _).2 hh))
    have hn':(S (f.length- j)).nx=(S (f.length- (j+1))).nx+new.length:=hn;refine⟨?_,?_⟩
    .omega
    .rw[<-ih2,hm];show _=G4 (bF (S (f.length- (j+1))).m set) nx1 (new.map .z5) (mR c);rw[s9];split
     .rename_i hh;exact absurd ⟨hh.1,by simpa using hh.2⟩ hw2
     .exact(eQ _ _ hw1).symm
 have hat:∀j,j<=f.length->mR c<(S j).nx/\(S j).m (mR c)=some (.z5 (.m ks vs L clk),.own):=fun j hj=>by
  obtain⟨O,h2⟩:=hlen (f.length- j) (by omega)
  rw[show f.length- (f.length- j)=j by omega]at O h2
  refine⟨O,?_⟩;rw[h2];have hd:G9 (S f.length).m (mR c)=.m ks vs L clk:=by rw[q4];exact e3
  unfold G9 at hd;split at hd
  .rename_i o y;rw[y,hd]
  .cases hd
 have h0m:l9 (p8 nx D) (mR c)=some (.z5 (.m ks vs L clk),.own):=by
  have:=(hat 0 (fx _)).2;rw[q0]at this;exact this
 obtain⟨I,l1,l2,l3,l4⟩:∃I:ME,I.map Prod.snd=L.map Prod.snd/\(∀p∈I,p.1<=1048576)/\(I.map Prod.fst).Nodup/\∀hd b es,H (mR c)=some hd->hd.base=some b->w.heap[b]? =some (.map es clk)->D7 H ks vs L clk es->D7 H ks vs I clk es:=by
  cases hh:H (mR c)with
  |none=>
   obtain⟨I,a1,a2,_,a4⟩:=Sz L 0;exact⟨I,a1,fun p hp=>by have:=a2 p hp;omega,a4,fun hd b es e=>by cases e⟩
  |some hd=>
   obtain⟨b,es,g1,g2,g3⟩:=pD.mem.cont _ _ .own hd h0m (by simp) hh
   obtain⟨I,a1,a2,a3,a4⟩:=g3.real;refine⟨I,a1,fun p hp=>by have:=a2 p hp;omega,a3,fun S9 b' Kz k1 k2 k3 _=>?_⟩
   cases k1;rw[g1]at k2;cases k2;rw[g2]at k3;cases k3;exact a4
 obtain⟨j,hj⟩:∃j,ix key L=some j:=by
  have:=Sq (key:=key) (l:=L);rw[e12]at this;exact dv.1 this
 obtain⟨pq,hpq,hpk⟩:=jP hj;have hjR:ix key I=some j:=by rw[Qz l1];exact hj
 obtain⟨s,hpr,b63⟩:=jP hjR;have a73:s.1<=1048576:=l2 s (df hpr);obtain⟨Au,Y,hAu,hAt,_⟩:=QB XC;obtain⟨Au2,a74,Z,_,_⟩:=QB Y;obtain⟨A2,hA2⟩:=hAt [(vs,s.2.2),(0,G5 s.1)];obtain⟨_,_,_,_,Ak⟩:=QB (A:=A2) (k:=fun _ _=>.ok z l) (t:=i.d2) (E:=X5 G i.d1 0) (z:=z) (l:=l) (by
  have O:=Y;unfold G3 at O ⊢;rw[a9]at O ⊢;split at O
  .rename_i hE;rw[aj hE];show fN (X5 (X5 G i.d1 0) i.d2 0) (fun _=>AW BV.u A2 i.d2 fun _=>Rn.ok z l)=Rn.ok z l
   rw[B6];obtain⟨_,g1,_⟩:=iI (.u) A2 i.d2 (fun _=>Rn.ok z l)
   exact g1
  .cases O)
 obtain⟨E3,hE3⟩:=Ak (G5 s.1) (by show 1<=128*s.1+1180591620717411303456;omega) (by show 128*s.1+1180591620717411303456<=_;omega)
 have T2:O7 (TE G A') (some i.d1) (I1 (.t [(vs,s.2.2),(0,G5 s.1)]))=TE (X5 G i.d1 0) A2:=by
  funext t;unfold TE;rw[hA2];simp only[O7];split<;>rfl
 have T3:O7 (TE (X5 G i.d1 0) A2) (some i.d2) (I1 (.c (G5 s.1)))=TE E3 A2:=by
  funext t;unfold TE;rw[hE3];simp only[O7];split<;>rfl
 have hA1:=YN hR q1 q6 l1 (fun i hi=>(hat i (gw hi)).1) (fun i hi=>(hat i (gw hi)).2) M
 generalize hx':some (c7.z5 (.m ks vs I clk),p0.own)=x' at hA1;have hSm:G9 ((S f.length).Z1 (mR c) x').m (mR c)=.m ks vs I clk:=by unfold G9;rw[KD,<-hx']
 generalize hSe:(S f.length).Z1 (mR c) x'=C at hSm;have b11:C.T=TE G A':=by rw[<-hSe];exact q2
 have b13:C.nx=dE:=by rw[<-hSe];exact q3
 have c1:HW oM.op P R (J0 G A') dE (G9 C.m)=.ok (.t [(vs,s.2.2),(0,G5 s.1)]) [] [] [mR c]:=by
  rw[m1];show cU P i.t (J0 G A' (.tmp i.m)) (J0 G A' i.x) (G9 C.m)=_;rw[e1];exact NM e2 hSm e4 e5 e6 e7 e8 e9 hjR hpr a73
 have c2:HW oX.op P R (J0 (X5 G i.d1 0) A2) dE (G9 C.m)=.ok (.c (G5 s.1)) [] [] []:=by
  rw[x1];show dO (J0 (X5 G i.d1 0) A2 (.tmp i.d1)) 1=_;have:J0 (X5 G i.d1 0) A2 (.tmp i.d1)=.t [(vs,s.2.2),(0,G5 s.1)]:=by
   show o8 _ _ _=_;rw[hA2,aj rfl]
  rw[this];rfl
 have c3:HW oS.op P R (J0 E3 A2) dE (G9 C.m)=.ok (.c 1) [] [(mR c,.m ks vs (I.set j (s.1,s.2.1,nn)) clk)] [mR c]:=by
  rw[s1];show R6 (J0 E3 A2 (.tmp i.m)) (J0 E3 A2 (.tmp i.d2)) (J0 E3 A2 i.v) (G9 C.m)=_;have O:J0 E3 A2 (.tmp i.m)=.c c:=by
   show o8 _ _ _=_;rw[hE3,ai n3,hA2,ai n2];exact e1
  have h2:J0 E3 A2 (.tmp i.d2)=.c (G5 s.1):=by
   show o8 _ _ _=_;rw[hE3,aj rfl]
  have h3:J0 E3 A2 i.v=J0 G A' i.v:=(YM n5 hE3).trans (YM n4 hA2);rw[O,h2,h3];exact HK e2 hSm l3 hpr a73 e13 e14
 have b14:C=⟨TE G A',dE,C.m⟩:=by
  have:C=⟨C.T,C.nx,C.m⟩:=rfl;rw[this,b11,b13]
 have st1:U2 Γ0 P ops n oM C (.Y5 dE (I1 (.t [(vs,s.2.2),(0,G5 s.1)])) [] [] [mR c]) ⟨TE (X5 G i.d1 0) A2,dE,C.m⟩:=by
  rw[b14];exact GI hR od1 (by rw[m2];exact T2) m3 q5 c1
 have kC:U2 Γ0 P ops n oX ⟨TE (X5 G i.d1 0) A2,dE,C.m⟩ (.Y5 dE (I1 (.c (G5 s.1))) [] [] []) ⟨TE E3 A2,dE,C.m⟩:=GI hR od2 (by rw[x2];exact T3) x3 q5 c2
 have Vc:U2 Γ0 P ops n oS ⟨TE E3 A2,dE,C.m⟩ (.Y5 dE (I1 (.c 1)) [] [(mR c,.m ks vs (I.set j (s.1,s.2.1,nn)) clk)] [mR c]) ⟨TE E3 A2,dE,N9 C.m (mR c) (.z5 (.m ks vs (I.set j (s.1,s.2.1,nn)) clk),.own)⟩:=GI hR od3 (by rw[s2];rfl) s3 q5 c3
 generalize hs4:(⟨TE E3 A2,dE,N9 C.m (mR c) (.z5 (.m ks vs (I.set j (s.1,s.2.1,nn)) clk),.own)⟩:SS)=s4 at Vc;generalize (⟨TE E3 A2,dE,C.m⟩:SS)=s3 at kC Vc;generalize (⟨TE (X5 G i.d1 0) A2,dE,C.m⟩:SS)=s2 at st1 kC;have hA3:=(((show O2 Γ0 P ops n [] (fun _=>s4) []from⟨rfl,fun i o d y=>by simp at y⟩).cons Vc).cons kC).cons st1
 have N:=hA1.app hA3 hSe;rw[<-U]at N;have Yl:cH ops (Ds++ [.Y5 dE (I1 (.t [(vs,s.2.2),(0,G5 s.1)])) [] [] [mR c],.Y5 dE (I1 (.c (G5 s.1))) [] [] [],.Y5 dE (I1 (.c 1)) [] [(mR c,.m ks vs (I.set j (s.1,s.2.1,nn)) clk)] [mR c]])=true:=by
  refine Bu (fun b o d y hd=>?_) ?_
  .rw[U]at y;by_cases hb:b<f.length
   .rw[bc hb]at y;rw[bc (by rw[q1.len];exact hb)]at hd
    exact(q6 b o d y hd).1
   .rw[bd (by omega)]at y
    rw[bd (by rw[q1.len];omega),q1.len]at hd
    match b- f.length,y,hd with
    |0,y,hd=>simp at y hd;subst y;subst hd;exact⟨(fun h=>by rw[m1]at h;cases h),(fun h=>by rw[m1]at h;cases h)⟩
    |1,y,hd=>simp at y hd;subst y;subst hd;exact⟨fun _=>rfl,fun _=>rfl⟩
    |2,y,hd=>simp at y hd;subst y;subst hd;exact⟨(fun h=>by rw[s1]at h;cases h),(fun h=>by rw[s1]at h;cases h)⟩
    |q+3,y,hd=>simp at y
  .have e:((Ds++ [L7.Y5 dE (I1 (.t [(vs,s.2.2),(0,G5 s.1)])) [] [] [mR c],.Y5 dE (I1 (.c (G5 s.1))) [] [] [],.Y5 dE (I1 (.c 1)) [] [(mR c,.m ks vs (I.set j (s.1,s.2.1,nn)) clk)] [mR c]]).map aS).reverse++ []=([mR c],[mR c])::([],[])::([mR c],[])::((Ds.map aS).reverse++ []):=by
    simp[aS,L7.rd,L7.wr,qK]
   rw[e];exact Uz
 have b15:St (X.O4 g (gQ p)) B F n K H (TE E A) (fun r'=>if r'=mR c then x' else l9 (p8 nx D) r') a w:=by
  have:=pD.a3a h0m l4;rw[hx'.symm];have e:(fun r'=>if r'=mR c then some (c7.z5 (.m ks vs I clk),p0.own)else l9 (p8 nx D) r')=N9 (l9 (p8 nx D)) (mR c) (.z5 (.m ks vs I clk),.own):=by
   funext r';by_cases J:r'=mR c
   .rw[aj J,J,j8]
   .rw[ai J,m7 _ _ _ _ J]
  rw[e];exact this
 have a77:ops.toList.length=f.length+3:=by rw[U];simp
 obtain⟨SS',N,hS0,hSN⟩:∃SS',O2 Γ0 P ops n ops.toList SS' (Ds++ [.Y5 dE (I1 (.t [(vs,s.2.2),(0,G5 s.1)])) [] [] [mR c],.Y5 dE (I1 (.c (G5 s.1))) [] [] [],.Y5 dE (I1 (.c 1)) [] [(mR c,.m ks vs (I.set j (s.1,s.2.1,nn)) clk)] [mR c]])/\SS' 0=⟨TE E A,nx,fun r'=>if r'=mR c then x' else l9 (p8 nx D) r'⟩/\SS' ops.toList.length=s4:=by
  refine⟨_,N,?_,?_⟩
  .show(if 0<=f.length then(S 0).Z1 (mR c) x' else _)=_
   rw[aj (fx _),q0];rfl
  .rw[a77];show(if f.length+3<=f.length then _ else _)=_
   rw[ai (by omega),gd]
 refine yT (hX.grow g (gQ p)) m4 (MJ P) N BC Yl (by rw[hS0];exact b15) (fun r J=>Un r (by rw[hS0]at J;exact J)) (fun a' w' ht=>?_)
 obtain⟨⟨K',H',t1,t2,t3,t4⟩,t5⟩:=ht;rw[hSN,<-hs4]at t1 t3;have t1':=t1.a3a (r0:=mR c) (L2:=U8 key nn L) (j8 _ _ _) (fun hd b es _ _ _ UG=>UG.loose (a1H l1 hj hpr hpq) (Jf e11))
 have b16:=t1'.less (T2:=TE (X5 (X5 G i.d1 0) i.d2 0) Au2) (fun t=>by
  by_cases h2:t=i.d2
  .left;show I1 (o8 _ _ t)=_;rw[Z,aj h2];rfl
  .by_cases O:t=i.d1
   .left;show I1 (o8 _ _ t)=_;rw[Z,ai h2,hAu,aj O];rfl
   .right;show I1 (o8 _ _ t)=I1 (o8 _ _ t);rw[Z,ai h2,hAu,ai O,hE3,ai h2,hA2,ai O])
 obtain⟨st1,uN⟩:=B4.ex n g (X5 (X5 G i.d1 0) i.d2 0) Au2 dE D2 p q5;refine hQ _ _ dE D2 p st1 a' w' a74 uN ⟨⟨F,K',H',fun _ h=>h,uN.st.2 (b16.sub (fun r x hx=>?_)),t2,fun r J=>t3 r (by rw[uN.nx]at J;exact J),t4.less hF⟩,t5.less hF⟩
 obtain⟨o,f1,f2,rfl⟩:=L3 hx;rw[IP]at f1;by_cases J:r=mR c
 .rw[aj J]at f1;rw[J,j8,<-f1]
 .rw[ai J]at f1;rw[m7 _ _ _ _ J];show N9 C.m (mR c) _ r=_;rw[m7 _ _ _ _ J,<-hSe];show(if r=mR c then x' else(S f.length).m r)=_
  rw[ai J];have hd:G9 (S f.length).m r=o:=by rw[q4];exact f1
  unfold G9 at hd;split at hd
  .rename_i o' y;rw[y,hd]
  .exact absurd hd.symm f2
end
end Go.Abs
end
section
namespace Go.Abs
section
variable {P:Program} {R:z0} {Fu:Nat} {I:kF} {nt:Nat} {T:List (Nat×Nat×Nat)}
theorem QC(m4:P.follows .mixedOrders=true)(hR:F7 P R)(Y:∀z lo,N3 P (mZ I z lo)){z:BV}{lo:List HO}{n:Nat}:∀ (c:Code),Code.j5 c=true->o9 n c=true->Sa P Fu R I z lo n (HJ nt T c) c:=by
 intro c
 induction c with
 |seq x y Bx By=>
  intro d f X B F0 ro g hX J hB E A nx D p L S F K H a w Q h Z V o C M;simp only[Code.j5,ah]at d;simp only[o9,ah]at f;refine jo (Bx d.1 f.1 X B F0 ro g hX J hB E A nx D p _ S F K H a w _ h Z V o C ?_);intro e E' A' O D' p' k U w' hk G ht;rcases O9 hk with⟨rfl,j⟩|⟨i,rfl,j⟩|⟨rfl,j⟩
  .obtain⟨⟨F',K',H',jT,Ah,hK,wR,Q7⟩,R8⟩:=ht;exact By d.2 f.2 X B F0 ro g hX J hB E' A' O D' p' L k F' K' H' U w' Q j G (fun b hb=>jT b (V b hb)) Ah wR (fun e E2 A2 qB D2 p2 kC a2 w2 jS fZ kX=>M e E2 A2 qB D2 p2 kC a2 w2 jS fZ (kX.trans jT hK Q7 R8))
  .exact M _ _ _ _ _ _ k U w' j G ht
  .exact M _ _ _ _ _ _ k U w' j G ht
 |cond c x y Bx By=>
  intro d f X B F0 ro g hX J hB E A nx D p L S F K H a w Q h Z V o C M;simp only[Code.j5,ah]at d;simp only[o9,ah]at f;have hc:=T7 (E:=E) (A:=A) (a:=a) (K:=K) (H:=H) (by rw[<-Z.tmps];exact o.tmp) c
  have h: @BV.rec (fun _=>Rn) (fun n=>iB (Nat.beq n 17) (HJ nt T x P Fu R I none E A nx D p L) (iB (Nat.beq n 9) (HJ nt T y P Fu R I none E A nx D p L) (.er 513 0))) (fun _ _=>.er 514 0) (fun _=>.er 515 0) (.er 516 0) (J0 E A c)=.ok z lo:=h
  cases hv:J0 E A c with
  |c q=>
   rw[hv]at h hc;simp only[a9]at h;split at h
   .rename_i e;have e:=ab e;subst e;exact ka ((hc.cell (by decide)).isBool.1 rfl) (Bx d.1 f.1 X B F0 ro g hX J hB E A nx D p L S F K H a w Q h Z V o C M)
   .split at h
    .rename_i e;have e:=ab e;subst e;exact kf ((hc.cell (by decide)).isBool.2 rfl) (By d.2 f.2 X B F0 ro g hX J hB E A nx D p L S F K H a w Q h Z V o C M)
    .cases h
  |a s n=>rw[hv]at h;cases h
  |t q=>rw[hv]at h;cases h
  |u=>rw[hv]at h;cases h
 |block id c ih=>
  intro d f X B F0 ro g hX J hB E A nx D p L S F K H a w Q h Z V o C M;refine pj (ih d f X B F0 ro g hX J hB E A nx D p _ S F K H a w _ h Z V o C ?_);intro e E' A' O D' p' k U w' hk G ht;rcases O9 hk with⟨rfl,j⟩|⟨i,rfl,j⟩|⟨rfl,j⟩
  .exact M .normal _ _ _ _ _ k U w' j G ht
  .simp only[E8.out,Exit.inBlock];rw[a9]at j;by_cases hi:i=id
   .rw[aj hi];rw[aj (by rw[hi];exact fo id)]at j
    exact M .normal _ _ _ _ _ k U w' j G ht
   .rw[ai hi];rw[ai (fun e=>hi (ab e))]at j
    exact M (.exit i) _ _ _ _ _ k U w' j G ht
  .exact M .ret _ _ _ _ _ k U w' j G ht
 |loop c ih=>
  intro d f X B F0 ro g hX J hB E A nx D p L S F K H a w Q h Z V o C M;have h: @Option.rec WK (fun _=>Rn) (fL (HJ nt T c P Fu R I none) L Fu E A nx D p) (fun wk=>@Option.rec (Nat×Nat) (fun _=>Rn) (fL (HJ nt T c P Fu R I none) L Fu E A nx D p) (fun s=>fN (vOf E A s.2) fun v=>BM nt s.1 (iB (Nat.beq s.1 0) v s.2) c wk P Fu R I E A nx D p L) (lkW wk.b T)) (lJ c)=.ok z lo:=h
  have plain:fL (HJ nt T c P Fu R I none) L Fu E A nx D p=.ok z lo->(Code.loop c).wpIn (Wd ro) 0 P Q a w:=by
   clear h;intro h;refine jx Fu ?_;have go:∀ (N:Nat) (E:Nat) (A:z7) (nx:Nat) (D:m8) (p:Nat) (S:j7) (F:Nat->Prop) (K:b8) (H:Nat->Option Hd) (a:Act) (w:World),fL (HJ nt T c P Fu R I none) L N E A nx D p=.ok z lo->B4 n g E A nx D p S->(∀b,F0 b->F b)->
     St (X.O4 S.gh S.o7) B F n K H S.s6.T S.s6.m a w->(∀r,S.nx<=r->H r=none)->(∀e E' A' O D' p' k U w',L e E' A' O D' p'=.ok z lo->B4 n g E' A' O D' p' k->gD X B F0 F n K w k U w'->Q e.out U w')->Code.roundsIn (Wd ro) 0 P c Q N a w:=by
    intro N
    induction N with
    |zero=>intro E A nx D p S F K H a w h;cases h
    |succ N ihN=>
     intro E A nx D p S F K H a w h Z V o C M;rw[mg];refine ih d f X B F0 ro g hX J hB E A nx D p _ S F K H a w _ h Z V o C ?_;intro e E' A' O D' p' k U w' hk G ht;rcases O9 hk with⟨rfl,j⟩|⟨i,rfl,j⟩|⟨rfl,j⟩
     .obtain⟨⟨F1,K1,H1,jT,mY,hK,uM,Q7⟩,R8⟩:=ht;exact ihN E' A' O D' p' k F1 K1 H1 U w' j G (fun b hb=>jT b (V b hb)) mY uM (fun e E2 A2 qB D2 p2 kC a2 w2 jS fZ kX=>M e E2 A2 qB D2 p2 kC a2 w2 jS fZ (kX.trans jT hK Q7 R8))
     .exact M _ _ _ _ _ _ k U w' j G ht
     .exact M _ _ _ _ _ _ k U w' j G ht
   exact go Fu E A nx D p S F K H a w h Z V o C M
  cases Ym:lJ c with
  |some wk=>
   rw[Ym]at h;have h: @Option.rec (Nat×Nat) (fun _=>Rn) (fL (HJ nt T c P Fu R I none) L Fu E A nx D p) (fun s=>fN (vOf E A s.2) fun v=>BM nt s.1 (iB (Nat.beq s.1 0) v s.2) c wk P Fu R I E A nx D p L) (lkW wk.b T)=.ok z lo:=h
   cases hs:lkW wk.b T with
   |none=>rw[hs]at h;exact plain h
   |some s=>
    rw[hs]at h;have h:fN (vOf E A s.2) (fun v=>BM nt s.1 (iB (Nat.beq s.1 0) v s.2) c wk P Fu R I E A nx D p L)=.ok z lo:=h
    rw[B6]at h;exact NK m4 hR Y (.inl hB) Ym d f hX J h Z V o C M
  |none=>
   rw[Ym]at h;exact plain h
 |scope c ih=>
  intro d f X B F0 ro g hX J hB E A nx D p L S F K H a w Q h Z V o C M;refine O3 (ih d f X B F0 ro g hX J hB E A nx D p L S F K H a w _ h Z V o C ?_);intro e E' A' O D' p' k U w' hk G ht;have:=M e E' A' O D' p' k U w' hk G ht;cases e<;>exact this
 |skip=>exact fun d f=>S5 m4 hR (Y _ _) d f
 |region id ops draw=>
  intro d f X B F0 ro g hX J hB E A nx D p L S F K H a w Q h Z V o C M;have h: @Option.rec ND (fun _=>Rn) (JJ ops draw P Fu R I none E A nx D p L)
   (fun i=>iB draw (dP (ops.toList.take i.c) P R ops (GB ops (ops.toList.take i.c) i P (L .normal)) E A nx D p []) (.er 693 0)) (IX ops)=.ok z lo:=h
  cases hi:IX ops with
  |none=>
   rw[hi]at h;exact S5 (Fu:=Fu) m4 hR (Y _ _) d f X B F0 ro g hX J hB E A nx D p L S F K H a w Q h Z V o C M
  |some i=>
   rw[hi]at h;have h:iB draw (dP (ops.toList.take i.c) P R ops (GB ops (ops.toList.take i.c) i P (L .normal)) E A nx D p []) (.er 693 0)=.ok z lo:=h;rw[a9]at h;split at h
   .rename_i hd;subst hd;have Us:R3 ops=true:=by have:=d;simp[Code.j5]at this;exact this.1
    exact UL m4 hX hR hi Us f h Z V o C (fun E' A' O D' p' k U w' hk G ht=>M .normal E' A' O D' p' k U w' hk G ht)
   .cases h
 |exit id=>exact fun d f=>S5 m4 hR (Y _ _) d f
 |ret=>exact fun d f=>S5 m4 hR (Y _ _) d f
 |label l=>exact fun d f=>S5 m4 hR (Y _ _) d f
 |rangeFunc g0 ps assign body _ _=>exact fun d f=>S5 m4 hR (Y _ _) d f
 |_=>exact fun d f=>S5 m4 hR (Y _ _) d f
theorem YO(m4:P.follows .mixedOrders=true)(b:F7 P R):F7 P (Yu nt T Fu P R):=
 BD (ev:=HJ nt T) (fun _ _ _ c a hd=>QC m4 b (fun _ _=>Gp m4 b) c a hd)
theorem GJ(m4:P.follows .mixedOrders=true){c:Nat}(b:pG P c)(d:F7 P R)(S:List (Nat×Nat×Nat)):∀ (T:WT),F7 P (Sv T S c Fu P R)
 |[]=>Nz m4 b d S
 |p::T=>fun f args a v l h=>by
  have h:iB (Nat.beq f p.1) (Yu p.2.1 p.2.2 Fu P R f args a) (Sv T S c Fu P R f args a)=.ok v l:=h;rw[a9]at h;split at h
  .exact YO m4 d f args a v l h
  .exact GJ m4 b d S T f args a v l h
theorem GK(m4:P.follows .mixedOrders=true){b:Nat}(a:pG P b)(S:List (Nat×Nat×Nat))(T:WT):∀N,F7 P (Yv T S b Fu P N)
 |0=>fun f args c v l h=>by cases h
 |N+1=>GJ m4 a (GK m4 a S T N) S T
theorem aV(m4:P.follows .mixedOrders=true){c:Nat}(b:pG P c)(S:List (Nat×Nat×Nat))(W:WT){T:List KE}(d:a4s P T)(N:Nat){f:Nat}{a:List BV}{o:List HO}{v:BV}{l:List HO}(h:Z' (Sv W S c Fu P (IB T (Yv W S c Fu P N)) f a o) v l=true):Kn P (.mk f a o v l):=
 GJ m4 b (rZ (GK m4 b S W N) d) S W f a o v l (Iv h)
end
end Go.Abs
end
section
namespace Go.Abs
def uQ:List CS->Type->Type
 |[],R=>R
 |c::cs,R=>c.den (uQ cs R)
def YV:(l:List CS)->(R:Type)->uQ l R->List c7×R
 |[],_,x=>([],x)
 |c::cs,R,x=>((c.enc (uQ cs R) x).1::(YV cs R (c.enc (uQ cs R) x).2).1,(YV cs R (c.enc (uQ cs R) x).2).2)
def QD:(l:List CS)->List c7->(R:Type)->R->Option (uQ l R)
 |[],v,_,r=>(match v with
  |[]=>some r
  |_=>none)
 |c::cs,v,R,r=>(match v with
  |x::xs=>(match QD cs xs R r with
   |some y=>c.dec x (uQ cs R) y
   |none=>none)
  |_=>none)
structure Var where
 S:VS
 C:List CS
 pre:S.den (uQ C Unit)->Prop
 res:S.den (uQ C Unit)->qJ
abbrev Var.D(v:Var):Type:=v.S.den (uQ v.C Unit)
def Var.p(v:Var)(x:v.D):Prop:=v.pre x
def Var.dec(v:Var)(a:List a7)(cs:List c7):Option v.D:=match QD v.C cs Unit ()with
 |some y=>v.S.dec a (uQ v.C Unit) y
 |none=>none
def Var.args(v:Var)(x:v.D):List a7:=(v.S.enc (uQ v.C Unit) x).1
def Var.N4(v:Var)(x:v.D):List c7:=(YV v.C Unit (v.S.enc (uQ v.C Unit) x).2).1
def DR:List Var->List a7->List c7->Prop
 |[],_,_=>False
 |v::vs,a,cs=>match v.dec a cs with
  |some x=>v.p x
  |none=>DR vs a cs
def DS:List Var->List a7->List c7->qJ
 |[],_,_=>.leaf .S6 []
 |v::vs,a,cs=>match v.dec a cs with
  |some x=>v.res x
  |none=>DS vs a cs
def Dl:Nat->Nat->List Nat
 |_,0=>[]
 |i,n+1=>i::Dl (i+1) n
def VS.hand:VS->Nat->List Nat
 |.cs a l,i=>(match a with
  |.O1 _ _=>[i]
  |.B9 _=>[i]
  |.R2 _=>[i+1000]
  |_=>[])++l.hand (i+1)
 |_,_=>[]
def a44:List Var->List Nat
 |[]=>[]
 |v::_=>v.S.hand 0
def X8(vs:List Var):X4 where
 pre:=fun As cs=>DR vs (L5 (Dl 0 cs.length) As) cs
 res:=fun As cs=>DS vs (L5 (Dl 0 cs.length) As) cs
 hand:=a44 vs
 pure:=false
def mkG(vs:List Var):X4:=⟨(X8 vs).pre,(X8 vs).res,[9000],false⟩
def mkP(v:Var):X4:=⟨(X8 [v]).pre,(X8 [v]).res,[9001],true⟩
def u0:List (FuncId×X4)->Env
 |[],_=>none
 |(g,c)::l,f=>if g=f then some c else u0 l f
end Go.Abs
end
section
namespace Go.Abs.T2
def lk{α:Type}(d:α):List (Nat×α)->Nat->α
 |[],_=>d
 |(i,x)::r,k=>if i=k then x else lk d r k
def keeps:List (Nat×List (Nat×List Nat)):=[
 (4,[(6,[1,3])]),
 (6,[(9,[4,5,7,8,33,34])]),
 (7,[(4,[1,2,5,6,7])]),
 (8,[(6,[2,8,20,21,22])]),
 (9,[(6,[1,5])]),
 (18,[(3,[1,4,5,12,13,14])]),
 (50,[(5,[2,14,15,16])]),
 (52,[(4,[0,3,30,31]),(8,[0,3,5,30,31,51])]),
 (53,[(1003,[2,5,6,7])]),
 (54,[(2,[0,1,2,3,5,17])]),
 (133,[(5,[0,1,2,9,10,11,12])]),
 (134,[(3,[0,1,5,7,10,19,20,36]),(1009,[0,1,5,7,9,10,19,20,35,36]),(12,[7,53])]),
 (138,[(2,[0,1,7,8])]),
 (194,[(2,[0,1,7,8])]),
 (216,[(2,[0,1,7,8])])]
def kt(f k:Nat):List Nat:=lk [] (lk [] keeps f) k
end Go.Abs.T2
end
section
namespace Go.Abs.T2
abbrev Hr:=(Int×Int)×Int
abbrev CX:Nat:=1152921504606846976
def indexOf{α:Type}(p:α->Bool):List α->Int
 |[]=> -1
 |x::l=>if p x then 0 else(if indexOf p l<0 then-1 else indexOf p l+1)
def bZ(lo a y:Int):Bool:=decide (y<lo\/a<y)
def I8(lo a:Int)(l:List Int):Bool:=l.any (bZ lo a)
def pV(n lo a:Int):Bool:=decide (lo<=n/\n<=a)
def eE(h:Hr):Bool:= !pV h.1.1 0 h.1.2|| !pV h.1.2 0 40|| !pV h.2 1 100
def G6(b li ga fa:Int)(a:List Hr):Int:=if a.length<1\/12<a.length then 6 else if pV li 0 40=false\/pV b 0 li=false\/pV ga 1 40=false\/pV fa 1 40=false then 3 else if a.any eE then 3 else 0
def l7(ga fa heat a g:Int):Int:=if g=1 then max heat a+ga else max a (heat- fa)
def B7(n:Int):Bool:=decide (n<0\/1<n)
def cF(b li ga fa:Int)(a:List Hr)(c:List Int):Int:=if G6 b li ga fa a≠0 then G6 b li ga fa a else if c.length≠a.length then 15 else if c.any B7 then 3 else 0
def U9(h:Hr):Bool:=I8 0 40 [h.1.1,h.1.2]||decide (h.1.1>h.1.2)||I8 1 100 [h.2]
def P0(a li ga fa:Int)(b:List Hr):Int:=if I8 1 12 [(b.length:Int)]then 6 else if I8 0 40 [a,li]||decide (a>li)||I8 1 40 [ga,fa]||b.any U9 then 3 else 0
def cA(n:Nat):List (List Int)->Int
 |[]=>0
 |p::l=>if p.length≠n then 15 else if p.any B7 then 3 else cA n l
def I4(b li ga fa:Int)(a:List Hr)(ps:List (List Int)):Int:=if P0 b li ga fa a≠0 then P0 b li ga fa a else cA a.length ps
def bM(ga fa a:Int)(b:Bool)(c:List Int×Int)(x:Hr×Int):List Int×Int:=
 let h:=l7 ga fa c.2 (if b then x.1.1.2+a else x.1.1.1) x.2
 (c.1++ [h],h)
def lM(c ga fa a:Int)(d:List Hr)(e:List Int)(b:Bool)(f:Nat):List Int:=(((d.zip e).drop f).foldl (bM ga fa a b) ([],c)).1
def lB(c li ga fa a:Int)(d:List Hr)(e:List Int)(b:Bool)(f:Nat):Bool:= !I8 0 li (lM c ga fa a d e b f)
end Go.Abs.T2
namespace Go.Abs.T2
abbrev NR:=Int×Int×Int
def gR(ga fa heat:Int)(h:Hr)(g:Int):NR:=(g,h.2*g,l7 ga fa heat h.1.2 g)
def N5(ga fa heat:Int)(h:Hr)(a:Int):List NR:=([0,1].map (gR ga fa heat h)).filter fun s=>decide (s.2.2<=a)
def jZ(li ga fa:Int)(h:Hr)(next:List Int)(heat:Int):Int:=(N5 ga fa heat h li).foldl (fun m s=>max m (s.2.1+next.getD s.2.2.toNat 0)) (-1)
def V1(li ga fa a:Int)(h:Hr)(next:List Int)(n:Nat):List (Nat×(Int×Int)×Int):=(List.range n).map fun(i:Nat)=>(i,(a,(i:Int)),jZ li ga fa h next (i:Int))
def pI(li ga fa a:Int)(h:Hr)(next:List Int):List (Nat×(Int×Int)×Int):=(V1 li ga fa a h next (li+1).toNat).filter fun e=> !decide (e.2.2<0)
def iA:List Int:=List.replicate 42 0
def NS(li ga fa:Int)(h:Hr)(next:List Int):List Int:=(List.range 42).map fun(i:Nat)=>if(i:Int)<=li/\0<=jZ li ga fa h next (i:Int)then jZ li ga fa h next (i:Int)else 0
def dF(li ga fa:Int):List Hr->List (List Int)
 |[]=>[iA]
 |h::a=>NS li ga fa h ((dF li ga fa a).headD [])::dF li ga fa a
def qA(li ga fa:Int)(a:List Hr):List Int:=(dF li ga fa a).flatten
def Y7(tab:List Int)(i:Int)(s:NR):Int:=s.2.1+tab.getD ((i+1).toNat*42+s.2.2.toNat) 0
def dG(tab:List Int)(i:Int)(l:List NR):NR:=(l.drop 1).foldl (fun o x=>if Y7 tab i x>Y7 tab i o then x else o) (l.headD (0,0,0))
def CY(li ga fa:Int)(tab:List Int)(a:List Int×Int)(x:Hr×Nat):List Int×Int:=
 let s:=dG tab (x.2:Int) (N5 ga fa a.2 x.1 li)
 (a.1++ [s.1],s.2.2)
def kA(b li ga fa:Int)(a:List Hr):List Int:=if(qA li ga fa a).take 42=iA then List.replicate a.length 0 else(a.zipIdx.foldl (CY li ga fa (qA li ga fa a)) ([],b)).1
end Go.Abs.T2
end
section
namespace Go.Abs.T2
abbrev tI:Ty:=.int .i64
abbrev tH:Ty:=.pair (.pair tI tI) tI
abbrev mB:MK:=⟨true,.pair tI tI,.i64⟩
abbrev sI:VS:=.int .i64
abbrev sB:VS:=.bool
abbrev sL:VS:=.imm tI false
abbrev sLI:VS:=.imm (.slice tI) false
abbrev sHs:VS:=.imm tH false
abbrev sH:VS:=.agg (.cs sI (.cs sI (.cs sI .nl)))
abbrev sM:VS:=.agg (.cs sI (.cs sI (.cs sI (.cs sI (.cs sHs .nl)))))
abbrev sBn:VS:=.G7 (.cs sI (.cs sI (.cs sI (.cs sI (.cs sHs (.cs sI .nl))))))
abbrev LP{σ:Type}(s:σ)(B:(σ->Prop)->σ->Prop):Prop:=Loop B s
abbrev fI(n:Int):Prop:=dJ .i64 n
abbrev rI(n:Int):a7:=.int .i64 n
abbrev rB(b:Bool):a7:=.bool b
abbrev one(v:a7):qJ:=.leaf v []
abbrev own(t:Ty)(l:List t.den):qJ:=.leaf (.O1 0 false) [.sl t l]
abbrev YW(lo a:Int)(l:List Int):Prop:=∀x∈l,lo<=x/\x<=a
abbrev Dp(a b x:Int):Prop:=a<=x/\x<=b
def GN(b i:Int):Int:=aZ .and .u16 (AA .u16 b i) 1
def sK(li ga fa bits:Int)(a:List Int×Int)(x:Hr×Nat):List Int×Int:=
 let n:=if l7 ga fa a.2 x.1.1.2 1>li then 0 else GN bits x.2
 (a.1++ [n],l7 ga fa a.2 x.1.1.2 n)
def aG(a li ga fa:Int)(b:List Hr)(bits:Int):List Int×Int:=b.zipIdx.foldl (sK li ga fa bits) ([],a)
def UQ:Var:=⟨.cs sI (.cs sI (.cs sI .nl)),[],fun _=>True,fun x=>one (rB (pV x.1 x.2.1 x.2.2.1))⟩
def v4:Var:=⟨.cs sM .nl,[],fun _=>True,fun x=>one (rI (G6 x.1 x.2.1 x.2.2.1 x.2.2.2.1 x.2.2.2.2.1))⟩
def v10:Var:=⟨.cs sM (.cs sI (.cs sI (.cs sI .nl))),[],fun x=>Dp 0 1000 x.2.2.1/\Dp 0 1000 x.2.2.2.1/\Dp (-1000) 1000 x.2.2.2.2.2.1/\Dp (-1000) 1000 x.2.2.2.2.2.2.1,
 fun x=>one (rI (l7 x.2.2.1 x.2.2.2.1 x.2.2.2.2.2.1 x.2.2.2.2.2.2.1 x.2.2.2.2.2.2.2.1))⟩
def v7:Var:=⟨.cs sM (.cs (.int .u16) .nl),[],fun x=>G6 x.1 x.2.1 x.2.2.1 x.2.2.2.1 x.2.2.2.2.1=0/\Dp 0 65535 x.2.2.2.2.2.1,fun x=>own tI (aG x.1 x.2.1 x.2.2.1 x.2.2.2.1 x.2.2.2.2.1 x.2.2.2.2.2.1).1⟩
def v9:Var:=⟨.cs sM (.cs sL .nl),[],fun x=>x.2.2.2.2.2.1.length<=1000,fun x=>one (rI (cF x.1 x.2.1 x.2.2.1 x.2.2.2.1 x.2.2.2.2.1 x.2.2.2.2.2.1))⟩
abbrev sCw(f:Nat):VS:=.fn f .nl (.cs (.G7 (.cs sI .nl)) (.cs (.G7 (.cs sI .nl)) .nl))
def QE:Var:=⟨.cs sI (.cs (.G7 (.cs sI .nl)) (.cs (.G7 (.cs sI .nl)) .nl)),[],fun _=>True,fun x=>one (rB (bZ x.2.1 x.2.2.1 x.1))⟩
def QF:Var:=⟨.cs sL (.cs (sCw 195) .nl),[],fun x=>x.1.length<=CX,fun x=>one (rI (indexOf (bZ x.2.1 x.2.2.1) x.1))⟩
def v63:Var:=⟨.cs sL (.cs (sCw 195) .nl),[],fun x=>x.1.length<=CX,fun x=>one (rB (I8 x.2.1 x.2.2.1 x.1))⟩
def uR:Var:=⟨.cs sI (.cs sI (.cs sL .nl)),[],fun x=>x.2.2.1.length<=CX,fun x=>one (rB (Bool.not (I8 x.1 x.2.1 x.2.2.1)))⟩
def QG:Var:=⟨.cs sH .nl,[],fun _=>True,fun x=>one (rB (U9 ((x.1,x.2.1),x.2.2.1)))⟩
def QH:Var:=⟨.cs sHs (.cs (.fn 192 .nl .nl) .nl),[],fun x=>x.1.length<=1000,fun x=>one (rI (indexOf U9 x.1))⟩
def QI:Var:=⟨.cs sHs (.cs (.fn 192 .nl .nl) .nl),[],fun x=>x.1.length<=1000,fun x=>one (rB (x.1.any U9))⟩
def QJ:Var:=⟨.cs sM .nl,[],fun x=>x.2.2.2.2.1.length<=1000,fun x=>one (rI (P0 x.1 x.2.1 x.2.2.1 x.2.2.2.1 x.2.2.2.2.1))⟩
def QK:Var:=⟨.cs sI .nl,[],fun _=>True,fun x=>one (rB (B7 x.1))⟩
def QL:Var:=⟨.cs sL (.cs (.fn 131 .nl .nl) .nl),[],fun x=>x.1.length<=1000,fun x=>one (rI (indexOf B7 x.1))⟩
def QM:Var:=⟨.cs sL (.cs (.fn 131 .nl .nl) .nl),[],fun x=>x.1.length<=1000,fun x=>one (rB (x.1.any B7))⟩
def a8b(a li ga fa:Int)(b:List Hr)(e:Int):qJ:=.br (decide (e=0)) (.leaf (.M1 [.G7 [rI a,rI li,rI ga,rI fa,.imm tH b false,rI 0],rI 0]) []) (one (.M1 [.s6 gE,rI e]))
def QN:Var:=⟨.cs sBn (.cs sI (.cs sI (.cs sI .nl))),[],fun x=>Dp 0 1000 x.2.2.1/\Dp 0 1000 x.2.2.2.1/\Dp (-1000) 1000 x.2.2.2.2.2.2.1/\Dp (-1000) 1000 x.2.2.2.2.2.2.2.1,
 fun x=>one (rI (l7 x.2.2.1 x.2.2.2.1 x.2.2.2.2.2.2.1 x.2.2.2.2.2.2.2.1 x.2.2.2.2.2.2.2.2.1))⟩
end Go.Abs.T2
end
section
namespace Go.Abs
theorem Loop.intro{σ:Type}{B:(σ->Prop)->σ->Prop}(Inv:σ->Prop)(μ:σ->Nat)(h:∀x (K:σ->Prop),Inv x->(∀y,Inv y->μ y<μ x->K y)->B K x){s:σ}(a:Inv s):Loop B s:=by
 have key:∀n x,μ x<n->Inv x->iter B n x:=by
  intro n
  induction n with
  |zero=>intro x b _;omega
  |succ n c=>intro x b d;exact h x _ d (fun y e f=>c y (by omega) e)
 exact⟨μ s+1,key _ s (qt _) a⟩
theorem x9{P:Program}:Good P (u0 []):=⟨fun f c h=>(by cases h),fun f c h=>(by cases h),fun f c h=>(by cases h)⟩
theorem BQ{P:Program}{l:List (FuncId×X4)}{f:FuncId}{d:Func}{c:Code}{b:X4}(i:Good P (u0 l))(j:P.funcs[f]? =some d)(m:d.body=some c)(n:(d.name== "runtime.NumGoroutine")=false)
  (o:∀a cs k,b.run a cs k->jE P f a cs k)(p:b.pure=true->∀a cs,b.pre a cs->(b.res a cs).run (fun _ new=>new=cs)):Good P (u0 ((f,b)::l)):=by
 refine⟨fun g c' h=>?_,fun g c' h=>?_,fun g c' h=>?_⟩
 .unfold u0 at h;split at h
  .rename_i e;subst e;cases h;exact o
  .exact i.spec g c' h
 .unfold u0 at h;split at h
  .rename_i e;subst e;exact eC j m n
  .exact i.call g c' h
 .unfold u0 at h;split at h
  .rename_i e;subst e;cases h;exact p
  .exact i.pure g c' h
theorem NT:∀ (n i q:Nat),(Dl i n)[q]? =if q<n then some (i+q)else none
 |0,i,q=>by simp[Dl]
 |n+1,i,q=>by
  cases q with
  |zero=>simp[Dl]
  |succ q=>
   simp only[Dl,cx,NT n (i+1) q];by_cases h:q<n
   .rw[aj h,aj (by omega)];congr 1;omega
   .rw[ai h,ai (by omega)]
theorem UR{P:Program}{f:FuncId}{b:List a7}{cs:List c7}{k:a7->List c7->Prop}(h:jE P f (L5 (Dl 0 cs.length) b) cs k):jE P f b cs k:=by
 intro F K H w vs d a j c g;have e:bI (Dl 0 cs.length) H=H:=by
  funext r;simp only[bI,NT];by_cases i:r<cs.length
  .rw[aj i];simp
  .rw[ai i];exact(c r (by omega)).symm
 have:=Q8 (l:=Dl 0 cs.length) _ _ a;rw[e]at this;exact h F K H w vs d this j c g
def Var.Kept(v:Var)(P:Program)(f:FuncId):Prop:=
 ∀x:v.D,v.pre x->∀k:a7->List c7->Prop,(v.res x).run k->jE P f (v.args x) (v.N4 x) k
theorem NU:∀ (l:List CS) (vs:List c7) (R:Type) (r:R) (x:uQ l R),QD l vs R r=some x->YV l R x=(vs,r)
 |[],vs,R,r,x,h=>by
  cases vs with
  |nil=>simp only[QD]at h;cases h;rfl
  |cons c vs=>simp[QD]at h
 |c::l,vs,R,r,x,h=>by
  cases vs with
  |nil=>simp[QD]at h
  |cons y ys=>
   simp only[QD]at h;split at h
   .rename_i z a;have b:=CS.X2 c y (uQ l R) z x h;have d:=NU l ys R r z a;simp only[YV,b,d]
   .cases h
theorem Var.X2{v:Var}{a:List a7}{cs:List c7}{x:v.D}(h:v.dec a cs=some x):v.args x=a/\v.N4 x=cs:=by
 unfold Var.dec at h;split at h
 .rename_i y b;have c:=VS.X2 v.S a (uQ v.C Unit) y x h;have d:=NU v.C cs Unit () y b;unfold Var.args Var.N4;rw[c];exact⟨rfl,by rw[d]⟩
 .cases h
theorem BR{P:Program}{f:FuncId}:∀ (vs:List Var),(∀v∈vs,v.Kept P f)->∀a cs k,(X8 vs).run a cs k->jE P f a cs k:=by
 intro vs d a cs k h;obtain⟨b,c⟩:=h;simp only[X8]at b c;refine UR ?_;generalize L5 (Dl 0 cs.length) a=e at b c
 induction vs with
 |nil=>exact b.elim
 |cons v vs g=>
  unfold DR at b;unfold DS at c;cases hd:v.dec e cs with
  |some x=>
   rw[hd]at b c;obtain⟨i,j⟩:=Var.X2 hd;have:=d v (by simp) x b k c
   rw[i,j]at this;exact this
  |none=>
   rw[hd]at b c;exact g (fun v l=>d v (al _ l)) b c
theorem Loop.upto{σ:Type}{B:(σ->Prop)->σ->Prop}(a:Nat->σ)(p:Nat->Prop)(n:Nat){s:σ}(f:a 0=s)(g:p 0)(h:∀i (K:σ->Prop),i<n->p i->(p (i+1)->K (a (i+1)))->B K (a i))(b:∀K:σ->Prop,p n->B K (a n)):Loop B s:=by
 have key:∀j i,i+j=n->p i->iter B (j+1) (a i):=by
  intro j
  induction j with
  |zero=>
   intro i k c;have e:i=n:=by omega
   subst e;exact b _ c
  |succ j l=>intro i k c;exact h i _ (by omega) c (fun d=>l (i+1) (by omega) d)
 exact⟨n+1,f▸key n 0 (by omega) g⟩
theorem m5(c:Prop)[Decidable c](p q:Prop):br (decide c) p q↔(c->p)/\(¬c->q):=by
 by_cases h:c<;>simp[br,h]
theorem GO(c:Prop)[Decidable c](p q:Prop):br (decide c==false) p q↔(¬c->p)/\(c->q):=by
 by_cases h:c<;>simp[br,h]
theorem BS(a b:Int)(p q:Prop):br (a !=b) p q↔(a≠b->p)/\(a=b->q):=by
 by_cases h:a=b
 .simp[br,h]
 .have e:(a !=b)=true:=by simp[h]
  simp[br,e,h]
theorem YX(b:Bool)(p q:Prop):br (Bool.not b) p q↔(b=false->p)/\(b=true->q):=by
 cases b<;>simp[br]
theorem sN(b:Bool)(p q:Prop):br (b==false) p q↔(b=false->p)/\(b=true->q):=by
 cases b<;>simp[br]
theorem SB(b:Bool)(p q:Prop):br (b==true) p q↔(b=true->p)/\(b=false->q):=by
 cases b<;>simp[br]
theorem B5{n:Int}(a: -9223372036854775808<=n)(b:n<=9223372036854775807):dJ .i64 n:=by
 unfold dJ;rw[pd];omega
end Go.Abs
end
section
namespace Go.Abs
end Go.Abs
end
section
namespace Go.Abs.T2
abbrev ZR:Ty:=.pair tI (.pair tI tI)
abbrev sSt:VS:=.agg (.cs sI (.cs sI (.cs sI .nl)))
abbrev sAt:VS:=.agg (.cs sI (.cs sI .nl))
def okB(c li ga fa:Int)(b:List Hr)(a:Int):Prop:=Dp 0 40 c/\Dp 0 40 li/\Dp 1 40 ga/\Dp 1 40 fa/\Dp 0 40 a/\b.length<=12/\∀h∈b,Dp 0 40 h.1.1/\Dp 0 40 h.1.2/\Dp 1 100 h.2
def GP(b li ga fa:Int)(c:List Hr)(a:Int):List a7:=[rI b,rI li,rI ga,rI fa,.imm tH c false,rI a]
def ZS:Var:=⟨.cs sM (.cs sLI .nl),[],fun x=>x.2.2.2.2.1.length<=1000/\x.2.2.2.2.2.1.length<=10/\∀p∈x.2.2.2.2.2.1,p.length<=1000,
 fun x=>a8b x.1 x.2.1 x.2.2.1 x.2.2.2.1 x.2.2.2.2.1 (I4 x.1 x.2.1 x.2.2.1 x.2.2.2.1 x.2.2.2.2.1 x.2.2.2.2.2.1)⟩
def QO:Var:=⟨.cs sBn (.cs sL (.cs sB (.cs sI .nl))),[],fun x=>okB x.1 x.2.1 x.2.2.1 x.2.2.2.1 x.2.2.2.2.1 x.2.2.2.2.2.1/\x.2.2.2.2.2.2.1.length=x.2.2.2.2.1.length/\0<=x.2.2.2.2.2.2.2.2.1,
 fun x=>own tI (lM x.1 x.2.2.1 x.2.2.2.1 x.2.2.2.2.2.1 x.2.2.2.2.1 x.2.2.2.2.2.2.1 x.2.2.2.2.2.2.2.1 x.2.2.2.2.2.2.2.2.1.toNat)⟩
def ZT:Var:=⟨.cs sBn (.cs sL (.cs sB (.cs sI .nl))),[],fun x=>okB x.1 x.2.1 x.2.2.1 x.2.2.2.1 x.2.2.2.2.1 x.2.2.2.2.2.1/\x.2.2.2.2.2.2.1.length=x.2.2.2.2.1.length/\0<=x.2.2.2.2.2.2.2.2.1,
 fun x=>one (rB (lB x.1 x.2.1 x.2.2.1 x.2.2.2.1 x.2.2.2.2.2.1 x.2.2.2.2.1 x.2.2.2.2.2.2.1 x.2.2.2.2.2.2.2.1 x.2.2.2.2.2.2.2.2.1.toNat))⟩
def J5(a li ga fa:Int)(b:List Hr)(c:List Int):Int:=if I4 a li ga fa b [c]≠0 then I4 a li ga fa b [c]else if lB a li ga fa 0 b c true 0 then 0 else 18
def v22:Var:=⟨.cs sM (.cs sL .nl),[],fun x=>x.2.2.2.2.1.length<=1000/\x.2.2.2.2.2.1.length<=1000,
 fun x=>.br (decide (J5 x.1 x.2.1 x.2.2.1 x.2.2.2.1 x.2.2.2.2.1 x.2.2.2.2.2.1=0)) (.leaf (.M1 [.G7 (GP x.1 x.2.1 x.2.2.1 x.2.2.2.1 x.2.2.2.2.1 0),rI 0]) []) (one (.M1 [.s6 gE,rI (J5 x.1 x.2.1 x.2.2.1 x.2.2.2.1 x.2.2.2.2.1 x.2.2.2.2.2.1)]))⟩
def QP(a:List Hr)(b:List Int):Int:=((a.zip b).map fun x=>x.1.2*x.2).sum
def v8:Var:=⟨.cs sM (.cs sL .nl),[],fun x=>x.2.2.2.2.1.length<=1000/\x.2.2.2.2.2.1.length<=1000,
 fun x=>one (.M1 [rI (if J5 x.1 x.2.1 x.2.2.1 x.2.2.2.1 x.2.2.2.2.1 x.2.2.2.2.2.1=0 then QP x.2.2.2.2.1 x.2.2.2.2.2.1 else 0),rI (J5 x.1 x.2.1 x.2.2.1 x.2.2.2.1 x.2.2.2.2.1 x.2.2.2.2.2.1)])⟩
def v20:Var:=⟨.cs sBn (.cs sAt (.cs sI .nl)),[],fun _=>True,
 fun x=>one (.fn (.func 54) [] [.G7 [.G7 (GP x.1 x.2.1 x.2.2.1 x.2.2.2.1 x.2.2.2.2.1 x.2.2.2.2.2.1)],.G7 [rI x.2.2.2.2.2.2.1,rI x.2.2.2.2.2.2.2.1],.G7 [rI x.2.2.2.2.2.2.2.2.1]])⟩
abbrev sSq:VS:=.fn 54 .nl (.cs (.G7 (.cs sBn .nl)) (.cs (.G7 (.cs sI (.cs sI .nl))) (.cs (.G7 (.cs sI .nl)) .nl)))
def V2(a:List Hr)(i:Int):Hr:=a.getD i.toNat ((0,0),0)
def v53:Var:=⟨.cs (.R2 ZR) (.cs sSq .nl),[],fun x=>okB x.1 x.2.1 x.2.2.1 x.2.2.2.1 x.2.2.2.2.1 x.2.2.2.2.2.1/\(0<=x.2.2.2.2.2.2.1/\x.2.2.2.2.2.2.1.toNat<x.2.2.2.2.1.length)/\Dp 0 40 x.2.2.2.2.2.2.2.1,
 fun x=>own ZR (N5 x.2.2.1 x.2.2.2.1 x.2.2.2.2.2.2.2.1 (V2 x.2.2.2.2.1 x.2.2.2.2.2.2.1) x.2.2.2.2.2.2.2.2.1)⟩
def v19:Var:=⟨.cs sSq .nl,[],fun x=>okB x.1 x.2.1 x.2.2.1 x.2.2.2.1 x.2.2.2.2.1 x.2.2.2.2.2.1/\(0<=x.2.2.2.2.2.2.1/\x.2.2.2.2.2.2.1.toNat<x.2.2.2.2.1.length)/\Dp 0 40 x.2.2.2.2.2.2.2.1,
 fun x=>own ZR (N5 x.2.2.1 x.2.2.2.1 x.2.2.2.2.2.2.2.1 (V2 x.2.2.2.2.1 x.2.2.2.2.2.2.1) x.2.2.2.2.2.2.2.2.1)⟩
def YY:Var:=⟨.cs (.B9 0) .nl,[.mp mB],fun _=>True,fun x=>.leaf (.B9 1) [.mp mB x.1 x.2.1,.mp mB x.1 x.2.1]⟩
def QQ:Var:=⟨.cs sBn (.cs sI (.cs (.S3 tI) .nl)),[],fun x=>okB x.1 x.2.1 x.2.2.1 x.2.2.2.1 x.2.2.2.2.1 x.2.2.2.2.2.1/\(0<=x.2.2.2.2.2.2.1/\x.2.2.2.2.2.2.1.toNat<x.2.2.2.2.1.length)/\x.2.2.2.2.2.2.2.1.length=42/\YW 0 2000 x.2.2.2.2.2.2.2.1,
 fun x=>.leaf (.B9 0) [.mp mB (pI x.2.1 x.2.2.1 x.2.2.2.1 x.2.2.2.2.2.2.1 (V2 x.2.2.2.2.1 x.2.2.2.2.2.2.1) x.2.2.2.2.2.2.2.1) (x.2.1+1).toNat]⟩
def v52:Var:=⟨.cs sBn .nl,[],fun x=>okB x.1 x.2.1 x.2.2.1 x.2.2.2.1 x.2.2.2.2.1 x.2.2.2.2.2.1,fun x=>.leaf (.sub 0 0 (x.2.2.2.2.1.length+1) true) [.sl tI (qA x.2.1 x.2.2.1 x.2.2.2.1 x.2.2.2.2.1)]⟩
def F8(b li ga fa:Int)(a:List Hr):Int:=if I4 b li ga fa a []≠0 then I4 b li ga fa a []else if lB b li ga fa 0 a (List.replicate a.length 0) true 0 then 0 else 13
def v17:Var:=⟨.cs sM .nl,[],fun x=>x.2.2.2.2.1.length<=1000,
 fun x=>.br (decide (F8 x.1 x.2.1 x.2.2.1 x.2.2.2.1 x.2.2.2.2.1=0)) (.leaf (.M1 [.G7 (GP x.1 x.2.1 x.2.2.1 x.2.2.2.1 x.2.2.2.2.1 0),.sub 0 0 (x.2.2.2.2.1.length+1) true,rI 0]) [.sl tI (qA x.2.1 x.2.2.1 x.2.2.2.1 x.2.2.2.2.1)])
  (one (.M1 [.s6 gE,.R2 .bool,rI (F8 x.1 x.2.1 x.2.2.1 x.2.2.2.1 x.2.2.2.2.1)]))⟩
end Go.Abs.T2
end
section
namespace Go.Abs.T2
def inT(lo len:Nat)(i:Int)(tab:List Int):Prop:=lo=0/\0<=i/\(i+1).toNat<len/\len<=1000/\len*42<=tab.length/\YW (-1000000) 1000000 tab
def inS(s:NR):Prop:=Dp 0 1000000 s.2.1/\0<=s.2.2/\s.2.2<42
def cT(lo len:Nat)(i:Int)(tab:List Int):List c7:=[.box [.sub 2 lo len true],.box [rI i],.sl tI tab]
def v21:Var:=⟨.cs sSt (.cs sSt (.cs (.ptr 0 0) (.cs (.ptr 1 0) .nl))),[.box (.cs (.sub 2 true) .nl),.box (.cs sI .nl),.sl tI],
 fun x=>inS (x.1,x.2.1,x.2.2.1)/\inS (x.2.2.2.1,x.2.2.2.2.1,x.2.2.2.2.2.1)/\inT x.2.2.2.2.2.2.1 x.2.2.2.2.2.2.2.1 x.2.2.2.2.2.2.2.2.1 x.2.2.2.2.2.2.2.2.2.1,
 fun x=>.leaf (rB (decide (Y7 x.2.2.2.2.2.2.2.2.2.1 x.2.2.2.2.2.2.2.2.1 (x.1,x.2.1,x.2.2.1)>Y7 x.2.2.2.2.2.2.2.2.2.1 x.2.2.2.2.2.2.2.2.1 (x.2.2.2.1,x.2.2.2.2.1,x.2.2.2.2.2.1)))) (cT x.2.2.2.2.2.2.1 x.2.2.2.2.2.2.2.1 x.2.2.2.2.2.2.2.2.1 x.2.2.2.2.2.2.2.2.2.1)⟩
def v18:Var:=⟨.cs (.O1 0 false) (.cs (.fn 21 .nl (.cs (.ptr 1 0) (.cs (.ptr 2 0) .nl))) .nl),[.sl ZR,.box (.cs (.sub 3 true) .nl),.box (.cs sI .nl),.sl tI],
 fun x=>(1<=x.1.length/\x.1.length<=10/\∀s∈x.1,inS s)/\inT x.2.1 x.2.2.1 x.2.2.2.1 x.2.2.2.2.1,
 fun x=>.leaf (.agg [rI (dG x.2.2.2.2.1 x.2.2.2.1 x.1).1,rI (dG x.2.2.2.2.1 x.2.2.2.1 x.1).2.1,rI (dG x.2.2.2.2.1 x.2.2.2.1 x.1).2.2]) [.sl ZR x.1,.box [.sub 3 x.2.1 x.2.2.1 true],.box [rI x.2.2.2.1],.sl tI x.2.2.2.2.1]⟩
def v6:Var:=⟨.cs sM .nl,[],fun x=>G6 x.1 x.2.1 x.2.2.1 x.2.2.2.1 x.2.2.2.2.1=0,
 fun x=>.br (decide (F8 x.1 x.2.1 x.2.2.1 x.2.2.2.1 x.2.2.2.2.1=0)) (.leaf (.M1 [.O1 0 false,rI 0]) [.sl tI (kA x.1 x.2.1 x.2.2.1 x.2.2.2.1 x.2.2.2.2.1)]) (.leaf (.M1 [.O1 0 false,rI (F8 x.1 x.2.1 x.2.2.1 x.2.2.2.1 x.2.2.2.2.1)]) [.sl tI []])⟩
end Go.Abs.T2
end
section
namespace Go.Abs
theorem NY{t:Ty}(a:t.ints=true)(x:t.den):t.beq x x=true:=(beq_eq t x x a).2 rfl
theorem Zb{t:Ty}(a:t.ints=true){x y:t.den}(h:x≠y):t.beq x y=false:=by
 rw[<-nf,beq_eq t _ _ a];exact h
theorem NZ{t:Ty}(b:t.ints=true)(l:I2 t)(x:t.den):qH t l x=true↔ ∃e∈l,e.2.1=x:=by
 unfold qH;rw[ij];constructor
 .rintro⟨e,h,a⟩;exact⟨e,h,((beq_eq t _ _ b).1 a).symm⟩
 .rintro⟨e,h,a⟩;exact⟨e,h,(beq_eq t _ _ b).2 a.symm⟩
structure MOk(t:Ty)(l:I2 t)(clk:Nat):Prop where
 keys:(l.map (·.2.1)).Nodup
 Qx:(l.map (·.1)).Nodup
 lt:∀e∈l,e.1<clk
theorem Ar{t:Ty}(x:t.den):∀ (l:I2 t),(lR t x l).Sublist l
 |[]=>.slnil
 |e::l=>by
  unfold lR;split
  .exact List.sublist_cons_self e l
  .exact(Ar x l).cons_cons e
theorem MOk.del{t:Ty}{l:I2 t}{clk:Nat}(h:MOk t l clk)(x:t.den):MOk t (lR t x l) clk:=
 ⟨h.keys.sublist ((Ar x l).map _),h.Qx.sublist ((Ar x l).map _),fun e a=>h.lt e ((Ar x l).subset a)⟩
theorem nI{t:Ty}{l:I2 t}{seen:List Nat}{e:Nat×t.den×Int}:e∈mleft t l seen↔e∈l/\e.1 ∉ seen:=by
 unfold mleft;simp
theorem Jg{t:Ty}{l:I2 t}{seen:List Nat}(h:mleft t l seen=[]){e:Nat×t.den×Int}(b:e∈l):e.1∈seen:=by
 rcases re (e.1∈seen)with a|a
 .exact a
 .have:=nI.2 ⟨b,a⟩;rw[h]at this;cases this
theorem xF{t:Ty}{l:I2 t}{seen:List Nat}{e:Nat×t.den×Int}(b:e∈mleft t l seen):(mleft t l (seen++ [e.1])).length<(mleft t l seen).length:=by
 have c:mleft t l (seen++ [e.1])=(mleft t l seen).filter (fun x=> !decide (x.1=e.1)):=by
  unfold mleft;rw[nz];apply iu;intro x _;simp[gn,cj];by_cases h:x.1∈seen<;>by_cases d:x.1=e.1<;>simp[h,d]
 rw[c];have:∀ (l:I2 t),e∈l->(l.filter (fun x=> !decide (x.1=e.1))).length<l.length:=by
  intro l
  induction l with
  |nil=>intro h;cases h
  |cons a l f=>
   intro h;rcases av.1 h with rfl|h
   .rw[qw (by simp)]
    have:=ry (fun x:Nat×t.den×Int=> !decide (x.1=e.1)) l
    simp only[bq];omega
   .have:=f h;rw[il];split<;>simp only[bq]<;>omega
 exact this _ b
end Go.Abs
end
section
namespace Go.Abs
open Go.ChangeShapes Go.WideShapes Go.RowKit
def aW(w:World):b8 where
 cells:=fun b=>match w.heap[b]? with
  |some (.cells cs _ _)=>some cs
  |_=>none
 inv:=fun _=>none
 y:=none
theorem HL{w:World}{b:Nat}{cs:Array Value}(h:(aW w).cells b=some cs):∃e a,w.heap[b]? =some (.cells cs e a):=by
 simp only[aW]at h;split at h
 .rename_i c e a d;cases h;exact⟨e,a,d⟩
 .cases h
theorem a1N(w:World):L4 (fun b=>b<w.heap.size) (aW w) w where
 w8:=⟨fun b cs h=>HL h,fun b p h=>by cases h⟩
 lt:=fun b h=>h
 inv:=fun b p h=>by cases h
 apart:=fun b p h=>by cases h
theorem HM{w w':World}(h:Kept (fun b=>b<w.heap.size) w w'):Below w.heap.size w w':=⟨h.os,h.tape,h.output,h.size,fun k a=>h.block k a⟩
theorem GV{w:World}{base:Nat}{a:Addr}{n:Nat}{cs:List Value}(h:w.cells? base a n=some cs)(k:0<n):
  a.spot=none/\∃arr,(aW w).cells a.block=some arr/\cs=s7 arr a.off n:=by
 obtain⟨_,r,g⟩:=World.cells?_some h;have c:=g 0 k;have l:a.add 0=a:=by simp[Addr.add]
 rw[l,ag (by omega)]at c
 have m:=World.cell?_spot c;refine⟨m,?_⟩;have f:∃arr e j,w.heap[a.block]? =some (.cells arr e j):=by
  unfold World.cell? at c;split at c
  .exact⟨_,_,_,‹_›⟩
  .cases c
 obtain⟨arr,e,j,f⟩:=f;refine⟨arr,by simp only[aW,f],?_⟩
 have b:∀i,i<n->arr[a.off+i]? =cs[i]? :=by
  intro i d;rw[<-g i d];have o:(a.add i).block=a.block:=by unfold Addr.add;split<;>rfl
  have p:(a.add i).off=a.off+i:=by unfold Addr.add;split<;>simp_all
  have q:(a.add i).spot=none:=by unfold Addr.add;split<;>simp_all
  unfold World.cell?;rw[o,f];simp only[q,p,Option.isSome_none,dq,dw]
 apply cq;intro i;unfold s7;rw[ny,dp];by_cases d:i<n
 .rw[aj d,<-b i d,jb]
 .rw[ai d,an (by omega)]
def Ty.wf:(t:Ty)->t.den->Prop
 |.int k,n=>(Lit.int k n).wf=true
 |.bool,_=>True
 |.slice e,l=>∀x∈(show List e.den from l),e.wf x
 |.pair a b,x=>a.wf x.1/\b.wf x.2
variable {H:Type} {enc:TypeId×Value->H} {P:Program} {w:World} {base:Nat} {spare:Nat->Bool} {held:Bool}
theorem trod_bool{t:TypeId}{a:Nat}{cs:List Value}{x:DataW H×List MemPlace}(c:P.underlying t=some .bool)(h:DataW.trod enc P w base spare held a t cs=some x):∃b,cs=[.bool b]:=by
 cases a with
 |zero=>simp[DataW.trod]at h
 |succ n=>
  unfold DataW.trod at h;rw[c]at h;split at h<;>simp_all
theorem GW{f:TypeId->Option Ty}{K:b8}{n:Nat}{cs:List Value}(d:∀t ty,f t=some ty->P.cellsOf t=ty.size)
  (g:∀t ty,f t=some ty->∀cs x,DataW.trod enc P w base spare held n t cs=some x->∃y:ty.den,r9 K ty y cs/\ty.wf y):
  ∀ (j:List Field) (o:Nat) (ty:Ty),iK f j o=some ty->cs.length=o+ty.size->(∀a∈j,∃x,DataW.trod enc P w base spare held n a.type ((cs.drop a.offset).take (P.cellsOf a.type))=some x)->∃y:ty.den,r9 K ty y (cs.drop o)/\ty.wf y
 |[],_,_,h,_,_=>by simp[iK]at h
 |[a],o,ty,h,k,e=>by
  replace h:(if a.offset=o then f a.type else none)=some ty:=h
  split at h
  .rename_i i;obtain⟨x,e⟩:=e a (by simp)
   rw[d _ _ h,i,bj (by rw[cv];omega)]at e
   exact g _ _ h _ _ e
  .cases h
 |a::b::r,o,ty,h,k,e=>by
  replace h:(if a.offset=o then(match f a.type with
   |some x=>match iK f (b::r) (o+x.size)with
    |some y=>some (.pair x y)
    |none=>none
   |none=>none)else none)=some ty:=h
  split at h
  .rename_i i;split at h
   .rename_i p l;split at h
    .rename_i q s;cases h;simp only[Ty.size]at k;obtain⟨z,m⟩:=e a (by simp)
     rw[d _ _ l,i]at m;obtain⟨y1,u,v⟩:=g _ _ l _ _ m;obtain⟨A,B,C⟩:=GW d g (b::r) (o+p.size) q s (by omega) (fun c D=>e c (al _ D))
     refine⟨(y1,A),⟨_,_,?_,u,B⟩,⟨v,C⟩⟩;rw[<-dm];exact(fq _ _).symm
    .cases h
   .cases h
  .cases h
theorem Ob:∀ (d:Nat) (t:TypeId) (ty:Ty),Z5 P d t=some ty->∀ (o:Nat) (cs:List Value) (x:DataW H×List MemPlace),DataW.trod enc P w base spare held o t cs=some x->∃y:ty.den,r9 (aW w) ty y cs/\ty.wf y:=by
 intro d
 induction d with
 |zero=>intro t ty h;simp[Z5]at h
 |succ d M=>
  intro t ty h o cs x l;unfold Z5 at h;split at h
  .rename_i i k j p;split at h
   .cases h;obtain⟨n,rfl,_,S⟩:=DataW.trod_int p l;exact⟨n,rfl,S⟩
   .cases h
  .rename_i i j p;split at h
   .cases h;obtain⟨b,rfl⟩:=trod_bool p l;exact⟨b,rfl,trivial⟩
   .cases h
  .rename_i i e j p;split at h
   .split at h
    .rename_i a C;cases h;obtain⟨_,_,q,r,_,_⟩:=cX d e a C;have s:P.cellsOf e=a.size:=by simp only[Program.cellsOf,q,da,ec,r]
     rcases Deep.open_slice p l with⟨rfl,_⟩|⟨ad,len,cap,m,n,D,Pl,rfl,_,E,_,T,_,v⟩
     .exact⟨([]:List a.den),⟨none,0,rfl,aw _,Or.inl rfl⟩,fun x l=>by cases l⟩
     .have U:len<=m:=by rw[T];split<;>omega
      have c:∀i,i<len->∃y:a.den,a.wf y/\ad.spot=none/\∃arr,(aW w).cells ad.block=some arr/\r9 (aW w) a y (s7 arr (ad.off+i*a.size) a.size):=by
       intro i j;obtain⟨F,z,G⟩:=v i (by omega)
       rw[s]at z;obtain⟨N,arr,A,B⟩:=GV z a.size_pos;obtain⟨y,y1,V⟩:=M e a C n F _ G;have X:(ad.add (i*a.size)).block=ad.block:=by unfold Addr.add;split<;>rfl
       have Y:(ad.add (i*a.size)).off=ad.off+i*a.size:=by unfold Addr.add;split<;>simp_all
       have Z:ad.spot=none:=by
        obtain⟨cs0,u,_⟩:=v 0 (by omega)
        rw[s,lh]at u;have e0:ad.add 0=ad:=by simp[Addr.add]
        rw[e0]at u;exact(GV u a.size_pos).1
       rw[X]at A;rw[Y]at B;rw[B]at y1;exact⟨y,V,Z,arr,A,y1⟩
      let g:Nat->a.den:=fun i=>if h:i<len then Classical.choose (c i h)else a.zero
      have O:∀i (h:i<len),g i=Classical.choose (c i h):=fun i h=>by simp only[g,ic h]
      refine⟨((List.range len).map g:List a.den),⟨some ad,cap,?_,?_,?_⟩,?_⟩
      .rw[dy,qj]
      .rw[dy,qj];exact E
      .rcases jd len with I|I
       .subst I;exact Or.inl rfl
       .have h1:=oz (c 0 I);obtain⟨_,N,arr,A,_⟩:=h1;refine Or.inr ⟨ad.block,ad.off,arr,?_,A,?_⟩
        .rw[<-N]
        .intro i j;rw[dy,qj]at j;have h2:=oz (c i j);obtain⟨_,_,R,B,s4⟩:=h2;rw[A]at B;cases B;rw[ph,List.getElem_range,O i j];exact s4
      .intro x l;obtain⟨i,j,rfl⟩:=cd.1 l;have j:=ld.1 j;rw[O i j];exact(oz (c i j)).1
    .cases h
   .cases h
  .rename_i i J j p;split at h
   .rename_i a C;split at h
    .rename_i hs;cases h;obtain⟨xs,n,rfl,_,hl,hxl,l⟩:=DataW.trod_struct p l;have s:P.cellsOf t=ty.size:=by simp only[Program.cellsOf,j,da,ec,hs]
     have:=GW (K:=aW w) (cs:=cs) (n:=n) (enc:=enc) (P:=P) (w:=w) (base:=base) (spare:=spare) (held:=held) (f:=Z5 P d) (fun t ty h=>by
      obtain⟨_,_,q,r,_,_⟩:=cX d t ty h;simp only[Program.cellsOf,q,da,ec,r]) (fun t ty h cs x l=>M t ty h n cs x l) J.toList 0 ty C (by omega) (fun f hf=>by
      obtain⟨i,j,rfl⟩:=iw hf;have L:i<J.size:=by simpa using j
      have:=l i J[i] (by simp[L])
      rw[ag (by omega)]at this
      exact⟨_,by simpa using this⟩)
     simpa using this
    .cases h
   .cases h
  .cases h
def BX(P:Program)(t:TypeId):Bool:=match P.underlying t with
 |some (.struct _)=>true
 |_=>false
theorem GX{t:TypeId}(h:BX P t=true):∃a,P.underlying t=some (.struct a):=by
 unfold BX at h;split at h
 .exact⟨_,‹_›⟩
 .cases h
theorem QV{r:Reach}{b d:Nat}{t:TypeId}(ty:Ty){v:Value}{c:DataW H}{ps:List MemPlace}(e:BX P t=true)(f:Z5 P d t=some ty)
  (g:Value.okWide P w r b t v)(h:DataW.Trod enc P w base spare held t v c ps)(i:Nat->Option Hd):∃y:ty.den,b9 (aW w) i (.agg (ty.cells y)) v/\ty.wf y:=by
 obtain⟨n,j⟩:=GX e;obtain⟨cs,rfl,_⟩:=okWide_struct j g;obtain⟨a,k⟩:=h;obtain⟨y,l,m⟩:=Ob d t ty f a _ _ k;refine⟨y,?_,m⟩;simp only[b9];exact⟨cs,rfl,S4 ty y _ l⟩
theorem a1O{r:Reach}{a:Nat}{t:TypeId}(k:IntKind){v:Value}{b:DataW H}{ps:List MemPlace}(c:P.underlying t=some (.int k))
  (d:Value.okWide P w r a t v)(h:DataW.Trod enc P w base spare held t v b ps)(e:Nat->Option Hd):∃n,b9 (aW w) e (.int k n) v/\(Lit.int k n).wf=true:=by
 obtain⟨n,rfl,_,_,f⟩:=open_int c d h;exact⟨n,by simp[b9],f⟩
theorem UU{P:Program}{f:FuncId}{g:List a7}{W:World}{vs:List Value}(h:jE P f g [] (fun v _=>v=.bool true))(d:c6 (aW W) (fun _=>none) g vs):
  Calls P f vs.toArray W fun e w'=>e=.returned (.bool true)/\Below W.heap.size W w':=by
 refine(h (fun b=>b<W.heap.size) (aW W) (fun _=>none) W vs (a1N W) d ⟨fun r c f hd h=>(by cases h),fun r c hd b h=>(by cases h),fun r c hd b h=>(by cases h),fun r k c c' hd i b h=>(by cases h)⟩ (fun _ _=>rfl) (fun r d=>absurd d (rl _))).mono ?_
 rintro e w' ⟨v,r,l,K',H',rfl,rfl,_,a,_,_,_,j,_⟩;simp only[b9]at a;subst a;exact⟨rfl,HM j⟩
theorem a1P{n:Int}(h:(Lit.int .u16 n).wf=true):0<=n/\n<=65535:=by
 unfold Lit.wf at h;rw[ah,bt,bt]at h;have a:IntKind.min .u16=0:=by decide
 have b:IntKind.max .u16=65535:=by decide
 omega
end Go.Abs
end
section
namespace Go.Abs
structure p9(P:Program)(f:FuncId)(vs:List Var):Prop where
 code:∃fn c,P.funcs[f]? =some fn/\fn.body=some c/\(fn.name== "runtime.NumGoroutine")=false
 kept:∀v∈vs,v.Kept P f
theorem p9.add{P:Program}{f:FuncId}{vs:List Var}{l:List (FuncId×X4)}(h:p9 P f vs)(a:Good P (u0 l)):Good P (u0 ((f,X8 vs)::l)):=by
 obtain⟨g,c,b,d,e⟩:=h.code;exact BQ a b d e (BR vs h.kept) (fun h=>by cases h)
theorem p9.a1Q{P:Program}{f:FuncId}{vs:List Var}{l:List (FuncId×X4)}(h:p9 P f vs)(a:Good P (u0 l)):Good P (u0 ((f,mkG vs)::l)):=by
 obtain⟨g,c,b,d,e⟩:=h.code;exact BQ a b d e (BR vs h.kept) (fun h=>by cases h)
theorem p9.b2X{P:Program}{f:FuncId}{v:Var}{l:List (FuncId×X4)}(h:p9 P f [v])(d:∀x,(v.res x).run (fun _ new=>new=v.N4 x))(e:Good P (u0 l)):Good P (u0 ((f,mkP v)::l)):=by
 obtain⟨m,c,g,i,j⟩:=h.code;refine BQ e g i j (BR [v] h.kept) (fun _ b cs a=>?_)
 simp only[mkP,X8]at a ⊢;generalize L5 (Dl 0 cs.length) b=k at a ⊢;unfold DR at a;unfold DS;cases hd:v.dec k cs with
 |some x=>
  have:=d x;rw[(Var.X2 hd).2]at this;exact this
 |none=>
  rw[hd]at a;exact a.elim
structure z6(P:Program)(f:FuncId):Prop where
 code:∃fn c,P.funcs[f]? =some fn/\fn.body=some c/\(fn.name== "runtime.NumGoroutine")=false
theorem B0{P:Program}{f:FuncId}{a:Func}(b:P.funcs[f]? =some a)(d:a.body.isSome=true)(e:(a.name== "runtime.NumGoroutine")=false):z6 P f:=by
 obtain⟨c,g⟩:=dv.1 d;exact⟨a,c,b,g,e⟩
theorem I5{P:Program}{f:FuncId}{v:Var}(h:z6 P f)(b:v.Kept P f):p9 P f [v]:=⟨h.code,fun v' a=>by simp at a;subst a;exact b⟩
theorem p9.one{P:Program}{f:FuncId}{v:Var}(h:p9 P f [v]):v.Kept P f:=h.kept v (by simp)
theorem QW{P:Program}{f:FuncId}{a:List a7}{cs:List c7}{k k':a7->List c7->Prop}(h:jE P f a cs k)(b:∀v c,k v c->k' v c):jE P f a cs k':=by
 intro F K H w vs d g i j l;refine(h F K H w vs d g i j l).mono ?_;rintro e w' ⟨v,r,m,K',H',n,g2,o⟩;exact⟨v,r,m,K',H',n,b _ _ g2,o⟩
end Go.Abs
end
