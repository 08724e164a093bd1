/- Part 6 of the road to this seat's statements: lemmas about a small interpreter over the model's code, and about the functions that it is used on. No condition of its own. -/
import Derived.Test.YtgohechlcklfkaaGreatW5
set_option linter.all false
section
namespace Go.Abs
section
variable {P:Program} {F:Nat->Prop} {K:j0} {H:Nat->Option Hd} {w:World} {m:Mm} {nx:Nat} {v:BV} {new:List HO} {set:List (Nat×HO)} {rd:List Nat} {ev:Operand->BV} {ρ:Operand->Value}
def P2(P:Program)(R:J6):Prop:=∀f args a v l,R f args a=.ok v l->
 (∀b w,(callFunc f b).run P w=.ok (.enter f b) w)/\gU P f (args.map Q2) (a.map c7.F8) (fun r c=>r=Q2 v/\c=l.map c7.F8)
theorem fT{x:BV}{y:Value}(h:c8 K H (Q2 x) y):u7 K H x y:=by
 cases x with
 |c n=>
  simp only[Q2]at h;split at h
  ·rename_i e;subst e;simp only[c8,c9]at h;obtain⟨cs,rfl,b⟩:=h;exact .inl ⟨rfl,by congr 1;simpa using b⟩
  ·split at h
   ·rename_i e;simp only[c8]at h;exact .inr (.inl ⟨e,h⟩)
   ·split at h
    ·rename_i e;subst e;simp only[c8]at h;subst h;exact .inr (.inr .Bv)
    ·split at h
     ·rename_i e;subst e;simp only[c8]at h;subst h;exact .inr (.inr .Tm)
     ·simp only[c8]at h;exact .inr (.inr h)
 |a k n=>simp only[Q2,c8]at h;exact h
 |t l=>
  simp only[Q2,c8]at h;obtain⟨cs,rfl,b⟩:=h;obtain⟨d,g2⟩:=(xR l _).1 b;exact⟨cs,rfl,by simpa using d,fun i p x f g=>g2 i p x f (by simpa using g)⟩
 |u=>trivial
def bU(K:j0)(H:Nat->Option Hd)(l:List BV)(vs:List Value):Prop:=vs.length=l.length/\∀ (i:Nat) (b:BV) (x:Value),l[i]? =some b->vs[i]? =some x->u7 K H b x
theorem bU.ZJ:∀ {l:List BV} {vs:List Value},bU K H l vs->c9 K H (l.map Q2) vs
 |[],vs,h=>by rw[List.length_eq_zero_iff.1 h.1];exact .nil
 |b::l,vs,h=>by
  cases vs with
  |nil=>exact absurd h.1 (by simp)
  |cons x vs=>
   exact .cons (h.2 0 b x rfl rfl).Q2 (bU.ZJ ⟨by simpa using h.1,fun i c y a d=>h.2 (i+1) c y (by simpa using a) (by simpa using d)⟩)
theorem Cl(o:HO):OQ (fun _=>True) o:=by
 cases o with
 |c s n=>exact fun _ _ _ _=>trivial
 |f a b c d=>exact⟨fun _ _ _ _=>trivial,fun _ _ _ _=>trivial⟩
 |_=>trivial
theorem OR.a2A{ρ:Nat->Nat->Prop}{a b:HO}(h:OR ρ a b):a≠ .z/\b≠ .z:=by
 cases a<;>cases b<;>first|exact h.elim|exact⟨by simp,by simp⟩
theorem Q9{α:Type}{l:List α}{i:Nat}{a:α}(h:l[i]? =some a):i<l.length:=by
 rcases Nat.lt_or_ge i l.length with b|b
 ·exact b
 ·rw[List.getElem?_eq_none b]at h;cases h
theorem Fb{l:List Nat}(h:l.Nodup){i j r:Nat}(b:l[i]? =some r)(c:l[j]? =some r):i=j:=by
 have hi:=Q9 b;have d:=Q9 c;rw[List.getElem?_eq_getElem hi]at b;rw[List.getElem?_eq_getElem d]at c;have e:l[i]=l[j]:=Option.some.inj (b.trans c.symm);have f:=List.pairwise_iff_getElem.1 h;rcases Nat.lt_trichotomy i j with a|a|a
 ·exact absurd e (f i j hi d a)
 ·exact a
 ·exact absurd e.symm (f j i d hi a)
theorem rZ{l:List HO}{r:Nat}{c:c7}{f:p8}(h:E8 (fun _=>none) 0 (l.map c7.F8) r=some (c,f)):∃o,l[r]? =some o/\c=.F8 o/\f=.own:=by
 rw[u6]at h;split at h
 ·rename_i a;simp only[Option.some.injEq,Prod.mk.injEq]at h;have b:r<l.length:=by simpa using a.2
  refine⟨l[r],List.getElem?_eq_getElem b,?_,h.2.symm⟩;rw[<-h.1];simp
 ·cases h
theorem jV{l:List HO}{r:Nat}{o:HO}(h:l[r]? =some o):E8 (fun _=>none) 0 (l.map c7.F8) r=some (.F8 o,.own):=by
 have a:=Q9 h;rw[u6,dif_pos (by simpa using a)]
 rw[List.getElem?_eq_getElem a]at h;simp only[Option.some.injEq]at h;simp[h]
theorem SJ{K':j0}{H':Nat->Option Hd}{w':World}{hd:Hd}{a b:HO}(h:Eo a b=true)(l:o8 K' H' w' hd (.F8 a)):a=b\/∃g j k n2,a=.f g j k n2:=by
 cases a with
 |c s n=>
  cases b with
  |c o p=>
   have h:iB (Nat.beq s o) (Nat.beq n p) false=true:=h;rw[j2]at h;split at h
   ·rename_i e;left;rw[Nat.eq_of_beq_eq_true e,Nat.eq_of_beq_eq_true h]
   ·cases h
  |_=>exact Bool.noConfusion (show false=true from h)
 |f g j k n2=>exact .inr ⟨_,_,_,_,rfl⟩
 |m a b c d=>exact Bool.noConfusion (show false=true from h)
 |i a b c d=>exact Bool.noConfusion (show false=true from h)
 |z=>exact l.elim
theorem vD{o:HO}{hd:Hd}{b:Nat}(h:(R1 o hd).base=some b):R1 o hd=hd:=by
 cases o<;>first|rfl|cases h
theorem yD{o:HO}{hd:Hd}(h:∀a b c d,o≠ .f a b c d):R1 o hd=hd:=by
 cases o<;>first|rfl|exact absurd rfl (h _ _ _ _)
variable (l9:J0 F K w) (hm:j8 F K H w m) (H7:∀i,i<new.length->H (nx+i)=none)
include l9 hm H7
theorem ZK{R:J6}(hR:P2 P R){f:FuncId}{args:List BV}{vs:Array Value}(X:bU K H args vs.toList)(h:iG R (I6 m) f args nx=.ok v new set rd):
  (∀Bw w,(callFunc f Bw).run P w=.ok (.enter f Bw) w)/\Calls P f vs w (fun e w''=>∃x K' H',e=.returned x/\V4 F K H w m nx v new set x w'' K' H'):=by
 unfold iG at h;obtain⟨S,WI,a1,a2,a3,a4⟩:=WG (Q:=Live H) args (fun b y=>by
  obtain⟨i,hi⟩:=List.mem_iff_getElem?.1 y;have hl:i<vs.toList.length:=by rw[X.1];exact Q9 hi
  exact(X.2 i b vs.toList[i] hi (List.getElem?_eq_getElem hl)).refs) h
 simp only at a4;rw[xY,List.append_nil]at a4;obtain⟨V,s,b1,b2,b3,b4,b5⟩:=yA (Q:=Live H) (fun r Y=>WH hm r Y) 2000 S.reverse [] _ _ [] _ (fun r Y=>a2 r (List.mem_reverse.1 Y)) (fun r Y=>by cases Y) a4
 have hL:ad (0+S.length) V++(ad 0 S++ [])=ad 0 (V++S)++ []:=lW _ _ _ _;have a2B:Tt [] (V++S):=a1.app b1;rw[hL]at b4 b5;have a2C:S.reverse++([]:List Nat).reverse++V.reverse=S.reverse++V.reverse:=by simp
 rw[a2C]at b3 b4;obtain⟨hs,UX⟩:∃hs,hs=(V++S).reverse:=⟨_,rfl⟩;have b0l:S.reverse++V.reverse=hs:=by rw[UX];simp
 rw[b0l]at b3 b4;have holds:V2 (ad 0 (V++S)++ [])=hs:=by
  rw[Hg,List.append_nil,Po,UX]
 have Ou:hs.Nodup:=by rw[UX];exact List.pairwise_reverse.2 (a2B.1.imp fun h e=>h e.symm)
 have a6D:∀r∈hs,Live H r:=by
  intro r Y;rw[UX,List.mem_reverse]at Y;exact(List.mem_append.1 Y).elim (b2 r) (a2 r)
 rw[Rb,List.append_nil s]at b5;have a6E:0+S.length+V.length=hs.length:=by rw[UX];simp[Nat.add_comm]
 rw[a6E]at b5;obtain⟨k,a1d⟩:∃k,k=s.reverse:=⟨_,rfl⟩;rw[<-a1d]at b5 b4;have hol:k.length=hs.length:=by rw[a1d];simpa using b3
 cases hRr:R f WI k with
 |er c x=>rw[hRr]at b5;cases b5
 |ok v0 Z=>
  rw[hRr]at b5;have b5:fN (Nat.sub (eP Z) hs.length) (fun nn=>nB (Nat.ble (Nat.add hs.length (Nat.add nx nn)) 1048574) 198 (nB (zV (V2 (ad 0 (V++S)++ []))) 197 (LI v0 (lP nn hs.length nx (dL (V2 (ad 0 (V++S)++ [])) 0 [])) [] 0 fun v' _ q _=>nB (Nat.beq (eP q) 0) 187
   (Y7 (I6 m) Z (V2 (ad 0 (V++S)++ [])) (lP nn hs.length nx (dL (V2 (ad 0 (V++S)++ [])) 0 [])) fun s n=>.ok v' n s (V2 (ad 0 (V++S)++ []))))))=.ok v new set rd:=b5
  rw[J8,xZ,holds]at b5;obtain⟨nn,hnn⟩:∃nn,Z.length- hs.length=nn:=⟨_,rfl⟩;rw[show Nat.sub Z.length hs.length=nn from hnn]at b5;obtain⟨c1,c2⟩:=c6 b5;obtain⟨c3,c4⟩:=c6 c2;have c1:hs.length+(nx+nn)<=1048574:=Nat.le_of_ble_eq_true c1;have a2D:=Bl c3;obtain⟨Lb,hLb⟩:∃Lb,Lb=lkB hs nn nx:=⟨_,rfl⟩;rw[show lP nn hs.length nx (dL hs 0 [])=Lb from hLb.symm]at c4;obtain⟨Ve,a6G⟩:=hR f WI k v0 Z hRr;refine⟨Ve,?_⟩;have fwd:∀r j,lk (ad 0 (V++S)++ []) r j->hs[j]? =some r:=fun r j M=>ZI UX M
  have a2F:∀r j,lk (ad 0 (V++S)++ []) r j->j<1048575:=fun r j M=>by have:=Q9 (fwd r j M);omega
  have a2G:∀i r,lk Lb i r->r<1048575:=fun i r Y=>by
   rw[hLb]at Y;rcases yC Y with A|⟨A,E,h3⟩
   ·exact a2D r (List.mem_iff_getElem?.2 ⟨i,A⟩)
   ·omega
  have inv:∀r j,lk (ad 0 (V++S)++ []) r j->lk Lb j r:=fun r j M=>by rw[hLb];exact Rc (fwd r j M)
  have hor:∀ (i r:Nat) (o:HO),hs[i]? =some r->k[i]? =some o->OR (lk (ad 0 (V++S)++ [])) (I6 m r) o:=fun i r o A E=>b4 i r o A E a2F
  have KJ:∀ (i r:Nat),hs[i]? =some r->m r=some (.F8 (I6 m r),.own):=fun i r A=>by
   have hl:i<k.length:=by rw[hol];exact Q9 A
   exact R0 rfl (hor i r k[i] A (List.getElem?_eq_getElem hl)).a2A.1
  have XP:∀ (i r:Nat),hs[i]? =some r->∃hd,H r=some hd:=fun i r A=>(a6D r (List.mem_iff_getElem?.2 ⟨i,A⟩)).head
  let H0:Nat->Option Hd:=fun j=>match hs[j]?,k[j]? with
   |some r,some o=>(H r).map (R1 o)
   |_,_=>none
  have WJ:∀ (j r:Nat) (o:HO),hs[j]? =some r->k[j]? =some o->H0 j=(H r).map (R1 o):=fun j r o A E=>by
   show(match hs[j]?,k[j]? with|some r,some o=>(H r).map (R1 o)|_,_=>none)=_
   rw[A,E]
  have C:∀ (j:Nat) (W3:Hd),H0 j=some W3->∃r o hd,hs[j]? =some r/\k[j]? =some o/\H r=some hd/\W3=R1 o hd:=fun j W3 M=>by
   have M:(match hs[j]?,k[j]? with|some r,some o=>(H r).map (R1 o)|_,_=>none)=some W3:=M
   split at M
   ·rename_i r o A E;cases hh:H r with
    |none=>rw[hh]at M;cases M
    |some hd=>rw[hh]at M;cases M;exact⟨r,o,hd,A,E,hh,rfl⟩
   ·cases M
  have hhF:∀r j hd,lk (ad 0 (V++S)++ []) r j->H r=some hd->∃W3,H0 j=some W3/\SH (lk (ad 0 (V++S)++ [])) hd W3/\j<1048575:=fun r j hd M hh=>by
   have A:=fwd r j M;have hl:j<k.length:=by rw[hol];exact Q9 A
   have E:=List.getElem?_eq_getElem hl;refine⟨R1 k[j] hd,by rw[WJ j r _ A E,hh];rfl,?_,a2F r j M⟩
   exact OR.head (hm.cont r _ .own hd (KJ j r A) (by simp) hh) (hor j r _ A E)
  have PX:c9 K H0 (WI.map Q2) vs.toList:=by
   obtain⟨p1,p2⟩:=(VsX.mono _ (lk (ad 0 (V++S)++ [])) _ (fun r j M=>by rw[<-hL];exact Cj b1 r j M) a3) a2F
   refine bU.ZJ ⟨X.1.trans p1.symm,fun i b x y hx=>?_⟩
   have hl:i<args.length:=by rw[<-p1];exact Q9 y
   exact Ts.rep hhF (X.2 i args[i] x (List.getElem?_eq_getElem hl) hx) (p2 i args[i] b (List.getElem?_eq_getElem hl) y)
  let Hb:Nat->Prop:=fun b=>∃ (q r:Nat) (hd:Hd),hs[q]? =some r/\H r=some hd/\hd.base=some b
  let Fc:Nat->Prop:=fun b=>b<w.heap.size/\K.inv b=none/\¬Hb b
  have hFc:∀b,F b->Fc b:=fun b y=>⟨l9.lt b y,by
   cases hi:K.inv b with
   |none=>rfl
   |some p=>exact absurd y (l9.inv b p hi),fun⟨q,r,hd,hq,g1,g2⟩=>(hm.own r _ hd b (KJ q r hq) g1 g2).1 y⟩
  have NO:J0 Fc K w:=by
   refine⟨l9.y6,fun b y=>y.1,fun b p hp y=>?_,l9.apart⟩
   have A:K.inv b=some p:=hp;rw[y.2.1]at A;cases A
  have WL:∀ (j r:Nat) (o:HO) (hd:Hd),hs[j]? =some r->k[j]? =some o->H r=some hd->∀b,(R1 o hd).base=some b->hd.base=some b:=fun j r o hd _ _ _ b y=>by
   have:=vD y;rw[this]at y;exact y
  have HZ:j8 Fc K H0 w (E8 (fun _=>none) 0 (k.map c7.F8)):=by
   refine⟨?_,?_,?_,?_⟩
   ·intro j c' f' W3 B G q3;obtain⟨o,O,rfl,rfl⟩:=rZ B;obtain⟨r,o',hd,L,e3,e4,rfl⟩:=C j W3 q3;rw[O]at e3;cases e3;exact OR.cont hhF (hm.cont r _ .own hd (KJ j r L) (by simp) e4) (hor j r o L O)
   ·intro j c' W3 b B G q3;obtain⟨o,O,rfl,_⟩:=rZ B;obtain⟨r,o',hd,L,e3,e4,rfl⟩:=C j W3 G;have y:=WL j r o' hd L e3 e4 b q3;obtain⟨g1,g2,g3,g4⟩:=hm.own r _ hd b (KJ j r L) e4 y;refine⟨fun XL=>XL.2.2 ⟨j,r,hd,L,e4,y⟩,g2,g3,fun hc=>g4 ?_⟩
    have:=hor j r o L O;revert this hc;cases I6 m r<;>cases o<;>first|exact fun _ h=>h.elim|(intro hc _;exact hc)
   ·intro j c' W3 b B G q3;obtain⟨o,O,rfl,e⟩:=rZ B;cases e
   ·intro j j' c1' c2' oM Ax b B G q3 q4 q5 q6;obtain⟨r,o,hd,L,e3,e4,rfl⟩:=C j oM q3;obtain⟨N,o',W3,e2',e3',e4',rfl⟩:=C j' Ax q4;have A:=WL j r o hd L e3 e4 b q5;have E:=WL j' N o' W3 e2' e3' e4' b q6;have e:=hm.inj r N _ _ hd W3 b (KJ j r L) (KJ j' N e2') e4 e4' A E;subst e;exact Fb Ou L e2'
  have WM:=a6G Fc K H0 w vs.toList NO PX HZ (fun j M=>by
   cases hh:H0 j with
   |none=>rfl
   |some W3=>
    obtain⟨r,o,hd,L,e3,_⟩:=C j W3 hh;have:=Q9 e3;simp at M;omega) (fun j M=>by
   have M:j<k.length:=by simpa using M
   have hj':j<hs.length:=by omega
   obtain⟨hd,hh⟩:=XP j hs[j] (List.getElem?_eq_getElem hj')
   exact⟨_,by rw[WJ j _ _ (List.getElem?_eq_getElem hj') (List.getElem?_eq_getElem M),hh];rfl⟩)
  rw[show vs.toList.toArray=vs from rfl]at WM;refine Calls.mono WM ?_;rintro e w' ⟨x,rr,RM,K',HR,rfl,⟨rfl,rfl⟩,hle,xA,hmR,hz,a2H,nY,Qk,Jw,WN⟩;simp only[List.length_map]at hz Jw WN;rw[hol]at Jw WN;obtain⟨t3,v',d1,_,d2,d3⟩:=QZ (Q:=fun _=>True) (by
   cases v0 with
   |c n=>exact fun _ _=>trivial
   |a s n=>exact fun _ _ _ _=>trivial
   |t l=>exact fun _ _ _ _ _ _=>trivial
   |u=>trivial) c4
  simp only at d3;obtain⟨d4,d5⟩:=c6 d3;have d4:t3=[]:=by
   have:=Nat.eq_of_beq_eq_true d4;rw[xZ]at this;simpa using this
  subst d4;have d2:BVX v0 (lk Lb) v':=d2;have d5:Y7 (I6 m) Z hs Lb (fun s n=>.ok v' n s hs)=.ok v new set rd:=d5
  obtain⟨T,o1,o2,o3⟩:=Fa Z hs _ Jw (fun o _=>Cl o) d5
  obtain⟨o4,o5,o6,_⟩:=l8.ok.inj o3;subst o4;subst o5;subst o6;have ZL:∀ (i:Nat) (a b:HO),Z[i]? =some a->T[i]? =some b->OR (lk Lb) a b:=fun i a b A E=>o2 i a b A E a2G
  have b0o:∀o∈T,o≠ .z:=by
   intro o ho;obtain⟨i,hi⟩:=List.mem_iff_getElem?.1 ho;have hl:i<Z.length:=by rw[<-o1];exact Q9 hi
   exact(ZL i _ o (List.getElem?_eq_getElem hl) hi).a2A.2
  have RW:(T.drop hs.length).length=nn:=by rw[List.length_drop,o1,hnn]
  have hf:∀i,i<nn->H (nx+i)=none:=fun i hi=>H7 i (by rw[RW];exact hi)
  let H':Nat->Option Hd:=fun r=>if nx<=r/\r<nx+nn then(match T[r- nx+hs.length]? with
   |some o=>(HR (r- nx+hs.length)).map (R1 o)
   |none=>none)else H r
  have a2I:bY H H':=by
   intro r hd Y;show(if nx<=r/\r<nx+nn then _ else H r)=_
   by_cases I:nx<=r/\r<nx+nn
   ·have:=hf (r- nx) (by omega)
    rw[show nx+(r- nx)=r by omega]at this
    rw[this]at Y;cases Y
   ·rw[if_neg I];exact Y
  have WO:∀i,i<nn->∀o,T[i+hs.length]? =some o->H' (nx+i)=(HR (i+hs.length)).map (R1 o):=fun i hi o ho=>by
   show(if nx<=nx+i/\nx+i<nx+nn then(match T[nx+i- nx+hs.length]? with|some o=>(HR (nx+i- nx+hs.length)).map (R1 o)|none=>none)else H (nx+i))=_
   rw[if_pos (by omega),show nx+i- nx=i by omega,ho]
  have a6K:∀ (i r:Nat) (o:HO) (hd:Hd),hs[i]? =some r->k[i]? =some o->H r=some hd->HR i=some (R1 o hd):=fun i r o hd A E h3=>by
   rw[WN i (Q9 A),WJ i r o A E,h3];rfl
  have hhB:∀i r hd,lk Lb i r->HR i=some hd->∃W3,H' r=some W3/\SH (lk Lb) hd W3/\r<1048575:=fun i r hd hi hh=>by
   have y:=a2G i r hi;rw[hLb]at hi;rcases yC hi with A|⟨A,E,h3⟩
   ·have hl:i<k.length:=by rw[hol];exact Q9 A
    have E:=List.getElem?_eq_getElem hl;obtain⟨RJ,hh0⟩:=XP i r A;have e:=a6K i r _ RJ A E hh0;rw[hh]at e;cases e;refine⟨RJ,a2I r RJ hh0,?_,y⟩;exact SH.symm inv (OR.head (hm.cont r _ .own RJ (KJ i r A) (by simp) hh0) (hor i r _ A E))
   ·have hl:i<Z.length:=by omega
    have hl2:i<T.length:=by rw[o1];exact hl
    have O:=List.getElem?_eq_getElem hl;have L:=List.getElem?_eq_getElem hl2;refine⟨R1 T[i] hd,?_,?_,y⟩
    ·have:=WO (i- hs.length) (by omega) T[i] (by rw[show i- hs.length+hs.length=i by omega];exact L)
     rw[h3,this,show i- hs.length+hs.length=i by omega,hh];rfl
    ·exact OR.head (hmR.cont i _ .own hd (jV O) (by simp) hh) (ZL i _ _ O L)
  have I2:∀N,H N=none->H' N≠none->nx<=N/\N<nx+(T.drop hs.length).length:=by
   intro N B G;by_cases I:nx<=N/\N<nx+nn
   ·rw[RW];exact I
   ·exact absurd (by show(if nx<=N/\N<nx+nn then _ else H N)=none;rw[if_neg I];exact B) G
  have a6L:u7 K' H' v' x:=by
   exact Ts.rep hhB (fT xA) (d2 a2G)
  have a10:∀r c f hd b,m r=some (c,f)->f≠ .dead->r ∉ hs->H r=some hd->hd.base=some b->Fc b:=by
   intro r c f hd b B G q3 q4 q5;refine⟨U4 hm B G q4 q5,?_,?_⟩
   ·cases f with
    |dead=>exact absurd rfl G
    |own=>exact(hm.own r c hd b B q4 q5).2.2.1
    |aQ=>
     obtain⟨cs,g⟩:=hm.aQ r c hd b B q4 q5;cases hi:K.inv b with
     |none=>rfl
     |some p=>have:=l9.apart b p hi;rw[g]at this;cases this
   ·rintro⟨q,N,W3,hq,g1,g2⟩;have b2:=KJ q N hq;cases f with
    |dead=>exact absurd rfl G
    |own=>
     have e:=hm.inj r _ c _ hd W3 b B b2 q4 g1 q5 g2;exact q3 (e▸List.mem_iff_getElem?.2 ⟨q,hq⟩)
    |aQ=>
     obtain⟨cs2,q6⟩:=hm.aQ r c hd b B q4 q5;rw[(hm.own _ _ W3 b b2 g1 g2).2.1]at q6;cases q6
  have a2J:Kept F w w':=nY.mono hFc;have Rd:∀N c' f' hd b,kill hs m N=some (c',f')->f'≠ .dead->H N=some hd->hd.base=some b->Fc b:=by
   intro N c' f' hd b B G q3 q4;obtain⟨k1,k2⟩:=S8 B;exact a10 N c' f' hd b k2 G k1 q3 q4
  have PY:j8 F K H w' (kill hs m):=(hm.sub (m2:=kill hs m) (fun r x h=>(S8 h).2)).world (fun N c' f' hd b B G q3 q4=>nY.block b (Rd N c' f' hd b B G q3 q4))
  have XM:j8 F K' H w' (kill hs m):=PY.Ry hle (fun N c' hd b B G q3=>by
   have y:=Rd N c' _ hd b B (by simp) G q3
   obtain⟨_,g2,g3,_⟩:=PY.own N c' hd b B G q3;have:=Qk b y;rw[g2,g3]at this
   exact this)
  have CP:J0 F K' w':=by
   refine⟨a2H.y6,fun b y=>Nat.lt_of_lt_of_le (l9.lt b y) nY.size,fun b p y hF=>a2H.inv b p y (hFc b hF),a2H.apart⟩
  have CU:Fix F K K':=fun b y=>Qk b (hFc b y)
  have look:∀r c f hd,E8 (bB m (jU (I6 m) hs T)) nx ((T.drop hs.length).map c7.F8) r=some (c,f)->H' r=some hd->
    (f=.own/\o8 K' H' w' hd c/\∃i o J,Z[i]? =some o/\HR i=some J/\(∀b,hd.base=some b->J.base=some b)/\(c.isCells=true->(c7.F8 o).isCells=true)/\lk Lb i r)\/(kill hs m r=some (c,f)/\H r=some hd):=by
   intro r c f hd B G;rw[u6]at B;split at B
   ·rename_i I;have I:nx<=r/\r<nx+nn:=by rw[List.length_map,RW]at I;exact I
    obtain⟨i,hi⟩:∃i,r=nx+i:=⟨r- nx,by omega⟩
    subst hi;have hi:i<nn:=by omega
    have hl2:i+hs.length<T.length:=by rw[o1];omega
    have hl1:i+hs.length<Z.length:=by omega
    have L:=List.getElem?_eq_getElem hl2;have O:=List.getElem?_eq_getElem hl1;simp only[List.getElem_map,List.getElem_drop,Option.some.injEq,Prod.mk.injEq]at B;obtain⟨rfl,rfl⟩:=B;have h5:=WO i hi _ L;rw[G]at h5;cases hh:HR (i+hs.length)with
    |none=>rw[hh]at h5;cases h5
    |some J=>
     rw[hh]at h5;simp only[Option.map_some,Option.some.injEq]at h5;have U:=ZL _ _ _ O L;have a6M:hs.length+(nx+i- nx)=i+hs.length:=by omega
     left;refine⟨rfl,?_,i+hs.length,Z[i+hs.length],J,O,hh,fun b y=>?_,?_,?_⟩
     ·rw[h5];simp only[a6M];exact OR.cont hhB (hmR.cont _ _ .own J (jV O) (by simp) hh) U
     ·rw[h5]at y;have:=vD y;rw[this]at y;exact y
     ·simp only[a6M];revert U;cases Z[i+hs.length]<;>cases T[i+hs.length]<;>first|exact fun h=>h.elim|(intro _ hc;exact hc)
     ·rw[hLb];unfold lk lkB;rw[yB _ _ _ _ (fun j M=>by rw[gC _ _ _ (fun _ _=>rfl),if_neg (by omega)];rfl),if_pos (by omega)]
      congr 1;omega
   ·rename_i I;have I:¬(nx<=r/\r<nx+nn):=by rw[List.length_map,RW]at I;exact I
    have G:H r=some hd:=by
     have:H' r=H r:=by show(if nx<=r/\r<nx+nn then _ else H r)=_;rw[if_neg I]
     rw[<-this];exact G
    obtain⟨s1,s2⟩:=Ah (D:=I6 m) hs T m Ou (by rw[o1];exact Jw) b0o r
    by_cases Y:r∈hs
    ·obtain⟨i,hi⟩:=List.mem_iff_getElem?.1 Y;have hil:=Q9 hi;have hl1:i<Z.length:=by omega
     have hl2:i<T.length:=by rw[o1];exact hl1
     have hl3:i<k.length:=by rw[hol];exact hil
     have O:=List.getElem?_eq_getElem hl1;have L:=List.getElem?_eq_getElem hl2;have e3:=List.getElem?_eq_getElem hl3;rw[s2 i _ hi L]at B;have a2K:=a6K i r _ hd hi e3 G;have Tp:=hmR.cont i _ .own _ (jV O) (by simp) a2K
     have U:=ZL _ _ _ O L;have hc1:=OR.cont (K':=K') hhB Tp U;have a2L:=KJ i r hi;have hcm:=hm.cont r _ .own hd a2L (by simp) G
     have a2M:=hor i r _ hi e3;have a6O:lk Lb i r:=by rw[hLb];exact Rc hi
     have a6P:(∀k1 n1 k2 n2,T[i]≠ .f k1 n1 k2 n2)->(∀k1 n1 k2 n2,k[i]≠ .f k1 n1 k2 n2):=by
      intro hnf k1 n1 k2 n2 e;rw[yD hnf,e]at hc1;revert hc1 hnf;cases T[i]with
      |c s n=>intro _ ⟨b,_,_,_,y,_⟩;cases y
      |m a b c d=>intro _ ⟨b,_,y,_⟩;cases y
      |f a b c d=>intro hnf;exact absurd rfl (hnf _ _ _ _)
      |i a b c d=>intro _ ⟨b,_,_,y,_⟩;cases y
      |z=>intro _ h;exact h.elim
     have hbs:∀b,hd.base=some b->(R1 k[i] hd).base=some b:=by
      intro b y;have:∀k1 n1 k2 n2,k[i]≠ .f k1 n1 k2 n2:=by
       intro k1 n1 k2 n2 e;rw[e]at a2M;revert hcm a2M;cases I6 m r<;>try exact fun _ h=>h.elim
       intro hcm _;rw[hcm.1]at y;cases y
      rw[yD this];exact y
     left;by_cases hfn:∃k1 n1 k2 n2,T[i]=.f k1 n1 k2 n2
     ·obtain⟨k1,n1,k2,n2,hfn⟩:=hfn;have hq:Eo T[i] (I6 m r)=true:=by rw[hfn];rfl
      rw[if_pos hq,a2L]at B;simp only[Option.some.injEq,Prod.mk.injEq]at B;obtain⟨rfl,rfl⟩:=B;have a2O:∃a b c d,Z[i]=.f a b c d:=by
       rw[hfn]at U;revert U;cases Z[i]<;>first|exact fun h=>h.elim|(intro _;exact⟨_,_,_,_,rfl⟩)
      obtain⟨a1,a2,a3,a4,a2O⟩:=a2O;have hb0:(R1 k[i] hd).base=none:=by rw[a2O]at Tp;exact Tp.1
      have hdf:∃a b c d,I6 m r=.f a b c d:=by
       revert hcm a2M;cases I6 m r with
       |c s n=>
        intro ⟨b,_,_,_,y,_⟩ _;have:=hbs b y;rw[hb0]at this;cases this
       |m a b c d=>
        intro ⟨b,_,y,_⟩ _;have:=hbs b y;rw[hb0]at this;cases this
       |f a b c d=>intro _ _;exact⟨_,_,_,_,rfl⟩
       |i a b c d=>
        intro ⟨b,_,_,y,_⟩ _;have:=hbs b y;rw[hb0]at this;cases this
       |z=>intro h;exact h.elim
      obtain⟨y1,y2,y3,y4,hdf⟩:=hdf;refine⟨rfl,?_,i,_,_,O,a2K,hbs,?_,a6O⟩
      ·rw[hdf]at hcm ⊢;exact hcm
      ·rw[hdf];intro h;cases h
     ·have hnf:∀k1 n1 k2 n2,T[i]≠ .f k1 n1 k2 n2:=fun k1 n1 k2 n2 e=>hfn ⟨k1,n1,k2,n2,e⟩
      have b0s:=a6P hnf;rw[yD hnf,yD b0s]at hc1;have I:c=.F8 T[i]/\f=.own:=by
       split at B
       ·rename_i hq;rw[a2L]at B;simp only[Option.some.injEq,Prod.mk.injEq]at B;rcases SJ hq hc1 with e|⟨k1,n1,k2,n2,e⟩
        ·exact⟨by rw[<-B.1,e],B.2.symm⟩
        ·exact absurd e (hnf _ _ _ _)
       ·simp only[Option.some.injEq,Prod.mk.injEq]at B;exact⟨B.1.symm,B.2.symm⟩
      obtain⟨rfl,rfl⟩:=I;refine⟨rfl,hc1,i,_,_,O,a2K,hbs,?_,a6O⟩;revert U;cases Z[i]<;>cases T[i]<;>first|exact fun h=>h.elim|(intro _ hc;exact hc)
    ·right;rw[s1 Y]at B;refine⟨?_,G⟩;unfold kill;rw[if_neg Y];exact B
  have hnb:∀i o J b,Z[i]? =some o->HR i=some J->J.base=some b->¬Fc b:=fun i o J b O L e3=>(hmR.own i _ J b (jV O) L e3).1
  have b2v:∀i j r,lk Lb i r->lk Lb j r->(∀q,q<nn->nx+q ∉ hs)->i=j:=by
   intro i j r A E hno;rw[hLb]at A E;rcases yC A with A|⟨p1,p2,p3⟩<;>rcases yC E with E|⟨p4,p5,p6⟩
   ·exact Fb Ou A E
   ·exact absurd (List.mem_iff_getElem?.2 ⟨i,p6▸A⟩) (hno _ (by omega))
   ·exact absurd (List.mem_iff_getElem?.2 ⟨j,p3▸E⟩) (hno _ (by omega))
   ·omega
  refine⟨x,K',H',rfl,hle,a2I,I2,a6L,?_,CP,a2J,CU⟩;refine⟨?_,?_,?_,?_⟩
  ·intro r c f hd B G q3;rcases look r c f hd B q3 with⟨_,A,_⟩|⟨A,E⟩
   ·exact A
   ·exact(XM.cont r c f hd A G E).mono (.refl K') a2I (fun _ _=>rfl)
  ·intro r c hd b B G q3;rcases look r c _ hd B G with⟨_,A,i,o,J,O,L,e3,e4,_⟩|⟨A,E⟩
   ·obtain⟨g1,g2,g3,g4⟩:=hmR.own i _ J b (jV O) L (e3 b q3);exact⟨fun y=>g1 (hFc b y),g2,g3,fun hc=>g4 (e4 hc)⟩
   ·exact XM.own r c hd b A E q3
  ·intro r c hd b B G q3;rcases look r c _ hd B G with⟨h0,_⟩|⟨A,E⟩
   ·cases h0
   ·exact XM.aQ r c hd b A E q3
  ·intro r1 r2 c1' c2' oM Ax b B G q3 q4 q5 q6;rcases look r1 c1' _ oM B q3 with⟨_,_,i,o,J,O,L,e3,_,e5⟩|⟨A,E⟩
   ·rcases look r2 c2' _ Ax G q4 with⟨_,_,j,o',hdj,f1,f2,f3,_,f5⟩|⟨h1',h2'⟩
    ·have e:=hmR.inj i j _ _ J hdj b (jV O) (jV f1) L f2 (e3 b q5) (f3 b q6);subst e;unfold lk at e5 f5;rw[e5]at f5;exact Option.some.inj f5
    ·exact absurd (Rd r2 c2' _ Ax b h1' (by simp) h2' q6) (hnb i o J b O L (e3 b q5))
   ·rcases look r2 c2' _ Ax G q4 with⟨_,_,j,o',hdj,f1,f2,f3,_,f5⟩|⟨h1',h2'⟩
    ·exact absurd (Rd r1 c1' _ oM b A (by simp) E q5) (hnb j o' hdj b f1 f2 (f3 b q6))
    ·exact XM.inj r1 r2 c1' c2' oM Ax b A h1' E h2' q5 q6
end
end Go.Abs
end
section
namespace Go.Abs
section
variable {P:Program} {F:Nat->Prop} {K:j0} {H:Nat->Option Hd} {w:World} {m:Mm} {nx:Nat} {v:BV} {new:List HO} {set:List (Nat×HO)} {rd:List Nat} {ev:Operand->BV} {ρ:Operand->Value}
theorem lX(ev:Operand->BV):∀ (l:List Operand) (a:List BV),eV ev l a=l.map ev++a
 |[],_=>rfl
 |o::l,a=>by show ev o::eV ev l a=_;rw[lX ev l];rfl
def SK(k n:Nat):List BV:=(List.range k).map fun i=>BV.c (R6 n i)
theorem iL:∀ (k n:Nat) (a:List BV),aA k n a=SK k n++a
 |0,n,a=>rfl
 |k+1,n,a=>by
  show BV.c (n % cB)::aA k (n/cB) a=_;rw[iL k];unfold SK;rw[List.range_succ_eq_map,List.map_cons,List.map_map,List.cons_append];congr 1
  ·rw[T8,Nat.pow_zero,Nat.div_one]
  ·congr 1;apply List.map_congr_left;intro i _;simp only[Function.comp,rT]
theorem bU.append{a b:List BV}{x y:List Value}(d:bU K H a x)(g:bU K H b y):bU K H (a++b) (x++y):=by
 refine⟨by rw[List.length_append,List.length_append,d.1,g.1],fun i c z e f=>?_⟩
 rcases Nat.lt_or_ge i a.length with hi|hi
 ·rw[List.getElem?_append_left hi]at e;rw[List.getElem?_append_left (by rw[d.1];exact hi)]at f
  exact d.2 i c z e f
 ·rw[List.getElem?_append_right hi]at e;rw[List.getElem?_append_right (by rw[d.1];exact hi),d.1]at f
  exact g.2 _ c z e f
theorem bU.map(n0:∀x,u7 K H (ev x) (ρ x))(l:List Operand):bU K H (l.map ev) (l.map ρ):=by
 refine⟨by simp,fun i c z a b=>?_⟩
 have d:i<l.length:=by simpa using Q9 a
 simp only[List.getElem?_map,List.getElem?_eq_getElem d,Option.map_some,Option.some.injEq]at a b;subst a;subst b;exact n0 _
theorem Ff{k n:Nat}{vs:Array Value}(b:vs.size=k)(h:∀ (i:Nat) (y:Value),vs[i]? =some y->j5 H (R6 n i) y):bU K H (SK k n) vs.toList:=by
 refine⟨by simp[SK,b],fun i c z a d=>?_⟩
 have e:i<k:=by simpa [SK]using Q9 a
 simp only[SK,List.getElem?_map,List.getElem?_range e,Option.map_some,Option.some.injEq]at a;subst a;exact .inr (.inr (h i z (by simpa using d)))
theorem SL(hm:j8 F K H w m){β:Type}{o:Nat}{g:Value}(D:u7 K H (.c o) g){args:List Operand}(n0:∀x,u7 K H (ev x) (ρ x)){e:Nat->β}{k:FuncId->List BV->List Nat->β}{z:β}(h:Ep (I6 m) o (eV ev args) e k=z):
  (∃n,e n=z)\/∃f p q l E,g=.func (.func f) p q/\k f l E=z/\bU K H l (p.toList++args.map ρ++q.toList):=by
 unfold Ep at h;rw[j2]at h;split at h
 ·rename_i s;have s:o % 8=7:=Nat.eq_of_beq_eq_true s;rcases(D.cell (by omega)).Zr s with⟨t,u⟩|⟨r,hd,p,q,t,G,L,q3,q4,q5,q6,q7,u⟩
  ·rw[t]at h;right;refine⟨fF o,#[],#[],_,_,u,h,?_⟩;rw[lX,List.append_nil];simpa using bU.map n0 args
  ·rw[t]at h;have h:=(show(@HO.rec (fun _=>β) (fun _ _=>e 190) (fun _ _ _ _=>e 191) (fun y A B C=>k (fF o) (aA y A (eV ev args (aA B C []))) [r]) (fun _ _ _ _=>e 192) (e 193) (I6 m r))=z from h)
   cases j:I6 m r with
   |f y A B C=>
    rw[j]at h;obtain⟨M,g2,N,I,J⟩:=hm.cont r _ .own hd (R0 j (by simp)) (by simp) G
    right;refine⟨fF o,p,q,_,_,u,h,?_⟩;rw[iL,lX,iL,List.append_nil,<-List.append_assoc];rw[g2]at q3;refine bU.append (bU.append (Ff (by omega) ?_) (bU.map n0 args)) (Ff (by omega) ?_)
    ·rw[<-I];exact q6
    ·rw[<-J];exact q7
   |c a b=>rw[j]at h;exact .inl ⟨_,h⟩
   |m a b c d=>rw[j]at h;exact .inl ⟨_,h⟩
   |i a b c d=>rw[j]at h;exact .inl ⟨_,h⟩
   |z=>rw[j]at h;exact .inl ⟨_,h⟩
 ·exact .inl ⟨_,h⟩
variable (l9:J0 F K w) (hm:j8 F K H w m) (n0:∀x,u7 K H (ev x) (ρ x)) (H7:∀i,i<new.length->H (nx+i)=none)
include l9 hm n0 H7
omit l9 hm n0 H7 in
theorem Mj{q:List Nat}{z:l8}(h:Er q z=.ok v new set rd):∃rd',z=.ok v new set rd'/\rd=q++rd':=by
 cases z with
 |er c x=>cases h
 |ok v' a b rd'=>
  obtain⟨rfl,rfl,rfl,d⟩:=l8.ok.inj (show l8.ok v' a b (q++rd')=_ from h);exact⟨rd',rfl,d.symm⟩
theorem a2P{R:J6}(p:P2 P R)(o:Oper){c:Call}{g:Operand}(q:o.op=.call c)(r:c.callee=.value g)(h:qH R (I6 m) (ev g) c ev nx=.ok v new set rd):B3 P F K H w m nx v new set ((execOp ρ o).run P w):=by
 obtain⟨y,s,h⟩:=z7 h;rcases SL hm (s▸n0 g) n0 h with⟨n,h⟩|⟨f,j,k,l,z,t,h,e⟩
 ·cases h
 ·rw[J8]at h;obtain⟨u,h,_⟩:=Mj h;have e:bU K H l (j++c.args.map ρ++k).toList:=by simpa using e
  obtain⟨b,a⟩:=ZK l9 hm H7 p e h;have d:(execOp ρ o).run P w=.ok (.enter f (j++c.args.map ρ++k)) w:=by
   simp only[execOp,q,resolve,r,t,Deferred.ofValue,Sem.run_bind,Sem.run_pure,Result.andThen_ok,invoke];exact b _ _
  rw[d];exact⟨rfl,a⟩
omit l9 hm n0 H7 in
theorem eH{c:Call}{n:Nat}(h:P1 c n=true):c.args.size=n/\c.argTypes.size=n:=by
 simp only[P1,Bool.and_eq_true,Nat.beq_eq]at h;exact h
omit l9 hm n0 H7 in
theorem Fg{α:Type}{a:Array α}{d:α}(h:a.size=1):a.toList=[a.getD 0 d]:=by
 obtain⟨l⟩:=a
 match l,h with
 |[x],_=>rfl
omit l9 hm n0 H7 in
theorem Fh{α:Type}{a:Array α}{d:α}(h:a.size=2):a.toList=[a.getD 0 d,a.getD 1 d]:=by
 obtain⟨l⟩:=a
 match l,h with
 |[x,y],_=>rfl
variable (hn:nx<1048575)
include hn
theorem Mk{R:J6}(o:Oper){c:Call}{b:Builtin}(e:o.op=.call c)(f:c.callee=.builtin b)(h:lQ c b P R ev nx (I6 m)=.ok v new set rd):B3 P F K H w m nx v new set ((execOp ρ o).run P w):=by
 cases b with
 |append=>
  obtain⟨a,h⟩:=c6 (show nB (P1 c 2) 201 (fK P (y0 c) (y1 c) (ev (a0 c)) (ev (a1 c)) nx (I6 m))=_ from h);obtain⟨a,d⟩:=eH a;exact Wx l9 hm H7 hn n0 o e f (Fh a) (Fh d) h
 |cap=>
  obtain⟨a,h⟩:=c6 (show nB (P1 c 1) 202 (Zh P (y0 c) (ev (a0 c)))=_ from h);obtain⟨a,d⟩:=eH a;exact a6y l9 hm n0 o e f (Fg a) (Fg d) h
 |clear=>
  obtain⟨a,h⟩:=c6 (show nB (P1 c 1) 203 (nL P (y0 c) (ev (a0 c)) (I6 m))=_ from h);obtain⟨a,d⟩:=eH a;exact ZC l9 hm n0 o e f (Fg a) (Fg d) h
 |copy=>
  obtain⟨a,h⟩:=c6 (show nB (P1 c 2) 204 (xI P (y0 c) (y1 c) (ev (a0 c)) (ev (a1 c)) (I6 m))=_ from h);obtain⟨a,d⟩:=eH a;exact a2w l9 hm n0 o e f (Fh a) (Fh d) h
 |delete=>
  obtain⟨a,h⟩:=c6 (show nB (P1 c 2) 205 (jP P (y0 c) (ev (a0 c)) (ev (a1 c)) (I6 m))=_ from h);obtain⟨a,d⟩:=eH a;exact WD l9 hm n0 o e f (Fh a) (Fh d) h
 |len=>
  obtain⟨a,h⟩:=c6 (show nB (P1 c 1) 206 (Zg P (y0 c) (ev (a0 c)))=_ from h);obtain⟨a,d⟩:=eH a;exact a6v l9 hm n0 o e f (Fg a) (Fg d) h
 |max=>exact a6w l9 hm n0 o e f h
 |min=>exact a6x l9 hm n0 o e f h
 |_=>exact l8.noConfusion h
theorem SM{R:J6}(p:P2 P R)(o:Oper)(h:OO o.op P R ev nx (I6 m)=.ok v new set rd):B3 P F K H w m nx v new set ((execOp ρ o).run P w):=by
 cases j:o.op with
 |move x=>rw[j]at h;exact Wk l9 hm n0 o (.inl j) h
 |assign x=>rw[j]at h;exact Wk l9 hm n0 o (.inr j) h
 |pick c a b=>rw[j]at h;exact a2r l9 hm n0 o j h
 |alloc e=>rw[j]at h;exact Zy l9 hm n0 H7 hn o j h
 |box e x=>rw[j]at h;exact a6u l9 hm n0 H7 hn o j h
 |build t ps=>rw[j]at h;exact ZB l9 hm n0 o j h
 |buildSlice t n ps=>rw[j]at h;exact Jd l9 hm n0 H7 hn o j h
 |insert t x i y=>rw[j]at h;exact Bj l9 hm n0 o (.inr j) h
 |load t x=>rw[j]at h;exact a2t l9 hm n0 o j h
 |store t a x=>rw[j]at h;exact Zx l9 hm n0 o j h
 |nilCheck x=>rw[j]at h;exact OV l9 hm n0 o j h
 |binOp op t x y u=>rw[j]at h;exact Zt l9 hm n0 o j h
 |unOp op t x=>rw[j]at h;exact a2s l9 hm n0 o j h
 |convert s d x=>rw[j]at h;exact SA l9 hm n0 o j h
 |makeFunc f a b=>rw[j]at h;exact Pg l9 hm n0 H7 hn o j h
 |makeMap t r=>
  rw[j]at h;cases r with
  |none=>exact SG l9 hm H7 hn o j h
  |some r=>exact l8.noConfusion (show l8.er 210 0=_ from h)
 |makeSlice t l c=>rw[j]at h;exact Mb (R:=R) l9 hm n0 H7 hn o j h
 |slice t x lo hi mx=>rw[j]at h;exact ZA l9 hm n0 o j h
 |fieldAddr t x f=>rw[j]at h;exact LW l9 hm n0 o j h
 |field t x f=>rw[j]at h;exact Zw l9 hm n0 o j h
 |indexAddr t x i=>rw[j]at h;exact Ma l9 hm n0 o j h
 |index t x i=>rw[j]at h;exact Zz l9 hm n0 o j h
 |range t x=>rw[j]at h;exact ZE l9 hm n0 H7 hn o j h
 |entry i=>rw[j]at h;exact ZF l9 hm n0 o j h
 |lookup t x i q=>rw[j]at h;exact WC l9 hm n0 o j h
 |mapUpdate t x i y=>rw[j]at h;exact Bj l9 hm n0 o (.inl j) h
 |mapEntry t x i=>rw[j]at h;exact Pf l9 hm n0 o j h
 |entryStore t x s y=>rw[j]at h;exact Jf l9 hm n0 o j h
 |extract x i=>rw[j]at h;exact SE l9 hm n0 o j h
 |call c=>
  rw[j]at h;have h:xK c P R ev nx (I6 m)=.ok v new set rd:=h;unfold xK at h;cases k:c.callee with
  |value g=>rw[k]at h;exact a2P l9 hm n0 H7 p o j k h
  |invoke r n=>rw[k]at h;exact l8.noConfusion h
  |builtin b=>rw[k]at h;exact Mk l9 hm n0 H7 hn o j k h
 |_=>rw[j]at h;exact l8.noConfusion h
end
end Go.Abs
end
section
namespace Go.Abs
section
variable {P:Program} {nx:Nat} {v:BV} {new:List HO} {set:List (Nat×HO)} {rd:List Nat} {ev ev':Operand->BV} {D D':Hp} {R:J6}
theorem Ml{c:Nat}{k:l8}:nB true c k=k:=rfl
theorem a2Q{n:Nat}{k:Nat->l8}:vC (.c n) k=k n:=rfl
theorem a1f{x:BV}{k k':Nat->l8}(h:vI x k=.ok v new set rd)(a:∀j,k j=.ok v new set rd->k' j=.ok v new set rd):vI x k'=.ok v new set rd:=by
 obtain⟨c,e,b,d,f⟩:=Bf h;rw[e];show nB (rM c) 97 (nB (Nat.ble cZ (s8 c)) 98 (k' (Nat.sub (s8 c) cZ)))=_;rw[b,Nat.ble_eq_true_of_le d];exact a _ f
theorem Pp{a c:Nat}{k k':Nat->Nat->List Nat->l8}(h:Zf D a c k=.ok v new set rd)(j:∀l n q,k l n q=.ok v new set rd->(∀r∈q,r∈rd)/\((∀r∈rd,D' r=D r)->k' l n q=.ok v new set rd))(b:∀r∈rd,D' r=D r):Zf D' a c k'=.ok v new set rd:=by
 rcases ES h with⟨rfl,d⟩|⟨f,s,n,hd,g,d⟩
 ·exact(j _ _ _ d).2 b
 ·obtain⟨m,o⟩:=j _ _ _ d;have e:=b (sR c) (m _ (List.mem_singleton.2 rfl));have i:¬(Nat.beq c 25=true):=by
   intro g;rw[Nat.eq_of_beq_eq_true g]at f;exact absurd f (by decide)
  unfold Zf;rw[j2,if_neg i,f,e,hd];show nB (Nat.ble (sO c+sL c*a) s) 132 (k' (sL c) (BE n (sO c) (sL c*a)) [sR c])=_;rw[Nat.ble_eq_true_of_le g];exact o b
theorem ZM{t:TypeId}{x:BV}(h:tQ P t x D=.ok v new set rd)(f:∀r∈rd,D' r=D r):tQ P t x D'=.ok v new set rd:=by
 obtain⟨c,g,b⟩:=z7 h;subst g;clear h;have h:=b;clear b;have i:=h;obtain⟨k,h⟩:=c6 h;cases d:uU P t with
 |zero=>rw[d]at h;exact l8.noConfusion (show l8.er 74 0=_ from h)
 |succ a=>
  rw[d]at h;obtain⟨s,n,j,h⟩:=iJ (show hC (D (pR c)) (fun s n=>nB (Nat.ble (Nat.add (pO c) (aD (Nat.succ a))) s) 75 (.ok (BF a (BE n (pO c) (aD (Nat.succ a)))) [] [] [pR c]))=_ from h)
  obtain⟨l,h⟩:=c6 h;have e:=f (pR c) (by cases h;simp)
  unfold tQ;show nB (zU c) 73 (@Nat.rec (fun _=>l8) (.er 74 0) (fun a _=>hC (D' (pR c)) fun s n=>
   nB (Nat.ble (Nat.add (pO c) (aD (Nat.succ a))) s) 75 (.ok (BF a (BE n (pO c) (aD (Nat.succ a)))) [] [] [pR c])) (uU P t))=_
  rw[e];exact i
theorem WQ{t:TypeId}{a x:BV}(h:iA P t a x D=.ok v new set rd)(f:∀r∈rd,D' r=D r):iA P t a x D'=.ok v new set rd:=by
 obtain⟨c,g,d⟩:=z7 h;subst g;clear h;have h:=d;clear d;have i:=h;obtain⟨k,h⟩:=c6 h;obtain⟨s,n,j,h⟩:=iJ h;obtain⟨b,y,l,h⟩:=jT h;obtain⟨m,h⟩:=c6 h;obtain⟨o,h⟩:=c6 h;obtain⟨p,h⟩:=c6 h;have e:=f (pR c) (by cases h;simp)
 unfold iA;show nB (zU c) 76 (hC (D' (pR c)) fun s n=>vR x fun b y=>
  nB (Nat.beq b (j7 P t)) 77 (nB (Nat.ble 1 b) 78 (nB (Nat.ble (Nat.add (pO c) b) s) 79 (.ok (.c 1) [] [(pR c,.c s (U9 n (pO c) b y))] [pR c]))))=_
 rw[e];exact i
theorem WR{t:TypeId}{x:BV}{lo hi mx:Option Operand}(h:iE P t x lo hi mx ev D=.ok v new set rd)(m:∀r∈rd,D' r=D r):iE P t x lo hi mx ev D'=.ok v new set rd:=by
 obtain⟨c,p,j⟩:=z7 h;subst p;clear h;have h:=j;clear j;unfold iE;rw[j2]at h;show iB (zU c) _ _=_;rw[j2];split at h
 ·rename_i g;rw[if_pos g];have f:∀ {o:Option Operand} {d:Nat} {k k':Nat->l8},oI ev o d k=.ok v new set rd->(∀a,k a=.ok v new set rd->k' a=.ok v new set rd)->oI ev o d k'=.ok v new set rd:=by
   intro o d k k' h l;cases o with
   |none=>exact l _ h
   |some z=>exact a1f h l
  refine f h (fun a q=>f q (fun b i=>?_))
  cases mx with
  |some z=>exact l8.noConfusion (show l8.er 124 0=_ from i)
  |none=>
   have u:=i;obtain⟨_,h⟩:=c6 i;obtain⟨_,h⟩:=c6 h;obtain⟨_,h⟩:=c6 h;obtain⟨_,h⟩:=c6 h;obtain⟨_,h⟩:=c6 h;obtain⟨_,h⟩:=c6 h;obtain⟨s,n,w,h⟩:=iJ h;obtain⟨_,h⟩:=c6 h;have e:=m (pR c) (by cases h;simp)
   rw[e];exact u
 ·rename_i g;rw[if_neg g];exact h
theorem Re{t:TypeId}{c m ys:Nat}{q:List Nat}(h:LH P t c nx D m ys q=.ok v new set rd):(∀r∈q,r∈rd)/\((∀r∈rd,D' r=D r)->LH P t c nx D' m ys q=.ok v new set rd):=by
 unfold LH at h ⊢;rw[j2]at h ⊢;split at h
 ·rename_i f;rw[if_pos f];refine⟨fun r d=>?_,fun _=>h⟩
  obtain⟨_,h⟩:=c6 h;cases h;exact d
 ·rename_i f;rw[if_neg f];have b:∀ (l xs:Nat) (e:List Nat),nB (Nat.ble (Nat.add l m) 1048575) 133 (nB (Nat.ble (I5 P t) 255) 134 (nB (Nat.ble 1 (I5 P t)) 135
    (iB (iB (Nat.beq c 25) true (Nat.beq (sF c) 1))
     (.ok (.c (Ar nx 0 (Nat.add l m) (I5 P t) 0)) [.c (Nat.mul (Nat.add l m) (I5 P t)) (qC (Nat.add xs (Nat.mul ys (Nat.pow cB (Nat.mul l (I5 P t))))))] [] (List.append e q))
     (nB (Nat.beq (sO c) 0) 136 (nB (Nat.beq (sE c) (I5 P t)) 137 (nB (iB (@List.rec Nat (fun _=>Bool) false (fun a _ _=>Nat.beq a (sR c)) q) false true) 138
      (.ok (.c (Ar nx 0 (Nat.add l m) (I5 P t) 0)) [.c (Nat.mul (Nat.add l m) (I5 P t)) (qC (Nat.add xs (Nat.mul ys (Nat.pow cB (Nat.mul l (I5 P t))))))] [(sR c,.z)] (List.append e q))))))))=l8.ok v new set rd->rd=e++q:=by
   intro l xs e h;obtain⟨_,h⟩:=c6 h;obtain⟨_,h⟩:=c6 h;obtain⟨_,h⟩:=c6 h;rw[j2]at h;split at h
   ·exact(l8.ok.inj h).2.2.2.symm
   ·obtain⟨_,h⟩:=c6 h;obtain⟨_,h⟩:=c6 h;obtain⟨_,h⟩:=c6 h;exact(l8.ok.inj h).2.2.2.symm
  refine⟨fun r d=>?_,fun j=>Pp h (fun l n e i=>⟨fun r d=>?_,fun _=>i⟩) j⟩
  ·rcases ES h with⟨_,g⟩|⟨_,_,_,_,_,g⟩
   ·rw[b _ _ _ g];exact List.mem_append_right _ d
   ·rw[b _ _ _ g];exact List.mem_append_right _ d
  ·rw[b _ _ _ i];exact List.mem_append_left _ d
theorem SN{t u:TypeId}{x y:BV}(h:fK P t u x y nx D=.ok v new set rd)(e:∀r∈rd,D' r=D r):fK P t u x y nx D'=.ok v new set rd:=by
 obtain⟨f,g⟩:=c6 h;obtain⟨i,k⟩:=c6 g;obtain⟨c,rfl,a⟩:=z7 k;unfold fK;rw[f,i];show iB (Nat.beq (kdT P u) 4) _ _=_;rw[j2]at a ⊢;split at a
 ·rename_i b;rw[if_pos b];refine a1f a (fun j k3=>?_)
  obtain⟨o,k4⟩:=c6 k3;rw[o,Ml];exact(Re k4).2 e
 ·rename_i b;rw[if_neg b];obtain⟨p,k3⟩:=c6 a;obtain⟨d,rfl,k4⟩:=z7 k3;rw[p];show Zf D' (I5 P t) d (fun m ys rd=>LH P t c nx D' m ys rd)=_
  exact Pp k4 (fun l n q s=>Re s) e
theorem Mn{c:Nat}{k k':Nat->l8}(h:iD c k=.ok v new set rd)(a:∀l,k l=.ok v new set rd->k' l=.ok v new set rd):iD c k'=.ok v new set rd:=by
 unfold iD at h ⊢;rw[j2]at h ⊢;split at h
 ·rename_i e;rw[if_pos e];exact a _ h
 ·rename_i e;rw[if_neg e];obtain⟨b,h⟩:=c6 h;rw[b];exact a _ h
theorem WS{t:TypeId}{x:BV}(h:nL P t x D=.ok v new set rd)(g:∀r∈rd,D' r=D r):nL P t x D'=.ok v new set rd:=by
 obtain⟨c,i,d⟩:=z7 h;subst i;clear h;have h:=d;clear d;unfold nL;show @Option.rec TypeId (fun _=>l8) (.er 145 0) (fun e=>nB (cX P e) 146 (nB (Nat.ble 1 (I5 P t)) 135 (iD c fun l=>iB (Nat.beq l 0) (kM 1) (hC (D' (sR c)) fun s n=>
  nB (Nat.ble (Nat.add (sO c) (Nat.mul l (I5 P t))) s) 147 (.ok (.c 1) [] [(sR c,.c s (U9 n (sO c) (Nat.mul l (I5 P t)) (LF (lO P e) (I5 P t) l)))] [sR c]))))) (Ge P t)=_
 cases f:Ge P t with
 |none=>rw[f]at h;exact l8.noConfusion (show l8.er 145 0=_ from h)
 |some e=>
  rw[f]at h;obtain⟨j,h⟩:=c6 h;obtain⟨k,h⟩:=c6 h;show nB (cX P e) 146 (nB (Nat.ble 1 (I5 P t)) 135 (iD c _))=_;rw[j,k,Ml,Ml];refine Mn h (fun l a=>?_)
  rw[j2]at a ⊢;split at a
  ·rename_i b;rw[if_pos b];exact a
  ·rename_i b;rw[if_neg b];have m:=a;obtain⟨s,n,o,a⟩:=iJ a;obtain⟨_,a⟩:=c6 a;have p:=g (sR c) (by cases a;simp)
   rw[p];exact m
theorem ZN{t u:TypeId}{x y:BV}(h:xI P t u x y D=.ok v new set rd)(j:∀r∈rd,D' r=D r):xI P t u x y D'=.ok v new set rd:=by
 obtain⟨o,p⟩:=c6 h;obtain⟨w,z⟩:=c6 p;obtain⟨c,rfl,A⟩:=z7 z;obtain⟨d,rfl,k3⟩:=z7 A;unfold xI;rw[o,w,Ml,Ml,a2Q,a2Q];refine Pp k3 (fun m ys q k=>?_) j
 have e:(∀r∈q,r∈rd)/\∀l,fN (iB (Nat.ble m l) m l) (fun a=>iB (Nat.beq a 0) (.ok (.c (iZ 0)) [] [] q) (hC (D (sR c)) fun s n=>nB (Nat.ble (Nat.add (sO c) (Nat.mul a (I5 P t))) s) 144
   (.ok (.c (iZ a)) [] [(sR c,.c s (U9 n (sO c) (Nat.mul a (I5 P t)) (hZ ys 0 (Nat.mul a (I5 P t)))))] (sR c::q))))=.ok v new set rd->
   fN (iB (Nat.ble m l) m l) (fun a=>iB (Nat.beq a 0) (.ok (.c (iZ 0)) [] [] q) (hC (D' (sR c)) fun s n=>nB (Nat.ble (Nat.add (sO c) (Nat.mul a (I5 P t))) s) 144
   (.ok (.c (iZ a)) [] [(sR c,.c s (U9 n (sO c) (Nat.mul a (I5 P t)) (hZ ys 0 (Nat.mul a (I5 P t)))))] (sR c::q))))=.ok v new set rd:=by
  have one:∀l,fN (iB (Nat.ble m l) m l) (fun a=>iB (Nat.beq a 0) (.ok (.c (iZ 0)) [] [] q) (hC (D (sR c)) fun s n=>nB (Nat.ble (Nat.add (sO c) (Nat.mul a (I5 P t))) s) 144
   (.ok (.c (iZ a)) [] [(sR c,.c s (U9 n (sO c) (Nat.mul a (I5 P t)) (hZ ys 0 (Nat.mul a (I5 P t)))))] (sR c::q))))=.ok v new set rd->(∀r∈q,r∈rd)/\fN (iB (Nat.ble m l) m l) (fun a=>iB (Nat.beq a 0) (.ok (.c (iZ 0)) [] [] q) (hC (D' (sR c)) fun s n=>nB (Nat.ble (Nat.add (sO c) (Nat.mul a (I5 P t))) s) 144
   (.ok (.c (iZ a)) [] [(sR c,.c s (U9 n (sO c) (Nat.mul a (I5 P t)) (hZ ys 0 (Nat.mul a (I5 P t)))))] (sR c::q))))=.ok v new set rd:=by
   intro l b;rw[J8,j2 (Nat.beq _ 0)]at b ⊢;split at b
   ·rename_i f;rw[if_pos f];exact⟨fun r g=>by cases b;exact g,b⟩
   ·rename_i f;rw[if_neg f];have B:=b;obtain⟨s,n,C,b⟩:=iJ b;obtain⟨_,b⟩:=c6 b;have E:=j (sR c) (by cases b;simp)
    rw[E];exact⟨fun r g=>by cases b;exact List.mem_cons_of_mem _ g,B⟩
  refine⟨?_,fun l b=>(one l b).2⟩
  rcases lV k with⟨_,i⟩|⟨_,i⟩
  ·exact(one _ i).1
  ·exact(one _ i).1
 exact⟨e.1,fun _=>Mn k e.2⟩
theorem yE{t:TypeId}{x i:BV}{k:Nat->Nat->Nat->Nat->ME->Nat->l8}(h:tR P t x i D k=.ok v new set rd)(d:∀r a ks vs l clk,k r a ks vs l clk=.ok v new set rd->r∈rd)(f:∀r∈rd,D' r=D r):tR P t x i D' k=.ok v new set rd:=by
 obtain⟨c,g,b⟩:=z7 h;subst g;clear h;have h:=b;clear b;have j:=h;obtain⟨n,h⟩:=c6 h;obtain⟨ks,vs,l,clk,o,h⟩:=tU h;obtain⟨p,h⟩:=c6 h;obtain⟨q,h⟩:=c6 h;obtain⟨u,h⟩:=c6 h;obtain⟨s,a,m,h⟩:=jT h;obtain⟨w,h⟩:=c6 h;have e:=f (mR c) (d _ _ _ _ _ _ h);unfold tR;show nB (XS c) 162 (hM (D' (mR c)) _)=_;rw[e];exact j
theorem WT{t:TypeId}{x:BV}(a:zW P t x nx D=.ok v new set rd)(b:∀r∈rd,D' r=D r):zW P t x nx D'=.ok v new set rd:=by
 obtain⟨c,rfl,h⟩:=z7 a;have d:=h;obtain⟨f,h⟩:=c6 h;obtain⟨ks,vs,l,clk,g,h⟩:=tU h;obtain⟨i,h⟩:=c6 h;obtain⟨j,h⟩:=c6 h;cases h;have e:=b (mR c) (by simp)
 show nB (XS c) 224 (hM (D' (mR c)) _)=_;rw[e];exact d
theorem WU{x:BV}(k:uW x D=.ok v new set rd)(d:∀r∈rd,D' r=D r):uW x D'=.ok v new set rd:=by
 obtain⟨c,rfl,h⟩:=z7 k;have e:=h;obtain⟨o,h⟩:=c6 h;obtain⟨q,h⟩:=c6 h;obtain⟨a,b,seen,f,g,h⟩:=WE h;obtain⟨ks,vs,l,clk,u,h⟩:=tU h;obtain⟨w,h⟩:=c6 h;obtain⟨y,h⟩:=c6 h;cases seen with
 |nil=>cases h
 |cons s seen=>
  obtain⟨j,p,z,m,h⟩:=Ci (show Sv s l (fun p=>.ok (.t [(ks,p.2.1),(vs,p.2.2)]) [] [] [pR c,a]) (.er 231 0)=_ from h)
  cases h;have i:=d (pR c) (by simp)
  have n:=d a (by simp)
  rw[g]at i;rw[g]at e;show nB (zU c) 226 (nB (Nat.beq (pO c) 0) 227 (hI (D' (pR c)) _))=_;rw[i];show nB (zU c) 226 (nB (Nat.beq (pO c) 0) 227 (hM (D' a) _))=_;rw[n];exact e
theorem SO{t:TypeId}{x i:BV}{b:Bool}(h:rO P t x i b D=.ok v new set rd)(c:∀r∈rd,D' r=D r):rO P t x i b D'=.ok v new set rd:=by
 refine yE h (fun r d ks vs l clk a=>?_) c
 rw[eG]at a;cases b<;>(split at a<;>first|(cases a;simp)|(split at a<;>cases a<;>simp))
theorem yF{t:TypeId}{x i y:BV}(h:V1 P t x i y D=.ok v new set rd)(b:∀r∈rd,D' r=D r):V1 P t x i y D'=.ok v new set rd:=by
 refine yE h (fun r c ks vs l clk a=>?_) b
 obtain⟨_,a⟩:=c6 a;obtain⟨s,n,_,a⟩:=jT a;rw[eG]at a;simp only[qK,EU]at a
 repeat' split at a
 all_goals (cases a;simp)
theorem Mo{t:TypeId}{x i:BV}(h:fZ P t x i D=.ok v new set rd)(b:∀r∈rd,D' r=D r):fZ P t x i D'=.ok v new set rd:=by
 refine yE h (fun r c ks vs l clk a=>?_) b
 obtain⟨_,a⟩:=c6 a;rw[eG]at a;simp only[qK]at a
 repeat' split at a
 all_goals first|(cases a;simp;done)|(obtain⟨_,a⟩:=c6 a;cases a;simp)
theorem SP{t:TypeId}{x i:BV}(h:jP P t x i D=.ok v new set rd)(b:∀r∈rd,D' r=D r):jP P t x i D'=.ok v new set rd:=by
 refine yE h (fun r c ks vs l clk a=>?_) b
 rw[EV]at a;split at a<;>(cases a;simp)
theorem Gi{x i y:BV}(h:Y6 x i y D=.ok v new set rd)(b:∀r∈rd,D' r=D r):Y6 x i y D'=.ok v new set rd:=by
 obtain⟨c,d,a⟩:=z7 h;subst d;clear h;have h:=a;clear a;obtain⟨f,h⟩:=c6 h;obtain⟨c',g,j,k,h⟩:=Bf h;have m:=h;obtain⟨ks,vs,l,clk,o,h⟩:=tU h;obtain⟨p,h⟩:=c6 h;obtain⟨s,n,_,h⟩:=jT h;rw[EW]at h;have e:D' (mR c)=D (mR c):=b _ (by
  split at h
  ·cases h
  ·split at h<;>cases h
   simp)
 unfold Y6;show nB (XS c) 167 (vI i _)=_;rw[f,g];show nB (rM c') 97 (nB (Nat.ble cZ (s8 c')) 98 (hM (D' (mR c)) _))=_;rw[j,Nat.ble_eq_true_of_le k,e];exact m
theorem Fi(i:∀r∈rd,D' r=D r):∀ (fuel:Nat) (q a:List Nat) (L:Lk) (m:Nat) (d:List HO) (k k':List HO->Lk->Nat->l8),(∀r∈q,r∈L.map (·.1))->(∀r∈a,r∈L.map (·.1))->
  (∀d L m,k d L m=.ok v new set rd->(∀r∈L.map (·.1),r∈rd)/\k' d L m=.ok v new set rd)->qG D fuel q a L m d k=.ok v new set rd->(∀r∈L.map (·.1),r∈rd)/\qG D' fuel q a L m d k'=.ok v new set rd
 |0,q,a,L,m,d,k,k',_,_,_,h=>l8.noConfusion (show l8.er 185 0=_ from h)
 |fuel+1,[],[],L,m,d,k,k',_,_,f,h=>f _ _ _ h
 |fuel+1,[],b::s,L,m,d,k,k',j,l,f,h=>by
  have h:qG D fuel (LJ (b::s)) [] L m d k=.ok v new set rd:=h;show _/\qG D' fuel (LJ (b::s)) [] L m d k'=.ok v new set rd;rw[xY]at h ⊢;exact Fi i fuel _ [] L m d k k' (fun r n=>l r (List.mem_reverse.1 n)) (fun r n=>by cases n) f h
 |fuel+1,r::p,a,L,m,d,k,k',j,l,f,h=>by
  have h:En (D r) L a m (fun o L a m=>qG D fuel p a L m (o::d) k)=.ok v new set rd:=h
  show _/\En (D' r) L a m (fun o L a m=>qG D' fuel p a L m (o::d) k')=.ok v new set rd
  rcases EZ (Q:=fun _=>True) (L:=L) (q:=a) (m:=m) (Cl (D r))with⟨c,x,y⟩|⟨t,o,B,_,_,u⟩
  ·rw[y]at h;cases h
  ·rw[u]at h;have e:∀x,x∈(ad m t++L).map (·.1)↔x∈t\/x∈L.map (·.1):=by
    intro x;rw[List.map_append,List.mem_append,Po]
   obtain⟨z,g2⟩:=Fi i fuel p (t++a) _ _ (o::d) k k' (fun x g=>(e x).2 (.inr (j x (List.mem_cons_of_mem _ g)))) (fun x g=>(e x).2 ((List.mem_append.1 g).elim .inl (fun A=>.inr (l x A)))) f h
   have w:∀x∈L.map (·.1),x∈rd:=fun x g=>z x ((e x).2 (.inr g))
   refine⟨w,?_⟩;rw[i r (w r (j r (List.mem_cons_self ..))),u];exact g2
theorem Fj{L:Lk}:∀ (l:List HO) (c:List Nat) (k:List (Nat×HO)->List HO->l8),(∀r∈c,D' r=D r)->Y7 D' l c L k=Y7 D l c L k
 |[],c,k,_=>rfl
 |o::l,c,k,g=>by
  show En o L [] 0 (fun o' _ q _=>nB (Nat.beq (eP q) 0) 186 (@List.rec Nat (fun _=>l8) (Y7 D' l c L fun s n=>k s (o'::n)) (fun r d _=>Y7 D' l d L fun s n=>iB (Eo o' (D' r)) (k s n) (k ((r,o')::s) n)) c))=_
  have e:(fun(o':HO) (_:Lk) (q:List Nat) (_:Nat)=>nB (Nat.beq (eP q) 0) 186 (@List.rec Nat (fun _=>l8) (Y7 D' l c L fun s n=>k s (o'::n)) (fun r d _=>Y7 D' l d L fun s n=>iB (Eo o' (D' r)) (k s n) (k ((r,o')::s) n)) c))=
    fun o' _ q _=>nB (Nat.beq (eP q) 0) 186 (@List.rec Nat (fun _=>l8) (Y7 D l c L fun s n=>k s (o'::n)) (fun r d _=>Y7 D l d L fun s n=>iB (Eo o' (D r)) (k s n) (k ((r,o')::s) n)) c):=by
   funext o' a q b;cases c with
   |nil=>
    show nB _ 186 (Y7 D' l [] L _)=nB _ 186 (Y7 D l [] L _);rw[Fj l [] _ (fun r f=>by cases f)]
   |cons r c=>
    show nB _ 186 (Y7 D' l c L _)=nB _ 186 (Y7 D l c L _);rw[g r (List.mem_cons_self ..),Fj l c _ (fun h f=>g h (List.mem_cons_of_mem _ f))]
  rw[e];rfl
theorem Fk{L:Lk}{v':BV}{olds:List Nat}:∀ (l:List HO) (a:List Nat) (k:List (Nat×HO)->List HO->l8),(∀s n,k s n=.ok v new set rd->rd=olds)->Y7 D l a L k=.ok v new set rd->rd=olds
 |[],a,k,d,h=>d _ _ h
 |o::l,a,k,d,h=>by
  have h:En o L [] 0 (fun o' _ q _=>nB (Nat.beq (eP q) 0) 186 (@List.rec Nat (fun _=>l8) (Y7 D l a L fun s n=>k s (o'::n)) (fun r e _=>Y7 D l e L fun s n=>iB (Eo o' (D r)) (k s n) (k ((r,o')::s) n)) a))=.ok v new set rd:=h
  rcases EZ (Q:=fun _=>True) (L:=L) (q:=[]) (m:=0) (Cl o)with⟨c,x,f⟩|⟨t,o',i,_,_,g⟩
  ·rw[f]at h;cases h
  ·rw[g]at h;obtain⟨_,h⟩:=c6 h;cases a with
   |nil=>exact Fk (v':=v') l [] _ (fun s n b=>d _ _ b) h
   |cons r a=>
    refine Fk (v':=v') l a _ (fun s n b=>?_) h
    rw[j2]at b;split at b
    ·exact d _ _ b
    ·exact d _ _ b
theorem SQ{f:FuncId}{args:List BV}(h:iG R D f args nx=.ok v new set rd)(z:∀r∈rd,D' r=D r):iG R D' f args nx=.ok v new set rd:=by
 unfold iG at h ⊢;rcases Ag (Q:=fun _=>True) args (L:=[]) (q:=[]) (m:=0) (fun b _=>by
  cases b with
  |c n=>exact fun _ _=>trivial
  |a s n=>exact fun _ _ _ _=>trivial
  |t l=>exact fun _ _ _ _ _ _=>trivial
  |u=>trivial)with⟨c,x,w⟩|⟨t,g,J,_,_,B⟩
 ·rw[w]at h;cases h
 ·rw[B]at h ⊢;simp only at h ⊢;have C:∀r∈LJ (t++ []),r∈(ad 0 t++([]:Lk)).map (·.1):=by
   intro r e;rw[xY,List.mem_reverse,List.append_nil]at e;rw[List.append_nil,Po];exact e
  refine(Fi z 2000 _ [] _ _ [] _ _ C (fun r e=>by cases e) (fun y L m d=>?_) h).2
  cases A:R f g (Wa y)with
  |er c x=>rw[A]at d;cases d
  |ok p j=>
   rw[A]at d;have d:fN (Nat.sub (eP j) m) (fun i=>nB (Nat.ble (Nat.add m (Nat.add nx i)) 1048574) 198 (nB (zV (V2 L)) 197 (LI p (lP i m nx (dL (V2 L) 0 [])) [] 0 fun v' _ q _=>nB (Nat.beq (eP q) 0) 187
    (Y7 D j (V2 L) (lP i m nx (dL (V2 L) 0 [])) fun s n=>.ok v' n s (V2 L)))))=.ok v new set rd:=d
   show _/\fN (Nat.sub (eP j) m) (fun i=>nB (Nat.ble (Nat.add m (Nat.add nx i)) 1048574) 198 (nB (zV (V2 L)) 197 (LI p (lP i m nx (dL (V2 L) 0 [])) [] 0 fun v' _ q _=>nB (Nat.beq (eP q) 0) 187
    (Y7 D' j (V2 L) (lP i m nx (dL (V2 L) 0 [])) fun s n=>.ok v' n s (V2 L)))))=.ok v new set rd
   rw[J8]at d ⊢;obtain⟨E,d⟩:=c6 d;obtain⟨F,d⟩:=c6 d;rw[E,F,Ml,Ml];rcases EY (Q:=fun _=>True) (x:=p) (L:=lP (Nat.sub (eP j) m) m nx (dL (V2 L) 0 [])) (q:=[]) (m:=0) (by
    cases p with
    |c n=>exact fun _ _=>trivial
    |a s n=>exact fun _ _ _ _=>trivial
    |t l=>exact fun _ _ _ _ _ _=>trivial
    |u=>trivial)with⟨c,x,w⟩|⟨K,v',_,_,_,G⟩
   ·rw[w]at d;cases d
   ·rw[G]at d ⊢;obtain⟨H,d⟩:=c6 d;have k:=Fk (v':=v') j _ _ (fun s n I=>((l8.ok.inj I).2.2.2).symm) d
    have o:∀r∈L.map (·.1),r∈rd:=by
     intro r e;rw[k,Hg,List.mem_reverse];exact e
    refine⟨o,?_⟩;rw[H,Ml];rw[Fj (D:=D) (D':=D') _ _ _ (fun r e=>z r (by rw[k];exact e))]
    exact d
theorem ZO{g:BV}{c:Call}(h:qH R D g c ev nx=.ok v new set rd)(x:∀r∈rd,D' r=D r):qH R D' g c ev nx=.ok v new set rd:=by
 obtain⟨k,A,B⟩:=z7 h;subst A;clear h;unfold qH;rw[a2Q];have h:Ep D k (eV ev c.args.toList) (fun n=>.er n 0) (fun f l q=>fN f fun f=>Er q (iG R D f l nx))=.ok v new set rd:=B
 have j:∀ (f:FuncId) (l:List BV) (q:List Nat),fN f (fun f=>Er q (iG R D f l nx))=.ok v new set rd->(∀r∈q,r∈rd)/\fN f (fun f=>Er q (iG R D' f l nx))=.ok v new set rd:=by
  intro f l q h;rw[J8]at h ⊢;obtain⟨C,E,u⟩:=Mj h;refine⟨fun r w=>by rw[u];exact List.mem_append_left _ w,?_⟩
  rw[SQ E (fun r w=>x r (by rw[u];exact List.mem_append_right _ w)),u]
  rfl
 unfold Ep at h ⊢;rw[j2]at h ⊢;split at h
 ·rename_i F;rw[if_pos F];cases y:fR k with
  |zero=>
   rw[y]at h;exact(j _ _ _ h).2
  |succ r=>
   rw[y]at h;have h: @HO.rec (fun _=>l8) (fun _ _=>.er 190 0) (fun _ _ _ _=>.er 191 0) (fun o p s t=>fN (fF k) fun f=>Er [r] (iG R D f (aA o p (eV ev c.args.toList (aA s t []))) nx)) (fun _ _ _ _=>.er 192 0) (.er 193 0) (D r)=.ok v new set rd:=h
   show @HO.rec (fun _=>l8) (fun _ _=>.er 190 0) (fun _ _ _ _=>.er 191 0) (fun o p s t=>fN (fF k) fun f=>Er [r] (iG R D' f (aA o p (eV ev c.args.toList (aA s t []))) nx)) (fun _ _ _ _=>.er 192 0) (.er 193 0) (D' r)=_
   cases e:D r with
   |f o p s t=>
    rw[e]at h;obtain⟨G,g2⟩:=j _ _ _ h;rw[x r (G r (List.mem_singleton.2 rfl)),e];exact g2
   |c a b=>rw[e]at h;cases h
   |m a b c d=>rw[e]at h;cases h
   |i a b c d=>rw[e]at h;cases h
   |z=>rw[e]at h;cases h
 ·cases h
end
end Go.Abs
end
section
namespace Go.Abs
section
variable {P:Program} {nx:Nat} {v:BV} {new:List HO} {set:List (Nat×HO)} {rd:List Nat} {ev ev':Operand->BV} {D D':Hp} {R:J6}
theorem yG{t:TypeId}:∀ (ps:List (Nat×Operand)) (n:Nat) (k:Nat->l8),(∀p∈ps,ev p.2=ev' p.2)->cQ P t ev ps n k=cQ P t ev' ps n k
 |[],_,_,_=>rfl
 |p::ps,n,k,h=>by
  show @Nat.rec (fun _=>l8) (.er 62 0) (fun o _=>vR (ev p.2) fun s x=>nB (Nat.beq s (aD (OK P t p.1))) 63 (nB (Nat.ble (Nat.add o s) (j7 P t)) 157 (fN (uT n o s x) fun a=>cQ P t ev ps a k))) (GW P t p.1)=
   @Nat.rec (fun _=>l8) (.er 62 0) (fun o _=>vR (ev' p.2) fun s x=>nB (Nat.beq s (aD (OK P t p.1))) 63 (nB (Nat.ble (Nat.add o s) (j7 P t)) 157 (fN (uT n o s x) fun a=>cQ P t ev' ps a k))) (GW P t p.1)
  rw[h p (List.mem_cons_self ..)];have e:∀a,cQ P t ev ps a k=cQ P t ev' ps a k:=fun a=>yG ps a k (fun q b=>h q (List.mem_cons_of_mem _ b))
  simp only[e]
theorem yH{a:Nat}:∀ (ps:List (Nat×Operand)) (i:Nat) (k:Nat->l8),(∀p∈ps,ev p.2=ev' p.2)->nI ev a ps i k=nI ev' a ps i k
 |[],_,_,_=>rfl
 |p::ps,i,k,h=>by
  show nB (Nat.beq p.1 i) 66 (vR (ev p.2) fun s x=>nB (Nat.beq s a) 67 (nI ev a ps (Nat.succ i) fun n=>k (Nat.add x (Nat.mul (Nat.pow cB a) n))))=
   nB (Nat.beq p.1 i) 66 (vR (ev' p.2) fun s x=>nB (Nat.beq s a) 67 (nI ev' a ps (Nat.succ i) fun n=>k (Nat.add x (Nat.mul (Nat.pow cB a) n))))
  rw[h p (List.mem_cons_self ..)];have e:∀k,nI ev a ps (Nat.succ i) k=nI ev' a ps (Nat.succ i) k:=fun k=>yH ps _ k (fun q b=>h q (List.mem_cons_of_mem _ b))
  simp only[e]
theorem vE:∀ (l:List Operand) (k:Nat->l8),(∀x∈l,ev x=ev' x)->El ev l k=El ev' l k
 |[],_,_=>rfl
 |o::l,k,h=>by
  show El ev l (fun m=>vC (ev o) fun c=>nB (Nat.ble 3 c) 170 (k (Nat.add c (Nat.mul cB m))))=El ev' l (fun m=>vC (ev' o) fun c=>nB (Nat.ble 3 c) 170 (k (Nat.add c (Nat.mul cB m))))
  rw[h o (List.mem_cons_self ..),vE l _ (fun q a=>h q (List.mem_cons_of_mem _ a))]
theorem Mp(l:List Operand)(tl:List BV)(h:∀x∈l,ev x=ev' x):eV ev l tl=eV ev' l tl:=by
 rw[lX,lX,List.map_congr_left h]
theorem Bm{b:Nat->Nat->Bool}:∀ (l:List Operand) (a:Nat),(∀x∈l,ev x=ev' x)->iF b ev l a=iF b ev' l a
 |[],_,_=>rfl
 |o::l,a,h=>by
  show(vC (ev o) fun c=>nB (Nat.beq (Nat.mod a 128) (Nat.mod c 128)) 152 (iB (b c a) (iF b ev l c) (iF b ev l a)))=vC (ev' o) fun c=>nB (Nat.beq (Nat.mod a 128) (Nat.mod c 128)) 152 (iB (b c a) (iF b ev' l c) (iF b ev' l a))
  rw[h o (List.mem_cons_self ..)];have e:∀a,iF b ev l a=iF b ev' l a:=fun a=>Bm l a (fun q d=>h q (List.mem_cons_of_mem _ d))
  simp only[e]
theorem Bn{b:Nat->Nat->Bool}(l:List Operand)(h:∀x∈l,ev x=ev' x):Bc b ev l=Bc b ev' l:=by
 cases l with
 |nil=>rfl
 |cons o l=>
  show(vC (ev o) fun c=>nB (rM c) 154 (iF b ev l c))=vC (ev' o) fun c=>nB (rM c) 154 (iF b ev' l c)
  rw[h o (List.mem_cons_self ..)];have e:∀a,iF b ev l a=iF b ev' l a:=fun a=>Bm l a (fun q d=>h q (List.mem_cons_of_mem _ d))
  simp only[e]
theorem Fl{o:Option Operand}{d:Nat}{k:Nat->l8}(h:∀x,o=some x->ev x=ev' x):oI ev o d k=oI ev' o d k:=by
 cases o with
 |none=>rfl
 |some x=>show vI (ev x) k=vI (ev' x) k;rw[h x rfl]
theorem Jh{t:TypeId}{x:BV}{lo hi mx:Option Operand}(h:∀y,lo=some y\/hi=some y\/mx=some y->ev y=ev' y):iE P t x lo hi mx ev D=iE P t x lo hi mx ev' D:=by
 unfold iE;simp only[Fl (o:=lo) (fun y a=>h y (.inl a)),Fl (o:=hi) (fun y a=>h y (.inr (.inl a))),Fl (o:=mx) (fun y a=>h y (.inr (.inr a)))]
theorem Fm{c:Call}{b:Builtin}(h:∀x∈c.args.toList,ev x=ev' x):lQ c b P R ev nx D=lQ c b P R ev' nx D:=by
 have f:P1 c 2=true->ev (a0 c)=ev' (a0 c)/\ev (a1 c)=ev' (a1 c):=fun hh=>by
  have i:=Fh (d:=default) (eH hh).1;constructor
  ·exact h _ (by rw[i];exact List.mem_cons_self ..)
  ·exact h _ (by rw[i];exact List.mem_cons_of_mem _ (List.mem_cons_self ..))
 have g:P1 c 1=true->ev (a0 c)=ev' (a0 c):=fun hh=>by
  have i:=Fg (d:=default) (eH hh).1;exact h _ (by rw[i];exact List.mem_cons_self ..)
 have a:∀ (k:BV->BV->l8) (n:Nat),nB (P1 c 2) n (k (ev (a0 c)) (ev (a1 c)))=nB (P1 c 2) n (k (ev' (a0 c)) (ev' (a1 c))):=by
  intro k n;cases hh:P1 c 2 with
  |false=>rfl
  |true=>rw[(f hh).1,(f hh).2]
 have e:∀ (k:BV->l8) (n:Nat),nB (P1 c 1) n (k (ev (a0 c)))=nB (P1 c 1) n (k (ev' (a0 c))):=by
  intro k n;cases hh:P1 c 1 with
  |false=>rfl
  |true=>rw[g hh]
 cases b with
 |append=>exact a (fun x y=>fK P (y0 c) (y1 c) x y nx D) 201
 |cap=>exact e (fun x=>Zh P (y0 c) x) 202
 |clear=>exact e (fun x=>nL P (y0 c) x D) 203
 |copy=>exact a (fun x y=>xI P (y0 c) (y1 c) x y D) 204
 |delete=>exact a (fun x y=>jP P (y0 c) x y D) 205
 |len=>exact e (fun x=>Zg P (y0 c) x) 206
 |max=>exact Bn _ h
 |min=>exact Bn _ h
 |_=>rfl
theorem SR{op:Op}(h:∀x∈op.operands.toList,ev x=ev' x):OO op P R ev nx D=OO op P R ev' nx D:=by
 cases op with
 |move x=>show vN (ev x)=vN (ev' x);rw[h x (by simp[Op.operands])]
 |assign x=>show vN (ev x)=vN (ev' x);rw[h x (by simp[Op.operands])]
 |pick c a b=>show QL (ev c) (ev a) (ev b)=QL (ev' c) (ev' a) (ev' b);rw[h c (by simp[Op.operands]),h a (by simp[Op.operands]),h b (by simp[Op.operands])]
 |alloc e=>rfl
 |box e x=>show Zc (ev x) nx=Zc (ev' x) nx;rw[h x (by simp[Op.operands])]
 |build t ps=>
  show Ej P t ps.toList ev=Ej P t ps.toList ev';unfold Ej;rw[yG ps.toList _ _ (fun p o=>h p.2 (by simp only[Op.operands];exact List.mem_map.2 ⟨p,o,rfl⟩))]
 |buildSlice t n ps=>
  show qE P t n ps.toList ev nx=qE P t n ps.toList ev' nx;unfold qE;rw[yH ps.toList _ _ (fun p o=>h p.2 (by simp only[Op.operands];exact List.mem_map.2 ⟨p,o,rfl⟩))]
 |insert t m k y=>show V1 P t (ev m) (ev k) (ev y) D=V1 P t (ev' m) (ev' k) (ev' y) D;rw[h m (by simp[Op.operands]),h k (by simp[Op.operands]),h y (by simp[Op.operands])]
 |load t x=>show tQ P t (ev x) D=tQ P t (ev' x) D;rw[h x (by simp[Op.operands])]
 |store t a x=>show iA P t (ev a) (ev x) D=iA P t (ev' a) (ev' x) D;rw[h a (by simp[Op.operands]),h x (by simp[Op.operands])]
 |nilCheck x=>show rN (ev x)=rN (ev' x);rw[h x (by simp[Op.operands])]
 |binOp op t x y u=>show VV P op t (ev x) (ev y)=VV P op t (ev' x) (ev' y);rw[h x (by simp[Op.operands]),h y (by simp[Op.operands])]
 |unOp op t x=>show xUn op (ev x)=xUn op (ev' x);rw[h x (by simp[Op.operands])]
 |convert s d x=>show QM P s d (ev x)=QM P s d (ev' x);rw[h x (by simp[Op.operands])]
 |makeFunc f a b=>
  show gA f a.toList b.toList ev nx=gA f a.toList b.toList ev' nx;unfold gA;have z:∀k,El ev a.toList k=El ev' a.toList k:=fun k=>vE _ k (fun x j=>h x (by simp only[Op.operands,Array.toList_append];exact List.mem_append_left _ j))
  have A:∀k,El ev b.toList k=El ev' b.toList k:=fun k=>vE _ k (fun x j=>h x (by simp only[Op.operands,Array.toList_append];exact List.mem_append_right _ j))
  simp only[z,A]
 |makeMap t r=>rfl
 |makeSlice t l c=>
  show rQ t l c P R ev nx D=rQ t l c P R ev' nx D;unfold rQ;rw[h l (by simp[Op.operands]),h c (by simp[Op.operands])]
 |slice t x lo hi mx=>
  show iE P t (ev x) lo hi mx ev D=iE P t (ev' x) lo hi mx ev' D;rw[h x (by simp[Op.operands])]
  refine Jh (fun y B=>h y ?_)
  simp only[Op.operands,Array.toList_append];rcases B with rfl|rfl|rfl<;>simp
 |fieldAddr t x f=>show nJ P t (ev x) f=nJ P t (ev' x) f;rw[h x (by simp[Op.operands])]
 |field t x f=>show iC P t (ev x) f=iC P t (ev' x) f;rw[h x (by simp[Op.operands])]
 |indexAddr t x i=>show nK P t (ev x) (ev i)=nK P t (ev' x) (ev' i);rw[h x (by simp[Op.operands]),h i (by simp[Op.operands])]
 |index t x i=>show qF P t (ev x) (ev i)=qF P t (ev' x) (ev' i);rw[h x (by simp[Op.operands]),h i (by simp[Op.operands])]
 |lookup t x i q=>show rO P t (ev x) (ev i) q D=rO P t (ev' x) (ev' i) q D;rw[h x (by simp[Op.operands]),h i (by simp[Op.operands])]
 |mapUpdate t m k y=>show V1 P t (ev m) (ev k) (ev y) D=V1 P t (ev' m) (ev' k) (ev' y) D;rw[h m (by simp[Op.operands]),h k (by simp[Op.operands]),h y (by simp[Op.operands])]
 |mapEntry t m k=>show fZ P t (ev m) (ev k) D=fZ P t (ev' m) (ev' k) D;rw[h m (by simp[Op.operands]),h k (by simp[Op.operands])]
 |entryStore t m s y=>show Y6 (ev m) (ev s) (ev y) D=Y6 (ev' m) (ev' s) (ev' y) D;rw[h m (by simp[Op.operands]),h s (by simp[Op.operands]),h y (by simp[Op.operands])]
 |extract x i=>show eD (ev x) i=eD (ev' x) i;rw[h x (by simp[Op.operands])]
 |range t x=>show zW P t (ev x) nx D=zW P t (ev' x) nx D;rw[h x (by simp[Op.operands])]
 |entry i=>show uW (ev i) D=uW (ev' i) D;rw[h i (by simp[Op.operands])]
 |call c=>
  show xK c P R ev nx D=xK c P R ev' nx D;have w:∀x∈c.args.toList,ev x=ev' x:=fun x j=>h x (by simp only[Op.operands,Call.operands,Array.toList_append];exact List.mem_append_right _ j)
  unfold xK;cases C:c.callee with
  |value g=>
   show qH R D (ev g) c ev nx=qH R D (ev' g) c ev' nx;rw[h g (by simp only[Op.operands,Call.operands,C,Array.toList_append];simp)]
   unfold qH;have e:∀tl,eV ev c.args.toList tl=eV ev' c.args.toList tl:=fun tl=>Mp _ tl w
   have E:eV ev c.args.toList=eV ev' c.args.toList:=funext e;rw[E]
  |invoke r n=>rfl
  |builtin b=>exact Fm w
 |_=>rfl
theorem Pq{op:Op}(h:OO op P R ev nx D=.ok v new set rd)(d:∀r∈rd,D' r=D r):OO op P R ev nx D'=.ok v new set rd:=by
 cases op with
 |insert t m k y=>exact yF h d
 |load t x=>exact ZM h d
 |store t a x=>exact WQ h d
 |slice t x lo hi mx=>exact WR h d
 |lookup t x i j=>exact SO h d
 |range t x=>exact WT h d
 |entry i=>exact WU h d
 |mapUpdate t m k y=>exact yF h d
 |mapEntry t m k=>exact Mo h d
 |entryStore t m s y=>exact Gi h d
 |call c=>
  have h:xK c P R ev nx D=.ok v new set rd:=h;show xK c P R ev nx D'=.ok v new set rd;unfold xK at h ⊢;cases f:c.callee with
  |value g=>rw[f]at h;exact ZO h d
  |invoke r n=>rw[f]at h;exact l8.noConfusion h
  |builtin b=>
   rw[f]at h;have h:lQ c b P R ev nx D=.ok v new set rd:=h;show lQ c b P R ev nx D'=.ok v new set rd;cases b with
   |append=>
    obtain⟨e,h⟩:=c6 (show nB (P1 c 2) 201 (fK P (y0 c) (y1 c) (ev (a0 c)) (ev (a1 c)) nx D)=_ from h);show nB (P1 c 2) 201 (fK P (y0 c) (y1 c) (ev (a0 c)) (ev (a1 c)) nx D')=_;rw[e];exact SN h d
   |clear=>
    obtain⟨e,h⟩:=c6 (show nB (P1 c 1) 203 (nL P (y0 c) (ev (a0 c)) D)=_ from h);show nB (P1 c 1) 203 (nL P (y0 c) (ev (a0 c)) D')=_;rw[e];exact WS h d
   |copy=>
    obtain⟨e,h⟩:=c6 (show nB (P1 c 2) 204 (xI P (y0 c) (y1 c) (ev (a0 c)) (ev (a1 c)) D)=_ from h);show nB (P1 c 2) 204 (xI P (y0 c) (y1 c) (ev (a0 c)) (ev (a1 c)) D')=_;rw[e];exact ZN h d
   |delete=>
    obtain⟨e,h⟩:=c6 (show nB (P1 c 2) 205 (jP P (y0 c) (ev (a0 c)) (ev (a1 c)) D)=_ from h);show nB (P1 c 2) 205 (jP P (y0 c) (ev (a0 c)) (ev (a1 c)) D')=_;rw[e];exact SP h d
   |_=>exact h
 |_=>exact h
theorem Ji(J:P2 P R){o:Oper}{E:Nat}{A:J1}{T:Nat->a7}{m:Mm}(L:∀t,T t=Q2 (F7 E A t))(M:I6 m=D)(N:nx<1048575)(h:OO o.op P R (eF E A) nx D=.ok v new set rd):UK P o T nx m (Q2 v) new set rd:=by
 refine⟨fun c e=>by rw[e]at h;exact l8.noConfusion h,fun V k l n F K H w a p q j s=>?_⟩
 classical
 let ev':Operand->BV:=fun x=>match x with
  |.tmp t=>if Operand.tmp t∈o.op.operands.toList then F7 E A t else .u
  |x=>eF E A x
 have z:OO o.op P R ev' nx D=.ok v new set rd:=by
  rw[<-h];refine SR (fun x B=>?_)
  cases x with
  |tmp t=>show(if Operand.tmp t∈o.op.operands.toList then F7 E A t else .u)=F7 E A t;rw[if_pos B]
  |_=>rfl
 have C:OO o.op P R ev' nx (I6 k)=.ok v new set rd:=by
  refine Pq z (fun r O=>?_)
  rw[<-M];unfold I6;rw[n r O]
 have G:∀x,u7 K H (ev' x) (a.eval x):=by
  intro x;cases x with
  |tmp t=>
   show u7 K H (if Operand.tmp t∈o.op.operands.toList then F7 E A t else .u) (a.tmps.getD t undef)
   split
   ·rename_i B;have:=j t;rw[l t B,L]at this;exact fT this
   ·trivial
  |const y=>exact EI y
  |global g=>trivial
  |func f=>
   show u7 K H (iB (Nat.ble f 65535) (.c (vM f 0)) .u) (.func (.func f) #[] #[]);rw[j2];split
   ·rename_i I;have I:f<=65535:=Nat.le_of_ble_eq_true I;exact .inr (.inr (.HE f (Nat.lt_succ_of_le I)))
   ·trivial
 have d:=SM p q G s N J o C;generalize (execOp a.eval o).run P w=S at d ⊢;have i:∀ {x w' K' H'},V4 F K H w k nx v new set x w' K' H'->Dj F K H w k nx (Q2 v) new set x w' K' H':=fun b=>⟨b.le,b.hle,b.I2,b.rep.Q2,b.mem,b.ok,b.kept,b.fix⟩
 cases S with
 |ok x w'=>
  cases x<;>simp only[B3]at d<;>simp only[Ij]<;>try exact d.elim
  ·obtain⟨K',H',b⟩:=d;exact⟨K',H',i b⟩
  ·obtain⟨K',H',b⟩:=d;exact⟨K',H',i b⟩
  ·exact⟨d.1,d.2.mono fun e U ⟨x,K',H',z,C⟩=>⟨x,K',H',z,i C⟩⟩
 |halt x w'=>exact d.elim
end
end Go.Abs
end
section
namespace Go.Abs
theorem Jj{β:Type}{m:Nat}(a b c d:β):Gf m a b c d=if m=0 then a else if m=1 then b else if m=2 then c else d:=by
 match m with
 |0=>rfl
 |1=>rfl
 |2=>rfl
 |m+3=>rfl
noncomputable def ch(t:Tr HO)(m:Nat):Tr HO:=match t with
 |.n a b c d=>Gf m a b c d
 |_=>.e
noncomputable def sch(t:Tr HO)(m:Nat)(y:Tr HO):Tr HO:=Gf m (.n y (ch t 1) (ch t 2) (ch t 3)) (.n (ch t 0) y (ch t 2) (ch t 3)) (.n (ch t 0) (ch t 1) y (ch t 3)) (.n (ch t 0) (ch t 1) (ch t 2) y)
theorem WV:∀ (k r:Nat),sW k .e r=.z
 |0,_=>rfl
 |_+1,_=>rfl
theorem sA(k:Nat)(t:Tr HO)(r:Nat):sW (k+1) t r=sW k (ch t (r/4^k % 4)) r:=by
 cases t with
 |e=>exact(WV k r).symm
 |v a=>exact(WV k r).symm
 |n a b c d=>
  show Gf (r/4^k % 4) (sW k a r) (sW k b r) (sW k c r) (sW k d r)=sW k (Gf (r/4^k % 4) a b c d) r;rw[Jj,Jj];split
  ·rfl
  ·split
   ·rfl
   ·split<;>rfl
theorem SU{β:Type}(x:HO)(k:Nat)(t:Tr HO)(i:Nat)(kk:Tr HO->β):IS x (k+1) t i kk=IS x k (ch t (i/4^k % 4)) i (fun y=>kk (sch t (i/4^k % 4) y)):=by
 have e:IS x (k+1) t i kk=Gf (i/4^k % 4) (IS x k (ch t 0) i fun a=>kk (.n a (ch t 1) (ch t 2) (ch t 3))) (IS x k (ch t 1) i fun b=>kk (.n (ch t 0) b (ch t 2) (ch t 3)))
  (IS x k (ch t 2) i fun c'=>kk (.n (ch t 0) (ch t 1) c' (ch t 3))) (IS x k (ch t 3) i fun c=>kk (.n (ch t 0) (ch t 1) (ch t 2) c)):=by cases t<;>rfl
 rw[e,Jj];have d:i/4^k % 4<4:=Nat.mod_lt _ (by decide)
 generalize i/4^k % 4=m at*
 match m,d with
 |0,_=>rfl
 |1,_=>rfl
 |2,_=>rfl
 |3,_=>rfl
theorem a2R(t:Tr HO)(m m':Nat)(y:Tr HO)(h:m<4)(a:m'<4):ch (sch t m y) m'=if m'=m then y else ch t m':=by
 match m,h,m',a with
 |0,_,0,_=>rfl
 |0,_,1,_=>rfl
 |0,_,2,_=>rfl
 |0,_,3,_=>rfl
 |1,_,0,_=>rfl
 |1,_,1,_=>rfl
 |1,_,2,_=>rfl
 |1,_,3,_=>rfl
 |2,_,0,_=>rfl
 |2,_,1,_=>rfl
 |2,_,2,_=>rfl
 |2,_,3,_=>rfl
 |3,_,0,_=>rfl
 |3,_,1,_=>rfl
 |3,_,2,_=>rfl
 |3,_,3,_=>rfl
theorem Hh{β:Type}(x:HO):∀ (k:Nat) (t:Tr HO) (i:Nat) (kk:Tr HO->β),∃f,IS x k t i kk=kk f/\∀j,sW k f j=if j % 4^k=i % 4^k then x else sW k t j
 |0,t,i,kk=>⟨.v x,rfl,fun j=>by rw[Nat.pow_zero,Nat.mod_one,Nat.mod_one,if_pos rfl];rfl⟩
 |k+1,t,i,kk=>by
  rw[SU];obtain⟨f,b,g⟩:=Hh x k (ch t (i/4^k % 4)) i (fun y=>kk (sch t (i/4^k % 4) y))
  refine⟨_,b,fun j=>?_⟩
  rw[sA,a2R _ _ _ _ (Nat.mod_lt _ (by decide)) (Nat.mod_lt _ (by decide))]
  have c:∀a:Nat,a % 4^ (k+1)=a % 4^k+4^k*(a/4^k % 4):=fun a=>by rw[Nat.pow_succ,Nat.mod_mul]
  have d:0<4^k:=Nat.pow_pos (by decide)
  by_cases hd:j/4^k % 4=i/4^k % 4
  ·rw[if_pos hd,g j,sA,hd];have:(j % 4^ (k+1)=i % 4^ (k+1))↔(j % 4^k=i % 4^k):=by
    rw[c,c,hd];constructor
    ·intro h;exact Nat.add_right_cancel h
    ·intro h;rw[h]
   by_cases e:j % 4^k=i % 4^k
   ·rw[if_pos e,if_pos (this.2 e)]
   ·rw[if_neg e,if_neg (fun h=>e (this.1 h))]
  ·rw[if_neg hd,if_neg,sA];intro h;apply hd;have b:j % 4^ (k+1) /4^k=i % 4^ (k+1) /4^k:=by rw[h]
   rw[c,c,Nat.add_mul_div_left _ _ d,Nat.add_mul_div_left _ _ d,Nat.div_eq_of_lt (Nat.mod_lt _ d),Nat.div_eq_of_lt (Nat.mod_lt _ d),Nat.zero_add,Nat.zero_add]at b;exact b
theorem Rf(nx:Nat):nx<4^eE nx:=by
 have a:nx<2^ (nx.log2+1):=Nat.lt_log2_self;have b:(4:Nat) ^eE nx=2^ (2*eE nx):=by rw[Nat.pow_mul]
 have c:eE nx=nx.log2/2+1:=rfl;rw[b];refine Nat.lt_of_lt_of_le a (Nat.pow_le_pow_right (by decide) ?_)
 rw[c];omega
theorem SV(nx:Nat):eE (nx+1)=eE nx\/eE (nx+1)=eE nx+1:=by
 have a:∀n:Nat,eE n=n.log2/2+1:=fun _=>rfl
 rw[a,a];have e:nx.log2<=(nx+1).log2/\(nx+1).log2<=nx.log2+1:=by
  rcases Nat.eq_zero_or_pos nx with b|b
  ·subst b;decide
  ·have c:nx≠0:=by omega
   constructor
   ·rw[Nat.le_log2 (by omega)]
    have:=(Nat.le_log2 c).1 (Nat.le_refl nx.log2);omega
   ·have d:(nx+1).log2<nx.log2+2:=by
     rw[Nat.log2_lt (by omega)]
     have f:nx<2^ (nx.log2+1):=Nat.lt_log2_self;rw[Nat.pow_succ];omega
    omega
 omega
theorem X2(nx:Nat)(d:w7)(r:Nat):s6 nx d r=if r<nx then sW (eE nx) d r else .z:=by
 unfold s6;rw[j2];by_cases h:r<nx
 ·rw[if_pos h,if_pos (Nat.ble_eq_true_of_le h)]
 ·rw[if_neg h,if_neg (fun hh=>h (Nat.le_of_ble_eq_true hh))]
theorem sC{β:Type}{nx:Nat}{d:w7}{i:Nat}{o:HO}{k:w7->β}(hi:i<=nx):∃a,zX nx d i o k=k a/\∀r,r<=nx->sW (eE nx) a r=if r=i then o else sW (eE nx) d r:=by
 obtain⟨b,c,e⟩:=Hh o (eE nx) d i k;refine⟨b,c,fun r f=>?_⟩
 have g:=Rf nx;rw[e r,Nat.mod_eq_of_lt (by omega),Nat.mod_eq_of_lt (by omega)]
theorem SW{β:Type}{nx:Nat}{d:w7}{o:HO}{k:Nat->w7->β}:∃b,I2 nx d o k=k (nx+1) b/\∀r,s6 (nx+1) b r=if r=nx then o else s6 nx d r:=by
 obtain⟨c,q,s⟩:=sC (β:=β) (nx:=nx) (d:=d) (i:=nx) (o:=o) (k:=fun b=>fN (Nat.succ nx) fun a=>iB (Nat.beq (eE a) (eE nx)) (k a b) (k a (.n b .e .e .e))) (Nat.le_refl _)
 have e:I2 nx d o k=fN (Nat.succ nx) fun a=>iB (Nat.beq (eE a) (eE nx)) (k a c) (k a (.n c .e .e .e)):=q
 rw[J8,j2]at e;have f:∀b,(∀r,r<nx+1->sW (eE (nx+1)) b r=sW (eE nx) c r)->∀r,s6 (nx+1) b r=if r=nx then o else s6 nx d r:=by
  intro b h r;rw[X2,X2];by_cases m:r<nx+1
  ·rw[if_pos m,h r m,s r (by omega)]
   by_cases g:r=nx
   ·rw[if_pos g,if_pos g]
   ·rw[if_neg g,if_neg g,if_pos (by omega)]
  ·rw[if_neg m,if_neg (by omega),if_neg (by omega)]
 by_cases j:eE (nx+1)=eE nx
 ·rw[if_pos (by rw[Nat.beq_eq];exact j)]at e
  exact⟨c,e,f c (fun r _=>by rw[j])⟩
 ·rw[if_neg (fun h=>j (Nat.eq_of_beq_eq_true h))]at e
  refine⟨_,e,f _ (fun r g=>?_)⟩
  have t:=(SV nx).resolve_left j;rw[t,sA];have p:r<4^eE nx:=by have:=Rf nx;omega
  rw[Nat.div_eq_of_lt p];rfl
theorem a1g{β:Type}(o:HO)(k:HO->β):fO o k=k o:=by
 cases o<;>simp only[fO,J8]
def SY(f:Hp):List (Nat×HO)->Hp
 |[]=>f
 |(r,o)::b=>SY (fun a=>if a=r then o else f a) b
section
variable {z:BV} {l:List HO}
theorem Jk{nx:Nat}:∀ (set:List (Nat×HO)) (D:w7) (k:w7->Rn),OP nx set D k=.ok z l->∃D',k D'=.ok z l/\s6 nx D'=SY (s6 nx D) set/\∀p∈set,p.1<nx
 |[],D,k,h=>⟨D,h,rfl,fun p b=>by cases b⟩
 |(r,o)::c,D,k,h=>by
  have h:fN r (fun r=>fO o fun o=>iB (Nat.ble (Nat.succ r) nx) (zX nx D r o fun D'=>OP nx c D' k) (.er 507 r))=.ok z l:=h
  rw[J8,a1g,j2]at h;split at h
  ·rename_i f;have f:r<nx:=Nat.le_of_ble_eq_true f;obtain⟨g,j,m⟩:=sC (nx:=nx) (d:=D) (i:=r) (o:=o) (k:=fun D'=>OP nx c D' k) (Nat.le_of_lt f)
   rw[j]at h;obtain⟨D',n,q,s⟩:=Jk c g k h;refine⟨D',n,?_,fun p b=>?_⟩
   ·rw[q];show SY _ c=SY (fun e=>if e=r then o else s6 nx D e) c
    congr 1;funext e;rw[X2,X2];by_cases a:e<nx
    ·rw[if_pos a,if_pos a,m e (Nat.le_of_lt a)]
    ·rw[if_neg a,if_neg a,if_neg (by omega)]
   ·rcases List.mem_cons.1 b with rfl|b
    ·exact f
    ·exact s p b
  ·cases h
theorem Ai{β:Type}:∀ (new:List HO) (nx:Nat) (D:w7) (k:Nat->w7->β),∃D',news new nx D k=k (nx+new.length) D'/\∀r,s6 (nx+new.length) D' r=if nx<=r then new[r- nx]?.getD .z else s6 nx D r
 |[],nx,D,k=>⟨D,rfl,fun r=>by
  show s6 nx D r=_;by_cases h:nx<=r
  ·rw[if_pos h,X2,if_neg (by omega)];rfl
  ·rw[if_neg h]⟩
 |o::new,nx,D,k=>by
  obtain⟨g,i,j⟩:=SW (nx:=nx) (d:=D) (o:=o) (k:=fun b D'=>news new b D' k)
  have e:news (o::new) nx D k=fO o fun o=>I2 nx D o fun b D'=>news new b D' k:=rfl
  rw[a1g,i]at e;obtain⟨D',m,g2⟩:=Ai new (nx+1) g k;have a:nx+(o::new).length=nx+1+new.length:=by simp;omega
  refine⟨D',by rw[e,m,a],fun r=>?_⟩
  rw[a,g2 r];by_cases c:nx+1<=r
  ·rw[if_pos c,if_pos (by omega),show r- nx=(r- (nx+1))+1 by omega,List.getElem?_cons_succ]
  ·rw[if_neg c,j r];by_cases f:r=nx
   ·subst f;simp
   ·rw[if_neg f,if_neg (by omega)]
theorem WW(m:Mm)(r:Nat):I6 (bN m (r,.dead))=fun r'=>if r'=r then .z else I6 m r':=by
 funext r';unfold I6;rw[W0];by_cases e:r'=r
 ·subst e;rw[if_pos rfl,if_pos rfl];cases h:m r' with
  |none=>rfl
  |some x=>obtain⟨c,f⟩:=x;cases c<;>rfl
 ·rw[if_neg e,if_neg e]
theorem Rg(m:Mm)(r:Nat)(o:HO):I6 (S0 m r (.F8 o,.own))=fun r'=>if r'=r then o else I6 m r':=by
 funext r';unfold I6;by_cases e:r'=r
 ·subst e;rw[j6,if_pos rfl]
 ·rw[n6 _ _ _ _ e,if_neg e]
theorem yI:∀ (set:List (Nat×HO)) (m:Mm),I6 (bB m set)=SY (I6 m) set
 |[],_=>rfl
 |(r,o)::a,m=>by
  by_cases b:o=.z
  ·subst b;show I6 (bB (bN m (r,.dead)) a)=SY (fun c=>if c=r then .z else I6 m c) a
   rw[yI a,WW]
  ·rw[rF b,yI a,Rg];rfl
theorem Mq(m:Mm)(nx:Nat)(new:List HO)(r:Nat):I6 (E8 m nx (new.map .F8)) r=if nx<=r/\r<nx+new.length then new[r- nx]?.getD .z else I6 m r:=by
 unfold I6;rw[u6];by_cases h:nx<=r/\r<nx+new.length
 ·rw[dif_pos (by simpa using h),if_pos h]
  have a:r- nx<new.length:=by omega
  simp[a]
 ·rw[dif_neg (by simpa using h),if_neg h]
noncomputable def G3(nx:Nat)(D:w7):Mem:=(List.range nx).filterMap fun r=>match s6 nx D r with
 |.z=>none
 |o=>some (r,(.F8 o,.own))
theorem Z1(nx:Nat)(D:w7)(r:Nat):n9 (G3 nx D) r=match s6 nx D r with
  |.z=>none
  |o=>some (.F8 o,.own):=by
 have e:∀ (l:List Nat),n9 (l.filterMap fun r=>match s6 nx D r with
   |.z=>none
   |o=>some (r,(c7.F8 o,p8.own))) r=if r∈l then(match s6 nx D r with
    |.z=>none
    |o=>some (.F8 o,.own))else none:=by
  intro l
  induction l with
  |nil=>rfl
  |cons a l c=>
   rw[List.filterMap_cons];by_cases d:a=r
   ·subst d;rw[if_pos (List.mem_cons_self ..)];cases f:s6 nx D a<;>simp only[f,n9,if_true]at c ⊢;rw[c];split<;>rfl
   ·have b:r∈a::l↔r∈l:=by
     rw[List.mem_cons];constructor
     ·rintro(h|h)
      ·exact absurd h.symm d
      ·exact h
     ·exact .inr
    cases g:s6 nx D a<;>simp only[n9,if_neg d,b]<;>exact c
 unfold G3;rw[e];split
 ·rfl
 ·rename_i h;rw[List.mem_range]at h;rw[X2,if_neg h]
theorem nT(nx:Nat)(D:w7):CB (G3 nx D)=true:=by
 unfold G3;generalize List.range nx=l
 induction l with
 |nil=>rfl
 |cons a l b=>
  rw[List.filterMap_cons];cases s6 nx D a<;>first|exact b|(simp only[CB,c7.yX,Bool.true_and];exact b)
theorem lY{m:Mm}{nx:Nat}{D:w7}(h:I6 m=s6 nx D)(r:Nat)(x:c7×p8)(e:n9 (G3 nx D) r=some x):m r=some x:=by
 rw[Z1,<-h]at e;cases g:I6 m r with
 |z=>rw[g]at e;cases e
 |c a b=>rw[g]at e;cases e;exact R0 g (by simp)
 |m a b c d=>rw[g]at e;cases e;exact R0 g (by simp)
 |f a b c d=>rw[g]at e;cases e;exact R0 g (by simp)
 |i a b c d=>rw[g]at e;cases e;exact R0 g (by simp)
theorem Aj(nx:Nat)(D:w7):I6 (n9 (G3 nx D))=s6 nx D:=by
 funext r;unfold I6;rw[Z1];cases s6 nx D r<;>rfl
theorem Cm(E t:Nat):uX E t=E/cB^ (t+1) % cB:=rfl
theorem Fo{E t n t':Nat}(a:n<cB)(f:E % cB+1<cB):uX (uY E t n) t'=if t'=t then n else uX E t':=by
 have b:n<cB^1:=by rw[Nat.pow_one];exact a
 have e:uY E t n=(E- (E/cB^ (t+1) % cB^1)*cB^ (t+1)+n*cB^ (t+1))+1:=by rw[Nat.pow_one];rfl
 have c:=Aa (n:=E) (i:=t+1) (k:=1) (x:=n) (j:=0) T7 b;rw[if_neg (by omega),Nat.pow_zero,Nat.div_one,Nat.div_one]at c
 have g:=Aa (n:=E) (i:=t+1) (k:=1) (x:=n) (j:=t'+1) T7 b;rw[Cm,e];generalize E- (E/cB^ (t+1) % cB^1)*cB^ (t+1)+n*cB^ (t+1)=X at*
 have hd:(X+1) /cB=X/cB:=by
  have h:=Nat.div_add_mod X cB;rw[c]at h;have:X+1=cB*(X/cB)+(E % cB+1):=by omega
  rw[this,Nat.mul_add_div T7,Nat.div_eq_of_lt f,Nat.add_zero]
 have m:(X+1) /cB^ (t'+1)=X/cB^ (t'+1):=by
  rw[Nat.pow_succ',<-Nat.div_div_eq_div_mul,<-Nat.div_div_eq_div_mul,hd]
 rw[m,g];by_cases d:t'=t
 ·subst d;rw[if_pos (by omega),if_pos rfl,Nat.sub_self,Nat.pow_zero,Nat.div_one,Nat.mod_eq_of_lt a]
 ·rw[if_neg (by omega),if_neg d];rfl
theorem gD(p:Nat×BV)(A:J1)(t:Nat):LK (p::A) t=if p.1=t then p.2 else LK A t:=by
 show iB (Nat.beq p.1 t) p.2 (LK A t)=_;rw[j2];by_cases h:p.1=t
 ·rw[if_pos h,if_pos (by rw[Nat.beq_eq];exact h)]
 ·rw[if_neg h,if_neg (fun hh=>h (Nat.eq_of_beq_eq_true hh))]
theorem Ak{β:Type}(v:BV):∀ (A:J1) (t:Nat) (k:J1->β),∃c,Es v A t k=k c/\∀b,LK c b=if b=t then v else LK A b
 |[],t,k=>⟨[(t,v)],rfl,fun b=>by
  rw[gD];by_cases h:t=b
  ·rw[if_pos h,if_pos h.symm]
  ·rw[if_neg h,if_neg (fun e=>h e.symm)]⟩
 |p::A,t,k=>by
  have e:Es v (p::A) t k=iB (Nat.beq p.1 t) (k ((t,v)::A)) (Es v A t fun d=>k (p::d)):=rfl
  rw[j2]at e;by_cases h:p.1=t
  ·rw[if_pos (by rw[Nat.beq_eq];exact h)]at e
   refine⟨_,e,fun b=>?_⟩
   rw[gD,gD];by_cases a:t=b
   ·rw[if_pos a,if_pos a.symm]
   ·rw[if_neg a,if_neg (fun e=>a e.symm),if_neg (fun e=>a (h.symm.trans e))]
  ·rw[if_neg (fun hh=>h (Nat.eq_of_beq_eq_true hh))]at e
   obtain⟨c,f,g⟩:=Ak v A t (fun d=>k (p::d))
   refine⟨p::c,by rw[e,f],fun b=>?_⟩
   rw[gD,gD,g b];by_cases a:p.1=b
   ·rw[if_pos a,if_pos a,if_neg (fun e=>h (a.trans e))]
   ·rw[if_neg a,if_neg a]
theorem Mr{β:Type}:∀ (l:List (Nat×Nat)) (k:List (Nat×Nat)->β),fP l k=k l
 |[],_=>rfl
 |p::l,k=>by
  show(fN p.1 fun a=>fN p.2 fun b=>fP l fun l=>k ((a,b)::l))=_
  rw[J8,J8,Mr l]
theorem a2S(n:Nat)(a:BV):a6n n a=if n=0 then a else .c n:=by
 cases n with
 |zero=>rfl
 |succ n=>rfl
theorem cT(E:Nat)(A:J1)(t:Nat):F7 E A t=if uX E t=0 then LK A t else .c (uX E t):=a2S (uX E t) _
theorem Rh{x:Nat}(h:x<=604462909807314587353088):x+1<cB:=Nat.lt_of_le_of_lt (Nat.succ_le_succ h) (by decide)
theorem ZP{n:Nat}(h:n<=1208925819614629174706175):n<cB:=Nat.lt_of_le_of_lt h (by decide)
theorem fU{t:Nat}{v:BV}{E:Nat}{A:J1}{k:Nat->J1->Rn}(h:bM t v E A k=.ok z l):∃d b,k d b=.ok z l/\∀t',F7 d b t'=if t'=t then v else F7 E A t':=by
 unfold bM at h;rw[j2]at h;split at h
 ·rename_i j;have j:E % cB+1<cB:=Rh (Nat.le_of_ble_eq_true j);have e:∀ (w:BV),(∃d b,fN (uY E t 0) (fun d=>Es w A t fun b=>k d b)=k d b/\(∀t',F7 d b t'=if t'=t then w else F7 E A t')):=by
   intro w;rw[J8];obtain⟨b,f,g⟩:=Ak w A t (fun b=>k (uY E t 0) b)
   refine⟨_,b,f,fun t'=>?_⟩
   rw[cT,cT,Fo T7 j,g t'];by_cases i:t'=t
   ·simp only[i,if_true]
   ·simp only[i,if_false]
  cases v with
  |c n=>
   have h:iB (Nat.ble 1 n) (iB (Nat.ble n 1208925819614629174706175) (fN (uY E t n) fun d=>k d A) (.er 508 n)) (.er 509 n)=.ok z l:=h
   rw[j2]at h;split at h
   ·rename_i f;have f:1<=n:=Nat.le_of_ble_eq_true f;rw[j2]at h;split at h
    ·rename_i g;have g:n<cB:=ZP (Nat.le_of_ble_eq_true g);rw[J8]at h;refine⟨_,A,h,fun t'=>?_⟩
     rw[cT,cT,Fo g j];by_cases i:t'=t
     ·rw[if_pos i,if_neg (by omega),if_pos i]
     ·rw[if_neg i,if_neg i]
    ·cases h
   ·cases h
  |a s n=>
   have h:fN (uY E t 0) (fun d=>fN s fun s=>fN n fun n=>Es (.a s n) A t fun b=>k d b)=.ok z l:=h
   simp only[J8]at h;obtain⟨d,b,f,g⟩:=e (.a s n);rw[J8]at f;exact⟨d,b,f▸h,g⟩
  |t q=>
   have h:fN (uY E t 0) (fun d=>fP q fun l=>Es (.t l) A t fun b=>k d b)=.ok z l:=h
   simp only[J8,Mr]at h;obtain⟨d,b,f,g⟩:=e (.t q);rw[J8]at f;exact⟨d,b,f▸h,g⟩
  |u=>
   have h:fN (uY E t 0) (fun d=>Es .u A t fun b=>k d b)=.ok z l:=h
   obtain⟨d,b,f,g⟩:=e .u;exact⟨d,b,f▸h,g⟩
 ·cases h
theorem yJ{o:Option Tmp}{v:BV}{E:Nat}{A:J1}{k:Nat->J1->Rn}(h:lR o v E A k=.ok z l):∃a b,k a b=.ok z l/\(fun t=>Q2 (F7 a b t))=cV (fun t=>Q2 (F7 E A t)) o (Q2 v):=by
 cases o with
 |none=>exact⟨E,A,h,rfl⟩
 |some t=>
  obtain⟨a,b,e,f⟩:=fU (show bM t v E A k=_ from h);refine⟨a,b,e,?_⟩;funext c;rw[f c];by_cases d:c=t
  ·simp only[cV,d,if_true]
  ·simp only[cV,d,if_false]
end
end Go.Abs
end
section
namespace Go.Abs
theorem B8{x v:BV}{new:List HO}{set:List (Nat×HO)}{rd:List Nat}(h:vN x=.ok v new set rd):new=[]/\set=[]/\rd=[]:=by cases h;exact⟨rfl,rfl,rfl⟩
section
variable {P:Program} {nx:Nat} {v:BV} {new:List HO} {set:List (Nat×HO)} {rd:List Nat} {ev:Operand->BV} {D:Hp} {R:J6} {z:BV} {l:List HO}
theorem u9{c:Nat}(h:kM c=.ok v new set rd):new=[]/\set=[]/\rd=[]:=by cases h;exact⟨rfl,rfl,rfl⟩
theorem O0{k n:Nat}(h:dY k n=.ok v new set rd):new=[]/\set=[]/\rd=[]:=by
 obtain⟨_,h⟩:=c6 h;obtain⟨_,h⟩:=c6 h;exact u9 h
theorem vF{f:Nat->Nat->Nat}{a b:Nat}(h:VU f a b=.ok v new set rd):new=[]/\set=[]/\rd=[]:=by
 obtain⟨_,h⟩:=c6 h;exact O0 h
theorem Pr{op:BinOp}{a b:Nat}(h:Ss op a b=.ok v new set rd):new=[]/\set=[]/\rd=[]:=by
 cases op with
 |add=>obtain⟨_,h⟩:=c6 (show nB _ 13 (dY _ _)=_ from h);exact O0 h
 |sub=>obtain⟨_,h⟩:=c6 (show nB _ 14 (dY _ _)=_ from h);exact O0 h
 |mul=>obtain⟨_,h⟩:=c6 (show nB _ 15 (dY _ _)=_ from h);exact O0 h
 |quo=>obtain⟨_,h⟩:=c6 (show nB _ 16 (nB _ 17 (dY _ _))=_ from h);obtain⟨_,h⟩:=c6 h;exact O0 h
 |rem=>obtain⟨_,h⟩:=c6 (show nB _ 18 (nB _ 19 (dY _ _))=_ from h);obtain⟨_,h⟩:=c6 h;exact O0 h
 |and=>exact vF (f:=Nat.land) h
 |or=>exact vF (f:=Nat.lor) h
 |xor=>exact vF (f:=Nat.xor) h
 |lss=>exact u9 h
 |leq=>exact u9 h
 |gtr=>exact u9 h
 |geq=>exact u9 h
 |_=>cases h
theorem Bo{b:Bool}{x y:Nat}(h:jO b x y=.ok v new set rd):new=[]/\set=[]/\rd=[]:=by
 obtain⟨_,h⟩:=c6 h;obtain⟨_,h⟩:=c6 h;obtain⟨_,h⟩:=c6 h;obtain⟨_,h⟩:=c6 h;exact O0 h
theorem vG{a b c d:Nat}{k:Bool->l8}(h:LG a b c d k=.ok v new set rd):∃e,k e=.ok v new set rd:=by
 obtain⟨_,h⟩:=c6 h;obtain⟨_,h⟩:=c6 h;exact⟨_,h⟩
theorem SZ{t:TypeId}{a b:Nat}{k:Bool->l8}(h:eqC P t a b k=.ok v new set rd):∃e,k e=.ok v new set rd:=by
 unfold eqC at h;rw[j2]at h;split at h
 ·obtain⟨_,h⟩:=c6 h;exact⟨_,h⟩
 ·simp only[j2]at h;split at h
  ·obtain⟨_,h⟩:=c6 h;obtain⟨_,h⟩:=c6 h;exact⟨_,h⟩
  ·split at h
   ·exact vG h
   ·split at h
    ·exact vG h
    ·split at h
     ·exact vG h
     ·cases h
theorem Al{op:BinOp}{t:TypeId}{x y:BV}(h:VV P op t x y=.ok v new set rd):new=[]/\set=[]/\rd=[]:=by
 cases x with
 |c a=>
  obtain⟨b,rfl,d⟩:=z7 (show vC y (fun b=>(fun m=>iB (Nat.beq m 0) (nB (rM a) 32 (nB (Nat.beq (Nat.mod a 128) (Nat.mod b 128)) 33 (Ss op a b)))
   (iB (Nat.beq m 1) (nB (rM a) 34 (nB (rM b) 35 (jO true a b))) (iB (Nat.beq m 2) (nB (rM a) 36 (nB (rM b) 37 (jO false a b)))
    (eqC P t a b fun e=>kM (G8 (iB (Nat.beq m 3) e (Bool.not e))))))) (O9 op))=_ from h)
  simp only[j2]at d;split at d
  ·obtain⟨_,d⟩:=c6 d;obtain⟨_,d⟩:=c6 d;exact Pr d
  ·split at d
   ·obtain⟨_,d⟩:=c6 d;obtain⟨_,d⟩:=c6 d;exact Bo d
   ·split at d
    ·obtain⟨_,d⟩:=c6 d;obtain⟨_,d⟩:=c6 d;exact Bo d
    ·obtain⟨e,d⟩:=SZ d;exact u9 d
 |a s a=>
  cases y with
  |a f b=>
   obtain⟨_,h⟩:=c6 (show nB (Nat.beq s f) 39 (nB (IL P t s) 40 (nB (Ei s a) 58 (nB (Ei s b) 59 ((fun m=>iB (Nat.beq m 3) (kM (G8 (Nat.beq a b))) (iB (Nat.beq m 4) (kM (G8 (Bool.not (Nat.beq a b)))) (.er 41 0))) (O9 op)))))=_ from h)
   obtain⟨_,h⟩:=c6 h;obtain⟨_,h⟩:=c6 h;obtain⟨_,h⟩:=c6 h;simp only[j2]at h;split at h
   ·exact u9 h
   ·split at h
    ·exact u9 h
    ·cases h
  |_=>cases h
 |_=>cases h
theorem nU{t:TypeId}{k:Nat->l8}:∀ (ps:List (Nat×Operand)) (n:Nat),cQ P t ev ps n k=.ok v new set rd->∃a,k a=.ok v new set rd
 |[],n,h=>⟨n,h⟩
 |p::ps,n,h=>by
  have h: @Nat.rec (fun _=>l8) (.er 62 0) (fun o _=>vR (ev p.2) fun s x=>nB (Nat.beq s (aD (OK P t p.1))) 63 (nB (Nat.ble (Nat.add o s) (j7 P t)) 157 (fN (uT n o s x) fun a=>cQ P t ev ps a k))) (GW P t p.1)=.ok v new set rd:=h
  cases b:GW P t p.1 with
  |zero=>rw[b]at h;cases h
  |succ o=>
   rw[b]at h;obtain⟨_,_,_,h⟩:=jT h;obtain⟨_,h⟩:=c6 h;obtain⟨_,h⟩:=c6 h;rw[J8]at h;exact nU ps _ h
theorem nV:∀ (q:List (Nat×Nat)) (i:Nat),a2i q i (fun s n=>vN (BF s n))=.ok v new set rd->new=[]/\set=[]/\rd=[]
 |[],i,h=>by cases h
 |p::q,0,h=>B8 (show vN (BF p.1 p.2)=_ from h)
 |p::q,i+1,h=>nV q i h
theorem Ms{t:TypeId}{x i:BV}{k:Nat->Nat->Nat->Nat->ME->Nat->l8}(h:tR P t x i D k=.ok v new set rd):∃r a ks vs l clk,k r a ks vs l clk=.ok v new set rd:=by
 obtain⟨c,_,h⟩:=z7 h;obtain⟨_,h⟩:=c6 h;obtain⟨ks,vs,l,clk,_,h⟩:=tU h;obtain⟨_,h⟩:=c6 h;obtain⟨_,h⟩:=c6 h;obtain⟨_,h⟩:=c6 h;obtain⟨_,_,_,h⟩:=jT h;obtain⟨_,h⟩:=c6 h;exact⟨_,_,_,_,_,_,h⟩
theorem Hi{op:Op}(h:OS op=false):LN op=false:=by
 cases op<;>first|rfl|exact h
theorem Ri{op:Op}(h:OO op P R ev nx D=.ok v new set rd)(I:LN op=false):new=[]/\set=[]:=by
 cases op with
 |move x=>exact⟨(B8 h).1,(B8 h).2.1⟩
 |assign x=>exact⟨(B8 h).1,(B8 h).2.1⟩
 |pick c a b=>
  obtain⟨n,_,h⟩:=z7 h;rw[j2]at h;split at h
  ·exact⟨(B8 h).1,(B8 h).2.1⟩
  ·obtain⟨_,h⟩:=c6 h;exact⟨(B8 h).1,(B8 h).2.1⟩
 |build t ps=>
  obtain⟨_,h⟩:=c6 (show nB (cX P t) 64 (nB (IM P t) 65 (cQ P t ev ps.toList (lO P t) fun n=>vN (.a (j7 P t) n)))=_ from h)
  obtain⟨_,h⟩:=c6 h;obtain⟨_,h⟩:=nU _ _ h;exact⟨(B8 h).1,(B8 h).2.1⟩
 |load t x=>
  obtain⟨c,_,h⟩:=z7 h;obtain⟨_,h⟩:=c6 h;cases A:uU P t with
  |zero=>rw[A]at h;cases h
  |succ B=>
   rw[A]at h;obtain⟨s,n,_,h⟩:=iJ (show hC (D (pR c)) (fun s n=>nB (Nat.ble (Nat.add (pO c) (aD (Nat.succ B))) s) 75 (.ok (BF B (BE n (pO c) (aD (Nat.succ B)))) [] [] [pR c]))=_ from h)
   obtain⟨_,h⟩:=c6 h;cases h;exact⟨rfl,rfl⟩
 |nilCheck x=>
  obtain⟨c,_,h⟩:=z7 h;obtain⟨_,h⟩:=c6 h;exact⟨(u9 h).1,(u9 h).2.1⟩
 |binOp op t x y u=>exact⟨(Al h).1,(Al h).2.1⟩
 |unOp op t x=>
  cases op with
  |neg=>
   obtain⟨c,_,h⟩:=z7 (show Ze (ev x)=_ from h);obtain⟨_,h⟩:=c6 h;obtain⟨_,h⟩:=c6 h;exact⟨(O0 h).1,(O0 h).2.1⟩
  |not=>
   obtain⟨c,_,h⟩:=z7 (show Zd (ev x)=_ from h);rw[j2]at h;split at h
   ·exact⟨(u9 h).1,(u9 h).2.1⟩
   ·obtain⟨_,h⟩:=c6 h;exact⟨(u9 h).1,(u9 h).2.1⟩
  |_=>cases h
 |convert s d x=>
  obtain⟨c,_,h⟩:=z7 h;obtain⟨_,h⟩:=c6 h;obtain⟨_,h⟩:=c6 h;exact⟨(O0 h).1,(O0 h).2.1⟩
 |slice t x lo hi mx=>
  have e:∀ {o:Option Operand} {d:Nat} {k:Nat->l8},oI ev o d k=.ok v new set rd->∃a,k a=.ok v new set rd:=by
   intro o d k h;cases o with
   |none=>exact⟨_,h⟩
   |some y=>obtain⟨c,_,_,_,h⟩:=Bf h;exact⟨_,h⟩
  obtain⟨c,_,h⟩:=z7 (show iE P t (ev x) lo hi mx ev D=_ from h);rw[j2]at h;split at h
  ·obtain⟨a,h⟩:=e h;obtain⟨b,h⟩:=e h;cases mx with
   |some y=>cases h
   |none=>
    obtain⟨_,h⟩:=c6 h;obtain⟨_,h⟩:=c6 h;obtain⟨_,h⟩:=c6 h;obtain⟨_,h⟩:=c6 h;obtain⟨_,h⟩:=c6 h;obtain⟨_,h⟩:=c6 h;obtain⟨_,_,_,h⟩:=iJ h;obtain⟨_,h⟩:=c6 h;cases h;exact⟨rfl,rfl⟩
  ·obtain⟨_,h⟩:=c6 h;have J:∀ {c:Nat} {k:Nat->l8},iD c k=.ok v new set rd->∃a,k a=.ok v new set rd:=by
    intro c k h;rcases lV h with⟨_,h⟩|⟨_,h⟩<;>exact⟨_,h⟩
   obtain⟨q,h⟩:=J h;obtain⟨a,h⟩:=e h;obtain⟨b,h⟩:=e h;obtain⟨m,h⟩:=e h;obtain⟨_,h⟩:=c6 h;obtain⟨_,h⟩:=c6 h;obtain⟨_,h⟩:=c6 h;obtain⟨_,h⟩:=c6 h;rw[j2]at h;split at h
   ·exact⟨(u9 h).1,(u9 h).2.1⟩
   ·obtain⟨_,h⟩:=c6 h;obtain⟨_,h⟩:=c6 h;exact⟨(u9 h).1,(u9 h).2.1⟩
 |fieldAddr t x f=>
  obtain⟨c,_,h⟩:=z7 h;obtain⟨_,h⟩:=c6 h;cases A:GW P t f with
  |zero=>rw[A]at h;cases h
  |succ o=>
   rw[A]at h;obtain⟨_,h⟩:=c6 (show nB _ 90 (kM _)=_ from h);exact⟨(u9 h).1,(u9 h).2.1⟩
 |field t x f=>
  have h:iC P t (ev x) f=.ok v new set rd:=h;unfold iC at h;cases g:ev x with
  |a k n=>
   rw[g]at h;cases C:GW P t f with
   |zero=>rw[C]at h;cases h
   |succ o=>
    cases w:OK P t f with
    |zero=>rw[C,w]at h;cases h
    |succ B=>
     rw[C,w]at h;obtain⟨_,h⟩:=c6 (show nB _ 94 (vN _)=_ from h);exact⟨(B8 h).1,(B8 h).2.1⟩
  |_=>rw[g]at h;cases h
 |indexAddr t x i=>
  obtain⟨c,_,h⟩:=z7 h;obtain⟨_,_,_,_,h⟩:=Bf h;rw[j2]at h;split at h
  ·obtain⟨_,h⟩:=c6 h;obtain⟨_,h⟩:=c6 h;obtain⟨_,h⟩:=c6 h;exact⟨(u9 h).1,(u9 h).2.1⟩
  ·obtain⟨_,h⟩:=c6 h;obtain⟨_,h⟩:=c6 h;obtain⟨_,h⟩:=c6 h;obtain⟨_,h⟩:=c6 h;exact⟨(u9 h).1,(u9 h).2.1⟩
 |index t x i=>
  have h:qF P t (ev x) (ev i)=.ok v new set rd:=h;unfold qF at h;cases g:ev x with
  |a k n=>
   rw[g]at h;obtain⟨_,_,_,_,h⟩:=Bf h;cases w:Zb P t with
   |zero=>rw[w]at h;cases h
   |succ B=>
    rw[w]at h;obtain⟨_,h⟩:=c6 (show nB _ 108 (nB _ 109 (nB _ 110 (vN _)))=_ from h);obtain⟨_,h⟩:=c6 h;obtain⟨_,h⟩:=c6 h;exact⟨(B8 h).1,(B8 h).2.1⟩
  |_=>rw[g]at h;cases h
 |lookup t x i E=>
  obtain⟨_,_,_,_,_,_,h⟩:=Ms (show tR P t (ev x) (ev i) D (fun r F _ vs l _=>GX F l (fun _ v=>iB E (.ok (.t [(vs,v),(0,17)]) [] [] [r]) (.ok (BF vs v) [] [] [r])) (iB E (.ok (.t [(vs,VR P t),(0,9)]) [] [] [r]) (.ok (BF vs (VR P t)) [] [] [r])))=.ok v new set rd from h)
  rw[eG]at h;cases E<;>(split at h<;>first|(cases h;exact⟨rfl,rfl⟩)|(split at h<;>cases h<;>exact⟨rfl,rfl⟩))
 |entry i=>
  obtain⟨c,_,h⟩:=z7 (show uW (ev i) D=_ from h);obtain⟨C,h⟩:=c6 h;obtain⟨w,h⟩:=c6 h;obtain⟨K,G,seen,H,M,h⟩:=WE h;obtain⟨ks,vs,l,clk,N,h⟩:=tU h;obtain⟨O,h⟩:=c6 h;obtain⟨S,h⟩:=c6 h;cases seen with
  |nil=>cases h
  |cons s seen=>
   obtain⟨j,p,T,L,h⟩:=Ci (show Sv s l (fun p=>.ok (.t [(ks,p.2.1),(vs,p.2.2)]) [] [] [pR c,K]) (.er 231 0)=_ from h)
   cases h;exact⟨rfl,rfl⟩
 |extract x i=>
  have h:eD (ev x) i=.ok v new set rd:=h;unfold eD at h;cases g:ev x with
  |t q=>rw[g]at h;exact⟨(nV q i h).1,(nV q i h).2.1⟩
  |_=>rw[g]at h;cases h
 |_=>first|(cases I;done)|(cases h;done)
theorem Rj{op:Op}(h:OO op P R ev nx D=.ok v new set rd)(p:OS op=false):rd=[]:=by
 cases op with
 |move x=>exact(B8 h).2.2
 |assign x=>exact(B8 h).2.2
 |pick c a b=>
  obtain⟨n,_,h⟩:=z7 h;rw[j2]at h;split at h
  ·exact(B8 h).2.2
  ·obtain⟨_,h⟩:=c6 h;exact(B8 h).2.2
 |build t ps=>
  obtain⟨_,h⟩:=c6 (show nB (cX P t) 64 (nB (IM P t) 65 (cQ P t ev ps.toList (lO P t) fun n=>vN (.a (j7 P t) n)))=_ from h)
  obtain⟨_,h⟩:=c6 h;obtain⟨_,h⟩:=nU _ _ h;exact(B8 h).2.2
 |nilCheck x=>
  obtain⟨c,_,h⟩:=z7 h;obtain⟨_,h⟩:=c6 h;exact(u9 h).2.2
 |binOp op t x y u=>exact(Al h).2.2
 |unOp op t x=>
  cases op with
  |neg=>
   obtain⟨c,_,h⟩:=z7 (show Ze (ev x)=_ from h);obtain⟨_,h⟩:=c6 h;obtain⟨_,h⟩:=c6 h;exact(O0 h).2.2
  |not=>
   obtain⟨c,_,h⟩:=z7 (show Zd (ev x)=_ from h);rw[j2]at h;split at h
   ·exact(u9 h).2.2
   ·obtain⟨_,h⟩:=c6 h;exact(u9 h).2.2
  |_=>cases h
 |convert s d x=>
  obtain⟨c,_,h⟩:=z7 h;obtain⟨_,h⟩:=c6 h;obtain⟨_,h⟩:=c6 h;exact(O0 h).2.2
 |fieldAddr t x f=>
  obtain⟨c,_,h⟩:=z7 h;obtain⟨_,h⟩:=c6 h;cases m:GW P t f with
  |zero=>rw[m]at h;cases h
  |succ o=>
   rw[m]at h;obtain⟨_,h⟩:=c6 (show nB _ 90 (kM _)=_ from h);exact(u9 h).2.2
 |field t x f=>
  have h:iC P t (ev x) f=.ok v new set rd:=h;unfold iC at h;cases e:ev x with
  |a k n=>
   rw[e]at h;cases j:GW P t f with
   |zero=>rw[j]at h;cases h
   |succ o=>
    cases g:OK P t f with
    |zero=>rw[j,g]at h;cases h
    |succ r=>
     rw[j,g]at h;obtain⟨_,h⟩:=c6 (show nB _ 94 (vN _)=_ from h);exact(B8 h).2.2
  |_=>rw[e]at h;cases h
 |indexAddr t x i=>
  obtain⟨c,_,h⟩:=z7 h;obtain⟨_,_,_,_,h⟩:=Bf h;rw[j2]at h;split at h
  ·obtain⟨_,h⟩:=c6 h;obtain⟨_,h⟩:=c6 h;obtain⟨_,h⟩:=c6 h;exact(u9 h).2.2
  ·obtain⟨_,h⟩:=c6 h;obtain⟨_,h⟩:=c6 h;obtain⟨_,h⟩:=c6 h;obtain⟨_,h⟩:=c6 h;exact(u9 h).2.2
 |index t x i=>
  have h:qF P t (ev x) (ev i)=.ok v new set rd:=h;unfold qF at h;cases e:ev x with
  |a k n=>
   rw[e]at h;obtain⟨_,_,_,_,h⟩:=Bf h;cases g:Zb P t with
   |zero=>rw[g]at h;cases h
   |succ r=>
    rw[g]at h;obtain⟨_,h⟩:=c6 (show nB _ 108 (nB _ 109 (nB _ 110 (vN _)))=_ from h);obtain⟨_,h⟩:=c6 h;obtain⟨_,h⟩:=c6 h;exact(B8 h).2.2
  |_=>rw[e]at h;cases h
 |extract x i=>
  have h:eD (ev x) i=.ok v new set rd:=h;unfold eD at h;cases e:ev x with
  |t q=>rw[e]at h;exact(nV q i h).2.2
  |_=>rw[e]at h;cases h
 |_=>first|(cases p;done)|(cases h;done)
end
end Go.Abs
end
section
namespace Go.Abs
def Γ0:Env:=fun _=>none
theorem Rk(P:Program):Good P Γ0:=⟨(fun _ _ h=>by cases h),(fun _ _ h=>by cases h)⟩
noncomputable def TE(E:Nat)(A:J1):Nat->a7:=fun t=>Q2 (F7 E A t)
section
variable {P:Program} {R:J6} {z:BV} {l:List HO} {n:Nat} {all:Array Oper}
theorem Mt(b:Bool):Q2 (.c (G8 b))=.bool b:=by cases b<;>rfl
theorem Rl{E:Nat}{A:J1}{d:Nat}{b:Bool}(h:uX E d=G8 b):TE E A d=.bool b:=by
 unfold TE;rw[cT,h,if_neg (by cases b<;>decide),Mt]
theorem vH{E:Nat}{A:J1}{o:Oper}{b i:Rn}(h:jQ all E o b i=.ok z l):(B7 all o (TE E A) true/\b=.ok z l)\/(B7 all o (TE E A) false/\i=.ok z l):=by
 unfold jQ at h;cases e:o.guard with
 |none=>rw[e]at h;exact .inl ⟨by simp[B7,e],h⟩
 |some g=>
  rw[e]at h;obtain⟨j,a⟩:=g;have h: @Option.rec Nat (fun _=>Rn) (.er 501 0) (fun d=>iB (Nat.beq (uX E d) (G8 a)) b (iB (Nat.beq (uX E d) (G8 (Bool.not a))) i (iB (Nat.beq (uX E d) 1) i (.er 502 0)))) (a2l all j)=.ok z l:=h
  cases hd:a2l all j with
  |none=>rw[hd]at h;cases h
  |some d=>
   rw[hd]at h;have c:(all[j]?).bind (·.dst)=some d:=hd
   simp only[j2]at h;split at h
   ·rename_i f;refine .inl ⟨?_,h⟩;simp only[B7,e];exact⟨d,c,.inl (Rl (Nat.eq_of_beq_eq_true f))⟩
   ·split at h
    ·rename_i f;refine .inr ⟨?_,h⟩;simp only[B7,e];exact⟨d,c,.inl (by have:=Rl (A:=A) (Nat.eq_of_beq_eq_true f);simpa using this)⟩
    ·split at h
     ·rename_i f;refine .inr ⟨?_,h⟩;simp only[B7,e];refine⟨d,c,.inr ⟨trivial,?_⟩⟩;unfold TE;rw[cT,Nat.eq_of_beq_eq_true f];rfl
     ·cases h
theorem Mu{o:Oper}{E:Nat}{A:J1}{nx:Nat}{D:w7}{k:Nat->J1->Nat->w7->List Nat->List (Nat×HO)->List HO->Rn}{m:Mm}(h:iH o P R E A nx D k=.ok z l)(s:I6 m=s6 nx D)(y:nx<1048575):
  ∃v new set rd b d a D',OO o.op P R (eF E A) nx (s6 nx D)=.ok v new set rd/\a=nx+new.length/\a<1048575/\TE b d=cV (TE E A) o.dst (Q2 v)/\I6 (E8 (bB m set) nx (new.map .F8))=s6 a D'/\k b d a D' rd set new=.ok z l:=by
 unfold iH at h;cases B:OO o.op P R (eF E A) nx (s6 nx D)with
 |er c x=>rw[B]at h;cases h
 |ok v new set rd=>
  rw[B]at h;cases new with
  |nil=>
   cases set with
   |nil=>
    obtain⟨b,d,f,i⟩:=yJ (show lR o.dst v E A (fun b d=>k b d nx D rd [] [])=_ from h)
    exact⟨v,[],[],rd,b,d,nx,D,rfl,rfl,y,i,s,f⟩
   |cons u j=>
    obtain⟨D',f,i,F⟩:=Jk (u::j) D _ (show OP nx (u::j) D (fun D'=>lR o.dst v E A fun b d=>k b d nx D' rd (u::j) [])=_ from h)
    obtain⟨b,d,t,w⟩:=yJ f;refine⟨v,[],u::j,rd,b,d,nx,D',rfl,rfl,y,w,?_,t⟩;show I6 (bB m (u::j))=_;rw[yI,s,i]
  |cons g new=>
   obtain⟨D',f,i,F⟩:=Jk set D _ (show OP nx set D (fun D'=>news (g::new) nx D' fun a e=>iB (Nat.ble a 1048574) (lR o.dst v E A fun b d=>k b d a e rd set (g::new)) (.er 500 nx))=_ from h)
   obtain⟨e,G,H⟩:=Ai (g::new) nx D' (fun a e=>iB (Nat.ble a 1048574) (lR o.dst v E A fun b d=>k b d a e rd set (g::new)) (.er 500 nx))
   rw[G,j2]at f;split at f
   ·rename_i C;have C:nx+(g::new).length<=1048574:=Nat.le_of_ble_eq_true C;obtain⟨b,d,t,w⟩:=yJ f;refine⟨v,g::new,set,rd,b,d,_,e,rfl,rfl,by omega,w,?_,t⟩
    funext r;rw[Mq,yI,s,<-i,H r];by_cases q:nx<=r
    ·rw[if_pos q];by_cases p:r<nx+(g::new).length
     ·rw[if_pos ⟨q,p⟩]
     ·rw[if_neg (fun h=>p h.2),X2,if_neg (by omega),List.getElem?_eq_none (by omega)];rfl
    ·rw[if_neg q,if_neg (fun h=>q h.1)]
   ·cases f
theorem Ta(g:P2 P R){o:Oper}{E:Nat}{A:J1}{nx:Nat}{D:w7}{k:Nat->J1->Nat->w7->List Nat->List (Nat×HO)->List HO->Rn}{m:Mm}(h:iH o P R E A nx D k=.ok z l)(e:I6 m=s6 nx D)(f:nx<1048575)(hd:cF n o.dst=true)(i:B7 all o (TE E A) true):
  ∃v new set rd b c a D',Y2 Γ0 P all n o ⟨TE E A,nx,m⟩ (.kQ nx (Q2 v) new set rd) ⟨TE b c,a,E8 (bB m set) nx (new.map .F8)⟩/\a<1048575/\I6 (E8 (bB m set) nx (new.map .F8))=s6 a D'/\
   (LN o.op=false->new=[]/\set=[])/\(OS o.op=false->rd=[])/\k b c a D' rd set new=.ok z l:=by
 obtain⟨v,new,set,rd,b,c,a,D',d,j,p,q,r,s⟩:=Mu h e f;exact⟨v,new,set,rd,b,c,a,D',⟨hd,q,j,rfl,i,rfl,Ji g (fun _=>rfl) e f d⟩,p,r,Ri d,Rj d,s⟩
theorem Ps(g:P2 P R){o:Oper}{E:Nat}{A:J1}{nx:Nat}{D:w7}{k:Nat->J1->Nat->w7->List Nat->List (Nat×HO)->List HO->Rn}{m:Mm}(h:iH o P R E A nx D k=.ok z l)(e:I6 m=s6 nx D)(f:nx<1048575)(hd:cF n o.dst=true)(i:B7 all o (TE E A) true):
  ∃v new set rd b c a D',Y2 Γ0 P all n o ⟨TE E A,nx,m⟩ (.kQ nx (Q2 v) new set rd) ⟨TE b c,a,E8 (bB m set) nx (new.map .F8)⟩/\a<1048575/\I6 (E8 (bB m set) nx (new.map .F8))=s6 a D'/\
   (LN o.op=false->new=[]/\set=[])/\(OS o.op=false->rd=[])/\OO o.op P R (eF E A) nx (s6 nx D)=.ok v new set rd/\k b c a D' rd set new=.ok z l:=by
 obtain⟨v,new,set,rd,b,c,a,D',d,j,p,q,r,s⟩:=Mu h e f;exact⟨v,new,set,rd,b,c,a,D',⟨hd,q,j,rfl,i,rfl,Ji g (fun _=>rfl) e f d⟩,p,r,Ri d,Rj d,d,s⟩
theorem step_skip{o:Oper}{E:Nat}{A:J1}{nx:Nat}{k:Nat->J1->Rn}{m:Mm}(h:lR o.dst (.c 1) E A k=.ok z l)(hd:cF n o.dst=true)(d:B7 all o (TE E A) false):
  ∃a b,Y2 Γ0 P all n o ⟨TE E A,nx,m⟩ .skip ⟨TE a b,nx,m⟩/\k a b=.ok z l:=by
 obtain⟨a,b,e,f⟩:=yJ h;exact⟨a,b,⟨hd,f,rfl,rfl,d⟩,e⟩
theorem WX:∀ (k i:Nat),rng k i=uA i k
 |0,_=>rfl
 |k+1,i=>by show i::rng k (i+1)=_;rw[WX k];rfl
theorem ZQ(a b:List Nat):LM a b=a++b:=by
 induction a with
 |nil=>rfl
 |cons x a c=>show x::LM a b=_;rw[c];rfl
theorem ZR(a:List (Nat×HO)):Zk a=a.map (·.1):=by
 induction a with
 |nil=>rfl
 |cons x a b=>show x.1::Zk a=_;rw[b];rfl
theorem Rm(l:JB):BH l=l.reverse:=by
 have:∀ (l a:JB),(@List.rec (List Nat×List Nat) (fun _=>JB->JB) (fun a=>a) (fun x _ b a=>b (x::a)) l) a=l.reverse++a:=by
  intro l
  induction l with
  |nil=>intro a;rfl
  |cons x l b=>intro a;show(@List.rec (List Nat×List Nat) (fun _=>JB->JB) (fun a=>a) (fun x _ b a=>b (x::a)) l) (x::a)=_;rw[b];simp
 exact(this l []).trans (List.append_nil _)
def bW(d:M7):List Nat×List Nat:=(d.rd,d.wr)
def Bp(o:Oper)(d:M7):Prop:=(LN o.op=false->d.wr=[])/\(OS o.op=false->d.rd=[])
def Mv(P:Program)(R:J6)(o:Oper)(s:SS):M7->Prop
 |.kQ nx v new set rd=>∃ (E:Nat) (A:J1) (u:BV),s.T=TE E A/\s.nx=nx/\nx<1048575/\v=Q2 u/\OO o.op P R (eF E A) nx (I6 s.m)=.ok u new set rd
 |.skip=>True
 |_=>False
theorem Am(L:P2 P R):∀ (ops:List Oper) (E:Nat) (A:J1) (nx:Nat) (D:w7) (p:Nat) (j:JB) (k:KT) (m:Mm),kI ops P R all k E A nx D p j=.ok z l->G6 n ops=true->nx<1048575->I6 m=s6 nx D->
  ∃S q f g a D',S 0=⟨TE E A,nx,m⟩/\V8 Γ0 P all n ops S q/\(S ops.length).T=TE f g/\(S ops.length).nx=a/\I6 (S ops.length).m=s6 a D'/\a<1048575/\
   (∀ (i:Nat) (o:Oper) (d:M7),ops[i]? =some o->q[i]? =some d->Bp o d/\Mv P R o (S i) d)/\k f g a D' p ((q.map bW).reverse++j)=.ok z l
 |[],E,A,nx,D,p,j,k,m,h,_,G,H=>⟨fun _=>⟨TE E A,nx,m⟩,[],E,A,nx,D,rfl,⟨rfl,fun i o d u=>by simp at u⟩,rfl,rfl,H,G,(fun i o d u=>by simp at u),h⟩
 |o::ops,E,A,nx,D,p,j,k,m,h,hd,G,H=>by
  simp only[G6,Bool.and_eq_true]at hd;have h:jQ all E o (iH o P R E A nx D fun f g a D' rd set new=>kI ops P R all k f g a D' p ((rd,LM (Zk set) (rng (eP new) nx))::j))
   (lR o.dst (.c 1) E A fun f g=>kI ops P R all k f g nx D p (([],[])::j))=.ok z l:=h
  have M:∀ (d:M7) (B:SS) (r:Nat) (t:J1) (b:Nat) (C:w7),Y2 Γ0 P all n o ⟨TE E A,nx,m⟩ d B->B=⟨TE r t,b,B.m⟩->b<1048575->I6 B.m=s6 b C->Bp o d/\Mv P R o ⟨TE E A,nx,m⟩ d->kI ops P R all k r t b C p (bW d::j)=.ok z l->
    ∃S q f g a D',S 0=⟨TE E A,nx,m⟩/\V8 Γ0 P all n (o::ops) S q/\(S (o::ops).length).T=TE f g/\(S (o::ops).length).nx=a/\I6 (S (o::ops).length).m=s6 a D'/\a<1048575/\
     (∀ (i:Nat) (o':Oper) (d:M7),(o::ops)[i]? =some o'->q[i]? =some d->Bp o' d/\Mv P R o' (S i) d)/\k f g a D' p ((q.map bW).reverse++j)=.ok z l:=by
   intro d B r t b C I e w x J F;obtain⟨S,q,f,g,a,D',O,U,V,q3,q4,q5,q6,q7⟩:=Am L ops r t b C p (bW d::j) k B.m F hd.2 w x;refine⟨_,d::q,f,g,a,D',rfl,U.cons (s:=⟨TE E A,nx,m⟩) (d:=d) (by rw[O,<-e];exact I),V,q3,q4,q5,fun i o' X u y=>?_,?_⟩
   ·cases i with
    |zero=>simp at u y;subst u;subst y;exact J
    |succ i=>exact q6 i o' X (by simpa using u) (by simpa using y)
   ·rw[<-q7];congr 1;simp
  rcases vH (A:=A) h with⟨K,h⟩|⟨K,h⟩
  ·obtain⟨v,new,set,rd,r,t,b,C,I,w,x,Y,Z,N,F⟩:=Ps L h H G hd.1 K;refine M _ _ r t b C I rfl w x ⟨⟨fun h=>?_,fun h=>Z h⟩,E,A,v,rfl,rfl,G,rfl,by rw[<-H]at N;exact N⟩ ?_
   ·obtain⟨rfl,rfl⟩:=Y h;rfl
   ·rw[ZQ,ZR,WX,xZ]at F;exact F
  ·obtain⟨r,t,I,F⟩:=step_skip h hd.1 K;exact M _ _ r t nx D I rfl G H ⟨⟨fun _=>rfl,fun _=>rfl⟩,trivial⟩ F
theorem iM{s:Nat}:∀ {l:List Nat},fQ s l=true↔s∈l
 |[]=>by simp[fQ]
 |a::l=>by
  show iB (Nat.beq a s) true (fQ s l)=true↔_;rw[j2,List.mem_cons];by_cases h:a=s
  ·rw[if_pos (by rw[Nat.beq_eq];exact h)];simp[h]
  ·rw[if_neg (fun hh=>h (Nat.eq_of_beq_eq_true hh)),iM]
   constructor
   ·exact .inr
   ·rintro(b|b)
    ·exact absurd b.symm h
    ·exact b
theorem nW{b:List Nat}:∀ {l:List Nat},Be b l=true->∀a∈l,a ∉ b
 |[],_,a,c=>by cases c
 |x::l,h,a,c=>by
  have h:iB (fQ x b) false (Be b l)=true:=h;rw[j2]at h;split at h
  ·cases h
  ·rename_i d;rcases List.mem_cons.1 c with rfl|c
   ·exact fun e=>d (iM.2 e)
   ·exact nW h a c
theorem Jl{a b:List Nat}(h:∀x∈b,x ∉ a):By a b=true:=by
 unfold By;rw[List.all_eq_true];intro x c;simp only[Bool.not_eq_true',List.contains_eq_mem,decide_eq_false_iff_not];exact fun d=>h x d c
theorem Tb{a b:M7}(h:Sw (bW a) (bW b)=true):oJ a b=true:=by
 have h:iB (Be a.wr b.wr) (iB (Be a.wr b.rd) (Be a.rd b.wr) false) false=true:=h;simp only[j2]at h;split at h
 ·rename_i c;split at h
  ·rename_i d;simp only[oJ,Bool.and_eq_true];exact⟨⟨Jl (nW d),Jl (nW c)⟩,Jl (nW h)⟩
  ·cases h
 ·cases h
theorem WY{b c:M7}(d:b.wr=[]\/(c.rd=[]/\c.wr=[]))(e:c.wr=[]\/(b.rd=[]/\b.wr=[])):oJ b c=true:=by
 have h:∀a,By [] a=true:=fun a=>rfl
 simp only[oJ,Bool.and_eq_true];rcases d with d|⟨d,f⟩<;>rcases e with e|⟨e,g⟩<;>simp_all [Ki]
theorem Jm:∀ (a:JB) (i:Nat),BG a i=a[i]?.getD ([],[])
 |[],_=>rfl
 |p::a,0=>rfl
 |p::a,i+1=>by show BG a i=_;rw[Jm a i];simp
theorem Mw{a:JB}:∀ {ps:List (Nat×Nat)},nM a ps=true->∀p∈ps,Sw (BG a p.1) (BG a p.2)=true
 |[],_,p,b=>by cases b
 |x::ps,h,p,b=>by
  have h:iB (Sw (BG a x.1) (BG a x.2)) (nM a ps) false=true:=h;rw[j2]at h;split at h
  ·rename_i c;rcases List.mem_cons.1 b with rfl|b
   ·exact c
   ·exact Mw h p b
  ·cases h
theorem yK{k:List M7}{i:Nat}{u:Oper}{m:M7}(x:k[i]? =some m)(e:Bp u m):∀ (q:List Oper) (r:List M7) (f:List Nat) (j:Nat),(∀b,r[b]? =k[j+b]?)->(∀ (b:Nat) (o:Oper) (d:M7),q[b]? =some o->r[b]? =some d->Bp o d)->
  (∀p∈xL i u j q f,Sw (BG (k.map bW) p.1) (BG (k.map bW) p.2)=true)->eK (fun _ m _ d2=>oJ m d2) i u m q r f=true
 |[],_,_,_,_,_,_=>rfl
 |_::_,[],_,_,_,_,_=>rfl
 |_::_,_::_,[],_,_,_,_=>rfl
 |o2::q,d2::r,a::f,j,hd,y,s=>by
  have c:=yK x e q r f (j+1) (fun b=>by have:=hd (b+1);simp only[List.getElem?_cons_succ]at this;rw[this];congr 1;omega) (fun b o d h A=>y (b+1) o d (by simpa using h) (by simpa using A))
  have g:=y 0 o2 d2 rfl rfl;have B:k[j]? =some d2:=by have:=hd 0;simpa using this.symm
  unfold xL at s;simp only[eK,Bool.and_eq_true,Bool.or_eq_true];split at s
  ·rename_i t;refine⟨?_,c s⟩;simp only[Bool.or_eq_true,Bool.not_eq_true',Bool.or_eq_false_iff,Bool.and_eq_false_iff]at t;rcases t with t|⟨v,w⟩
   ·exact .inl t
   ·refine .inr (WY ?_ ?_)
    ·rcases v with h|h
     ·exact .inl (e.1 h)
     ·exact .inr ⟨g.2 h,g.1 (Hi h)⟩
    ·rcases w with h|h
     ·exact .inr ⟨e.2 h,e.1 (Hi h)⟩
     ·exact .inl (g.1 h)
  ·refine⟨.inr ?_,c (fun p h=>s p (List.mem_cons_of_mem _ h))⟩
   have:=s (i,j) (List.mem_cons_self ..);rw[Jm,Jm,List.getElem?_map,List.getElem?_map,x,B]at this;exact Tb this
theorem tV{g:List M7}:∀ (f:List Oper) (e:List M7) (c:List Nat) (i:Nat),(∀b,e[b]? =g[i+b]?)->(∀ (b:Nat) (o:Oper) (d:M7),f[b]? =some o->e[b]? =some d->Bp o d)->
  (∀p∈xM i f c,Sw (BG (g.map bW) p.1) (BG (g.map bW) p.2)=true)->Z4 (fun _ r _ s=>oJ r s) i f e c=true
 |[],_,_,_,_,_,_=>rfl
 |_::_,[],_,_,_,_,_=>rfl
 |_::_,_::_,[],_,_,_,_=>rfl
 |o::f,d::e,a::c,i,hd,q,m=>by
  have j:∀b,e[b]? =g[i+1+b]? :=fun b=>by have:=hd (b+1);simp only[List.getElem?_cons_succ]at this;rw[this];congr 1;omega
  have k:∀ (b:Nat) (o:Oper) (d:M7),f[b]? =some o->e[b]? =some d->Bp o d:=fun b o d h t=>q (b+1) o d (by simpa using h) (by simpa using t)
  have u:g[i]? =some d:=by have:=hd 0;simpa using this.symm
  unfold xM at m;simp only[Z4,Bool.and_eq_true];exact⟨yK u (q 0 o d rfl rfl) f e c (i+1) j k (fun p h=>m p (List.mem_append_left _ h)),tV f e c (i+1) j k (fun p h=>m p (List.mem_append_right _ h))⟩
theorem Hj{ops:Array Oper}{a:List M7}(c:∀ (b:Nat) (o:Oper) (d:M7),ops.toList[b]? =some o->a[b]? =some d->Bp o d)(h:nM (BH ((a.map bW).reverse++ [])) (dM ops)=true):bC ops a=true:=by
 rw[Rm,List.append_nil,List.reverse_reverse]at h;unfold bC;split
 ·rfl
 ·exact tV ops.toList a _ 0 (fun b=>by rw[Nat.zero_add]) c (Mw h)
theorem Fp(j:P2 P R){ops:Array Oper}{k:KS}{E:Nat}{A:J1}{nx:Nat}{D:w7}{p:Nat}{m:Mm}(h:rS ops P R k E A nx D p=.ok z l)(hd:G6 n ops.toList=true)(q:nx<1048575)(r:I6 m=s6 nx D):
  ∃S e b c a D',S 0=⟨TE E A,nx,m⟩/\V8 Γ0 P ops n ops.toList S e/\(S ops.toList.length).T=TE b c/\(S ops.toList.length).nx=a/\I6 (S ops.toList.length).m=s6 a D'/\a<1048575/\bC ops e=true/\(∀ (i:Nat) (o:Oper) (d:M7),ops.toList[i]? =some o->e[i]? =some d->Mv P R o (S i) d)/\k b c a D' p=.ok z l:=by
 obtain⟨S,e,b,c,a,D',s,t,u,q3,q4,q5,q6,q7⟩:=Am j ops.toList E A nx D p [] _ m (show kI ops.toList P R ops (fun b c a D' v w=>iB (nM (BH w) (dM ops)) (k b c a D' v) (.er 504 0)) E A nx D p []=_ from h) hd q r
 rw[j2]at q7;split at q7
 ·rename_i x;exact⟨S,e,b,c,a,D',s,t,u,q3,q4,q5,Hj (fun i o d f g=>(q6 i o d f g).1) x,fun i o d f g=>(q6 i o d f g).2,q7⟩
 ·cases q7
end
end Go.Abs
end
section
namespace Go.Abs
def Hk:Nat->Option I3
 |0=>none
 |1=>some .ret
 |i+2=>some (.exit i)
structure O1(n:Nat)(g:List a7)(E:Nat)(A:J1)(nx:Nat)(D:w7)(p:Nat)(st:j9):Prop where
 M:st.M=G3 nx D
 lt:nx<1048575
 s7:st.s7=Hk p
 tmps:y9 st.tmps=TE E A
 gh:st.gh=g
 nx:st.nx=nx
 n:st.n=n
theorem Pu(f:Nat->a7):∀ (N t:Nat),y9 ((List.range N).map fun t=>(t,f t)) t=if t<N then f t else .R3:=by
 intro N t;have b:∀ (l:List Nat),y9 (l.map fun t=>(t,f t)) t=if t∈l then f t else .R3:=by
  intro l
  induction l with
  |nil=>rfl
  |cons a l c=>
   simp only[List.map_cons,y9];by_cases h:a=t
   ·subst h;simp
   ·rw[if_neg h,c];have:t∈a::l↔t∈l:=by
     rw[List.mem_cons];exact⟨fun hh=>hh.resolve_left (fun e=>h e.symm),.inr⟩
    simp only[this]
 rw[b];simp only[List.mem_range]
theorem Mx:∀ (A:J1),∃N,∀t,N<=t->LK A t=.u
 |[]=>⟨0,fun _ _=>rfl⟩
 |p::A=>by
  obtain⟨N,a⟩:=Mx A;refine⟨max N (p.1+1),fun t b=>?_⟩
  rw[gD,if_neg (by omega)]
  exact a t (by omega)
theorem WZ(E t:Nat)(h:E<=t):uX E t=0:=by
 rw[Cm];have a:E<cB^ (t+1):=by
  have:t+1<cB^ (t+1):=Nat.lt_pow_self (by decide)
  omega
 rw[Nat.div_eq_of_lt a,Nat.zero_mod]
theorem Tc(E:Nat)(A:J1):∃a,y9 a=TE E A:=by
 obtain⟨N,b⟩:=Mx A;refine⟨(List.range (max N E)).map fun t=>(t,TE E A t),?_⟩
 funext t;rw[Pu];split
 ·rfl
 ·rename_i h;unfold TE;rw[cT,WZ E t (by omega),if_pos rfl,b t (by omega)]
  rfl
theorem O1.ex(n:Nat)(g:List a7)(E:Nat)(A:J1)(nx:Nat)(D:w7)(p:Nat)(h:nx<1048575):∃st,O1 n g E A nx D p st:=by
 obtain⟨b,a⟩:=Tc E A;exact⟨⟨n,b,nx,G3 nx D,g,Hk p⟩,rfl,h,rfl,a,rfl,rfl,rfl⟩
def ZS(z:BV)(l:List HO)(g:List a7)(y:YH)(h:Hand):Prop:=∀ (args:List BV) (nx:Nat) (D:w7) (kk:Bool->Nat->Nat->w7->Rn) (a:j9),y args nx D kk=.ok z l->a.gh=g->a.s7=none->a.nx=nx->a.M=G3 nx D->nx<1048575->
 h (args.map Q2) a (fun b c=>∃e d D',kk b e d D'=.ok z l/\c.n=a.n/\y9 c.tmps=y9 a.tmps/\c.nx=d/\c.M=G3 d D'/\c.gh=g/\c.s7=Hk e/\d<1048575)
def Xa(z:BV)(l:List HO)(g:List a7):Option YH->Option Hand->Prop
 |none,none=>True
 |some y,some h=>ZS z l g y h
 |_,_=>False
theorem Xa.some{z:BV}{l:List HO}{g:List a7}{Y:Option YH}{hh:Option Hand}{y:YH}(h:Xa z l g Y hh)(e:Y=some y):∃Jx,hh=some Jx/\ZS z l g y Jx:=by
 subst e;cases hh with
 |none=>exact h.elim
 |some Jx=>exact⟨Jx,rfl,h⟩
theorem St.sub{X:iW}{B:Option Nat}{F:Nat->Prop}{n:Nat}{K:j0}{H:Nat->Option Hd}{T:Nat->a7}{m m2:Mm}{a:Act}{w:World}(h:St X B F n K H T m a w)(b:∀r x,m2 r=some x->m r=some x):St X B F n K H T m2 a w:=
 ⟨h.ok,h.mem.sub b,h.size,h.defers,h.tmp,h.x⟩
theorem nX{K:j0}{H:Nat->Option Hd}{E:Nat}{A:J1}{a:Act}(h:∀t,c8 K H (TE E A t) (a.tmps.getD t undef))(x:Operand):u7 K H (eF E A x) (a.eval x):=by
 cases x with
 |tmp t=>exact fT (h t)
 |const y=>exact EI y
 |global g=>trivial
 |func f=>
  show u7 K H (iB (Nat.ble f 65535) (.c (vM f 0)) .u) (.func (.func f) #[] #[]);rw[j2];split
  ·rename_i b;exact .inr (.inr (.HE f (Nat.lt_succ_of_le (Nat.le_of_ble_eq_true b))))
  ·trivial
section
variable {P:Program} {R:J6} {z:BV} {l:List HO} {X:Ctx} {B:Option Nat} {F0:Nat->Prop} {ro yl:Option Nat} {n:Nat} {g:List a7} {Y:Option YH} {hh:Option Hand} {all:Array Oper}
theorem O1.tW{E:Nat}{A:J1}{nx:Nat}{D:w7}{p:Nat}{st:j9}(h:O1 n g E A nx D p st):st.z6.m=n9 (G3 nx D):=by show n9 st.M=_;rw[h.M]
theorem O1.I6{E:Nat}{A:J1}{nx:Nat}{D:w7}{p:Nat}{st:j9}(h:O1 n g E A nx D p st):I6 st.z6.m=s6 nx D:=by rw[h.tW,Aj]
theorem O1.z6{E:Nat}{A:J1}{nx:Nat}{D:w7}{p:Nat}{st:j9}(h:O1 n g E A nx D p st):st.z6=⟨TE E A,nx,st.z6.m⟩:=by
 show(⟨y9 st.tmps,st.nx,n9 st.M⟩:SS)=⟨TE E A,nx,n9 st.M⟩;rw[h.tmps,h.nx]
end
theorem iN{α:Type}{f:α->α->Bool}(c:∀a b,f a b=true->a=b):∀ {l r:List α},QP f l r=true->l=r
 |[],[],_=>rfl
 |[],_::_,h=>by cases h
 |_::_,[],h=>by cases h
 |a::l,b::r,h=>by
  have h:iB (f a b) (QP f l r) false=true:=h;rw[j2]at h;split at h
  ·rename_i d;rw[c _ _ d,iN c h]
  ·cases h
theorem Td(p q:Nat×Nat)(h:Zl p q=true):p=q:=by
 unfold Zl at h;rw[j2]at h;split at h
 ·rename_i a;exact Prod.ext (Nat.eq_of_beq_eq_true a) (Nat.eq_of_beq_eq_true h)
 ·cases h
theorem Te(p q:Nat×Nat×Nat)(h:Zm p q=true):p=q:=by
 unfold Zm at h;simp only[j2]at h;split at h
 ·split at h
  ·rename_i a b;exact Prod.ext (Nat.eq_of_beq_eq_true a) (Prod.ext (Nat.eq_of_beq_eq_true b) (Nat.eq_of_beq_eq_true h))
  ·cases h
 ·cases h
theorem lZ(a b:BV)(h:Gg a b=true):a=b:=by
 cases a with
 |c n=>cases b<;>first|exact Bool.noConfusion (show false=true from h)|(rw[Nat.eq_of_beq_eq_true (show Nat.beq _ _=true from h)])
 |a s n=>
  cases b<;>first|exact Bool.noConfusion (show false=true from h)|skip
  rename_i t m;have h:iB (Nat.beq s t) (Nat.beq n m) false=true:=h;rw[j2]at h;split at h
  ·rename_i d;rw[Nat.eq_of_beq_eq_true d,Nat.eq_of_beq_eq_true h]
  ·cases h
 |t l=>
  cases b<;>first|exact Bool.noConfusion (show false=true from h)|skip
  rename_i r;rw[iN Td (show QP Zl l r=true from h)]
 |u=>exact Bool.noConfusion (show false=true from h)
theorem mA(a b:HO)(h:XT a b=true):a=b:=by
 cases a with
 |c s n=>
  cases b<;>first|exact Bool.noConfusion (show false=true from h)|skip
  rename_i t m;have h:iB (Nat.beq s t) (Nat.beq n m) false=true:=h;rw[j2]at h;split at h
  ·rename_i d;rw[Nat.eq_of_beq_eq_true d,Nat.eq_of_beq_eq_true h]
  ·cases h
 |m k v l c=>
  cases b<;>first|exact Bool.noConfusion (show false=true from h)|skip
  rename_i k' v' o c';have h:iB (Nat.beq k k') (iB (Nat.beq v v') (iB (Nat.beq c c') (QP Zm l o) false) false) false=true:=h;simp only[j2]at h;split at h
  ·split at h
   ·split at h
    ·rename_i d e j;rw[Nat.eq_of_beq_eq_true d,Nat.eq_of_beq_eq_true e,Nat.eq_of_beq_eq_true j,iN Te h]
    ·cases h
   ·cases h
  ·cases h
 |f a1 p q r=>
  cases b<;>first|exact Bool.noConfusion (show false=true from h)|skip
  rename_i u w x y;have h:iB (Nat.beq a1 u) (iB (Nat.beq p w) (iB (Nat.beq q x) (Nat.beq r y) false) false) false=true:=h;simp only[j2]at h;split at h
  ·split at h
   ·split at h
    ·rename_i d e j;rw[Nat.eq_of_beq_eq_true d,Nat.eq_of_beq_eq_true e,Nat.eq_of_beq_eq_true j,Nat.eq_of_beq_eq_true h]
    ·cases h
   ·cases h
  ·cases h
 |i m s l a=>exact Bool.noConfusion (show false=true from h)
 |z=>exact Bool.noConfusion (show false=true from h)
theorem An{r:Rn}{v:BV}{l:List HO}(h:We r v l=true):r=.ok v l:=by
 cases r with
 |er c x=>exact Bool.noConfusion (show false=true from h)
 |ok v' a=>
  have h:iB (Gg v' v) (QP XT a l) false=true:=h;rw[j2]at h;split at h
  ·rename_i b;rw[lZ _ _ b,iN mA h]
  ·cases h
theorem mC(s:Nat):∀ (l:List Nat),fQ s l=decide (s∈l)
 |[]=>by simp[fQ]
 |a::l=>by
  show iB (Nat.beq a s) true (fQ s l)=_;rw[j2,mC s l];by_cases e:a=s
  ·subst e;simp
  ·rw[if_neg (fun h=>e (Nat.eq_of_beq_eq_true h))]
   simp[Ne.symm e]
theorem Hl{H:Nat->Option Hd}{ks vs:Nat}{seen:List Nat}:∀ {l:ME} {a:List MapEntry},I7 H ks vs l a->I7 H ks vs (E7 seen l) (a.filter fun e=> !seen.reverse.toArray.contains e.born)
 |[],a,h=>by
  have h:a=[]:=h;subst h;rfl
 |p::l,a,⟨e,d,f,b,i⟩=>by
  subst f;have c:=Hl (seen:=seen) i;show I7 H ks vs (iB (fQ p.1 seen) (E7 seen l) (p::E7 seen l)) _;have j:seen.reverse.toArray.contains e.born=fQ p.1 seen:=by
   rw[mC,b.1];simp
  rw[j2,List.filter_cons,j];cases fQ p.1 seen with
  |true=>simpa using c
  |false=>
   simp only[Bool.false_eq_true,if_false,Bool.not_false,if_true];exact⟨e,_,rfl,b,c⟩
theorem Ro{z:BV}{L:List HO}{k:Nat×Nat×Nat->Rn}:∀ {l:ME},Sy k l=.ok z L->∀p∈l,k p=.ok z L
 |[],h,p,a=>by cases a
 |[q],h,p,a=>by
  rcases List.mem_singleton.1 a with rfl;exact h
 |q::d::r,h,p,a=>by
  have h:OT (k q) (Sy k (d::r))=.ok z L:=h;cases b:k q with
  |er c x=>rw[b]at h;cases h
  |ok v l=>
   rw[b]at h;have h:iB (We (Sy k (d::r)) v l) (Rn.ok v l) (Rn.er 541 0)=Rn.ok z L:=h;rw[j2]at h;split at h
   ·rename_i e;cases h;rcases List.mem_cons.1 a with rfl|a
    ·exact b
    ·exact Ro (An e) p a
   ·cases h
theorem Hm{a:Nat}:∀ {l:ME},Sx a l=true->∀p∈l,p.1<a
 |[],_,p,b=>by cases b
 |q::l,h,p,b=>by
  have h:iB (Nat.ble (Nat.succ q.1) a) (Sx a l) false=true:=h;rw[j2]at h;split at h
  ·rename_i c;rcases List.mem_cons.1 b with rfl|b
   ·exact Nat.le_of_ble_eq_true c
   ·exact Hm h p b
  ·cases h
section
variable {P:Program} {z:BV} {l:List HO} {X:Ctx} {B:Option Nat} {F0:Nat->Prop} {ro:Option Nat} {n:Nat} {g:List a7} {all:Array Oper}
theorem Fq{Q:Exit->Act->World->Prop}(hX:X.Ok)(Lm:∀ (j:Nat) (d:Tmp),(all[j]?).bind (·.dst)=some d->d<n){o:Oper}{rest:List Oper}{i:Operand}{t:Tmp}(ho:o.op=.next i false)(KM:o.dst=some t)(hgd:o.guard=none)(l9:cF n o.dst=true)
  {E:Nat}{A:J1}{nx:Nat}{D:w7}{p:Nat}{k:KS}{st:j9}{F:Nat->Prop}{K:j0}{H:Nat->Option Hd}{a:Act}{w:World}(h:Eu i t k E A nx D p=.ok z l)(he:O1 n g E A nx D p st)(hF:∀b,F0 b->F b)
  (v:St (X.bA st.gh st.s7) B F n K H st.z6.T st.z6.m a w)(H7:∀r,st.nx<=r->H r=none)
  (hQ:∀E' A' D' M a' w',k E' A' nx D' p=.ok z l->O1 n g E' A' nx D' p M->sN X B F0 F n K w M a' w'->St (X.bA M.gh M.s7) B F n K H M.z6.T M.z6.m a' w'->wpListIn (Wd ro) 0 P all Q rest a' w'):wpListIn (Wd ro) 0 P all Q (o::rest) a w:=by
 have My:∀ (j:Nat) (d:Tmp),(all[j]?).bind (·.dst)=some d->d<a.tmps.size:=fun j d h=>Nat.lt_of_lt_of_le (Lm j d h) v.size
 unfold Eu at h;have n0:=nX (E:=E) (A:=A) (a:=a) (K:=K) (H:=H) (by rw[<-he.tmps];exact v.tmp) i
 cases hv:eF E A i with
 |a s q=>rw[hv]at h;cases h
 |t q=>rw[hv]at h;cases h
 |u=>rw[hv]at h;cases h
 |c c=>
  rw[hv]at h n0;simp only[j2]at h;split at h
  rotate_left
  ·cases h
  rename_i h1;split at h
  rotate_left
  ·cases h
  rename_i h2;have h2:=Nat.eq_of_beq_eq_true h2;cases h3:s6 nx D (pR c)with
  |c _ _=>rw[h3]at h;cases h
  |m _ _ _ _=>rw[h3]at h;cases h
  |f _ _ _ _=>rw[h3]at h;cases h
  |z=>rw[h3]at h;cases h
  |i Z since seen last=>
   rw[h3]at h;simp only at h;cases h4:s6 nx D Z with
   |c _ _=>rw[h4]at h;cases h
   |i _ _ _ _=>rw[h4]at h;cases h
   |f _ _ _ _=>rw[h4]at h;cases h
   |z=>rw[h4]at h;cases h
   |m ks vs ZT clk=>
    rw[h4]at h;simp only at h;split at h
    rotate_left
    ·cases h
    rename_i h5;split at h
    rotate_left
    ·cases h
    rename_i h6;have h6:=Nat.le_of_ble_eq_true h6;have AD:pR c<nx:=by
     rcases Nat.lt_or_ge (pR c) nx with h'|h'
     ·exact h'
     ·rw[X2,if_neg (by omega)]at h3;cases h3
    have hdo:=he.I6;have h3':I6 st.z6.m (pR c)=.i Z since seen last:=by rw[hdo];exact h3
    have h4':I6 st.z6.m Z=.m ks vs ZT clk:=by rw[hdo];exact h4
    obtain⟨hd,b,mb,es,W3,q1,q2,q3,q4,q5,q6,q7,q8⟩:=QY v.mem (n0.cell (by rw[X0]at h1;omega)) h1 h2 h3' h4'
    have hold:∀x∈es.toList,x.born<since:=by
     intro x hx;obtain⟨e1,e2⟩:=(M5 _ _).1 q6;obtain⟨j,hj⟩:=List.mem_iff_getElem?.1 hx;have Ww:j<ZT.length:=by rw[<-e1];exact Q9 hj
     rw[(e2 j _ x (List.getElem?_eq_getElem Ww) hj).1];exact Hm h5 _ (List.getElem_mem _)
    have G:=Hl (seen:=seen) q6;have Xb:∀c,o.op≠ .defer c:=fun c e=>by rw[ho]at e;cases e
    have hgg:B7 all o st.z6.T true:=by unfold B7;rw[hgd]
    have fin:∀ (bv:BV) (y:Value) (w':World) (set:List (Nat×c7)) (D':w7),(execOp a.eval o).run P w=.ok (.value y) w'->eN F K H w st.z6.m st.z6.nx ⟨Q2 bv,set,[],[]⟩ y w' K H->I6 ((⟨Q2 bv,set,[],[]⟩:XQ).mm st.z6.nx st.z6.m)=s6 nx D'->
      bM t bv E A (fun E' A'=>k E' A' nx D' p)=.ok z l->wpListIn (Wd ro) 0 P all Q (o::rest) a w:=by
     intro bv y w' set D' I hA hD' a2T;simp only[wpListIn];rw[N8 v My hgg,if_pos rfl];refine⟨fun f _=>eU ro f,?_⟩
     rw[Oper.semAt_eq _ _ _ Xb,I];show wpListIn (Wd ro) 0 P all Q rest (a.put o.dst y) w';obtain⟨E1,A1,g1,g2⟩:=fU a2T;obtain⟨J,N⟩:=O1.ex n g E1 A1 nx D' p he.lt;have Gj:=v.put (o:=o) l9 (hX.grow st.gh st.s7) hA.le hA.hle hA.kept hA.ok hA.mem hA.rep;have hT:J.z6.T=cV st.z6.T o.dst (Q2 bv):=by
      have a1:J.z6.T=TE E1 A1:=N.tmps;have a2:st.z6.T=TE E A:=he.tmps;rw[a1,a2,KM];funext t';unfold TE;rw[g2];simp only[cV];split<;>rfl
     have yL:St (X.bA J.gh J.s7) B F n K H J.z6.T J.z6.m (a.put o.dst y) w':=by
      rw[N.gh,N.s7,<-he.gh,<-he.s7,hT];refine Gj.sub (fun r x hx=>?_)
      rw[N.tW]at hx;exact lY hD' r x hx
     exact hQ E1 A1 D' J _ w' g1 N ⟨⟨F,K,H,fun _ h=>h,yL,.refl K,fun r hr=>H7 r (by rw[he.nx];rw[N.nx]at hr;exact hr),.refl F0 K⟩,hA.kept.less hF⟩ yL
    rcases run_next_at (P:=P) w o.type b mb since last seen.reverse.toArray es clk q4 q5 hold h6 with⟨hz,I⟩|⟨e,O,w1,hw1,I⟩
    ·have hl:E7 seen ZT=[]:=by
      have hz:(leftOf es seen.reverse.toArray).toList=[]:=by rw[Array.eq_empty_of_size_eq_zero hz]
      have hz:es.toList.filter (fun e=> !seen.reverse.toArray.contains e.born)=[]:=by rw[<-hz];simp[leftOf]
      rw[hz]at G;cases hc:E7 seen ZT with
      |nil=>rfl
      |cons q U=>rw[hc]at G;obtain⟨e,es',h1,_⟩:=G;cases h1
     rw[hl]at h;refine fin (.t [(0,9)]) (.tuple #[.bool false]) w [] D ?_ (lJ v.ok v.mem ?_) hdo h
     ·simp only[execOp,ho,q3];exact j1 I
     ·simp only[Q2,List.map_cons,List.map_nil,c8];exact⟨_,rfl,.cons (by simp only[c8];exact j5.Bv) .nil⟩
    ·have O:e∈es.toList.filter (fun e=> !seen.reverse.toArray.contains e.born):=by simpa [leftOf]using O
     obtain⟨e1,e2⟩:=(M5 _ _).1 G;obtain⟨j,hj⟩:=List.mem_iff_getElem?.1 O;have Ww:j<(E7 seen ZT).length:=by rw[<-e1];exact Q9 hj
     have L:=e2 j _ e (List.getElem?_eq_getElem Ww) hj;have S:(E7 seen ZT)[j]∈E7 seen ZT:=List.getElem_mem _;generalize (E7 seen ZT)[j]=C at L S;have hk:(fN C.1 fun s=>zX nx D (pR c) (.i Z since (s::seen) clk) fun D'=>bM t (.t [(0,17),(ks,C.2.1),(vs,C.2.2)]) E A fun E' A'=>k E' A' nx D' p)=.ok z l:=by
      cases hc:E7 seen ZT with
      |nil=>rw[hc]at S;cases S
      |cons q U=>
       rw[hc]at h S;exact Ro h C S
     rw[J8]at hk;obtain⟨D1,g1,g2⟩:=sC (nx:=nx) (d:=D) (i:=pR c) (o:=.i Z since (C.1::seen) clk) (k:=fun D'=>bM t (.t [(0,17),(ks,C.2.1),(vs,C.2.2)]) E A fun E' A'=>k E' A' nx D' p) (Nat.le_of_lt AD)
     rw[g1]at hk;have Xc:c8 K H (Q2 (.t [(0,17),(ks,C.2.1),(vs,C.2.2)])) (.tuple #[.bool true,e.key,e.val]):=by
      simp only[Q2,List.map_cons,List.map_nil,c8];exact⟨_,rfl,.cons (by simp only[c8];exact j5.Tm) (.cons (by simp only[c8];exact L.2.1) (.cons (by simp only[c8];exact L.2.2.1) .nil))⟩
     have a6T:seen.reverse.toArray.push e.born=(C.1::seen).reverse.toArray:=by rw[L.1];simp
     have aft:∀w1:World,w1.heap=w.heap->J0 F K w1->j8 F K H w1 st.z6.m->eN F K H w1 st.z6.m st.z6.nx ⟨Q2 (.t [(0,17),(ks,C.2.1),(vs,C.2.2)]),[(pR c,.F8 (.i Z since (C.1::seen) clk))],[],[]⟩ (.tuple #[.bool true,e.key,e.val]) (w1.putObj b (.mapIter (some mb) since (C.1::seen).reverse.toArray clk)) K H:=by
      intro w1 hw b0x hm1;have q4':w1.heap[b]? =some (.mapIter (some mb) since seen.reverse.toArray last):=by rw[hw];exact q4
      exact zI (c':=.F8 (.i Z since (C.1::seen) clk)) (o':=.mapIter (some mb) since (C.1::seen).reverse.toArray clk) b0x hm1 (R0 h3' (by simp)) q1 q2 q4' (fun _ _ _ h=>by cases h) rfl ⟨b,mb,W3,q2,by rw[L5 q4',if_pos rfl],q7,q8⟩ Xc
     have hD1:I6 ((⟨Q2 (.t [(0,17),(ks,C.2.1),(vs,C.2.2)]),[(pR c,.F8 (.i Z since (C.1::seen) clk))],[],[]⟩:XQ).mm st.z6.nx st.z6.m)=s6 nx D1:=by
      show I6 (S0 st.z6.m (pR c) (.F8 (.i Z since (C.1::seen) clk),.own))=_;rw[Rg,hdo];funext r;rw[X2,X2];by_cases hr:r<nx
      ·rw[if_pos hr,if_pos hr,g2 r (Nat.le_of_lt hr)]
      ·rw[if_neg hr,if_neg hr,if_neg (by omega)]
     have V:(execOp a.eval o).run P w=.ok (.value (.tuple #[.bool true,e.key,e.val])) (w1.putObj b (.mapIter (some mb) since (C.1::seen).reverse.toArray clk)):=by
      simp only[execOp,ho,q3];refine j1 ?_;rw[I,a6T];simp[ChangeMaps.setBlock,World.putObj]
     rcases hw1 with rfl|rfl
     ·exact fin _ _ _ _ D1 V (aft _ rfl v.ok v.mem) hD1 hk
     ·exact fin _ _ _ _ D1 V ((aft w.drew rfl (v.ok.heap rfl) (v.mem.heap rfl)).drew) hD1 hk
end
section
variable {P:Program} {R:J6} {z:BV} {l:List HO} {X:Ctx} {B:Option Nat} {F0:Nat->Prop} {ro yl:Option Nat} {n:Nat} {g:List a7} {Y:Option YH} {hh:Option Hand} {all:Array Oper}
theorem Tf{o:Oper}{ops:List Oper}{k:KS}{E:Nat}{A:J1}{nx:Nat}{D:w7}{p:Nat}(h:V3 (o::ops) P R Y all k E A nx D p=.ok z l):
  (B7 all o (TE E A) true/\iH o P R E A nx D (fun e f d D' _ _ _=>V3 ops P R Y all k e f d D' p)=.ok z l)\/
  (B7 all o (TE E A) true/\∃y c v,Y=some y/\p=0/\o.op=.call c/\c.callee=.value v/\eF E A v=.c 2/\y (c.args.toList.map (eF E A)) nx D (fun b x d D'=>lR o.dst (.c (G8 b)) E A fun e f=>V3 ops P R Y all k e f d D' x)=.ok z l)\/
  (B7 all o (TE E A) false/\lR o.dst (.c 1) E A (fun e f=>V3 ops P R Y all k e f nx D p)=.ok z l):=by
 cases Y with
 |none=>
  rcases vH (A:=A) (show jQ all E o (iH o P R E A nx D fun e f d D' _ _ _=>IU ops P R all k e f d D' p) (lR o.dst (.c 1) E A fun e f=>IU ops P R all k e f nx D p)=_ from h)with⟨i,h⟩|⟨i,h⟩
  ·exact .inl ⟨i,h⟩
  ·exact .inr (.inr ⟨i,h⟩)
 |some y=>
  rcases vH (A:=A) (show jQ all E o (Wc E A o (fun args=>iB (Nat.beq p 0) (y args nx D fun b x d D'=>lR o.dst (.c (G8 b)) E A fun e f=>fM ops P R y all k e f d D' x) (.er 503 0)) (iH o P R E A nx D fun e f d D' _ _ _=>fM ops P R y all k e f d D' p))
   (lR o.dst (.c 1) E A fun e f=>fM ops P R y all k e f nx D p)=_ from h)with⟨i,h⟩|⟨i,h⟩
  ·unfold Wc at h;cases r:Wb o.op with
   |none=>rw[r]at h;exact .inl ⟨i,h⟩
   |some G=>
    rw[r]at h;obtain⟨v,args⟩:=G;have h: @BV.rec (fun _=>Rn) (fun n=>iB (Nat.beq n 2) (iB (Nat.beq p 0) (y (eV (eF E A) args []) nx D fun b x d D'=>lR o.dst (.c (G8 b)) E A fun e f=>fM ops P R y all k e f d D' x) (.er 503 0)) (iH o P R E A nx D fun e f d D' _ _ _=>fM ops P R y all k e f d D' p))
     (fun _ _=>iH o P R E A nx D fun e f d D' _ _ _=>fM ops P R y all k e f d D' p) (fun _=>iH o P R E A nx D fun e f d D' _ _ _=>fM ops P R y all k e f d D' p) (iH o P R E A nx D fun e f d D' _ _ _=>fM ops P R y all k e f d D' p) (eF E A v)=.ok z l:=h
    cases C:eF E A v with
    |c q=>
     rw[C]at h;simp only[j2]at h;split at h
     ·rename_i F;have F:=Nat.eq_of_beq_eq_true F;split at h
      ·rename_i H;have j:∃c,o.op=.call c/\c.callee=.value v/\c.args.toList=args:=by
        unfold Wb at r;split at r
        ·rename_i c j;split at r
         ·rename_i I m;cases r;exact⟨c,j,m,rfl⟩
         ·cases r
        ·cases r
       obtain⟨c,j,m,w⟩:=j;subst F;refine .inr (.inl ⟨i,y,c,v,rfl,Nat.eq_of_beq_eq_true H,j,m,C,?_⟩);rw[w];rw[lX,List.append_nil]at h;exact h
      ·cases h
     ·exact .inl ⟨i,h⟩
    |a s n=>rw[C]at h;exact .inl ⟨i,h⟩
    |t q=>rw[C]at h;exact .inl ⟨i,h⟩
    |u=>rw[C]at h;exact .inl ⟨i,h⟩
  ·exact .inr (.inr ⟨i,h⟩)
theorem R2{Q:Exit->Act->World->Prop}(hX:X.Ok)(hR:P2 P R)(hY:YOk P X B F0 ro yl hh)(hYR:Xa z l g Y hh)(N:∀ (j:Nat) (d:Tmp),(all[j]?).bind (·.dst)=some d->d<n):
  ∀ (ops:List Oper) (E:Nat) (A:J1) (nx:Nat) (D:w7) (p:Nat) (k:KS) (st:j9) (F:Nat->Prop) (K:j0) (H:Nat->Option Hd) (a:Act) (w:World),V3 ops P R Y all k E A nx D p=.ok z l->G6 n ops=true->O1 n g E A nx D p st->(∀b,F0 b->F b)->(∀q,yl=some q->K.y=some q)->
   St (X.bA st.gh st.s7) B F n K H st.z6.T st.z6.m a w->(∀r,st.nx<=r->H r=none)->
   (∀E' A' U D' p' G a' w',k E' A' U D' p'=.ok z l->O1 n g E' A' U D' p' G->sN X B F0 F n K w G a' w'->Q .normal a' w')->wpListIn (Wd ro) 0 P all Q ops a w
 |[],E,A,nx,D,p,k,st,F,K,H,a,w,h,hd,C,hF,hy,J,V,hQ=>by
  have h:k E A nx D p=.ok z l:=by cases Y<;>exact h
  exact hQ E A nx D p st a w h C (Y4 J V)
 |o::ops,E,A,nx,D,p,k,st,F,K,H,a,w,h,hd,C,hF,hy,J,V,hQ=>by
  have My:∀ (j:Nat) (d:Tmp),(all[j]?).bind (·.dst)=some d->d<a.tmps.size:=fun j d h=>Nat.lt_of_lt_of_le (N j d h) J.size
  simp only[G6,Bool.and_eq_true]at hd;have go:∀ (d:M7) (s1:SS) (S:Nat) (A1:J1) (u:Nat) (D1:w7),Y2 Γ0 P all n o st.z6 d s1->s1=⟨TE S A1,u,s1.m⟩->u<1048575->I6 s1.m=s6 u D1->V3 ops P R Y all k S A1 u D1 p=.ok z l->wpListIn (Wd ro) 0 P all Q (o::ops) a w:=by
   intro d s1 S A1 u D1 hs e RY hm1 hk;refine UO (ro:=ro) (hX.grow st.gh st.s7) (Rk P) J hs N (fun i _=>V _ (by show st.nx<=_;exact Nat.le_add_right _ _)) (fun a' w' hD=>?_)
   obtain⟨⟨K',H',I,hK,hH,I2,Z⟩,L⟩:=hD;obtain⟨s,t⟩:=O1.ex n g S A1 u D1 p RY;have hT:s.z6.T=cV st.z6.T o.dst d.val:=by
    rw[<-hs.T,e];exact t.tmps
   have O:St (X.bA s.gh s.s7) B F n K' H' s.z6.T s.z6.m a' w':=by
    rw[t.gh,t.s7,<-C.gh,<-C.s7,hT];refine I.sub (fun r x hx=>?_)
    rw[t.tW]at hx;rw[<-hs.m];exact lY hm1 r x hx
   refine R2 hX hR hY hYR N ops S A1 u D1 p k s F K' H' a' w' hk hd.2 t hF (fun l e=>hK.y l (hy l e)) O (fun r hr=>?_) (fun E2 A2 Fs D2 p2 sP a2 w2 sQ BK pV=>hQ E2 A2 Fs D2 p2 sP a2 w2 sQ BK (pV.trans (fun _ h=>h) hK (Z.less hF) (L.less hF)))
   have e1:u=nx+d.size:=by
    have:=hs.nx;rw[e]at this;rw[show u=st.z6.nx+d.size from this];show st.nx+d.size=_;rw[C.nx]
   rw[t.nx]at hr;cases hH':H' r with
   |none=>rfl
   |some x=>
    have h1:=V r (by rw[C.nx];omega)
    have h2:=I2 r h1 (by rw[hH'];simp)
    have h3:st.z6.nx=nx:=C.nx;omega
  rcases Tf h with⟨hg,h1⟩|⟨hg,y,c,gg,hYe,rfl,XU,b0y,hv,h1⟩|⟨hg,h1⟩
  ·obtain⟨v,new,set,rd,S,A1,u,D1,hs,RY,hm1,_,_,hk⟩:=Ta (n:=n) hR h1 C.I6 C.lt hd.1 hg;rw[<-C.z6]at hs;exact go _ _ S A1 u D1 hs rfl RY hm1 hk
  ·have hY0:=hY;obtain⟨Jx,hhe,b0z⟩:=hYR.some hYe;rw[hhe]at hY;obtain⟨hB,DC,q,hl,Va⟩:=hY;have hKy:=hy q hl;have n0:=fun x=>nX (E:=E) (A:=A) (a:=a) (by rw[<-C.tmps];exact J.tmp) x
   have hg':=n0 gg;rw[hv]at hg';have e2:a.eval gg=.func (.yield q) #[] #[]:=by
    rcases hg' with⟨h,_⟩|⟨_,l',e1,e2⟩|h
    ·cases h
    ·rw[hKy]at e1;cases e1;exact e2
    ·exact absurd h.lt.1 (by omega)
   have wG:c9 K H ((c.args.toList.map (eF E A)).map Q2) (c.args.toList.map a.eval):=(bU.map n0 c.args.toList).ZJ;have O:=J;rw[hB]at O;have XP:=b0z _ _ _ _ st h1 C.gh C.s7 C.nx C.M C.lt;obtain⟨f,tmps,assign,body,pD,DD⟩:=Va n _ st _ F K H a w _ XP C.n hF hKy O V wG;simp only[wpListIn];have hgg:B7 all o st.z6.T true:=by
    have:st.z6.T=TE E A:=C.tmps;rw[this];exact hg
   rw[N8 J My hgg,if_pos rfl];refine⟨fun f _=>eU ro f,?_⟩
   have Vb:(execOp a.eval o).run P w=.ok (.round q f tmps assign body) w:=by
    rw[DB XU b0y e2,<-pD];congr 2;apply Array.ext';simp
   have Xb:∀c,o.op≠ .defer c:=fun c e=>by rw[XU]at e;cases e
   rw[Oper.semAt_eq _ _ _ Xb,Vb];refine⟨lH ro,?_⟩;rw[DC];refine DD.mono (fun e w' hee=>?_)
   obtain⟨b,G,rfl,⟨p',U,D',hk,k1,k2,k3,k4,k5,k6,k7⟩,hn',ht⟩:=hee;show wpListIn (Wd none) 0 P all Q ops (a.put o.dst (.bool b)) w';obtain⟨⟨F',K',H',uN,I,hK,It,Z⟩,L⟩:=ht;obtain⟨S,A1,g1,g2⟩:=yJ hk;obtain⟨s,t⟩:=O1.ex n g S A1 U D' p' k7;have hT:s.z6.T=cV G.z6.T o.dst (.bool b):=by
    have a1:s.z6.T=TE S A1:=t.tmps;have a2:G.z6.T=TE E A:=by show y9 G.tmps=_;rw[k2,C.tmps]
    rw[a1,a2,<-Mt b];exact g2
   have iX:St (X.bA s.gh s.s7) none F' n K' H' s.z6.T s.z6.m (a.put o.dst (.bool b)) w':=by
    have:s.z6.m=G.z6.m:=by rw[t.tW];show _=n9 G.M;rw[k4]
    rw[hT,this,t.gh,t.s7,<-k5,<-k6];exact I.put (o:=o) hd.1 (hX.grow _ _) (.refl K') (.refl H') (.refl F' w') I.ok I.mem (by simp[c8])
   rw[<-hB]at iX;rw[<-DC];exact R2 hX hR hY0 hYR N ops S A1 U D' p' k s F' K' H' (a.put o.dst (.bool b)) w' g1 hd.2 t (fun b hb=>uN b (hF b hb)) (fun l e=>hK.y l (hy l e)) iX (fun r hr=>It r (by rw[k3];rw[t.nx]at hr;exact hr))
    (fun E2 A2 Fs D2 p2 sP a2 w2 sQ BK pV=>hQ E2 A2 Fs D2 p2 sP a2 w2 sQ BK (pV.trans uN hK Z L))
  ·obtain⟨S,A1,hs,hk⟩:=step_skip (n:=n) (nx:=nx) (m:=st.z6.m) h1 hd.1 hg;rw[<-C.z6]at hs;exact go _ _ S A1 nx D hs rfl C.lt C.I6 hk
theorem Bq{ops:Array Oper}{i:Operand}{t:Tmp}(h:Et ops=some (i,t)):∃o rest,ops.toList=o::rest/\o.op=.next i false/\o.dst=some t/\o.guard=none:=by
 unfold Et at h;split at h
 ·rename_i o rest e;split at h
  ·rename_i d f a b c;cases h;exact⟨o,rest,e,a,b,c⟩
  ·cases h
 ·cases h
theorem Tg{Q:Exit->Act->World->Prop}(hX:X.Ok)(o7:P.follows .mixedOrders=true)(hR:P2 P R)(hY:YOk P X B F0 ro yl hh)(hYR:Xa z l g Y hh)(id:Nat)(ops:Array Oper)(N:Bool)(FD:Code.j3 (.region id ops N)=true)(J:G6 n ops.toList=true)
  {Fu:Nat}{I:GY}{E:Nat}{A:J1}{nx:Nat}{D:w7}{p:Nat}{k:KC}{st:j9}{F:Nat->Prop}{K:j0}{H:Nat->Option Hd}{a:Act}{w:World}(h:Zn ops N P Fu R I Y E A nx D p k=.ok z l)(V:O1 n g E A nx D p st)(hF:∀b,F0 b->F b)(hy:∀q,yl=some q->K.y=some q)
  (BS:St (X.bA st.gh st.s7) B F n K H st.z6.T st.z6.m a w)(H7:∀r,st.nx<=r->H r=none)(hQ:∀v A' f D' p' s G w',k .normal v A' f D' p'=.ok z l->O1 n g v A' f D' p' s->sN X B F0 F n K w s G w'->Q .normal G w'):
  (Code.region id ops N).wpIn (Wd ro) 0 P Q a w:=by
 have O:∀ (j:Nat) (d:Tmp),(ops[j]?).bind (·.dst)=some d->d<n:=fun j d hj=>bS J j d (by simpa using hj)
 unfold Zn at h;have DG:St (X.bA st.gh st.s7) B F n K H (TE E A) st.z6.m a w:=by rw[<-V.tmps];exact BS
 have Vh:∀r,nx<=r->H r=none:=fun r M=>H7 r (by rw[V.nx];exact M)
 have Z:∀ (k:KS),S2 ops=true->rS ops P R k E A nx D p=.ok z l->(∀v A' f D' s G w',k v A' f D' p=.ok z l->O1 n g v A' f D' p s->sN X B F0 F n K w s G w'->Q .normal G w')->(Code.region id ops true).wpIn (Wd ro) 0 P Q a w:=by
  intro k FD h hQ;obtain⟨S,Ds,v,A',f,D',q0,q1,q2,q3,q4,q5,q6,_,q7⟩:=Fp (n:=n) hR h J V.lt V.I6;refine Dr (hX.grow st.gh st.s7) o7 (Rk P) q1 FD q6 (by rw[q0];exact DG) (fun r M=>Vh r (by rw[q0]at M;exact M)) (fun G w' ht=>?_)
  obtain⟨C,u⟩:=O1.ex n g v A' f D' p q5;refine hQ v A' f D' C G w' q7 u ?_;obtain⟨⟨K',H',t1,t2,t3,t4⟩,t5⟩:=ht;refine⟨⟨F,K',H',fun _ h=>h,?_,t2,fun r M=>t3 r (by rw[q3];rw[u.nx]at M;exact M),t4.less hF⟩,t5.less hF⟩
  have e1:C.z6.T=TE v A':=u.tmps;rw[e1,u.gh,u.s7,<-V.gh,<-V.s7,<-q2];exact t1.sub (fun r x hx=>by rw[u.tW]at hx;exact lY q4 r x hx)
 cases N with
 |true=>
  rw[j2,if_pos rfl]at h;have a6U:S2 ops=true:=by have:=FD;simp[Code.j3]at this;exact this.1
  cases U:Au ops with
  |none=>
   rw[U]at h;exact Z _ a6U h (fun v A' f D' s G w' hk L ht=>hQ v A' f D' p s G w' hk L ht)
  |some c=>
   rw[U]at h;cases Y with
   |none=>exact Z _ a6U h (fun v A' f D' s G w' hk L ht=>hQ v A' f D' p s G w' hk L ht)
   |some y=>
    have h:rS (Q4 ops c) P R (fun E A nx D p=>V3 (ops.toList.drop c) P R (some y) ops (k .normal) E A nx D p) E A nx D p=.ok z l:=h
    have Pv:S2 ops=true/\S2 (Q4 ops c)=true:=by simpa [Code.j3,Uh,U]using FD
    have hdp:G6 n (Q4 ops c).toList=true/\G6 n (ops.toList.drop c)=true:=by
     have:∀ (l:List Oper) (c:Nat),G6 n l=true->G6 n (l.take c)=true/\G6 n (l.drop c)=true:=by
      intro l
      induction l with
      |nil=>intro c _;simp[G6]
      |cons o l ih=>
       intro c h;cases c with
       |zero=>exact⟨rfl,h⟩
       |succ c=>
        simp only[G6,Bool.and_eq_true,List.take_succ_cons,List.drop_succ_cons]at h ⊢;exact⟨⟨h.1,(ih c h.2).1⟩,(ih c h.2).2⟩
     have:=this ops.toList c J;exact⟨by simpa [Q4]using this.1,this.2⟩
    obtain⟨S,Ds,v,A',f,D',q0,q1,q2,q3,q4,q5,q6,_,q7⟩:=Fp (n:=n) hR h hdp.1 V.lt V.I6;refine US (hX.grow st.gh st.s7) o7 (Rk P) (Dx U) Pv.1 q1 Pv.2 q6 (by rw[q0];exact DG) (fun r M=>Vh r (by rw[q0]at M;exact M)) (fun G w' ht=>?_)
    obtain⟨C,u⟩:=O1.ex n g v A' f D' p q5;obtain⟨⟨K',H',t1,t2,t3,t4⟩,t5⟩:=ht;have yL:St (X.bA C.gh C.s7) B F n K' H' C.z6.T C.z6.m G w':=by
     have e1:C.z6.T=TE v A':=u.tmps;rw[e1,u.gh,u.s7,<-V.gh,<-V.s7,<-q2];exact t1.sub (fun r x hx=>by rw[u.tW]at hx;exact lY q4 r x hx)
    exact R2 hX hR hY hYR O _ v A' f D' p _ C F K' H' G w' q7 hdp.2 u hF (fun l e=>t2.y l (hy l e)) yL (fun r M=>t3 r (by rw[q3];rw[u.nx]at M;exact M))
     (fun E2 A2 Fs D2 p2 sP a2 w2 sQ BK pV=>hQ E2 A2 Fs D2 p2 sP a2 w2 sQ BK (pV.trans (fun _ h=>h) t2 (t4.less hF) (t5.less hF)))
 |false=>
  rw[j2,if_neg (by simp)]at h
  cases Ik:Et ops with
  |none=>
   rw[Ik]at h;exact wpIn_region_list (R2 hX hR hY hYR O ops.toList E A nx D p _ st F K H a w h J V hF hy BS H7 (fun v A' f D' p' s G w' hk L ht=>hQ v A' f D' p' s G w' hk L ht))
  |some it=>
   rw[Ik]at h;obtain⟨i,t⟩:=it;obtain⟨o,rest,e1,e2,e3,e4⟩:=Bq Ik;have h:Eu i t (V3 (List.drop 1 ops.toList) P R Y ops (k .normal)) E A nx D p=.ok z l:=h;rw[e1]at h J;rw[List.drop_succ_cons,List.drop_zero]at h;simp only[G6,Bool.and_eq_true]at J;refine wpIn_region_list ?_;rw[e1];refine Fq hX O e2 e3 e4 J.1 h V hF BS H7 (fun v A' D' s G w' hk L ht Gj=>?_)
   exact R2 hX hR hY hYR O rest v A' nx D' p _ s F K H G w' hk J.2 L hF hy Gj (fun r M=>H7 r (by rw[V.nx];rw[L.nx]at M;exact M)) (fun E2 A2 Fs D2 p2 sP a2 w2 sQ BK pV=>hQ E2 A2 Fs D2 p2 sP a2 w2 sQ BK (pV.trans (fun _ h=>h) (.refl K) (.refl F0 K) ht.kept))
end
end Go.Abs
end
section
namespace Go.Abs
theorem sD:∀ (l:List Nat) (t:Nat),t∈dedup l↔t∈l
 |[],t=>by simp[dedup]
 |a::l,t=>by
  rw[dedup];split
  ·rename_i h;rw[sD l,List.mem_cons];have h:a∈l:=(sD l a).1 (by simpa using h)
   exact⟨.inr,fun hh=>hh.elim (fun e=>e▸h) id⟩
  ·rw[List.mem_cons,List.mem_cons,sD l]
theorem Mz(f:Nat->a7):∀ (L:List Nat) (t:Nat),y9 (iU L (L.map f)) t=if t∈L then f t else .R3
 |[],t=>by simp[iU,y9]
 |a::L,t=>by
  simp only[List.map_cons,iU,y9];rw[Mz f L t];by_cases h:a=t
  ·subst h;simp
  ·rw[if_neg h];have:t∈a::L↔t∈L:=by rw[List.mem_cons];exact⟨fun hh=>hh.resolve_left (fun e=>h e.symm),.inr⟩
   simp only[this]
theorem MA:∀ (a:List (Nat×a7)) (t:Nat),t ∉ a.map (·.1)->y9 a t=.R3
 |[],t,_=>rfl
 |p::a,t,h=>by
  simp only[List.map_cons,List.mem_cons,not_or]at h;simp only[y9];rw[if_neg (fun e=>h.1 e.symm)]
  exact MA a t h.2
theorem Ao{tm:List (Nat×a7)}{L:List Nat}(h:∀t,t∈L↔t∈tm.map (·.1)):y9 (iU L (L.map (y9 tm)))=y9 tm:=by
 funext t;rw[Mz];split
 ·rfl
 ·rename_i hh;exact(MA tm t (fun e=>hh ((h t).2 e))).symm
theorem Ft{α β:Type}(f:α->β)(L:List α)(g:List β):(L.map f++g).take L.length=L.map f:=by rw[List.take_append_of_le_length (by simp),List.take_of_length_le (by simp)]
theorem MB{α β:Type}(f:α->β)(L:List α)(g:List β):(L.map f++g).drop L.length=g:=by
 have:(L.map f).length=L.length:=by simp
 rw[<-this,List.drop_left]
theorem MC{v:BV}(h:a2n v=true):(Q2 v).yX=true:=by
 cases v with
 |c n=>
  have h:iB (Nat.beq n 2) false true=true:=h;rw[j2]at h;split at h
  ·cases h
  ·rename_i b;have b:n≠2:=fun e=>b (by rw[e];rfl)
   simp only[Q2];split
   ·rfl
   ·split<;>first|rfl|(split<;>rfl)
 |a s n=>rfl
 |t l=>
  clear h;simp only[Q2,a7.yX]
  induction l with
  |nil=>rfl
  |cons a l d=>simp only[List.map_cons,eY,a7.yX,Bool.true_and];exact d
 |u=>rfl
section
variable {P:Program} {R:J6} {z:BV} {l:List HO} {n:Nat}
theorem MD:∀ (ps:List Nat) (args:List BV) (E:Nat) (A:J1) (k:Nat->J1->Rn),LO ps args E A k=.ok z l->
  ∃a b,k a b=.ok z l/\args.length=ps.length/\eY (args.map Q2)=true/\∀c,y9 c=TE E A->y9 (setArgs ps (args.map Q2) c)=TE a b
 |[],[],E,A,k,h=>⟨E,A,h,rfl,rfl,fun c h=>h⟩
 |[],_::_,E,A,k,h=>by cases h
 |p::ps,[],E,A,k,h=>by cases h
 |p::ps,v::vs,E,A,k,h=>by
  have h:iB (a2n v) (bM p v E A fun a b=>LO ps vs a b k) (.er 524 0)=.ok z l:=h
  rw[j2]at h;split at h
  ·rename_i d;obtain⟨f,g,i,j⟩:=fU h;obtain⟨a,b,m,g2,o,q⟩:=MD ps vs f g k i;refine⟨a,b,m,by simp[g2],by simp[eY,o,MC d],fun c r=>?_⟩
   simp only[List.map_cons,setArgs];refine q _ ?_;funext t;simp only[y9];unfold TE;rw[j];by_cases e:p=t
   ·subst e;simp
   ·rw[if_neg e,if_neg (fun h=>e h.symm),r];rfl
  ·cases h
theorem vJ:∀ (args:List BV) (i E:Nat) (A:J1) (k:Nat->J1->Rn),jR args i E A k=.ok z l->∃a b,k a b=.ok z l/\∀t,F7 a b t=if i<=t/\t<i+args.length then args.getD (t- i) .u else F7 E A t
 |[],i,E,A,k,h=>⟨E,A,h,fun t=>by rw[if_neg (by simp only[List.length_nil];omega)]⟩
 |v::vs,i,E,A,k,h=>by
  obtain⟨d,f,g,j⟩:=fU (show bM i v E A (fun a b=>jR vs (Nat.succ i) a b k)=_ from h)
  obtain⟨a,b,m,g2⟩:=vJ vs (i+1) d f k g;refine⟨a,b,m,fun t=>?_⟩
  rw[g2,j];by_cases e:t=i
  ·subst e;rw[if_neg (by omega),if_pos rfl,if_pos (by simp)]
   simp
  ·by_cases c:i+1<=t/\t<i+1+vs.length
   ·rw[if_pos c,if_pos (by simp;omega),show t- i=(t- (i+1))+1 by omega]
    simp
   ·rw[if_neg c,if_neg e,if_neg (by simp;omega)]
theorem Pw{K:j0}{F:Nat->Prop}{H:Nat->Option Hd}{w:World}{m:Mm}{nx:Nat}{D:w7}(M:j8 F K H w m)(N:I6 m=s6 nx D){q:Nat}{g:Value}(O:u7 K H (.c q) g){e:Nat->Rn}(t:∀n,e n≠ .ok z l){k:FuncId->List BV->Rn}(h:Ca (s6 nx D) q e k=.ok z l):
  ∃f s x,g=.func (.func f) #[] s/\k f x=.ok z l/\bU K H x s.toList/\eY (x.map Q2)=true:=by
 rw[<-N]at h;unfold Ca at h;rw[j2]at h;split at h
 ·rename_i A;have A:q % 8=7:=Nat.eq_of_beq_eq_true A;rcases(O.cell (by omega)).Zr A with⟨B,C⟩|⟨r,hd,S,s,B,T,Z,q3,q4,q5,q6,q7,C⟩
  ·rw[B]at h;exact⟨fF q,#[],[],C,h,⟨rfl,fun i c z U=>by simp at U⟩,rfl⟩
  ·rw[B]at h;have h:=(show(@HO.rec (fun _=>Rn) (fun _ _=>e 190) (fun _ _ _ _=>e 191) (fun E _ k2 u=>iB (Nat.beq E 0) (k (fF q) (aA k2 u [])) (e 195)) (fun _ _ _ _=>e 192) (e 193) (I6 m r))=_ from h)
   cases o:I6 m r with
   |f E n1 k2 u=>
    rw[o]at h;have h:iB (Nat.beq E 0) (k (fF q) (aA k2 u [])) (e 195)=.ok z l:=h;rw[j2]at h;split at h
    ·rename_i v;have v:=Nat.eq_of_beq_eq_true v;obtain⟨g1,g2,g3,g4,V⟩:=M.cont r _ .own hd (R0 o (by simp)) (by simp) T
     rw[g2]at q3;have G:S= #[]:=Array.eq_empty_of_size_eq_zero (by omega)
     subst G;have p:∀ (i:Nat) (y:Value),s[i]? =some y->j5 H (R6 u i) y:=by rw[<-V];exact q7
     have I:s.size=k2:=by simp only[Array.size_empty]at q3;omega
     refine⟨fF q,s,_,C,h,?_,?_⟩
     ·rw[iL,List.append_nil];exact Ff I p
     ·rw[iL,List.append_nil];have:∀ (L:List Nat),(∀i∈L,i<k2)->eY ((L.map fun i=>BV.c (R6 u i)).map Q2)=true:=by
       intro L
       induction L with
       |nil=>intro _;rfl
       |cons i L X=>
        intro J;simp only[List.map_cons,eY,Bool.and_eq_true];refine⟨MC ?_,X (fun j Y=>J j (List.mem_cons_of_mem _ Y))⟩
        have hi:=J i List.mem_cons_self;have:=(p i s[i] (Array.getElem?_eq_getElem (by omega))).lt.1
        show iB (Nat.beq (R6 u i) 2) false true=true;rw[j2,if_neg];intro e;have:=Nat.eq_of_beq_eq_true e;omega
      exact this _ (fun i hi=>List.mem_range.1 hi)
    ·exact absurd h (t _)
   |c a b=>rw[o]at h;exact absurd h (t _)
   |m a b c d=>rw[o]at h;exact absurd h (t _)
   |i a b c d=>rw[o]at h;exact absurd h (t _)
   |z=>rw[o]at h;exact absurd h (t _)
 ·exact absurd h (t _)
def Gk(I:GY)(z:BV)(l:List HO):Iter:=fun h d args s0 k=>∃ (y:YH) (c:List BV) (nx:Nat) (D:w7) (kk:Nat->w7->Nat->Rn),args=c.map Q2/\I y d c nx D kk=.ok z l/\s0.nx=nx/\s0.M=G3 nx D/\nx<1048575/\ZS z l ((s0.tmps.map (·.1)).map (y9 s0.tmps)++s0.gh) y h/\
 ∀a D' j b,kk a D' j=.ok z l->b.nx=a->b.M=G3 a D'->b.gh=(s0.tmps.map (·.1)).map (y9 s0.tmps)++s0.gh->b.s7=Hk j->a<1048575->k b
def JC(z:BV)(l:List HO)(n:Nat)(P:Program)(Fu:Nat)(R:J6)(I:GY)(c:Code):j9->(I3->j9->Prop)->Prop:=fun st k=>∃E A nx D p d,O1 n st.gh E A nx D p st/\BJ c P Fu R I none E A nx D p d=.ok z l/\
 ∀e f g a D' h b,d e f g a D' h=.ok z l->O1 n st.gh f g a D' h b->k e b
theorem dN{e:I3}{a c:Rn}{b:Nat->Rn}(h:BI e a b c=.ok z l):(e=.normal/\a=.ok z l)\/(∃i,e=.exit i/\b i=.ok z l)\/(e=.ret/\c=.ok z l):=by
 cases e with
 |normal=>exact .inl ⟨rfl,h⟩
 |exit i=>exact .inr (.inl ⟨i,rfl,h⟩)
 |ret=>exact .inr (.inr ⟨rfl,h⟩)
theorem Xd{Fu:Nat}{I:GY}{E:Nat}{A:J1}{s0:j9}{ps:List Nat}{H J:Code}(K:s0.n=n)(N:y9 s0.tmps=TE E A)(s:Gp n ps=true):
  ZS z l ((s0.tmps.map (·.1)).map (y9 s0.tmps)++s0.gh) (fun args nx D kk=>LO ps args E A fun u v=>BJ H P Fu R I none u v nx D 0 fun e w x g y B=>BI e (BJ J P Fu R I none w x g y B fun L _ _ c k _=>BI L (kk true 0 c k) (fun i=>fN (Nat.succ (Nat.succ i)) fun j=>kk false j c k) (kk false 1 c k)) (fun _=>.er 517 0) (.er 518 0))
   (CC s0.n (s0.tmps.map (·.1)) ps (JC z l n P Fu R I H) (JC z l n P Fu R I J)):=by
 intro args nx D kk b h r O S hM C;obtain⟨u,v,T,U,V,X⟩:=MD _ _ _ _ _ h;unfold CC;rw[if_pos ⟨O,by simpa using U,by rw[K];exact s,V,by rw[hM];exact nT _ _⟩]
 refine⟨u,v,nx,D,0,_,⟨hM,C,rfl,?_,rfl,S,K⟩,T,?_⟩
 ·refine X _ ?_;rw[r,Ft,Ao (fun _=>Iff.rfl),N]
 ·intro e w x g y B Z Y m;rcases dN Y with⟨rfl,f⟩|⟨i,rfl,f⟩|⟨rfl,f⟩
  ·refine⟨w,x,g,y,B,_,by rw[m.gh];exact m,f,?_⟩
   intro L E2 A2 c k p2 F G a;rw[if_pos (by rw[a.M];exact nT _ _)]
   have q:F.gh=(dedup (b.tmps.map (·.1))).map (y9 b.tmps)++b.gh:=by rw[a.gh,m.gh]
   have o:y9 (iU (dedup (b.tmps.map (·.1))) (F.gh.take (dedup (b.tmps.map (·.1))).length))=y9 b.tmps:=by
    rw[q,Ft,Ao (fun t=>sD _ t)]
   have p:F.gh.drop (dedup (b.tmps.map (·.1))).length=b.gh:=by rw[q,MB]
   rcases dN G with⟨rfl,d⟩|⟨i,rfl,d⟩|⟨rfl,d⟩
   ·exact⟨0,c,k,d,rfl,o,a.nx,a.M,p.trans r,rfl,a.lt⟩
   ·exact⟨i+2,c,k,(by rw[J8]at d;exact d),rfl,o,a.nx,a.M,p.trans r,rfl,a.lt⟩
   ·exact⟨1,c,k,d,rfl,o,a.nx,a.M,p.trans r,rfl,a.lt⟩
  ·cases f
  ·cases f
theorem mD(o7:P.follows .mixedOrders=true)(hR:P2 P R){Fu:Nat}{I:GY}(Iw:bK P (Gk I z l)):∀ (c:Code),Code.j3 c=true->G0 n c=true->∀ (X:Ctx) (B:Option Nat) (F0:Nat->Prop) (ro yl:Option Nat) (g:List a7) (Y:Option YH) (hh:Option Hand),X.Ok->oK X ro->YOk P X B F0 ro yl hh->Xa z l g Y hh->
  ((B=none->ro≠none)\/∀y f args nx D k,I y f args nx D k≠ .ok z l)->∀ (E:Nat) (A:J1) (nx:Nat) (D:w7) (p:Nat) (kc:KC) (st:j9) (F:Nat->Prop) (K:j0) (H:Nat->Option Hd) (a:Act) (w:World) (Q:Exit->Act->World->Prop),BJ c P Fu R I Y E A nx D p kc=.ok z l->O1 n g E A nx D p st->(∀b,F0 b->F b)->(∀q,yl=some q->K.y=some q)->
  St (X.bA st.gh st.s7) B F n K H st.z6.T st.z6.m a w->(∀r,st.nx<=r->H r=none)->(∀e E' A' C D' p' o a' w',kc e E' A' C D' p'=.ok z l->O1 n g E' A' C D' p' o->sN X B F0 F n K w o a' w'->Q e.out a' w')->c.wpIn (Wd ro) 0 P Q a w:=by
 intro c
 induction c with
 |skip=>
  intro J G X B F0 ro yl g Y hh hX O hY V hB E A nx D p kc st F K H a w Q h U hF hy d v Z;exact wpIn_skip (Z .normal E A nx D p st a w h U (Y4 d v))
 |region id ops draw=>
  intro J G X B F0 ro yl g Y hh hX O hY V hB E A nx D p kc st F K H a w Q h U hF hy d v Z;exact Tg (Fu:=Fu) (I:=I) hX o7 hR hY V id ops draw J G h U hF hy d v (fun E' A' C D' p' o a' w' hk L ht=>Z .normal E' A' C D' p' o a' w' hk L ht)
 |seq x y Vf Vg=>
  intro J G X B F0 ro yl g Y hh hX O hY V hB E A nx D p kc st F K H a w Q h U hF hy d v Z;simp only[Code.j3,Bool.and_eq_true]at J;simp only[G0,Bool.and_eq_true]at G;refine wpIn_seq (Vf J.1 G.1 X B F0 ro yl g Y hh hX O hY V hB E A nx D p _ st F K H a w _ h U hF hy d v ?_);intro e E' A' C D' p' o a' w' hk L ht;rcases dN hk with⟨rfl,S⟩|⟨i,rfl,S⟩|⟨rfl,S⟩
  ·obtain⟨⟨F',K',H',uN,Gj,hK,It,lE⟩,nY⟩:=ht;exact Vg J.2 G.2 X B F0 ro yl g Y hh hX O hY V hB E' A' C D' p' kc o F' K' H' a' w' Q S L (fun b hb=>uN b (hF b hb)) (fun l e=>hK.y l (hy l e)) Gj It (fun e E2 A2 Fs D2 p2 sP a2 w2 sQ BK pV=>Z e E2 A2 Fs D2 p2 sP a2 w2 sQ BK (pV.trans uN hK lE nY))
  ·exact Z _ _ _ _ _ _ o a' w' S L ht
  ·exact Z _ _ _ _ _ _ o a' w' S L ht
 |cond c x y Vf Vg=>
  intro J G X B F0 ro yl g Y hh hX O hY V hB E A nx D p kc st F K H a w Q h U hF hy d v Z;simp only[Code.j3,Bool.and_eq_true]at J;simp only[G0,Bool.and_eq_true]at G;have hc:=nX (E:=E) (A:=A) (a:=a) (K:=K) (H:=H) (by rw[<-U.tmps];exact d.tmp) c
  have h: @BV.rec (fun _=>Rn) (fun n=>iB (Nat.beq n 17) (BJ x P Fu R I Y E A nx D p kc) (iB (Nat.beq n 9) (BJ y P Fu R I Y E A nx D p kc) (.er 513 0))) (fun _ _=>.er 514 0) (fun _=>.er 515 0) (.er 516 0) (eF E A c)=.ok z l:=h
  cases hv:eF E A c with
  |c q=>
   rw[hv]at h hc;simp only[j2]at h;split at h
   ·rename_i e;have e:=Nat.eq_of_beq_eq_true e;subst e;exact wpIn_cond_true ((hc.cell (by decide)).isBool.1 rfl) (Vf J.1 G.1 X B F0 ro yl g Y hh hX O hY V hB E A nx D p kc st F K H a w Q h U hF hy d v Z)
   ·split at h
    ·rename_i e;have e:=Nat.eq_of_beq_eq_true e;subst e;exact wpIn_cond_false ((hc.cell (by decide)).isBool.2 rfl) (Vg J.2 G.2 X B F0 ro yl g Y hh hX O hY V hB E A nx D p kc st F K H a w Q h U hF hy d v Z)
    ·cases h
  |a s n=>rw[hv]at h;cases h
  |t q=>rw[hv]at h;cases h
  |u=>rw[hv]at h;cases h
 |block id c ih=>
  intro J G X B F0 ro yl g Y hh hX O hY V hB E A nx D p kc st F K H a w Q h U hF hy d v Z;refine wpIn_block (ih J G X B F0 ro yl g Y hh hX O hY V hB E A nx D p _ st F K H a w _ h U hF hy d v ?_);intro e E' A' C D' p' o a' w' hk L ht;rcases dN hk with⟨rfl,S⟩|⟨i,rfl,S⟩|⟨rfl,S⟩
  ·exact Z .normal _ _ _ _ _ o a' w' S L ht
  ·simp only[I3.out,Exit.inBlock];rw[j2]at S;by_cases hi:i=id
   ·rw[if_pos hi];rw[if_pos (by rw[hi];exact Nat.beq_refl id)]at S
    exact Z .normal _ _ _ _ _ o a' w' S L ht
   ·rw[if_neg hi];rw[if_neg (fun e=>hi (Nat.eq_of_beq_eq_true e))]at S
    exact Z (.exit i) _ _ _ _ _ o a' w' S L ht
  ·exact Z .ret _ _ _ _ _ o a' w' S L ht
 |loop c ih=>
  intro J G X B F0 ro yl g Y hh hX O hY V hB E A nx D p kc st F K H a w Q h U hF hy d v Z;have h:Ev (BJ c P Fu R I Y) kc Fu E A nx D p=.ok z l:=h;refine wpIn_loop_rounds Fu ?_;have go:∀ (N:Nat) (E:Nat) (A:J1) (nx:Nat) (D:w7) (p:Nat) (st:j9) (F:Nat->Prop) (K:j0) (H:Nat->Option Hd) (a:Act) (w:World),Ev (BJ c P Fu R I Y) kc N E A nx D p=.ok z l->O1 n g E A nx D p st->(∀b,F0 b->F b)->(∀q,yl=some q->K.y=some q)->
    St (X.bA st.gh st.s7) B F n K H st.z6.T st.z6.m a w->(∀r,st.nx<=r->H r=none)->(∀e E' A' C D' p' o a' w',kc e E' A' C D' p'=.ok z l->O1 n g E' A' C D' p' o->sN X B F0 F n K w o a' w'->Q e.out a' w')->Code.roundsIn (Wd ro) 0 P c Q N a w:=by
   intro N
   induction N with
   |zero=>intro E A nx D p st F K H a w h;cases h
   |succ N ihN=>
    intro E A nx D p st F K H a w h U hF hy d v Z;rw[roundsIn_succ];refine ih J G X B F0 ro yl g Y hh hX O hY V hB E A nx D p _ st F K H a w _ h U hF hy d v ?_;intro e E' A' C D' p' o a' w' hk L ht;rcases dN hk with⟨rfl,S⟩|⟨i,rfl,S⟩|⟨rfl,S⟩
    ·obtain⟨⟨F1,K1,H1,uN,yL,hK,KN,lE⟩,nY⟩:=ht;exact ihN E' A' C D' p' o F1 K1 H1 a' w' S L (fun b hb=>uN b (hF b hb)) (fun l e=>hK.y l (hy l e)) yL KN (fun e E2 A2 Fs D2 p2 sP a2 w2 sQ BK pV=>Z e E2 A2 Fs D2 p2 sP a2 w2 sQ BK (pV.trans uN hK lE nY))
    ·exact Z _ _ _ _ _ _ o a' w' S L ht
    ·exact Z _ _ _ _ _ _ o a' w' S L ht
  exact go Fu E A nx D p st F K H a w h U hF hy d v Z
 |exit id=>
  intro J G X B F0 ro yl g Y hh hX O hY V hB E A nx D p kc st F K H a w Q h U hF hy d v Z;exact wpIn_exit (Z (.exit id) E A nx D p st a w h U (Y4 d v))
 |ret=>
  intro J G X B F0 ro yl g Y hh hX O hY V hB E A nx D p kc st F K H a w Q h U hF hy d v Z;exact wpIn_ret (Z .ret E A nx D p st a w h U (Y4 d v))
 |scope c ih=>
  intro J G X B F0 ro yl g Y hh hX O hY V hB E A nx D p kc st F K H a w Q h U hF hy d v Z;refine aL (ih J G X B F0 ro yl g Y hh hX O hY V hB E A nx D p kc st F K H a w _ h U hF hy d v ?_);intro e E' A' C D' p' o a' w' hk L ht;have:=Z e E' A' C D' p' o a' w' hk L ht;cases e<;>exact this
 |label l=>
  intro J G X B F0 ro yl g Y hh hX O hY V hB E A nx D p kc st F K H a w Q h U hF hy d v Z;exact wpIn_label (Z .normal E A nx D p st a w h U (Y4 d v))
 |rangeFunc g0 ps assign body iha ihb=>
  intro J G X B F0 ro yl g Y hh hX O hY V hB E A nx D p kc st F K H a w Q h U hF hy d v Z;simp only[Code.j3,Bool.and_eq_true]at J;simp only[G0,Bool.and_eq_true]at G;have hc:=nX (E:=E) (A:=A) (a:=a) (K:=K) (H:=H) (by rw[<-U.tmps];exact d.tmp) g0
  have h: @BV.rec (fun _=>Rn) (fun cg=>Ca (s6 nx D) cg (fun n=>.er n 0) fun f cap=>fN f fun f=>
   I (fun args nx D kk=>LO ps.toList args E A fun E' A'=>BJ assign P Fu R I none E' A' nx D 0 fun e E1 A1 nx1 D1 p1=>BI e (BJ body P Fu R I none E1 A1 nx1 D1 p1 fun e2 _ _ Fs D2 _=>BI e2 (kk true 0 Fs D2) (fun i=>fN (Nat.succ (Nat.succ i)) fun j=>kk false j Fs D2) (kk false 1 Fs D2)) (fun _=>.er 517 0) (.er 518 0))
    f (.c 2::cap) nx D (fun C D' j=>@Nat.rec (fun _=>Rn) (kc .normal E A C D' p) (fun j _=>@Nat.rec (fun _=>Rn) (kc .ret E A C D' p) (fun i _=>kc (.exit i) E A C D' p) j) j)) (fun _ _=>.er 519 0) (fun _=>.er 520 0) (.er 521 0) (eF E A g0)=.ok z l:=h
  cases hv:eF E A g0 with
  |c cg=>
   rw[hv]at h hc;obtain⟨f,ca,bs,e1,h1,h2,h3⟩:=Pw d.mem U.I6 hc (fun n e=>by cases e) h
   rw[J8]at h1;rcases hB with hB|hB
   ·refine DF Iw hX O hB (ps:=ps) (Ja:=JC z l n P Fu R I assign) (Jb:=JC z l n P Fu R I body) ?_ ?_ (s0:=st) (k:=fun e o=>∃C D',kc e E A C D' p=.ok z l/\O1 n g E A C D' p o) U.n hF d v e1 h2.ZJ ⟨h3,by rw[U.M];exact nT _ _⟩ ?_ (fun e o a' w' hk _ ht=>by obtain⟨C,D',hk,L⟩:=hk;exact Z e E A C D' p o a' w' hk L ht)
    ·intro X F0 l hX O st k F K H a w Q hj hn hF hy d v Z;obtain⟨E,A,nx,D,p,kc,U,hc,hk⟩:=hj;exact iha J.1 G.1.2 X none F0 (some l) none st.gh none none hX O trivial trivial (.inl (fun _=>by simp)) E A nx D p kc st F K H a w Q hc U hF hy d v (fun e E' A' C D' p' o a' w' Wp L ht=>Z e o a' w' (hk _ _ _ _ _ _ _ Wp L) L.n ht)
    ·intro X F0 l hX O st k F K H a w Q hj hn hF hy d v Z;obtain⟨E,A,nx,D,p,kc,U,hc,hk⟩:=hj;exact ihb J.2 G.2 X none F0 (some l) none st.gh none none hX O trivial trivial (.inl (fun _=>by simp)) E A nx D p kc st F K H a w Q hc U hF hy d v (fun e E' A' C D' p' o a' w' Wp L ht=>Z e o a' w' (hk _ _ _ _ _ _ _ Wp L) L.n ht)
    ·refine⟨_,_,nx,D,_,rfl,h1,U.nx,U.M,U.lt,Xd U.n U.tmps G.1.1,?_⟩;intro C D' j s1 hk YE hM1 hg1 hp1 hl1;rw[if_pos (by rw[hM1];exact nT _ _)]
     refine⟨C,D',?_,hM1,hl1,U.s7,?_,?_,YE,U.n⟩
     ·rw[hp1]
      match j,hk with
      |0,hk=>exact hk
      |1,hk=>exact hk
      |i+2,hk=>exact hk
     ·show y9 (iU _ (s1.gh.take _))=_;rw[hg1,Ft,Ao (fun _=>Iff.rfl),U.tmps]
     ·show s1.gh.drop _=g;rw[hg1,MB,U.gh]
   ·exact absurd h1 (hB _ _ _ _ _ _)
  |a s n=>rw[hv]at h;cases h
  |t q=>rw[hv]at h;cases h
  |u=>rw[hv]at h;cases h
 |_=>intro J G X B F0 ro yl g Y hh hX O hY V hB E A nx D p kc st F K H a w Q h;cases h
def Xe(P:Program)(Fu:Nat)(R:J6)(I:GY)(z:BV)(l:List HO)(n:Nat)(ev:OU)(c:Code):Prop:=∀ (X:Ctx) (B:Option Nat) (F0:Nat->Prop) (ro:Option Nat) (g:List a7),X.Ok->oK X ro->(B=none->ro≠none)->∀ (E:Nat) (A:J1) (nx:Nat) (D:w7) (p:Nat) (h:KC) (st:j9) (F:Nat->Prop) (K:j0) (H:Nat->Option Hd) (a:Act) (w:World) (Q:Exit->Act->World->Prop),
 ev P Fu R I none E A nx D p h=.ok z l->O1 n g E A nx D p st->(∀b,F0 b->F b)->St (X.bA st.gh st.s7) B F n K H st.z6.T st.z6.m a w->(∀r,st.nx<=r->H r=none)->(∀e i j d D' k f o w',h e i j d D' k=.ok z l->O1 n g i j d D' k f->sN X B F0 F n K w f o w'->Q e.out o w')->c.wpIn (Wd ro) 0 P Q a w
theorem kL(o7:P.follows .mixedOrders=true)(k:P2 P R){Fu:Nat}{I:GY}(b:bK P (Gk I z l)){c:Code}(d:Code.j3 c=true)(hd:G0 n c=true):Xe P Fu R I z l n (BJ c) c:=
 fun X B F0 ro g m f o E A nx D p q st F K H a w Q h r s i j t=>mD o7 k b c d hd X B F0 ro none g none none m f trivial trivial (.inl o) E A nx D p q st F K H a w Q h r s (fun _ e=>by cases e) i j t
end
end Go.Abs
end
section
namespace Go.Abs
theorem Xf{a b c d:Nat}{o':HO}(h:eqF (.f a b c d) o'=true):o'=.f a b c d:=by
 cases o' with
 |f e g c' i=>
  have h:iB (Nat.beq a e) (iB (Nat.beq b g) (iB (Nat.beq c c') (Nat.beq d i) false) false) false=true:=h;simp only[j2]at h;split at h
  ·split at h
   ·split at h
    ·rename_i j k l;rw[Nat.eq_of_beq_eq_true j,Nat.eq_of_beq_eq_true k,Nat.eq_of_beq_eq_true l,Nat.eq_of_beq_eq_true h]
    ·cases h
   ·cases h
  ·cases h
 |_=>exact Bool.noConfusion (show false=true from h)
section
variable {P:Program} {F:Nat->Prop} {K:j0} {H:Nat->Option Hd} {w:World} {m:Mm} {v:BV} {new:List HO} {set:List (Nat×HO)} {rd:List Nat}
theorem Xg(hm:j8 F K H w m){t:TypeId}{b:BV}{x:Value}(j:u7 K H b x)(h:tQ P t b (I6 m)=.ok v new set rd):∃z,(do loadVar t (<-asAddr x):Sem Value).run P w=.ok z w/\u7 K H v z:=by
 obtain⟨c,e,h⟩:=z7 h;obtain⟨i,h⟩:=c6 h;cases ht:uU P t with
 |zero=>rw[ht]at h;exact l8.noConfusion (show l8.er 74 0=_ from h)
 |succ d=>
  rw[ht]at h;obtain⟨s,n,f,h⟩:=iJ (show hC (I6 m (pR c)) (fun s n=>nB (Nat.ble (Nat.add (pO c) (aD (Nat.succ d))) s) 75 (.ok (BF d (BE n (pO c) (aD (Nat.succ d)))) [] [] [pR c]))=_ from h)
  obtain⟨g,h⟩:=c6 h;cases h;have g:pO c+aD (d+1)<=s:=Nat.le_of_ble_eq_true g;have k:j5 H c x:=(e▸j).cell (by rw[X0]at i;omega)
  obtain⟨hd,b,l,g2,o,D,G,I⟩:=k.oG i;obtain⟨cs,J,p,L,q3,q4,_⟩:=cS hm f l g2;obtain⟨a,q,r⟩:=xU (P:=P) (K:=K) (H:=H) (n:=n/cB) ht g;have u:c9 K H ((T9 s (n/cB)).drop (pO c)) (u0 cs (pO c) ((T9 s (n/cB)).drop (pO c)).length):=by
   have:=c9.drop (pO c) (nP (K:=K) q4);have y:u0 cs (pO c) ((T9 s (n/cB)).drop (pO c)).length=(cs.toList.take s).drop (pO c):=by
    rw[List.length_drop,P0,List.drop_take];rfl
   rw[y];exact this
  obtain⟨z,B,C⟩:=mM (P:=P) p u q;refine⟨z,?_,by rw[Jc];exact r z C⟩
  rw[o];simpa [asAddr]using B
variable {E:Nat} {A:J1} {a:Act} (hm:j8 F K H w m) (ht:∀t,c8 K H (TE E A t) (a.tmps.getD t undef))
include hm ht
theorem Rp{r:ResultVar}(h:Wf P r E A (I6 m)=.ok v new set rd):∃x,(match r with
   |.tmp t=>(pure (a.tmps.getD t undef):Sem Value)
   |.cell c t=>do loadVar t (<-asAddr (a.tmps.getD c undef))).run P w=.ok x w/\u7 K H v x:=by
 cases r with
 |tmp t=>
  have h:vN (F7 E A t)=.ok v new set rd:=h;cases h;exact⟨_,rfl,fT (ht t)⟩
 |cell c t=>
  have h:tQ P t (F7 E A c) (I6 m)=.ok v new set rd:=h;exact Xg hm (fT (ht c)) h
omit hm ht in
theorem Xh{r:l8}{k:BV->Rn}{z:BV}{l:List HO}(h:rOf r k=.ok z l):∃v new set rd,r=.ok v new set rd/\k v=.ok z l:=by
 cases r with
 |er c x=>cases h
 |ok v new set rd=>exact⟨v,new,set,rd,rfl,h⟩
omit hm ht in
theorem Xi{b:BV}{x:Value}(f:u7 K H b x){k:Nat×Nat->Rn}{e:Rn}{z:BV}{l:List HO}(d:e≠ .ok z l)(h:Wg b k e=.ok z l):∃p,k p=.ok z l/\I1 H p.1 p.2 x:=by
 cases b with
 |c n=>
  have h:iB (Nat.ble 3 n) (k (0,n)) e=.ok z l:=h;rw[j2]at h;split at h
  ·rename_i g;exact⟨(0,n),h,f.cell (by have:=Nat.le_of_ble_eq_true g;omega)⟩
  ·exact absurd h d
 |a s n=>exact⟨(s+1,n),h,f⟩
 |t l=>exact absurd h d
 |u=>exact absurd h d
theorem Rq:∀ (b:List ResultVar) {k:List (Nat×Nat)->Rn} {z:BV} {l:List HO},Zo P E A (I6 m) b k=.ok z l->
  ∃ps xs,k ps=.ok z l/\(b.mapM fun(r:ResultVar)=>(match r with
   |.tmp t=>(pure (a.tmps.getD t undef):Sem Value)
   |.cell c t=>do loadVar t (<-asAddr (a.tmps.getD c undef)))).run P w=.ok xs w/\xs.length=b.length/\ps.length=b.length/\∀ (i:Nat) (p:Nat×Nat) (x:Value),ps[i]? =some p->xs[i]? =some x->I1 H p.1 p.2 x
 |[],k,z,l,h=>⟨[],[],h,rfl,rfl,rfl,fun i p x d=>by simp at d⟩
 |r::b,k,z,l,h=>by
  obtain⟨v,new,set,rd,f,g⟩:=Xh (show rOf (Wf P r E A (I6 m)) (fun v=>Wg v (fun p=>Zo P E A (I6 m) b fun l=>k (p::l)) (.er 530 0))=_ from h)
  obtain⟨x,a1,j⟩:=Rp hm ht f;obtain⟨p,n,o⟩:=Xi j (by simp) g
  obtain⟨ps,xs,q,g2,s,u,y⟩:=Rq b n;refine⟨p::ps,x::xs,q,?_,by simp[s],by simp[u],fun i B C d e=>?_⟩
  ·rw[List.mapM_cons,Sem.run_bind,a1];simp only[Result.andThen_ok,Sem.run_bind,g2,Sem.run_pure]
  ·cases i with
   |zero=>simp at d e;subst d;subst e;exact o
   |succ i=>exact y i B C (by simpa using d) (by simpa using e)
theorem ZU{b:Func}{k:BV->Rn}{z:BV}{l:List HO}(h:a6r P b.results.toList E A (I6 m) k=.ok z l):∃v x,k v=.ok z l/\(results b a.tmps).run P w=.ok x w/\u7 K H v x:=by
 have done:∀xs:List Value,(b.results.toList.mapM fun(r:ResultVar)=>(match r with
   |.tmp t=>(pure (a.tmps.getD t undef):Sem Value)
   |.cell c t=>do loadVar t (<-asAddr (a.tmps.getD c undef)))).run P w=.ok xs w->(results b a.tmps).run P w=.ok (if h:xs.length=1 then xs[0]else .tuple xs.toArray) w:=by
  intro xs e;unfold results;rw[Array.mapM_eq_mapM_toList];generalize j:List.mapM (m:=Sem) _ b.results.toList=z;have n:z.run P w=.ok xs w:=by rw[<-j];exact e
  simp[Sem.run_map,n]
 generalize b.results.toList=d at h done
 match d,h with
 |[],h=>exact⟨.c 1,_,h,done [] rfl,.inl ⟨rfl,rfl⟩⟩
 |[r],h=>
  obtain⟨v,new,set,rd,e,o⟩:=Xh (show rOf (Wf P r E A (I6 m)) k=_ from h);obtain⟨x,a1,q⟩:=Rp hm ht e;refine⟨v,x,o,done [x] ?_,q⟩;rw[List.mapM_cons,Sem.run_bind,a1];rfl
 |r::f::d,h=>
  obtain⟨ps,xs,s,g2,g,u,y⟩:=Rq hm ht (r::f::d) (show Zo P E A (I6 m) (r::f::d) (fun l=>k (.t l))=_ from h)
  refine⟨.t ps,_,s,done xs g2,?_⟩;rw[dif_neg (by rw[g];simp)]
  exact⟨xs.toArray,rfl,by simp[g,u],fun i p x B C=>y i p x B (by simpa using C)⟩
end
end Go.Abs
end
section
namespace Go.Abs
theorem a6V{β:Type}(v:BV)(k:BV->β):fB v k=k v:=by
 have Mr:∀ (l:List (Nat×Nat)) (k:List (Nat×Nat)->β),fP l k=k l:=by
  intro l
  induction l with
  |nil=>intro k;rfl
  |cons p l d=>
   intro k;show fN p.1 (fun a=>fN p.2 fun b=>fP l fun l=>k ((a,b)::l))=_
   rw[J8,J8,d]
 cases v with
 |c n=>show fN n (fun n=>k (.c n))=_;rw[J8]
 |a s n=>show fN s (fun s=>fN n fun n=>k (.a s n))=_;rw[J8,J8]
 |t l=>show fP l (fun l=>k (.t l))=_;rw[Mr]
 |u=>rfl
theorem MF:∀ (m:Nat) (q:List Nat),Wh m q=List.range m++q
 |0,q=>rfl
 |m+1,q=>by
  show Wh m (m::q)=_;rw[MF m,List.range_succ,List.append_assoc];rfl
theorem Ap{r:Nat}:∀ (m:Nat) (L:Lk),rY r (cR m L)=if r<m then some r else rY r L
 |0,L=>rfl
 |m+1,L=>by
  show rY r (cR m ((m,m)::L))=_;rw[Ap m];by_cases h:r<m
  ·rw[if_pos h,if_pos (by omega)]
  ·rw[if_neg h];simp only[rY];by_cases b:m=r
   ·subst b;rw[if_pos rfl,if_pos (by omega)]
   ·rw[if_neg b,if_neg (by omega)]
theorem Rr{r j m:Nat}:∀ {t:List Nat},lk (ad m t++cR m []) r j->(List.range m++t.reverse)[j]? =some r
 |[],h=>by
  have h:rY r (cR m [])=some j:=h;rw[Ap]at h;split at h
  ·rename_i b;cases h;rw[List.reverse_nil,List.append_nil,List.getElem?_range b]
  ·cases h
 |a::t,h=>by
  simp only[lk,ad,List.cons_append,rY]at h;split at h
  ·rename_i e;cases h;rw[List.getElem?_append_right (by simp)]
   simp[e]
  ·have:=Rr (t:=t) h;have c:=Q9 this;rw[List.reverse_cons,<-List.append_assoc,List.getElem?_append_left c];exact this
theorem Hn:∀ {l b:List HO},a2p l b=true->∀ (j:Nat) (o:HO),l[j]? =some o->∃o',b[j]? =some o'/\eqF o o'=true
 |[],b,_,j,o,h=>by simp at h
 |a::l,[],h,j,o,_=>by cases h
 |a::l,d::b,h,j,o,c=>by
  have h:iB (eqF a d) (a2p l b) false=true:=h;rw[j2]at h;split at h
  ·rename_i e;cases j with
   |zero=>simp at c;subst c;exact⟨d,rfl,e⟩
   |succ j=>exact Hn h j o (by simpa using c)
  ·cases h
theorem Xj{b:Bool}{c:Nat}{r:l8}{v:BV}{new:List HO}{set:List (Nat×HO)}{rd:List Nat}(h:nB b c r=.ok v new set rd):b=true/\r=.ok v new set rd:=c6 h
theorem Px{ρ:Nat->Nat->Prop}{K K1:j0}{H H1:Nat->Option Hd}{w w1:World}{hd:Hd}{j o o':HO}(h:o8 K H w hd (.F8 j))(r:OR ρ o o')(t:o8 K1 H1 w1 hd (.F8 o))(u:eqF j o'=true):R1 o' hd=hd:=by
 cases o' with
 |f a b c d=>
  cases o with
  |f a1 x y B=>
   obtain⟨k,g2,C,G,I⟩:=t;cases j with
   |f a0 J L M=>
    have e:=Xf u;cases e;obtain⟨g,p,q3,q4,q5⟩:=h;cases hd with
    |mk base N len cap=>simp only at g p q4 q5;simp only[R1,g,p,q4,q5]
   |c s n=>obtain⟨q,_,_,_,g,_⟩:=h;rw[k]at g;cases g
   |m ks vs l clk=>obtain⟨q,_,g,_⟩:=h;rw[k]at g;cases g
   |i m s l a=>obtain⟨q,_,_,g,_⟩:=h;rw[k]at g;cases g
   |z=>exact h.elim
  |_=>exact r.elim
 |_=>rfl
section
variable {P:Program} {F:Nat->Prop} {K K1:j0} {H H1:Nat->Option Hd} {w w1:World} {v:BV} {l:List HO} {E:Nat} {A:J1} {a:Act} {nx:Nat} {D:w7}
theorem Xk{r:l8}{k:BV->List HO->Rn}{z:BV}{l:List HO}(h:a07 r k=.ok z l):∃v new set rd,r=.ok v new set rd/\k v new=.ok z l:=by
 cases r with
 |er c x=>cases h
 |ok v new set rd=>exact⟨v,new,set,rd,rfl,h⟩
theorem ZV{f:Nat}{fn:Func}{g:List HO}(hf:P.funcs[f]? =some fn)(V:j8 F K1 H1 w1 (n9 (G3 nx D)))(ht:∀t,c8 K1 H1 (TE E A t) (a.tmps.getD t undef))(a12:∀ (j:Nat) (o:HO),g[j]? =some o->∃hd,H1 j=some hd/\o8 K H w hd (.F8 o))(h:zZ P f g.length g E A (s6 nx D)=.ok v l):
  ∃x H',(results fn a.tmps).run P w1=.ok x w1/\u7 K1 H' v x/\j8 F K1 H' w1 (E8 (fun _=>none) 0 (l.map c7.F8))/\(∀r,l.length<=r->H' r=none)/\g.length<=l.length/\∀r,r<g.length->H' r=H1 r:=by
 have hrs:zY P f=fn.results.toList:=by unfold zY;rw[hf]
 have hdh:=Aj nx D;obtain⟨m,hmm⟩:∃m,m=n9 (G3 nx D):=⟨_,rfl⟩;rw[<-hmm]at V hdh;unfold zZ at h;rw[hrs,<-hdh]at h;obtain⟨v0,x,h,pD,xA⟩:=ZU V ht h;obtain⟨v1,new,set,rd,h,hk⟩:=Xk h;rw[a6V]at hk;cases hk;obtain⟨M,hM⟩:∃M,M=g.length:=⟨_,rfl⟩;rw[<-hM]at h ⊢;obtain⟨B,v',a1,_,a3,a4⟩:=QZ (Q:=fun _=>True) (by
  cases v0 with
  |c n=>exact fun _ _=>trivial
  |a s n=>exact fun _ _ _ _=>trivial
  |t l=>exact fun _ _ _ _ _ _=>trivial
  |u=>trivial) h
 simp only at a4;rw[xY,List.append_nil,MF]at a4;obtain⟨J,s,b1,_,b3,b4,b5⟩:=yA (Q:=fun _=>True) (fun r _=>Cl _) 2000 _ [] _ _ [] _ (fun r _=>trivial) (fun r _=>trivial) a4
 have hL:ad (M+B.length) J++(ad M B++cR M [])=ad M (J++B)++cR M []:=lW _ _ _ _;have C:Tt (cR M []) (J++B):=a1.app b1;rw[hL]at b4;have a2C:List.range M++B.reverse++([]:List Nat).reverse++J.reverse=List.range M++(J++B).reverse:=by simp
 rw[a2C]at b3 b4;obtain⟨q,L⟩:∃q,q=List.range M++(J++B).reverse:=⟨_,rfl⟩;rw[<-L]at b3 b4;rw[Rb,List.append_nil s]at b5;obtain⟨c1,b5⟩:=Xj b5;obtain⟨c2,b5⟩:=Xj b5;obtain⟨X,G,_,_⟩:=l8.ok.inj b5;subst X;obtain⟨y,hsr⟩:∃y,y=s.reverse:=⟨_,rfl⟩;rw[<-hsr]at c2 b4 G;subst G;have c1:M+B.length+J.length<=1048574:=Nat.le_of_ble_eq_true c1;have T:y.length=q.length:=by rw[hsr];simpa using b3
 have hhl:q.length<=1048574:=by rw[L];simp;omega
 have Ou:q.Nodup:=by
  rw[L];refine List.nodup_append.2 ⟨List.nodup_range,List.pairwise_reverse.2 (C.1.imp fun h e=>h e.symm),fun r hr r' hr' e=>?_⟩
  subst e;have k:=C.2 r (List.mem_reverse.1 hr');rw[Ap,if_pos (List.mem_range.1 hr)]at k;cases k
 have hML:M<=q.length:=by rw[L];simp
 have hsM:∀j,j<M->q[j]? =some j:=fun j p=>by
  rw[L,List.getElem?_append_left (by simpa using p),List.getElem?_range p]
 have fwd:∀r j,lk (ad M (J++B)++cR M []) r j->q[j]? =some r:=fun r j p=>by rw[L];exact Rr p
 have O:∀r j,lk (ad M (J++B)++cR M []) r j->j<1048575:=fun r j p=>by have:=Q9 (fwd r j p);omega
 have R:∀ (i r:Nat) (o:HO),q[i]? =some r->y[i]? =some o->OR (lk (ad M (J++B)++cR M [])) (I6 m r) o:=fun i r o k I=>b4 i r o k I O
 have N:∀ (i r:Nat),q[i]? =some r->m r=some (.F8 (I6 m r),.own):=fun i r k=>by
  have hl:i<y.length:=by rw[T];exact Q9 k
  exact R0 rfl (R i r y[i] k (List.getElem?_eq_getElem hl)).a2A.1
 let H':Nat->Option Hd:=fun j=>match q[j]?,y[j]? with
  |some r,some o=>(H1 r).map (R1 o)
  |_,_=>none
 have S:∀ (j r:Nat) (o:HO),q[j]? =some r->y[j]? =some o->H' j=(H1 r).map (R1 o):=fun j r o k I=>by
  show(match q[j]?,y[j]? with|some r,some o=>(H1 r).map (R1 o)|_,_=>none)=_
  rw[k,I]
 have d:∀ (j:Nat) (W3:Hd),H' j=some W3->∃r o hd,q[j]? =some r/\y[j]? =some o/\H1 r=some hd/\W3=R1 o hd:=fun j W3 p=>by
  have p:(match q[j]?,y[j]? with|some r,some o=>(H1 r).map (R1 o)|_,_=>none)=some W3:=p
  split at p
  ·rename_i r o k I;cases hh:H1 r with
   |none=>rw[hh]at p;cases p
   |some hd=>rw[hh]at p;cases p;exact⟨r,o,hd,k,I,hh,rfl⟩
  ·cases p
 have hhF:∀r j hd,lk (ad M (J++B)++cR M []) r j->H1 r=some hd->∃W3,H' j=some W3/\SH (lk (ad M (J++B)++cR M [])) hd W3/\j<1048575:=fun r j hd p hh=>by
  have k:=fwd r j p;have hl:j<y.length:=by rw[T];exact Q9 k
  have I:=List.getElem?_eq_getElem hl;refine⟨R1 y[j] hd,by rw[S j r _ k I,hh];rfl,?_,O r j p⟩
  exact OR.head (V.cont r _ .own hd (N j r k) (by simp) hh) (R j r _ k I)
 have z:∀ (j r:Nat) (o:HO) (hd:Hd),q[j]? =some r->y[j]? =some o->H1 r=some hd->∀b,(R1 o hd).base=some b->hd.base=some b:=fun j r o hd _ _ _ b hb=>by
  have:=vD hb;rw[this]at hb;exact hb
 refine⟨x,H',pD,?_,?_,?_,by rw[T];exact hML,?_⟩
 ·exact Ts.rep hhF xA ((BVX.mono _ (lk (ad M (J++B)++cR M [])) _ (fun r j p=>by rw[<-hL];exact Cj b1 r j p) a3) O)
 ·refine⟨?_,?_,?_,?_⟩
  ·intro j c' f' W3 q1 q2 q3;obtain⟨o,X,rfl,rfl⟩:=rZ q1;obtain⟨r,o',hd,G,U,Y,rfl⟩:=d j W3 q3;rw[X]at U;cases U;exact OR.cont hhF (V.cont r _ .own hd (N j r G) (by simp) Y) (R j r o G X)
  ·intro j c' W3 b q1 q2 q3;obtain⟨o,X,rfl,_⟩:=rZ q1;obtain⟨r,o',hd,G,U,Y,rfl⟩:=d j W3 q2;have hb:=z j r o' hd G U Y b q3;obtain⟨g1,g2,g3,g4⟩:=V.own r _ hd b (N j r G) Y hb;refine⟨g1,g2,g3,fun hc=>g4 ?_⟩
   have:=R j r o G X;revert this hc;cases I6 m r<;>cases o<;>first|exact fun _ h=>h.elim|(intro hc _;exact hc)
  ·intro j c' W3 b q1 q2 q3;obtain⟨o,X,rfl,e⟩:=rZ q1;cases e
  ·intro j j' c1' c2' oM Ax b q1 q2 q3 q4 q5 q6;obtain⟨r,o,hd,G,U,Y,rfl⟩:=d j oM q3;obtain⟨r',o',W3,Z,e3',e4',rfl⟩:=d j' Ax q4;have k:=z j r o hd G U Y b q5;have I:=z j' r' o' W3 Z e3' e4' b q6;have e:=V.inj r r' _ _ hd W3 b (N j r G) (N j' r' Z) Y e4' k I;subst e;exact Fb Ou G Z
 ·intro r hr;cases hh:H' r with
  |none=>rfl
  |some W3=>
   obtain⟨r',o,hd,G,U,_⟩:=d r W3 hh;have:=Q9 U;omega
 ·intro j p;have k:=hsM j p;have hl:j<y.length:=by rw[T];exact Q9 k
  have I:=List.getElem?_eq_getElem hl;have hjo:j<g.length:=by rw[<-hM];exact p
  have h3:=List.getElem?_eq_getElem hjo;obtain⟨hd,g1,g2⟩:=a12 j _ h3;obtain⟨o',g3,g4⟩:=Hn c2 j _ h3;rw[I]at g3;cases g3;rw[S j j _ k I,g1];show some (R1 y[j] hd)=some hd;rw[Px g2 (R j j _ k I) (V.cont j _ .own hd (N j j k) (by simp) g1) g4]
end
end Go.Abs
end
section
namespace Go.Abs
theorem Ho{P:Program}{f:Nat}(h:LQ P f=true):∃a c,P.funcs[f]? =some a/\a.body=some c/\Code.j3 c=true/\G0 a.ntmps c=true/\(a.name== "runtime.NumGoroutine")=false/\kJ P f=c:=by
 unfold LQ at h;cases d:P.funcs[f]? with
 |none=>rw[d]at h;cases h
 |some a=>
  rw[d]at h;simp only at h;cases b:a.body with
  |none=>rw[b]at h;cases h
  |some c=>
   rw[b]at h;simp only[Bool.and_eq_true,Bool.not_eq_true']at h;refine⟨a,c,rfl,b,h.1.1,h.1.2,h.2,?_⟩;unfold kJ;rw[d];simp only;rw[b]
theorem Py{P:Program}{f:Nat}{a:Func}(b:P.funcs[f]? =some a)(h:QQ P f=true):a.results.size=0:=by
 unfold QQ at h;rw[b]at h;exact Nat.eq_of_beq_eq_true h
theorem Xl(l:List BV):xN l<4294967291:=by
 cases l with
 |nil=>exact(by decide:0<4294967291)
 |cons v l=>exact Nat.mod_lt _ (by decide)
theorem Rs{a:List BV}{E:Nat}{A:J1}(h:∀t,F7 E A t=if 0<=t/\t<0+a.length then a.getD (t- 0) .u else F7 (xN a) [] t):TE E A=y9 (CA (a.map Q2) 0):=by
 funext t;rw[DJ,if_pos (Nat.zero_le _),Nat.sub_zero];unfold TE;rw[h,Nat.sub_zero,Nat.zero_add];by_cases b:t<a.length
 ·rw[if_pos ⟨Nat.zero_le _,b⟩];simp[List.getD,b]
 ·rw[if_neg (fun hh=>b hh.2),List.getElem?_eq_none (by simpa using b),cT,if_pos]
  ·rfl
  ·rw[Cm];have d:xN a<cB^ (t+1):=by
    have e:=Xl a;have c:cB^1<=cB^ (t+1):=Nat.pow_le_pow_right (by decide) (by omega)
    rw[Nat.pow_one]at c;exact Nat.lt_of_lt_of_le (Nat.lt_trans e (by decide)) c
   rw[Nat.div_eq_of_lt d,Nat.zero_mod]
section
variable {P:Program} {R:J6} {z:BV} {l:List HO} {Fu:Nat}
theorem a2W:bK P (Gk (fun _ f _ _ _ _=>.er 531 f) z l):=by
 intro h b args s0 k X F0 F K H w vs c Q a;obtain⟨y,d,nx,D,kk,_,hI,_⟩:=a;cases hI
theorem Jn(o7:P.follows .mixedOrders=true)(hR:P2 P R):bK P (Gk (itC Fu P R) z l):=by
 intro h L args s0 k X F0 F K H w vs lp Q hit hX q hF hy l9 hm H7 s hx u;obtain⟨y,bs,nx,D,kk,rfl,hI,hx0,hM0,AD,hYI,hk⟩:=hit;have hI:iB (LQ P L && QQ P L) (jR bs 0 (xN bs) [] fun E A=>BJ (kJ P L) P Fu R (fun _ f _ _ _ _=>.er 531 f) (some y) E A nx D 0 fun e _ _ a D' m=>BI e (kk a D' m) (fun _=>.er 532 L) (kk a D' m)) (.er 533 L)=.ok z l:=hI
 rw[j2]at hI;split at hI
 ·rename_i hb;simp only[Bool.and_eq_true]at hb;obtain⟨J,c,v,hc,FD,hds,B,C⟩:=Ho hb.1;have N:=Py v hb.2;obtain⟨E,A,h1,h2⟩:=vJ _ _ _ _ _ hI;rw[C]at h1;refine⟨cN v hc B,?_⟩;refine callsIn_of_wp_marks v hc (eU none _) ?_;obtain⟨n,g⟩:=O1.ex J.ntmps ((s0.tmps.map (·.1)).map (y9 s0.tmps)++s0.gh) E A nx D 0 AD
  refine mD o7 hR a2W c FD hds X none F0 none (some lp) _ (some y) (some h) hX (fun l h=>by cases h) ⟨rfl,rfl,lp,rfl,q⟩ hYI (.inr (fun y f args nx D k h=>by cases h)) E A nx D 0 _ n F K H _ w _ h1 g hF (fun l' e=>by cases e;exact hy) ?_ (fun r hr=>H7 r (by rw[hx0];rw[g.nx]at hr;exact hr)) ?_
  ·refine⟨l9,?_,?_,rfl,fun t=>?_,?_⟩
   ·rw[g.tW,<-hM0];exact hm
   ·show J.ntmps<=_;simp;omega
   ·have:n.z6.T=TE E A:=g.tmps;rw[this,Rs h2];exact pY s _ t
   ·show X F K H n.gh n.s7 w;rw[g.gh,g.s7];exact hx
  ·have O:∀S U a D' m b p w',kk a D' m=.ok z l->O1 J.ntmps ((s0.tmps.map (·.1)).map (y9 s0.tmps)++s0.gh) S U a D' m b->sN X none F0 F J.ntmps K w b p w'->LeavesInM (Wd none) 0 P J p.tmps Q p.defers .returning w':=by
    intro S U a D' m b p w' G d Z;obtain⟨⟨F',K',H',uN,o,hK,V,Y⟩,I⟩:=Z;have hd:p.defers=[]:=o.defers;rw[hd];refine⟨.tuple #[],?_,u b F' K' H' w' _ (hk a D' m b G d.nx d.M d.gh d.s7 d.lt) uN o.ok o.mem V o.x hK Y I⟩;have:J.results= #[]:=Array.eq_empty_of_size_eq_zero N;simp[results,this]
   intro e S U a D' m b p w' G d Z;rcases dN G with⟨rfl,j⟩|⟨i,rfl,j⟩|⟨rfl,j⟩
   ·exact O S U a D' m b p w' j d Z
   ·cases j
   ·exact O S U a D' m b p w' j d Z
 ·cases hI
theorem sG{ev:Code->OU}(n0:∀ (z:BV) (l:List HO) (n:Nat) (c:Code),Code.j3 c=true->G0 n c=true->Xe P Fu R (itC Fu P R) z l n (ev c) c):P2 P (fun f args b=>iB (LQ P f) (iB (Nat.ble (eP b) 1000000) (jR args 0 (xN args) [] fun E A=>news b 0 .e fun m D=>ev (kJ P f) P Fu R (itC Fu P R) none E A m D 0 fun e s A' d D' _=>
  BI e (zZ P f m b s A' (s6 d D')) (fun _=>.er 535 f) (zZ P f m b s A' (s6 d D'))) (.er 536 f)) (.er 537 f)):=by
 intro f args b v l h;simp only[j2]at h;split at h
 rotate_left
 ·cases h
 rename_i hfn;split at h
 rotate_left
 ·cases h
 rename_i O;have O:b.length<=1000000:=by have:=Nat.le_of_ble_eq_true O;rwa [xZ]at this
 obtain⟨fn,c,X,hc,FD,hds,Y,Z⟩:=Ho hfn;obtain⟨E,A,h,h2⟩:=vJ _ _ _ _ _ h;obtain⟨D,RY,Qb⟩:=Ai b 0 (.e:w7) (fun m D=>ev (kJ P f) P Fu R (itC Fu P R) none E A m D 0 fun e s A' d D' _=>BI e (zZ P f m b s A' (s6 d D')) (fun _=>.er 535 f) (zZ P f m b s A' (s6 d D')))
 rw[RY,Z]at h;rw[Nat.zero_add]at h Qb;refine⟨cN X hc Y,?_⟩;intro F K H w vs l9 wG hm H7 XP;refine Dl (n:=0) (callsIn_of_wp_marks X hc (eU none _) ?_);simp only[List.length_map]at H7 XP
 let k:List Hd:=(List.range b.length).map (fun q=>(H q).getD ⟨none,0,0,0⟩)
 let S:List a7:=(List.range b.length).map a7.z8
 have U:∀q,q<b.length->∃hd,k[q]? =some hd/\H q=some hd:=fun q J=>by
  obtain⟨hd,e⟩:=XP q J;exact⟨hd,by simp[k,J,e],e⟩
 have hgs:∀ (q:Nat) (a:a7) (r:Nat),S[q]? =some a->S3 a=some r->r=q/\q<b.length:=fun q a r h1 h3=>by
  have J:q<b.length:=by simpa [S]using Q9 h1
  simp only[S,List.getElem?_map,List.getElem?_range J,Option.map_some,Option.some.injEq]at h1;subst h1;simp only[S3,Option.some.injEq]at h3;exact⟨h3.symm,J⟩
 have hdm:I6 (E8 (fun _=>none) 0 (b.map c7.F8))=s6 b.length D:=by
  funext r;rw[Mq,Qb r,if_pos (Nat.zero_le r),Nat.sub_zero,Nat.zero_add];by_cases L:r<b.length
  ·rw[if_pos ⟨Nat.zero_le _,L⟩]
  ·rw[if_neg (fun hh=>L hh.2),List.getElem?_eq_none (by omega)];rfl
 obtain⟨M,y⟩:=O1.ex fn.ntmps S E A b.length D 0 (by omega)
 refine n0 _ _ _ c FD hds (aY k) (some w.heap.size) F none S (nC k) (fun l h=>by cases h) (fun h=>by cases h) E A b.length D 0 _ M F K H _ w _ h y (fun _ h=>h) ?_ (fun r L=>H7 r (by rw[y.nx]at L;exact L)) ?_
 ·refine⟨l9,?_,?_,⟨Nat.le_refl _,[],rfl,List.nodup_nil,fun D hD=>by simp at hD⟩,fun t=>?_,?_⟩
  ·rw[y.tW];exact hm.sub (fun r x hx=>lY hdm r x hx)
  ·show fn.ntmps<=_;simp;omega
  ·have:M.z6.T=TE E A:=y.tmps;rw[this,Rs h2];exact pY wG _ t
  ·show aY k F K H M.gh M.s7 w;rw[y.gh];refine⟨by simp[k,S],fun q a r h1 h3=>?_⟩
   obtain⟨rfl,J⟩:=hgs q a r h1 h3;obtain⟨hd,e1,e2⟩:=U r J;exact⟨hd,e1,e2⟩
 ·have fin:∀s A' d D' p' g V w',zZ P f b.length b s A' (s6 d D')=.ok v l->O1 fn.ntmps S s A' d D' p' g->sN (aY k) (some w.heap.size) F F fn.ntmps K w g V w'->LeavesInM (Wd none) 0 P fn V.tmps (fun e w'=>
    ∃x r RM K' H',e=.returned x/\(r=Q2 v/\RM=l.map c7.F8)/\K.le K'/\c8 K' H' r x/\j8 F K' H' w' (E8 (fun _=>none) 0 RM)/\(∀r,RM.length<=r->H' r=none)/\J0 F K' w'/\Kept F w w'/\Fix F K K'/\(b.map c7.F8).length<=RM.length/\∀r,r<(b.map c7.F8).length->H' r=H r) V.defers .returning w':=by
   intro s A' d D' p' g V w' Wp u ht;obtain⟨⟨F',K1,H1,uN,p,Qj,KN,Vk⟩,N⟩:=ht;obtain⟨m0,Ds,hDs,Jx,hD⟩:=p.defers;rw[hDs];refine jL Ds w' Jx (fun D h=>(hD D h).2.2) ?_
   obtain⟨ok2,B,C⟩:=BR (F:=F) Ds w' Jx (fun D h=>⟨(hD D h).2.1,fun hb=>by
    have h1:=l9.lt D hb;have h2:=(hD D h).1
    omega,(hD D h).2.2⟩) p.ok p.mem
   generalize shut Ds w'=w2 at ok2 B C ⊢;have YE:aY k F' K1 H1 g.gh g.s7 w':=p.x;rw[u.gh]at YE;have G:∀q,q<b.length->∃hd,H1 q=some hd/\H q=some hd:=fun q J=>by
    obtain⟨hd,g1,g2⟩:=YE.2 q (.z8 q) q (by simp[S,J]) rfl
    obtain⟨W3,e1,e2⟩:=U q J;rw[e1]at g1;cases g1;exact⟨_,g2,e2⟩
   rw[u.tW]at B;have b0B:∀t,c8 K1 H1 (TE s A' t) (V.tmps.getD t undef):=by
    have:g.z6.T=TE s A':=u.tmps;rw[<-this];exact p.tmp
   obtain⟨x,H',r1,r2,r3,r4,r5,r6⟩:=ZV (K:=K) (H:=H) (w:=w) X (B.less uN) b0B (fun j o hj=>by
    obtain⟨hd,g1,g2⟩:=G j (Q9 hj)
    exact⟨hd,g1,hm.cont j _ .own hd (jV hj) (by simp) g2⟩) Wp
   refine⟨x,r1,x,Q2 v,l.map c7.F8,K1,H',rfl,⟨rfl,rfl⟩,Qj,r2.Q2,r3,by simpa using r4,ok2.less uN,N.trans C,Vk,by simpa using r5,fun r L=>?_⟩
   have L:r<b.length:=by simpa using L
   obtain⟨hd,g1,g2⟩:=G r L;rw[r6 r L,g1,g2]
  intro e s A' d D' p' g V w' Wp u ht;rcases dN Wp with⟨rfl,I⟩|⟨i,rfl,I⟩|⟨rfl,I⟩
  ·exact fin s A' d D' p' g V w' I u ht
  ·cases I
  ·exact fin s A' d D' p' g V w' I u ht
theorem Cn(o7:P.follows .mixedOrders=true):∀N,P2 P (a6t Fu P N)
 |0=>fun f args b v l h=>by cases h
 |N+1=>sG (ev:=BJ) (fun _ _ _ _ a hd=>kL o7 (Cn o7 N) (Jn o7 (Cn o7 N)) a hd)
end
end Go.Abs
end
section
namespace Go.Abs
noncomputable section
inductive KE where
 |mk (f:Nat) (a:List BV) (o:List HO) (v:BV) (l:List HO)
def Hq:List KE->J6->J6:=@List.rec KE (fun _=>J6->J6) (fun R=>R) (fun e _ b R f args a=>@KE.rec (fun _=>Rn) (fun c a0 d v l=>iB (Nat.beq f c) (iB (QP Gg args a0) (iB (QP XT a d) (.ok v l) (b R f args a)) (b R f args a)) (b R f args a)) e)
def Xm(F:Nat)(P:Program)(R:J6):J6:=fun f args a=>iB (LQ P f) (iB (Nat.ble (eP a) 1000000) (jR args 0 (xN args) [] fun E A=>news a 0 .e fun m D=>BJ (kJ P f) P F R (itC F P R) none E A m D 0 fun e c d b D' _=>
 BI e (zZ P f m a c d (s6 b D')) (fun _=>.er 535 f) (zZ P f m a c d (s6 b D'))) (.er 536 f)) (.er 537 f)
end
def Kn(P:Program):KE->Prop
 |.mk f a o v l=>(∀b w,(callFunc f b).run P w=.ok (.enter f b) w)/\gU P f (a.map Q2) (o.map c7.F8) (fun r c=>r=Q2 v/\c=l.map c7.F8)
def ZW(P:Program):List KE->Prop
 |[]=>True
 |e::T=>Kn P e/\ZW P T
section
variable {P:Program} {R:J6} {Fu:Nat}
theorem mE(c:P2 P R):∀ {T:List KE},ZW P T->P2 P (Hq T R)
 |[],_=>c
 |.mk d a0 e g i::T,h=>by
  intro f args a v l b;have b:iB (Nat.beq f d) (iB (QP Gg args a0) (iB (QP XT a e) (.ok g i) (Hq T R f args a)) (Hq T R f args a)) (Hq T R f args a)=.ok v l:=b;simp only[j2]at b;split at b
  ·split at b
   ·split at b
    ·rename_i j k m;cases b;rw[Nat.eq_of_beq_eq_true j,iN lZ k,iN mA m];exact h.1
    ·exact mE c h.2 f args a v l b
   ·exact mE c h.2 f args a v l b
  ·exact mE c h.2 f args a v l b
theorem Fv(o7:P.follows .mixedOrders=true){T:List KE}(c:ZW P T)(N:Nat){f:Nat}{a:List BV}{o:List HO}{v:BV}{l:List HO}(h:We (Xm Fu P (Hq T (a6t Fu P N)) f a o) v l=true):Kn P (.mk f a o v l):=
 sG (ev:=BJ) (fun _ _ _ _ b hd=>kL o7 (mE (Cn o7 N) c) (Jn o7 (mE (Cn o7 N) c)) b hd) f a o v l (An h)
end
end Go.Abs
end
