/- Part 8 of the road to this seat's statements: lemmas about a small interpreter over the model's code, and about the functions that it is used on. No condition of its own. -/
import Derived.Shelf.SlMaps.Clone
import Derived.Test.YtgohechlcklfkaaGreatProg
import Derived.Test.YtgohechlcklfkaaGreatW7
set_option linter.all false
section
namespace Go.Abs
def SS.eW(s:SS)(r:Nat)(x:Option (c7×p8)):SS:=⟨s.T,s.nx,fun a=>if a=r then x else s.m a⟩
section
variable {Γ:Env} {P:Program} {all:Array Oper} {n:Nat} {o:Oper} {s s':SS} {r:Nat} {x:Option (c7×p8)}
theorem Y2.blind{nx:Nat}{v:a7}{new:List HO}{set:List (Nat×HO)}{rd:List Nat}(h:Y2 Γ P all n o s (.kQ nx v new set rd) s')(c:r ∉ rd)(d:r ∉ set.map (·.1))(A:r<s.nx):Y2 Γ P all n o (s.eW r x) (.kQ nx v new set rd) (s'.eW r x):=by
 obtain⟨f,g2,g,i,j,k,p,q⟩:=h;refine⟨f,g2,g,?_,j,k,p,fun t u w y=>q t u w (fun r' a=>?_)⟩
 ·show(fun r'=>if r'=r then x else s'.m r')=E8 (bB (s.eW r x).m set) nx (new.map .F8)
  funext r';rw[u6];have b:s'.m r'=E8 (bB s.m set) nx (new.map .F8) r':=by rw[i];rfl
  rw[u6]at b;by_cases e:r'=r
  ·subst e;rw[if_pos rfl,dif_neg (by omega),hE set _ d]
   show x=(if r'=r' then x else s.m r')
   rw[if_pos rfl]
  ·rw[if_neg e,b];have:bB (s.eW r x).m set r'=bB s.m set r':=wR set _ _ (by show(if r'=r then x else s.m r')=_;rw[if_neg e])
   rw[this]
 ·rw[y r' a];show(if r'=r then x else s.m r')=_
  rw[if_neg (fun(e:r'=r)=>c (e▸a))]
theorem Y2.Pz(h:Y2 Γ P all n o s .skip s'):Y2 Γ P all n o (s.eW r x) .skip (s'.eW r x):=by
 obtain⟨a,g2,b,c,d⟩:=h;refine⟨a,g2,b,?_,d⟩;show(fun r'=>if r'=r then x else s'.m r')=(s.eW r x).m
 funext r';have f:s'.m r'=s.m r':=by rw[c];rfl
 by_cases e:r'=r
 ·subst e;show(if r'=r' then x else _)=(if r'=r' then x else _);rw[if_pos rfl,if_pos rfl]
 ·show(if r'=r then x else s'.m r')=(if r'=r then x else s.m r');rw[if_neg e,if_neg e,f]
end
section
variable {P:Program} {D:Hp} {v:BV} {new:List HO} {set:List (Nat×HO)} {rd:List Nat}
def PA(P:Program)(t:TypeId)(a x:BV)(r off k y:Nat):Prop:=(∃c,a=.c c/\zU c=true/\pR c=r/\pO c=off)/\k=j7 P t/\((x=.c y/\k=1/\3<=y)\/x=.a k y)
theorem MG{t:TypeId}{a x:BV}(h:iA P t a x D=.ok v new set rd):∃r s N off k y,D r=.c s N/\rd=[r]/\new=[]/\v=.c 1/\set=[(r,.c s (U9 N off k y))]/\off+k<=s/\PA P t a x r off k y/\
  ∀ (D':Hp) (b:Nat),D' r=.c s b->iA P t a x D'=.ok (.c 1) [] [(r,.c s (U9 b off k y))] [r]:=by
 obtain⟨c,rfl,h⟩:=z7 h;obtain⟨g,h⟩:=c6 h;obtain⟨s,N,hd,h⟩:=iJ h;obtain⟨k,y,i,h⟩:=jT h;obtain⟨d,h⟩:=c6 h;obtain⟨j,h⟩:=c6 h;obtain⟨e,h⟩:=c6 h;cases h;refine⟨pR c,s,N,pO c,k,y,hd,rfl,rfl,rfl,rfl,Nat.le_of_ble_eq_true e,⟨⟨c,rfl,g,rfl,rfl⟩,Nat.eq_of_beq_eq_true d,i⟩,fun D' b f=>?_⟩
 show nB (zU c) 76 (hC (D' (pR c)) fun s n=>vR x fun s' y=>nB (Nat.beq s' (j7 P t)) 77 (nB (Nat.ble 1 s') 78 (nB (Nat.ble (Nat.add (pO c) s') s) 79 (.ok (.c 1) [] [(pR c,.c s (U9 n (pO c) s' y))] [pR c]))))=_
 rw[f,g];show vR x (fun s' y=>nB (Nat.beq s' (j7 P t)) 77 (nB (Nat.ble 1 s') 78 (nB (Nat.ble (Nat.add (pO c) s') s) 79 (.ok (.c 1) [] [(pR c,.c s (U9 b (pO c) s' y))] [pR c]))))=_
 rcases i with⟨rfl,rfl,m⟩|rfl
 ·show nB (Nat.ble 3 y) 5 (nB (Nat.beq 1 (j7 P t)) 77 (nB (Nat.ble 1 1) 78 (nB (Nat.ble (Nat.add (pO c) 1) s) 79 _)))=_;rw[Nat.ble_eq_true_of_le m,d,e];rfl
 ·show nB (Nat.beq k (j7 P t)) 77 (nB (Nat.ble 1 k) 78 (nB (Nat.ble (Nat.add (pO c) k) s) 79 _))=_;rw[d,j,e];rfl
end
section
variable {P:Program} {R:J6} {all:Array Oper} {n:Nat}
theorem ZX{s:SS}{r:Nat}{x:Option (c7×p8)}:(s.eW r x).m r=x:=by show(if r=r then x else _)=x;rw[if_pos rfl]
theorem MH(hR:P2 P R){ops:List Oper}{S:Nat->SS}{p:List M7}(H:V8 Γ0 P all n ops S p)(hC:∀ (i:Nat) (o:Oper) (d:M7),ops[i]? =some o->p[i]? =some d->Mv P R o (S i) d)
  {r s N j:Nat}{q:Oper}{t:TypeId}{a x:Operand}{nx:Nat}{v:a7}{set:List (Nat×HO)}(I:∀i,i<ops.length->r<(S i).nx)(J:ops[j]? =some q)(w:q.op=.store t a x)(hd:p[j]? =some (.kQ nx v [] set [r]))(K:I6 (S j).m r=.c s N)
  (B:∀ (i:Nat) (d:M7),i≠j->p[i]? =some d->d=.skip\/∃nx v new set rd,d=.kQ nx v new set rd/\r ∉ rd/\r ∉ set.map (·.1)):
  ∃off k y,off+k<=s/\set=[(r,.c s (U9 N off k y))]/\(∃E A,(S j).T=TE E A/\PA P t (eF E A a) (eF E A x) r off k y)/\∀N',V8 Γ0 P all n ops (fun i=>(S i).eW r (some (.F8 (.c s (if i<=j then N' else U9 N' off k y)),.own))) (p.set j (.kQ nx v [] [(r,.c s (U9 N' off k y))] [r])):=by
 have L:=hC j q _ J hd;obtain⟨E,A,u,U,c2,c3,c4,V⟩:=L;have M:=H.step j q _ J hd;rw[w]at V;obtain⟨r',s',N0,off,k,y,X,e2,e3,e4,Y,e6,e8,e7⟩:=MG (show iA P t (eF E A a) (eF E A x) (I6 (S j).m)=.ok u [] set [r]from V);cases e2;rw[K]at X;cases X;refine⟨off,k,y,e6,Y,⟨E,A,U,e8⟩,fun N'=>⟨by rw[List.length_set];exact H.len,fun i o d G b=>?_⟩⟩
 by_cases f:i=j
 ·subst f;rw[J]at G;cases G;have C:i<p.length:=Q9 hd;rw[List.getElem?_set_self C]at b;cases b;obtain⟨g1,g2,g3,g4,g5,Z,g7⟩:=M;have O:I6 ((S i).eW r (some (.F8 (.c s N'),.own))).m r=.c s N':=by
   unfold I6;rw[ZX]
  have F:=e7 (I6 ((S i).eW r (some (.F8 (.c s N'),.own))).m) N' O;rw[if_pos (Nat.le_refl i),if_neg (by omega)]
  refine⟨g1,g2,g3,?_,g5,Z,?_⟩
  ·show(fun r'=>if r'=r then _ else(S (i+1)).m r')=E8 (bB _ [(r,.c s (U9 N' off k y))]) nx ([].map .F8)
   funext r';rw[rF (by simp)]
   show _=S0 (fun r'=>if r'=r then _ else(S i).m r') r _ r'
   by_cases e:r'=r
   ·subst e;rw[if_pos rfl,j6]
   ·rw[if_neg e,n6 _ _ _ _ e];simp only[if_neg e];have:(S (i+1)).m r'=E8 (bB (S i).m set) nx ([].map .F8) r':=by rw[g4];rfl
    rw[this,Y,rF (by simp)]
    show S0 (S i).m r _ r'=_;rw[n6 _ _ _ _ e]
  ·have:=Ji hR (o:=q) (E:=E) (A:=A) (T:=(S i).T) (m:=((S i).eW r (some (.F8 (.c s N'),.own))).m) (nx:=nx) (v:=.c 1) (new:=[]) (set:=[(r,.c s (U9 N' off k y))]) (rd:=[r]) (fun t=>by rw[U];rfl) rfl c3 (by rw[w];exact F)
   rw[c4,e4];rw[Z]at this;exact this
 ·rw[List.getElem?_set_ne (fun e=>f e.symm)]at b
  have hs:=H.step i o d G b;have g:(if i<=j then N' else U9 N' off k y)=(if i+1<=j then N' else U9 N' off k y):=by
   by_cases h:i<=j
   ·rw[if_pos h,if_pos (by omega)]
   ·rw[if_neg h,if_neg (by omega)]
  rw[g];rcases B i d f b with rfl|⟨nx1,v1,b5a,b5b,rd1,rfl,h1,h2⟩
  ·exact hs.Pz
  ·exact hs.blind h1 h2 (I i (Q9 G))
end
theorem Xo{a b c e2:M7}(d:bW a=bW c)(e:bW b=bW e2):oJ a b=oJ c e2:=by
 obtain⟨a1,f⟩:=Prod.mk.inj d;obtain⟨g,h⟩:=Prod.mk.inj e;unfold oJ;rw[a1,f,g,h]
theorem Fw{i:Nat}{k:Oper}{m p:M7}(q:bW m=bW p):∀ (f:List Oper) (g j:List M7) (c:List Nat),g.map bW=j.map bW->eK (fun _ a _ b=>oJ a b) i k m f g c=eK (fun _ a _ b=>oJ a b) i k p f j c
 |[],_,_,_,_=>by simp only[eK]
 |_::_,[],[],_,_=>by simp only[eK]
 |_::_,[],_::_,_,h=>by cases h
 |_::_,_::_,[],_,h=>by cases h
 |_::_,_::_,_::_,[],_=>by simp only[eK]
 |o::f,d::g,e::j,a::c,h=>by
  simp only[List.map_cons,List.cons.injEq]at h;simp only[eK];rw[Xo q h.1,Fw q f g j c h.2]
theorem Br:∀ (f:List Oper) (i:Nat) (g j:List M7) (c:List Nat),g.map bW=j.map bW->Z4 (fun _ a _ b=>oJ a b) i f g c=Z4 (fun _ a _ b=>oJ a b) i f j c
 |[],_,_,_,_,_=>by simp only[Z4]
 |_::_,_,[],[],_,_=>by simp only[Z4]
 |_::_,_,[],_::_,_,h=>by cases h
 |_::_,_,_::_,[],_,h=>by cases h
 |_::_,_,_::_,_::_,[],_=>by simp only[Z4]
 |o::f,i,d::g,e::j,a::c,h=>by
  simp only[List.map_cons,List.cons.injEq]at h;simp only[Z4];rw[Fw h.1 f g j c h.2,Br f (i+1) g j c h.2]
theorem Rt:∀ (a b:List M7),a.map bW=b.map bW->a.all (fun d=>d.wr.isEmpty)=b.all (fun d=>d.wr.isEmpty)
 |[],[],_=>rfl
 |[],_::_,h=>by cases h
 |_::_,[],h=>by cases h
 |d::a,e::b,h=>by
  simp only[List.map_cons,List.cons.injEq]at h;simp only[List.all_cons];rw[Rt a b h.2,(Prod.mk.inj h.1).2]
theorem PB{ops:Array Oper}{a es:List M7}(h:a.map bW=es.map bW):bC ops a=bC ops es:=by
 unfold bC;rw[Rt a es h,Br _ _ a es _ h]
theorem ZY{b:List M7}{j:Nat}{d e:M7}(h:b[j]? =some d)(c:bW e=bW d):(b.set j e).map bW=b.map bW:=by
 apply List.ext_getElem?;intro i;rw[List.getElem?_map,List.getElem?_map];by_cases a:i=j
 ·subst a;rw[List.getElem?_set_self (Q9 h),h];simp[c]
 ·rw[List.getElem?_set_ne (fun e=>a e.symm)]
noncomputable def Bs(r j:Nat):JB->Nat->Bool:=@List.rec (List Nat×List Nat) (fun _=>Nat->Bool) (fun _=>true) (fun p _ a i=>iB (Nat.beq i j) (iB (fQ r p.1) (a (Nat.succ i)) false) (iB (fQ r p.1) false (iB (fQ r p.2) false (a (Nat.succ i)))))
theorem Fx{r j:Nat}:∀ {l:JB} {a:Nat},Bs r j l a=true->∀ (i:Nat) (p:List Nat×List Nat),l[i]? =some p->(a+i=j->r∈p.1)/\(a+i≠j->r ∉ p.1/\r ∉ p.2)
 |[],_,_,i,p,b=>by simp at b
 |q::l,a,h,i,p,b=>by
  have h:iB (Nat.beq a j) (iB (fQ r q.1) (Bs r j l (Nat.succ a)) false) (iB (fQ r q.1) false (iB (fQ r q.2) false (Bs r j l (Nat.succ a))))=true:=h;have rest:Bs r j l (Nat.succ a)=true/\(a=j->r∈q.1)/\(a≠j->r ∉ q.1/\r ∉ q.2):=by
   simp only[j2]at h;split at h
   ·rename_i e;have e:=Nat.eq_of_beq_eq_true e;split at h
    ·rename_i c;exact⟨h,fun _=>iM.1 c,fun hh=>absurd e hh⟩
    ·cases h
   ·rename_i e;split at h
    ·cases h
    ·rename_i c;split at h
     ·cases h
     ·rename_i f;exact⟨h,fun hh=>absurd (by rw[hh];exact Nat.beq_refl j) e,fun _=>⟨fun d=>c (iM.2 d),fun d=>f (iM.2 d)⟩⟩
  cases i with
  |zero=>simp at b;subst b;exact rest.2
  |succ i=>
   have:=Fx rest.1 i p (by simpa using b)
   rw[show Nat.succ a+i=a+(i+1)by omega]at this
   exact this
section
variable {P:Program} {R:J6} {n:Nat} {z:BV} {l:List HO}
theorem Th(hR:P2 P R){ops:Array Oper}{k:KS}{E:Nat}{A:J1}{nx:Nat}{D:w7}{p r j:Nat}(h:kI ops.toList P R ops (fun L M u D' p' tr=>iB (nM (BH tr) (dM ops)) (iB (Bs r j (BH tr) 0) (k L M u D' p') (.er 560 0)) (.er 504 0)) E A nx D p []=.ok z l)
  (hd:G6 n ops.toList=true)(hn:nx<1048575){U:Oper}{t:TypeId}{ax x:Operand}(V:ops.toList[j]? =some U)(X:U.op=.store t ax x){s N:Nat}(H:s6 nx D r=.c s N):
  ∃ (off kk y L:Nat) (M:J1) (u:Nat) (D':w7) (S:Nat->SS),off+kk<=s/\k L M u D' p=.ok z l/\(S ops.toList.length).T=TE L M/\(S ops.toList.length).nx=u/\I6 (S ops.toList.length).m=s6 u D'/\u<1048575/\S 0=⟨TE E A,nx,n9 (G3 nx D)⟩/\(∃E0 A0,(S j).T=TE E0 A0/\PA P t (eF E0 A0 ax) (eF E0 A0 x) r off kk y)/\(U.dst=none->(S (j+1)).T=(S j).T)/\
   ∀F,∃S' Y,V8 Γ0 P ops n ops.toList S' Y/\bC ops Y=true/\S' 0=(S 0).eW r (some (.F8 (.c s F),.own))/\S' ops.toList.length=(S ops.toList.length).eW r (some (.F8 (.c s (U9 F off kk y)),.own)):=by
 obtain⟨S,O,L,M,u,D',q0,G,q2,q3,q4,q5,q6,q7⟩:=Am hR ops.toList E A nx D p [] _ (n9 (G3 nx D)) h hd hn (Aj nx D);rw[j2]at q7;split at q7
 rotate_left
 ·cases q7
 rename_i hc;rw[j2]at q7;split at q7
 rotate_left
 ·cases q7
 rename_i ho;rw[Rm,List.append_nil,List.reverse_reverse]at ho;have I:=Hj (fun i o d J C=>(q6 i o d J C).1) hc
 have w:∀ (i:Nat) (d:M7),O[i]? =some d->(i=j->r∈d.rd)/\(i≠j->r ∉ d.rd/\r ∉ d.wr):=fun i d hi=>by
  have:=Fx ho i (bW d) (by rw[List.getElem?_map,hi];rfl)
  rw[Nat.zero_add]at this;exact this
 have AD:r<nx:=by
  rcases Nat.lt_or_ge r nx with h'|h'
  ·exact h'
  ·rw[X2,if_neg (by omega)]at H;cases H
 have Ik:∀i,i<=ops.toList.length->nx<=(S i).nx:=by
  intro i
  induction i with
  |zero=>intro _;rw[q0];exact Nat.le_refl _
  |succ i ih=>
   intro hi;have J:=List.getElem?_eq_getElem (show i<ops.toList.length by omega)
   have C:=List.getElem?_eq_getElem (show i<O.length by rw[G.len];omega)
   have:=(G.step i _ _ J C).nx;have:=ih (by omega)
   omega
 have g:∃d,O[j]? =some d:=⟨_,List.getElem?_eq_getElem (show j<O.length by rw[G.len];exact Q9 V)⟩
 obtain⟨dj,g⟩:=g;have Ww:=Q9 V;have q:∀ (i:Nat) (d:M7),O[i]? =some d->d=.skip\/∃nx v new set rd,d=.kQ nx v new set rd:=fun i d hi=>by
  have hl:i<ops.toList.length:=by rw[<-G.len];exact Q9 hi
  have:=(q6 i _ d (List.getElem?_eq_getElem hl) hi).2;cases d with
  |skip=>exact .inl rfl
  |kQ a b c d e=>exact .inr ⟨a,b,c,d,e,rfl⟩
  |quiet a b=>exact this.elim
  |write a=>exact this.elim
 have K:∀i,i<=j->(S i).m r=(S 0).m r:=by
  intro i
  induction i with
  |zero=>intro _;rfl
  |succ i ih=>
   intro hi;have J:=List.getElem?_eq_getElem (show i<ops.toList.length by omega)
   have C:=List.getElem?_eq_getElem (show i<O.length by rw[G.len];omega)
   have hs:=G.step i _ _ J C;have Z:=((w i _ C).2 (by omega)).2
   rw[<-ih (by omega),hs.m]
   rcases q i _ C with e|⟨a,b,c,d,f,e⟩
   ·rw[e];rfl
   ·rw[e]at Z ⊢;simp only[M7.wr,List.mem_append,not_or]at Z;show E8 (bB (S i).m d) a (c.map .F8) r=_;rw[u6];split
    ·rename_i hh;exact absurd ((mS _ _ _).2 ⟨hh.1,by simpa using hh.2⟩) Z.2
    ·exact hE _ _ Z.1
 have hNj:I6 (S j).m r=.c s N:=by
  unfold I6;rw[K j (Nat.le_refl j),q0];show(match n9 (G3 nx D) r with|some (.F8 o,.own)=>o|_=>.z)=_
  rw[Z1,H]
 rcases q j dj g with rfl|⟨nx1,v,new,set,rd,rfl⟩
 ·exact absurd ((w j _ g).1 rfl) (by simp[M7.rd])
 ·have hrd:r∈rd:=(w j _ g).1 rfl;have B:=(q6 j U _ V g).2;obtain⟨E2,A2,b2,_,_,_,_,B⟩:=B;rw[X]at B;obtain⟨r',s',N0,off,kk,y,e1,e2,e3,e4,e5,e6,e8,e7⟩:=MG (show iA P t (eF E2 A2 ax) (eF E2 A2 x) (I6 (S j).m)=.ok b2 new set rd from B);subst e2;rcases List.mem_singleton.1 hrd with rfl;subst e3;obtain⟨off,kk,y,f1,f2,f4,f3⟩:=MH hR G (fun i o d J C=>(q6 i o d J C).2) (fun i hi=>Nat.lt_of_lt_of_le AD (Ik i (Nat.le_of_lt hi))) V X g hNj (fun i d hi hd=>by
   rcases q i d hd with e|⟨a,b,c,d',f,e⟩
   ·exact .inl e
   ·have:=(w i d hd).2 hi;rw[e]at this;simp only[M7.rd,M7.wr,List.mem_append,not_or]at this
    exact .inr ⟨a,b,c,d',f,e,this.1,this.2.1⟩)
  refine⟨off,kk,y,L,M,u,D',S,f1,q7,q2,q3,q4,q5,q0,f4,fun hdn=>by
   have:=(G.step j U _ V g).T
   rw[this,hdn];rfl,fun F=>⟨_,_,f3 F,?_,?_,?_⟩⟩
  ·rw[<-I];refine PB (ZY g ?_);rw[f2];rfl
  ·show(S 0).eW r (some (.F8 (.c s (if 0<=j then F else U9 F off kk y)),.own))=_
   rw[if_pos (Nat.zero_le j)]
  ·show(S ops.toList.length).eW r (some (.F8 (.c s (if ops.toList.length<=j then F else U9 F off kk y)),.own))=_
   rw[if_neg (by omega)]
end
end Go.Abs
end
section
namespace Go.Abs
section
variable {H1 H0:Nat->Option Hd} {b c:Nat} {v:Value}
def a6W(b c:Nat):Prop:=(∀r,Refs c r->r<b)/\(c % 8=7->c/524288=0)
def xH(b s n:Nat):Prop:=∀i,i<s->a6W b (R6 n i)
def Lw(b:Nat):BV->Prop
 |.c c=>a6W b c
 |.a s n=>xH b s n
 |.t l=>∀p∈l,xH b (oO p.1) p.2
 |.u=>True
end
end Go.Abs
end
section
namespace Go.Abs
section
variable {H1 H0:Nat->Option Hd} {c:Nat} {v:Value}
theorem j5.back(E:bY H0 H1)(h:j5 H1 c v):∀x,j5 H0 c x->j5 H0 c v:=by
 induction h with
 |int k n l=>intro _ _;exact .int k n l
 |Bv=>intro _ _;exact .Bv
 |Tm=>intro _ _;exact .Tm
 |FF=>intro _ _;exact .FF
 |tX=>intro _ _;exact .tX
 |HC=>intro _ _;exact .HC
 |HD=>intro _ _;exact .HD
 |ptr r off hd b s l t y=>
  intro x g;obtain⟨d,R,o,S,q3,q4,q5,q6⟩:=g.oG (X0.2 (by rw[dS];omega))
  have e:kN r off=8*(r*1048576+off)+4:=rfl;rw[dS (pR _)]at q4;have u:pR (kN r off)=r:=by omega
  rw[u]at o;have:=E r d o;rw[t]at this;cases this;exact .ptr r off hd b s l o y
 |sl r off len q j hd b z cap s l t y I J U L h8 h9 M=>
  intro x g;obtain⟨d,R,o',c',o,S,q3,q4,q5,q6,q7,q8,k1,k2,k3,k4,k5⟩:=g.uB (X1.2 (by rw[kK];omega))
  have e:Ar r off len q j=8*(2*(256*(1048576*(r*1048576+off)+len)+q)+j)+5:=rfl;rw[kK (sR _)]at q8;have u:sR (Ar r off len q j)=r:=by omega
  rw[u]at o;have:=E r d o;rw[J]at this;cases this;exact .sl r off len q j hd b z cap s l t y I o U L h8 h9 M
 |map r hd b s l t=>
  intro x g;obtain⟨d,R,o,S,q3,q4,q5⟩:=g.isMap (rU.2 (by rw[dT];omega))
  have e:iQ r=8*r+6:=rfl;rw[dT (mR _)]at q4;have u:mR (iQ r)=r:=by omega
  rw[u]at o;have:=E r d o;rw[l]at this;cases this;exact .map r hd b s o t
 |HE f l=>intro _ _;exact .HE f l
 |fn f r hd V Y s l t y I J U h7 N O=>
  intro x g;have Z:fR (vM f (r+1))=r+1:=by show(8*((r+1)*65536+f)+7) /524288=r+1;omega
  rcases g.Zr (by rw[Y9];omega)with⟨G,_⟩|⟨P,d,A,C,G,g2,g3,g4,g5,g6,L,g8,g9⟩
  ·rw[Z]at G;cases G
  ·rw[Z]at G;have u:P=r:=by omega
   subst u;have:=E P d g2;rw[t]at this;cases this;have e1:V.size=A.size:=by omega
   have e2:Y.size=C.size:=by omega
   refine .fn f P hd V Y s l g2 y I J (fun i v D=>?_) (fun i v D=>?_)
   ·have hi:i<A.size:=by
     have:=(Array.getElem?_eq_some_iff.1 D).1;omega
    exact N i v D _ (L i _ (Array.getElem?_eq_getElem hi))
   ·have hi:i<C.size:=by
     have:=(Array.getElem?_eq_some_iff.1 D).1;omega
    exact O i v D _ (g8 i _ (Array.getElem?_eq_getElem hi))
theorem j5.free(h:j5 H1 c v)(e:c % 8<=3):j5 H0 c v:=by
 cases h with
 |int k n d=>exact .int k n d
 |Bv=>exact .Bv
 |Tm=>exact .Tm
 |FF=>exact .FF
 |tX=>exact .tX
 |HC=>exact .HC
 |HD=>exact .HD
 |ptr r off hd b i d j q=>rw[dS]at e;omega
 |sl r off len s l hd b o cap i d j q t u=>rw[kK]at e;omega
 |map r hd b i d j=>rw[dT]at e;omega
 |HE f d=>rw[Y9]at e;omega
 |fn f r hd x y i d=>rw[Y9]at e;omega
theorem w9.back{s n:Nat}{vs b:List Value}(f:bY H0 H1)(h:w9 H1 s n vs)(d:w9 H0 s n b):w9 H0 s n vs:=
 ⟨h.1,h.2.1,fun i x e=>by
  have hi:i<b.length:=by rw[d.2.1,<-h.2.1];exact Q9 e
  exact(h.2.2 i x e).back f _ (d.2.2 i _ (List.getElem?_eq_getElem hi))⟩
theorem I1.back{b n:Nat}{d:Value}(e:bY H0 H1)(h:I1 H1 b n v)(f:I1 H0 b n d):I1 H0 b n v:=by
 cases b with
 |zero=>exact j5.back e h d f
 |succ k=>
  obtain⟨cs,rfl,i⟩:=h;obtain⟨j,_,l⟩:=f;exact⟨cs,rfl,i.back e l⟩
theorem u7.back{K K':j0}{x:BV}{o:Value}(d:bY H0 H1)(h:u7 K' H1 x v)(b:u7 K H0 x o):u7 K' H0 x v:=by
 cases x with
 |c n=>
  rcases b with⟨e,b⟩|⟨e,l,b,q⟩|b
  ·rcases h with h|h|h
   ·exact .inl h
   ·exact .inr (.inl h)
   ·exact absurd h.lt.1 (by omega)
  ·rcases h with h|h|h
   ·exact .inl h
   ·exact .inr (.inl h)
   ·exact absurd h.lt.1 (by omega)
  ·rcases h with h|h|h
   ·exact .inl h
   ·exact .inr (.inl h)
   ·exact .inr (.inr (h.back d _ b))
 |a s n=>
  obtain⟨cs,rfl,f⟩:=h;obtain⟨r,_,y⟩:=b;exact⟨cs,rfl,f.back d y⟩
 |t l=>
  obtain⟨vs,rfl,g2,z⟩:=h;obtain⟨j,_,A,q3⟩:=b;refine⟨vs,rfl,g2,fun i p x k C=>?_⟩
  have hi:i<j.size:=by
   have f:=Q9 k;rw[A];exact f
  exact(z i p x k C).back d (q3 i p _ k (Array.getElem?_eq_getElem hi))
 |u=>trivial
theorem Xp{K0 K K':j0}{w I:World}{hd:Hd}{o:HO}(t:bY H0 H1)(h:o8 K H1 w hd (.F8 o))(u:o8 K0 H0 I hd (.F8 o)):o8 K' H0 w hd (.F8 o):=by
 cases o with
 |c s n=>
  obtain⟨k,cs,e,J,q,r,b,x,L⟩:=h;obtain⟨_,_,_,_,_,_,_,_,M⟩:=u;exact⟨k,cs,e,J,q,r,b,x,L.back t M⟩
 |m ks vs l clk=>
  obtain⟨k,N,q,r,b⟩:=h;obtain⟨_,y,_,_,d⟩:=u;refine⟨k,N,q,r,?_⟩;rw[M5]at b d ⊢;refine⟨b.1,fun j p e A O=>?_⟩
  have hi:j<y.toList.length:=by rw[d.1];exact Q9 A
  obtain⟨P,g2,C,R⟩:=b.2 j p e A O;obtain⟨_,S,q3,_⟩:=d.2 j p _ A (List.getElem?_eq_getElem hi);exact⟨P,I1.back t g2 S,I1.back t C q3,R⟩
 |f Y Z k2 n2=>exact h
 |i m D seen G=>
  obtain⟨k,U,V,q,r,b,x⟩:=h;obtain⟨_,_,E,_,_,d,_⟩:=u;have:=t m E d;rw[b]at this;cases this;exact⟨k,U,V,q,r,d,x⟩
 |z=>exact h.elim
end
noncomputable def vK(H:Nat->Option Hd)(nx:Nat):List a7:=(List.range nx).map fun r=>if(H r).isSome then .z8 r else .R3
noncomputable def jW(H:Nat->Option Hd)(nx:Nat):List Hd:=(List.range nx).map fun r=>(H r).getD ⟨none,0,0,0⟩
def oH(b:List Hd)(X:Ctx):Ctx:=fun F K H d p w=>aY b F K H (d.take b.length) p w/\X F K H (d.drop b.length) p w
theorem Hr(l:List Nat):∀ (b:List a7) (m:Nat),(N5 l b).take m=N5 l (b.take m)
 |[],m=>by simp[N5]
 |a::b,0=>rfl
 |a::b,m+1=>by simp only[N5,List.take_succ_cons];rw[Hr l b m]
theorem Hs(l:List Nat):∀ (b:List a7) (m:Nat),(N5 l b).drop m=N5 l (b.drop m)
 |[],m=>by simp[N5]
 |a::b,0=>rfl
 |a::b,m+1=>by simp only[N5,List.drop_succ_cons];rw[Hs l b m]
theorem MJ{b:List Hd}{X:Ctx}(d:X.Ok):(oH b X).Ok:=
 ⟨fun o p=>⟨fun F e K K' H H' w w' h f i j k=>⟨((nC b).grow _ _).grow F e K K' H H' w w' h.1 f i j k,(d.grow _ _).grow F e K K' H H' w w' h.2 f i j k⟩⟩,
  fun F K H l o p w h=>⟨by rw[Hr];exact(nC b).dW F K H l _ p w h.1,by rw[Hs];exact d.dW F K H l _ p w h.2⟩⟩
section
variable {X:Ctx} {F:Nat->Prop} {K:j0} {H0 H:Nat->Option Hd} {g:List a7} {p:Option I3} {w:World} {nx:Nat}
theorem mF:(jW H0 nx).length=nx:=by simp[jW]
theorem iO:(vK H0 nx).length=nx:=by simp[vK]
theorem ML(h:X F K H g p w)(i:bY H0 H):oH (jW H0 nx) X F K H (vK H0 nx++g) p w:=by
 refine⟨⟨by rw[mF,List.length_take,List.length_append,iO];omega,fun q a r b d=>?_⟩,?_⟩
 ·rw[mF,List.take_append_of_le_length (by rw[iO];exact Nat.le_refl _),List.take_of_length_le (by rw[iO];exact Nat.le_refl _)]at b
  have f:q<nx:=by simpa [vK]using Q9 b
  simp only[vK,List.getElem?_map,List.getElem?_range f,Option.map_some,Option.some.injEq]at b;subst b;split at d
  ·rename_i j;simp only[S3,Option.some.injEq]at d;subst d;obtain⟨hd,e⟩:=Option.isSome_iff_exists.1 j;exact⟨hd,by simp[jW,f,e],i _ _ e⟩
  ·simp[S3]at d
 ·rw[mF];have:(vK H0 nx++g).drop nx=g:=by
   have:=iO (H0:=H0) (nx:=nx);rw[List.drop_append_of_le_length (by omega),List.drop_eq_nil_of_le (by omega),List.nil_append]
  rw[this];exact h
theorem mG(k:oH (jW H0 nx) X F K H (vK H0 nx++g) p w)(d:∀r,nx<=r->H0 r=none):bY H0 H/\X F K H g p w:=by
 obtain⟨⟨o,h⟩,e⟩:=k;constructor
 ·intro r hd b;have i:r<nx:=by
   rcases Nat.lt_or_ge r nx with f|f
   ·exact f
   ·rw[d r f]at b;cases b
  rw[mF,List.take_append_of_le_length (by rw[iO];exact Nat.le_refl _),List.take_of_length_le (by rw[iO];exact Nat.le_refl _)]at h
  obtain⟨l,j,g2⟩:=h r (.z8 r) r (by simp[vK,i,b]) rfl
  simp only[jW,List.getElem?_map,List.getElem?_range i,Option.map_some,Option.some.injEq,b,Option.getD_some]at j;rw[j];exact g2
 ·rw[mF]at e;have:(vK H0 nx++g).drop nx=g:=by
   have:=iO (H0:=H0) (nx:=nx);rw[List.drop_append_of_le_length (by omega),List.drop_eq_nil_of_le (by omega),List.nil_append]
  rw[this]at e;exact e
end
section
variable {X:iW} {B:Option Nat} {F:Nat->Prop} {n:Nat} {K K':j0} {H H':Nat->Option Hd} {T T':Nat->a7} {m m':Mm} {a a':Act} {w w':World}
def bV(H:Nat->Option Hd)(r:Nat)(b:Nat):Prop:=∃hd,H r=some hd/\hd.base=some b
def iP(m:Mm)(r:Nat):Mm:=fun b=>if b=r then none else m b
theorem Z2{r b:Nat}{x:c7×p8}(h:iP m r b=some x):b≠r/\m b=some x:=by
 unfold iP at h;split at h
 ·cases h
 ·rename_i hh;exact⟨hh,h⟩
theorem St.a2Z(J:X.Ok)(h:St X B F n K H T m a w){r:Nat}{o:HO}(t:m r=some (.F8 o,.own)):St X B (fun b=>F b\/bV H r b) n K H T (iP m r) a w:=by
 have s:∀b,bV H r b->¬F b/\K.cells b=none/\K.inv b=none/\b<w.heap.size:=fun b ⟨hd,d,i⟩=>by
  obtain⟨u,g2,y,_⟩:=h.mem.own r _ hd b t d i;exact⟨u,g2,y,U4 h.mem t (by simp) d i⟩
 refine⟨⟨h.ok.y6,fun b k=>?_,fun b p z l=>?_,h.ok.apart⟩,⟨?_,?_,?_,?_⟩,h.size,?_,h.tmp,J.grow F _ K K H H w w h.x (fun _ s=>.inl s) (.refl K) (fun _ _ e=>e) (.refl F w)⟩
 ·rcases k with k|k
  ·exact h.ok.lt b k
  ·exact(s b k).2.2.2
 ·rcases l with l|l
  ·exact h.ok.inv b p z l
  ·rw[(s b l).2.2.1]at z;cases z
 ·intro q c f hd d i j;exact h.mem.cont q c f hd (Z2 d).2 i j
 ·intro q c hd b d i j;obtain⟨A,d⟩:=Z2 d;obtain⟨u,g2,y,L⟩:=h.mem.own q c hd b d i j;refine⟨fun l=>?_,g2,y,L⟩
  rcases l with l|⟨C,M,N⟩
  ·exact u l
  ·exact A (h.mem.inj q r c _ hd C b d t i M j N)
 ·intro q c hd b d i j;exact h.mem.aQ q c hd b (Z2 d).2 i j
 ·intro O P R S E G b d i j U V Y;exact h.mem.inj O P R S E G b (Z2 d).2 (Z2 i).2 j U V Y
 ·have:=h.defers;cases B with
  |none=>exact this
  |some b=>
   obtain⟨A,Z,d,i,j⟩:=this;exact⟨A,Z,d,i,fun D I=>⟨(j D I).1,.inl (j D I).2.1,(j D I).2.2⟩⟩
theorem MM{K:j0}{H:Nat->Option Hd}{w:World}{hd:Hd}{o:HO}{b:Nat}{x:Obj}(h:o8 K H w hd (.F8 o))(e:hd.base=some b)(f:w.heap[b]? =some x):x.V'=true:=by
 obtain⟨y,d,g2⟩:=BM (K':=K) (H':=H) h b e;rw[f]at d;cases d;exact g2
theorem St.PC{J:Nat->Prop}{r:Nat}{o:HO}(hX:X.Ok)(h:St X B F n K H T m a w)(R:m r=some (.F8 o,.own))(q:St X B J n K' H' T' m' a' w')(hm:m' r=none)(L:∀b,F b\/bV H r b->J b)(hK:K.le K')(Z:bY H H')(G:(H r).isSome=true)
  (M:Fix (fun b=>F b\/bV H r b) K K')(S:Kept (fun b=>F b\/bV H r b) w w'):
  St X B (fun b=>J b/\¬bV H r b) n K' H' T' (S0 m' r (.F8 o,.own)) a' w'/\∀b,F b->J b/\¬bV H r b:=by
 have hb:∀b,bV H r b->¬F b/\K.cells b=none/\K.inv b=none:=fun b ⟨hd,k1,k2⟩=>by
  obtain⟨N,g2,E,_⟩:=h.mem.own r _ hd b R k1 k2;exact⟨N,g2,E⟩
 have hF:∀b,F b->J b/\¬bV H r b:=fun b t=>⟨L b (.inl t),fun hh=>(hb b hh).1 t⟩
 obtain⟨u,y⟩:=Option.isSome_iff_exists.1 G;have O:=Z r u y;have s:∀hd b,H' r=some hd->hd.base=some b->bV H r b:=fun hd b z A=>by
  rw[O]at z;cases z;exact⟨u,y,A⟩
 have d:∀i x,S0 m' r (c7.F8 o,p8.own) i=some x->(i=r/\x=(.F8 o,.own))\/(i≠r/\m' i=some x):=fun i x U=>by
  by_cases e:i=r
  ·subst e;rw[j6]at U;cases U;exact .inl ⟨rfl,rfl⟩
  ·rw[n6 _ _ _ _ e]at U;exact .inr ⟨e,U⟩
 refine⟨⟨⟨q.ok.y6,fun b t=>q.ok.lt b t.1,fun b p hp hF'=>q.ok.inv b p hp hF'.1,q.ok.apart⟩,⟨?_,?_,?_,?_⟩,q.size,?_,q.tmp,hX.grow F _ K K' H H' w w' h.x hF hK Z (S.mono fun _ e=>.inl e)⟩,hF⟩
 ·intro i c f hd k C q3;rcases d i _ k with⟨rfl,e⟩|⟨e,k⟩
  ·cases e;rw[O]at q3;cases q3;exact o8.mono hK Z (fun b e=>S.block b (.inr ⟨u,y,e⟩)) (h.mem.cont i _ .own u R (by simp) y)
  ·exact q.mem.cont i c f hd k C q3
 ·intro i c hd b k C q3;rcases d i _ k with⟨rfl,e⟩|⟨e,k⟩
  ·cases e;have j:=s hd b C q3;have P:=hb b j;obtain⟨f1,f2⟩:=M b (.inr j);refine⟨fun hh=>hh.2 j,by rw[f1];exact P.2.1,by rw[f2];exact P.2.2,fun hc=>?_⟩
   obtain⟨l,z,A⟩:=j;obtain⟨_,_,_,g4⟩:=h.mem.own i _ l b R z A;obtain⟨cs,e,g⟩:=g4 hc;exact⟨cs,e,by rw[S.block b (.inr ⟨l,z,A⟩)];exact g⟩
  ·obtain⟨N,g2,E,g4⟩:=q.mem.own i c hd b k C q3;exact⟨fun hh=>N hh.1,g2,E,g4⟩
 ·intro i c hd b k C q3;rcases d i _ k with⟨rfl,e⟩|⟨e,k⟩
  ·cases e
  ·exact q.mem.aQ i c hd b k C q3
 ·intro r1 V c1 c2 l I b k C q3 q4 q5 q6;have not:∀i c hd,m' i=some (c,p8.own)->H' i=some hd->hd.base=some b->¬bV H r b:=fun i c hd z A e3 j=>(q.mem.own i c hd b z A e3).1 (L b (.inr j))
  rcases d r1 _ k with⟨x1,e⟩|⟨e,y1⟩
  ·rcases d V _ C with⟨x2,e'⟩|⟨e',y2⟩
   ·rw[x1,x2]
   ·rw[x1]at q3;exact absurd (s l b q3 q5) (not V _ I y2 q4 q6)
  ·rcases d V _ C with⟨x2,e'⟩|⟨e',y2⟩
   ·rw[x2]at q4;exact absurd (s I b q4 q6) (not r1 _ l y1 q3 q5)
   ·exact q.mem.inj r1 V c1 c2 l I b y1 y2 q3 q4 q5 q6
 ·have:=q.defers;cases B with
  |none=>exact this
  |some b=>
   obtain⟨h0,Ds,N,g2,E⟩:=this;refine⟨h0,Ds,N,g2,fun D Y=>⟨(E D Y).1,⟨(E D Y).2.1,fun j=>?_⟩,(E D Y).2.2⟩⟩
   have z:=(E D Y).2.2;have A:=S.block D (.inr j);rw[z]at A;obtain⟨hd,k1,k2⟩:=j;have:=MM (h.mem.cont r _ .own hd R (by simp) k1) k2 A.symm
   cases this
end
end Go.Abs
end
section
namespace Go.Abs
structure WK where
 i:Operand
 t:Tmp
 r1:List Oper
 a1:Array Oper
 c1:Code
 b:Nat
 i2:Operand
 t2:Tmp
 r2:List Oper
 a2:Array Oper
 c2:Code
def Jo(ops:Array Oper):Option (Operand×Tmp×List Oper):=match ops.toList with
 |o::r=>(match o.op,o.dst,o.guard with
  |.entry i,some t,none=>some (i,t,r)
  |_,_,_=>none)
 |[]=>none
def Aq:Code->Option WK
 |.seq (.region _ a false) (.seq d (.block b (.seq (.region _ c false) e)))=>(match Et a,Jo c with
  |some (i,t),some (f,g,h)=>some ⟨i,t,a.toList.drop 1,a,d,b,f,g,h,c,e⟩
  |_,_=>none)
 |_=>none
def yM:Code->Option (Array Oper×Nat×TypeId×Operand×Operand)
 |.region _ ops true=>(match ops.toList.getLast? with
  |some o=>(match o.op,o.dst with
   |.store t a x,none=>some (ops,ops.toList.length- 1,t,a,x)
   |_,_=>none)
  |none=>none)
 |_=>none
noncomputable section
def b0C:List Oper->List Nat:=@List.rec Oper (fun _=>List Nat) [] (fun o _ a=>@Option.rec Tmp (fun _=>List Nat) a (fun t=>t::a) o.dst)
def Xq:Code->List Nat:=@Code.rec (fun _=>List Nat) [] (fun _ ops _=>b0C ops.toList) (fun _ _ a b=>LM a b) (fun _ _ _ a b=>LM a b) (fun _ _ a=>a) (fun _ a=>a) (fun _ ps _ _ a b=>LM ps.toList (LM a b)) (fun _=>[]) (fun _ a=>a) (fun _=>[]) (fun _=>[]) [] (fun _=>[])
def isSet(v:BV):Bool:=@BV.rec (fun _=>Bool) (fun _=>true) (fun _ _=>true) (fun _=>true) false v
def Xr(b:List Nat)(E:Nat)(A:J1):List Nat->List Nat:=@List.rec Nat (fun _=>List Nat) [] (fun t _ a=>iB (fQ t b) a (iB (isSet (F7 E A t)) (t::a) a))
def Xs(E:Nat)(A:J1):List Nat->Nat->J1->(Nat->J1->Rn)->Rn:=@List.rec Nat (fun _=>Nat->J1->(Nat->J1->Rn)->Rn) (fun a b k=>k a b) (fun t _ c a b k=>bM t (F7 E A t) a b fun d e=>c d e k)
def a21(E:Nat)(A:J1)(a:Nat)(b:J1):List Nat->Bool:=@List.rec Nat (fun _=>Bool) true (fun t _ c=>iB (Gg (F7 E A t) (F7 a b t)) c false)
def a24(o o':HO):Bool:=@HO.rec (fun _=>Bool) (fun _ _=>XT o o') (fun _ _ _ _=>XT o o') (fun _ _ _ _=>XT o o') (fun m s l a=>@HO.rec (fun _=>Bool) (fun _ _=>false) (fun _ _ _ _=>false) (fun _ _ _ _=>false) (fun b c d e=>iB (Nat.beq m b) (iB (Nat.beq s c) (iB (Nat.beq a e) (QP Nat.beq l d) false) false) false) false o')
 (@HO.rec (fun _=>Bool) (fun _ _=>false) (fun _ _ _ _=>false) (fun _ _ _ _=>false) (fun _ _ _ _=>false) true o') o
def a27(a:Nat)(b:w7)(nx:Nat)(D:w7)(c:Nat):Nat->Bool:=@Nat.rec (fun _=>Bool) true (fun r d=>iB (iB (Nat.beq r c) true (a24 (s6 a b r) (s6 nx D r))) d false)
def yN(c:List Nat)(d:Nat)(e:J1)(nx:Nat)(D:w7)(p f:Nat)(a:Rn)(E:Nat)(A:J1)(b:Nat)(g:w7)(h:Nat):Rn:=iB (Nat.beq h p) (iB (a21 E A d e c) (iB (a27 b g nx D f nx) a (.er 561 0)) (.er 562 0)) (.er 563 0)
def vL(a:WK)(c d ks vs clk:Nat)(l:ME)(P:Program)(F:Nat)(R:J6)(I:GY)(b:KS)(q:Nat×Nat×Nat):KS:=fun E A nx D p=>
 bM a.t (.t [(0,17),(ks,q.2.1),(vs,q.2.2)]) E A fun E A=>V3 a.r1 P R none a.a1 (fun E A nx D p=>BJ a.c1 P F R I none E A nx D p fun e E A nx D p=>BI e
  (iB (Gg (eF E A a.i2) (.c c)) (iB (XT (s6 nx D d) (.m ks vs l clk)) (bM a.t2 (.t [(ks,q.2.1),(vs,q.2.2)]) E A fun E A=>V3 a.r2 P R none a.a2 b E A nx D p) (.er 564 0)) (.er 565 0)) (fun _=>.er 566 0) (.er 567 0)) E A nx D p
def a1h(c:WK)(P:Program)(F:Nat)(R:J6)(I:GY)(a:KS):KS:=fun E A nx D p=>BJ c.c2 P F R I none E A nx D p fun e E A nx D p=>BI e (a E A nx D p) (fun i=>iB (Nat.beq i c.b) (a E A nx D p) (.er 568 0)) (.er 569 0)
def Ht(t:TypeId)(d x:Operand)(P:Program)(b:Rn->KS):KS:=fun E A nx D p=>@BV.rec (fun _=>Rn) (fun c=>@BV.rec (fun _=>Rn) (fun y=>iB (Nat.beq (j7 P t) 1) (iB (Nat.ble 3 c) (iB (Nat.ble 3 y) (iB (Nat.ble (Nat.mod y 8) 3) (b (.ok (.a (pO c) y) []) E A nx D p) (.er 571 0)) (.er 572 0)) (.er 573 0)) (.er 574 0)) (fun _ _=>.er 575 0) (fun _=>.er 576 0) (.er 577 0) (eF E A x)) (fun _ _=>.er 578 0) (fun _=>.er 579 0) (.er 580 0) (eF E A d)
def MN(ops:Array Oper)(j:Nat)(t:TypeId)(e x:Operand)(P:Program)(R:J6)(a s N:Nat)(b:Rn->KS):KS:=fun E A nx D p=>iB (Nat.ble (Nat.succ a) nx) (zX nx D a (.c s N) fun D=>kI ops.toList P R ops (fun E A nx D p d=>iB (nM (BH d) (dM ops)) (iB (Bs a j (BH d) 0) (Ht t e x P b E A nx D p) (.er 560 0)) (.er 504 0)) E A nx D p []) (.er 598 0)
def a28(a E:Nat)(A:J1):List Nat->Bool:=@List.rec Nat (fun _=>Bool) false (fun t _ b=>iB (@BV.rec (fun _=>Bool) (fun c=>iB (JI c) (Nat.beq (sR c) a) false) (fun _ _=>false) (fun _=>false) false (F7 E A t)) true b)
def MO(f:Nat×Nat×Nat->Rn):ME->List (Nat×Nat)->(List (Nat×Nat)->Rn)->Rn:=@List.rec (Nat×Nat×Nat) (fun _=>List (Nat×Nat)->(List (Nat×Nat)->Rn)->Rn) (fun a k=>k a) (fun q _ b a k=>@Rn.rec (fun _=>Rn) (fun c x=>.er c x) (fun v _=>@BV.rec (fun _=>Rn) (fun _=>.er 581 0) (fun o y=>fN o fun o=>fN y fun y=>b ((o,y)::a) k) (fun _=>.er 582 0) (.er 583 0) v) (f q))
def Bt:List (Nat×Nat)->Nat->Nat:=@List.rec (Nat×Nat) (fun _=>Nat->Nat) (fun n=>n) (fun p _ a n=>a (U9 n p.1 1 p.2))
def ZZ(s N:Nat):List (Nat×Nat)->Bool:=@List.rec (Nat×Nat) (fun _=>Bool) true (fun p _ a=>iB (Nat.beq (R6 (Nat.div N cB) p.1) p.2) (iB (Nat.ble (Nat.succ p.1) s) a false) false)
def Xt(a:WK)(P:Program)(F:Nat)(R:J6)(I:GY)(b:KC):KS:=fun E A nx D p=>bM a.t (.t [(0,9)]) E A fun E A=>V3 a.r1 P R none a.a1 (fun E A nx D p=>BJ a.c1 P F R I none E A nx D p fun e E A nx D p=>BI e (.er 584 0) (fun i=>b (.exit i) E A nx D p) (b .ret E A nx D p)) E A nx D p
def Xu(b:Nat)(e:WK)(P:Program)(F:Nat)(R:J6)(I:GY)(i:KC)(f:List Nat)(E:Nat)(A:J1)(nx:Nat)(D:w7)(p c j ks vs clk:Nat)(l L:ME):Rn:=
 @Option.rec _ (fun _=>Rn)
  (iB (Nat.ble nx b) (MO (fun q=>vL e c j ks vs clk l P F R I (a1h e P F R I (yN f E A nx D p b (.ok (.a 0 0) []))) q E A nx D p) L [] fun _=>Xt e P F R I i E A nx D p) (.er 585 0))
  (fun s0=>iB (Nat.ble (Nat.succ b) nx) (iB (Nat.beq b (pR c)) (.er 592 0) (@HO.rec (fun _=>Rn) (fun s N=>iB (a28 b E A f) (zX nx D b .z fun k=>MO (fun q=>vL e c j ks vs clk l P F R I (MN s0.1 s0.2.1 s0.2.2.1 s0.2.2.2.1 s0.2.2.2.2 P R b s N (fun g=>yN f E A nx k p b g)) q E A nx k p) L [] fun d=>
   fN (Bt d N) fun h=>iB (ZZ s h d) (iB (Nat.ble (Nat.succ (Nat.div h cB)) (Nat.pow cB s)) (zX nx D b (.c s h) fun m=>Xt e P F R I i E A nx m p) (.er 597 0)) (.er 586 0)) (.er 599 0)) (fun _ _ _ _=>.er 587 0) (fun _ _ _ _=>.er 588 0) (fun _ _ _ _=>.er 589 0) (.er 590 0) (s6 nx D b))) (.er 591 0))
  (iB (Nat.ble nx b) none (yM e.c2))
def Ru(g h:Nat)(b:Code)(f:WK)(P:Program)(F:Nat)(R:J6)(I:GY)(E:Nat)(A:J1)(nx:Nat)(D:w7)(p:Nat)(m:KC):Rn:=
 @BV.rec (fun _=>Rn) (fun c=>iB (zU c) (iB (Nat.beq (pO c) 0) (@HO.rec (fun _=>Rn) (fun _ _=>.er 543 1) (fun _ _ _ _=>.er 544 1) (fun _ _ _ _=>.er 545 1) (fun e a seen d=>@HO.rec (fun _=>Rn) (fun _ _=>.er 546 1) (fun ks vs l clk=>iB (Sx a l) (iB (Nat.ble a d) (iB (Nat.beq clk d) (iB (IQ l 0) (iB (Nat.beq e (pR c)) (.er 594 0) (iB (Nat.beq e h) (.er 595 0)
  (Xs E A (Xr (Xq b) E A (rng g 0)) (Nat.mod E 4294967291) [] fun j k=>iB (Gg (eF j k f.i) (.c c)) (zX nx D (pR c) .z fun n=>Xu h f P F R I m (Xr (Xq b) E A (rng g 0)) j k nx n p c e ks vs clk l (E7 seen l)) (.er 596 0))
  )) (.er 593 1)) (.er 594 1)) (.er 547 1)) (.er 548 1)) (fun _ _ _ _=>.er 549 1) (fun _ _ _ _=>.er 550 1) (.er 551 1) (s6 nx D e)) (.er 552 1) (s6 nx D (pR c))) (.er 553 1)) (.er 554 1)) (fun _ _=>.er 555 1) (fun _=>.er 556 1) (.er 557 1) (eF E A f.i)
def MP(q r:Nat):Code->OU:=@Code.rec (fun _=>OU)
 (fun _ _ _ _ _ E A nx D p k=>k .normal E A nx D p)
 (fun _ ops m=>Zn ops m)
 (fun _ _ d o P F R I Y E A nx D p k=>d P F R I Y E A nx D p fun e f h c D' j=>BI e (o P F R I Y f h c D' j k) (fun i=>k (.exit i) f h c D' j) (k .ret f h c D' j))
 (fun g _ _ d o P F R I Y E A nx D p k=>@BV.rec (fun _=>Rn) (fun n=>iB (Nat.beq n 17) (d P F R I Y E A nx D p k) (iB (Nat.beq n 9) (o P F R I Y E A nx D p k) (.er 513 0))) (fun _ _=>.er 514 0) (fun _=>.er 515 0) (.er 516 0) (eF E A g))
 (fun id _ d P F R I Y E A nx D p k=>d P F R I Y E A nx D p fun e f h c D' j=>BI e (k .normal f h c D' j) (fun i=>iB (Nat.beq i id) (k .normal f h c D' j) (k (.exit i) f h c D' j)) (k .ret f h c D' j))
 (fun l d P F R I Y E A nx D p k=>@Option.rec WK (fun _=>Rn) (Ev (d P F R I Y) k F E A nx D p) (fun s=>Ru q r l s P F R I E A nx D p k) (Aq l))
 (fun g ps a b _ _=>BJ (.rangeFunc g ps a b))
 (fun i _ _ _ _ _ E A nx D p k=>k (.exit i) E A nx D p)
 (fun _ d=>d)
 (fun _ _ _ _ _ _ E A nx D p k=>k .normal E A nx D p)
 (fun _ _ _ _ _ _ _ _ _ _ _ _=>.er 522 0)
 (fun _ _ _ _ _ E A nx D p k=>k .ret E A nx D p)
 (fun _ _ _ _ _ _ _ _ _ _ _ _=>.er 523 0)
def Xv(g h:Nat)(F:Nat)(P:Program)(R:J6):J6:=fun f args a=>iB (LQ P f) (iB (Nat.ble (eP a) 1000000) (jR args 0 (xN args) [] fun E A=>news a 0 .e fun m D=>MP g h (kJ P f) P F R (itC F P R) none E A m D 0 fun e c d b D' _=>
 BI e (zZ P f m a c d (s6 b D')) (fun _=>.er 535 f) (zZ P f m a c d (s6 b D'))) (.er 536 f)) (.er 537 f)
end
end Go.Abs
end
section
namespace Go.Abs
noncomputable section
def Jp(args:List BV)(a:List HO):Rn:=@List.rec BV (fun _=>Rn) (.er 600 0) (fun v r _=>@List.rec BV (fun _=>Rn) (@BV.rec (fun _=>Rn) (fun c=>iB (Nat.beq c (iQ 0)) (@List.rec HO (fun _=>Rn) (.er 602 0) (fun o r _=>@List.rec HO (fun _=>Rn) (@HO.rec (fun _=>Rn) (fun _ _=>.er 603 0) (fun ks vs l clk=>.ok (.c (iQ 1)) [.m ks vs l clk,.m ks vs l clk]) (fun _ _ _ _=>.er 604 0) (fun _ _ _ _=>.er 605 0) (.er 606 0) o) (fun _ _ _=>.er 607 0) r) a) (.er 608 0)) (fun _ _=>.er 609 0) (fun _=>.er 610 0) (.er 611 0) v) (fun _ _ _=>.er 612 0) r) args
def Rv(S:List (Nat×Nat×Nat))(b F:Nat)(P:Program)(R:J6):J6:=fun f args a=>@List.rec (Nat×Nat×Nat) (fun _=>Rn) (iB (Nat.beq f b) (Jp args a) (Xm F P R f args a)) (fun p _ c=>iB (Nat.beq f p.1) (Xv p.2.1 p.2.2 F P R f args a) c) S
def a1i(S:List (Nat×Nat×Nat))(a F:Nat)(P:Program):Nat->J6:=@Nat.rec (fun _=>J6) (fun f _ _=>.er 534 f) (fun _ b=>Rv S a F P b)
end
end Go.Abs
end
section
namespace Go.Abs
theorem Jq{ops:Array Oper}{i:Operand}{t:Tmp}{r:List Oper}(h:Jo ops=some (i,t,r)):∃o,ops.toList=o::r/\o.op=.entry i/\o.dst=some t/\o.guard=none:=by
 unfold Jo at h;split at h
 ·rename_i o rest e;split at h
  ·rename_i d f a b c;cases h;exact⟨o,e,a,b,c⟩
  ·cases h
 ·cases h
theorem MQ{c:Code}{a:WK}(h:Aq c=some a):∃d e oN f,c=.seq (.region d a.a1 false) (.seq a.c1 (.block a.b (.seq (.region e a.a2 false) a.c2)))/\
  a.a1.toList=oN::a.r1/\oN.op=.next a.i false/\oN.dst=some a.t/\oN.guard=none/\a.a2.toList=f::a.r2/\f.op=.entry a.i2/\f.dst=some a.t2/\f.guard=none:=by
 unfold Aq at h;split at h
 ·rename_i d v w b e x y;split at h
  ·rename_i i t A B C g j;cases h;obtain⟨o,rest,k,m,n,p⟩:=Bq g;obtain⟨f,q,r,s,u⟩:=Jq j;exact⟨d,e,o,f,rfl,by rw[k];rfl,m,n,p,q,r,s,u⟩
  ·cases h
 ·cases h
theorem Jr{c:Code}{ops:Array Oper}{j:Nat}{t:TypeId}{a x:Operand}(h:yM c=some (ops,j,t,a,x)):∃id o,c=.region id ops true/\ops.toList[j]? =some o/\j+1=ops.toList.length/\o.op=.store t a x/\o.dst=none:=by
 unfold yM at h;split at h
 ·rename_i id d;split at h
  ·rename_i o e;split at h
   ·rename_i k m n f g;cases h;refine⟨id,o,rfl,?_,?_,f,g⟩
    ·rw[List.getLast?_eq_getElem?]at e;exact e
    ·have:0<ops.toList.length:=by
      cases i:ops.toList with
      |nil=>rw[i]at e;cases e
      |cons a b=>simp
     omega
   ·cases h
  ·cases h
 ·cases h
section
variable {z:BV} {l:List HO}
theorem Xw{t:Nat}{e:List (Nat×Nat)}{E:Nat}{A:J1}{f:Nat->J1->Rn}(h:bM t (.t e) E A f=.ok z l)(q:List (Nat×Nat))(k:Nat->J1->Rn):∃b a,bM t (.t q) E A k=k b a/\∀t',F7 b a t'=if t'=t then .t q else F7 E A t':=by
 unfold bM at h ⊢;rw[j2]at h;split at h
 ·rename_i c;rw[j2,if_pos c];have c:E % cB+1<cB:=Rh (Nat.le_of_ble_eq_true c);obtain⟨a,g,i⟩:=Ak (.t q) A t (fun a=>k (uY E t 0) a)
  refine⟨uY E t 0,a,?_,fun t'=>?_⟩
  ·show fN (uY E t 0) (fun b=>fP q fun l=>Es (.t l) A t fun a=>k b a)=_
   simp only[J8,Mr];exact g
  ·rw[cT,cT,Fo T7 c,i t'];by_cases d:t'=t
   ·simp only[d,if_true]
   ·simp only[d,if_false]
 ·cases h
theorem gE{β:Type}{nx:Nat}{d:w7}{i:Nat}{o:HO}(hi:i<nx)(k:w7->β):∃b,zX nx d i o k=k b/\∀r,s6 nx b r=if r=i then o else s6 nx d r:=by
 obtain⟨b,c,e⟩:=sC (nx:=nx) (d:=d) (i:=i) (o:=o) (k:=k) (Nat.le_of_lt hi);refine⟨b,c,fun r=>?_⟩
 rw[X2,X2];by_cases a:r<nx
 ·rw[if_pos a,if_pos a,e r (Nat.le_of_lt a)]
 ·rw[if_neg a,if_neg a,if_neg (by omega)]
theorem a29{nx:Nat}{D:w7}{r:Nat}(h:nx<=r):s6 nx D r=.z:=by rw[X2,if_neg (by omega)]
theorem Co{nx:Nat}{D:w7}{r:Nat}{o:HO}(h:s6 nx D r=o)(b:o≠ .z):r<nx:=by
 rcases Nat.lt_or_ge r nx with a|a
 ·exact a
 ·rw[a29 a]at h;exact absurd h.symm b
theorem MR{k:Nat×Nat×Nat->Rn}:∀ {L:ME},L≠ []->(∀p∈L,k p=.ok (.c 0) [])->Sy k L=.ok (.c 0) []
 |[],h,_=>absurd rfl h
 |[q],_,h=>h q (List.mem_cons_self ..)
 |q::a::r,_,h=>by
  show OT (k q) (Sy k (a::r))=_;rw[h q (List.mem_cons_self ..),MR (by simp) (fun p b=>h p (List.mem_cons_of_mem _ b))]
  rfl
theorem Xx{i:Operand}{t:Tmp}{E:Nat}{A:J1}{nx:Nat}{D:w7}{p c u a h ks vs clk:Nat}{seen:List Nat}{L:ME}{n:KS}(F:eF E A i=.c c)(G:zU c=true)(H:Nat.beq (pO c) 0=true)(y:s6 nx D (pR c)=.i u a seen h)
  (I:s6 nx D u=.m ks vs L clk)(J:Sx a L=true)(K:Nat.ble a h=true)
  (j:∀q (k:Nat->J1->Rn),∃b f,bM t (.t q) E A k=k b f/\∀g,F7 b f g=if g=t then .t q else F7 E A g)
  (v:E7 seen L=[]->∀b f,(∀g,F7 b f g=if g=t then .t [(0,9)]else F7 E A g)->n b f nx D p=.ok (.c 0) [])
  (s:∀q∈E7 seen L,∀b f D',(∀g,F7 b f g=if g=t then .t [(0,17),(ks,q.2.1),(vs,q.2.2)]else F7 E A g)->(∀r,s6 nx D' r=if r=pR c then .i u a (q.1::seen) clk else s6 nx D r)->n b f nx D' p=.ok (.c 0) []):
  Eu i t n E A nx D p=.ok (.c 0) []:=by
 have w:=Co y (by simp)
 unfold Eu;rw[F];show iB (zU c) (iB (Nat.beq (pO c) 0) _ _) _=_;rw[G,H];simp only[j2,if_true];rw[y];show @HO.rec (fun _=>Rn) _ _ _ _ _ (s6 nx D u)=_
 rw[I];simp only[J,K,if_true];cases B:E7 seen L with
 |nil=>
  obtain⟨b,f,x,g2⟩:=j [(0,9)] (fun b f=>n b f nx D p)
  show bM t (.t [(0,9)]) E A (fun b f=>n b f nx D p)=_
  rw[x];exact v B b f g2
 |cons q U=>
  refine MR (by simp) (fun e M=>?_)
  rw[J8];obtain⟨C,x,g2⟩:=gE (d:=D) (o:=.i u a (e.1::seen) clk) w (fun D'=>bM t (.t [(0,17),(ks,e.2.1),(vs,e.2.2)]) E A fun b f=>n b f nx D' p)
  rw[x];obtain⟨b,f,N,O⟩:=j [(0,17),(ks,e.2.1),(vs,e.2.2)] (fun b f=>n b f nx C p)
  rw[N];exact s e (by rw[B];exact M) b f C O g2
theorem Hu{E:Nat}{A:J1}{c:Nat}{d:J1}:∀ {e:List Nat},a21 E A c d e=true->∀t∈e,F7 E A t=F7 c d t
 |[],_,t,b=>by cases b
 |a::e,h,t,b=>by
  have h:iB (Gg (F7 E A a) (F7 c d a)) (a21 E A c d e) false=true:=h;rw[j2]at h;split at h
  ·rename_i f;rcases List.mem_cons.1 b with rfl|b
   ·exact lZ _ _ f
   ·exact Hu h t b
  ·cases h
theorem Ti{o o':HO}(h:a24 o o'=true):o=o':=by
 cases o with
 |c s n=>exact mA _ _ h
 |m a b c d=>exact mA _ _ h
 |f a b c d=>exact mA _ _ h
 |i m s q a=>
  cases o' with
  |i g j k p=>
   have h:iB (Nat.beq m g) (iB (Nat.beq s j) (iB (Nat.beq a p) (QP Nat.beq q k) false) false) false=true:=h;simp only[j2]at h;split at h
   ·split at h
    ·split at h
     ·rename_i r t u;rw[Nat.eq_of_beq_eq_true r,Nat.eq_of_beq_eq_true t,Nat.eq_of_beq_eq_true u,iN (fun a b e=>Nat.eq_of_beq_eq_true e) h]
     ·cases h
    ·cases h
   ·cases h
  |c _ _=>exact Bool.noConfusion (show false=true from h)
  |m _ _ _ _=>exact Bool.noConfusion (show false=true from h)
  |f _ _ _ _=>exact Bool.noConfusion (show false=true from h)
  |z=>exact Bool.noConfusion (show false=true from h)
 |z=>
  cases o' with
  |z=>rfl
  |c _ _=>exact Bool.noConfusion (show false=true from h)
  |m _ _ _ _=>exact Bool.noConfusion (show false=true from h)
  |f _ _ _ _=>exact Bool.noConfusion (show false=true from h)
  |i _ _ _ _=>exact Bool.noConfusion (show false=true from h)
theorem Hv{a:Nat}{b:w7}{nx:Nat}{D:w7}{c:Nat}:∀ {m:Nat},a27 a b nx D c m=true->∀r,r<m->r≠c->s6 a b r=s6 nx D r
 |0,_,r,d,_=>absurd d (by omega)
 |m+1,h,r,d,f=>by
  have h:iB (iB (Nat.beq m c) true (a24 (s6 a b m) (s6 nx D m))) (a27 a b nx D c m) false=true:=h;rw[j2]at h;split at h
  ·rename_i g;by_cases e:r=m
   ·subst e;rw[j2,if_neg (fun e=>f (Nat.eq_of_beq_eq_true e))]at g
    exact Ti g
   ·exact Hv h r (by omega) f
  ·cases h
theorem Hw{c:List Nat}{d:Nat}{e:J1}{nx:Nat}{D:w7}{p f:Nat}{a:Rn}{E:Nat}{A:J1}{b:Nat}{g:w7}{i:Nat}(h:yN c d e nx D p f a E A b g i=.ok z l):i=p/\(∀t∈c,F7 E A t=F7 d e t)/\(∀r,r<nx->r≠f->s6 b g r=s6 nx D r)/\a=.ok z l:=by
 unfold yN at h;simp only[j2]at h;split at h
 ·split at h
  ·split at h
   ·rename_i j k m;exact⟨Nat.eq_of_beq_eq_true j,Hu k,Hv m,h⟩
   ·cases h
  ·cases h
 ·cases h
theorem MT{E:Nat}{A:J1}:∀ {g:List Nat} {b:Nat} {c:J1} {k:Nat->J1->Rn},Xs E A g b c k=.ok z l->∃d f,k d f=.ok z l/\∀t,F7 d f t=if t∈g then F7 E A t else F7 b c t
 |[],b,c,k,h=>⟨b,c,h,fun t=>by simp⟩
 |a::g,b,c,k,h=>by
  obtain⟨o,p,j,m⟩:=fU (show bM a (F7 E A a) b c (fun d f=>Xs E A g d f k)=_ from h)
  obtain⟨d,f,n,g2⟩:=MT j;refine⟨d,f,n,fun t=>?_⟩
  rw[g2,m];by_cases e:t∈g
  ·rw[if_pos e,if_pos (List.mem_cons_of_mem _ e)]
  ·rw[if_neg e];by_cases i:t=a
   ·subst i;rw[if_pos rfl,if_pos (List.mem_cons_self ..)]
   ·rw[if_neg i,if_neg (by simp[e,i])]
theorem Tj{s:Nat}(h:s<cB)(t:Nat):F7 s [] t=.u:=by
 rw[cT,if_pos]
 ·rfl
 ·rw[Cm];have a:cB^1<=cB^ (t+1):=Nat.pow_le_pow_right (by decide) (by omega)
  rw[Nat.pow_one]at a;rw[Nat.div_eq_of_lt (Nat.lt_of_lt_of_le h a),Nat.zero_mod]
theorem Fy{f:Nat×Nat×Nat->Rn}:∀ {L:ME} {d:List (Nat×Nat)} {k:List (Nat×Nat)->Rn},MO f L d k=.ok z l->
  ∃b,k b=.ok z l/\(∀p∈d,p∈b)/\(∀q∈L,∃o y i,f q=.ok (.a o y) i/\(o,y)∈b)/\∀p∈b,p∈d\/∃q∈L,∃i,f q=.ok (.a p.1 p.2) i
 |[],d,k,h=>⟨d,h,fun p e=>e,fun q s=>absurd s (by simp),fun p e=>.inl e⟩
 |q::L,d,k,h=>by
  have h: @Rn.rec (fun _=>Rn) (fun c x=>.er c x) (fun v _=>@BV.rec (fun _=>Rn) (fun _=>.er 581 0) (fun o y=>fN o fun o=>fN y fun y=>MO f L ((o,y)::d) k) (fun _=>.er 582 0) (.er 583 0) v) (f q)=.ok z l:=h
  cases m:f q with
  |er c x=>rw[m]at h;cases h
  |ok v i=>
   rw[m]at h;cases v with
   |c n=>cases h
   |t q=>cases h
   |u=>cases h
   |a o y=>
    simp only[J8]at h;obtain⟨b,w,g2,A,B⟩:=Fy h;refine⟨b,w,fun p e=>g2 p (List.mem_cons_of_mem _ e),fun r g=>?_,fun p e=>?_⟩
    ·rcases List.mem_cons.1 g with rfl|g
     ·exact⟨o,y,i,m,g2 _ (List.mem_cons_self ..)⟩
     ·exact A r g
    ·rcases B p e with j|⟨r,j,C⟩
     ·rcases List.mem_cons.1 j with rfl|j
      ·exact .inr ⟨q,List.mem_cons_self ..,i,m⟩
      ·exact .inl j
     ·exact .inr ⟨r,List.mem_cons_of_mem _ j,C⟩
theorem Hx{s N:Nat}:∀ {a:List (Nat×Nat)},ZZ s N a=true->∀p∈a,R6 (N/cB) p.1=p.2/\p.1+1<=s
 |[],_,p,b=>by cases b
 |q::a,h,p,b=>by
  have h:iB (Nat.beq (R6 (N/cB) q.1) q.2) (iB (Nat.ble (q.1+1) s) (ZZ s N a) false) false=true:=h;simp only[j2]at h;split at h
  ·split at h
   ·rename_i c d;rcases List.mem_cons.1 b with rfl|b
    ·exact⟨Nat.eq_of_beq_eq_true c,Nat.le_of_ble_eq_true d⟩
    ·exact Hx h p b
   ·cases h
  ·cases h
theorem Fz{N o y i:Nat}(a:y<cB):R6 (U9 N o 1 y/cB) i=if i=o then y else R6 (N/cB) i:=by
 rw[EG (by rw[Nat.pow_one];exact a),IW (by rw[Nat.pow_one];exact a)]
 by_cases h:i=o
 ·subst h;rw[if_pos (by omega),if_pos rfl,Nat.sub_self,Y8 a]
 ·rw[if_neg (by omega),if_neg h]
theorem Hy{i:Nat}:∀ {a:List (Nat×Nat)} {N:Nat},(∀p∈a,p.2<cB)->(∀p∈a,p.1≠i)->R6 (Bt a N/cB) i=R6 (N/cB) i
 |[],N,_,_=>rfl
 |p::a,N,c,d=>by
  show R6 (Bt a (U9 N p.1 1 p.2) /cB) i=_;rw[Hy (fun q b=>c q (List.mem_cons_of_mem _ b)) (fun q b=>d q (List.mem_cons_of_mem _ b)),Fz (c p (List.mem_cons_self ..)),if_neg (fun e=>d p (List.mem_cons_self ..) e.symm)]
end
theorem mem_left{seen:List Nat}:∀ {L:ME} {q:Nat×Nat×Nat},q∈E7 seen L↔q∈L/\q.1 ∉ seen
 |[],q=>by simp[E7]
 |p::L,q=>by
  have e:E7 seen (p::L)=iB (fQ p.1 seen) (E7 seen L) (p::E7 seen L):=rfl;rw[e,j2];split
  ·rename_i h;have h:=iM.1 h;rw[mem_left,List.mem_cons];constructor
   ·exact fun hh=>⟨.inr hh.1,hh.2⟩
   ·rintro⟨rfl|hh,a⟩
    ·exact absurd h a
    ·exact⟨hh,a⟩
  ·rename_i h;have h:p.1 ∉ seen:=fun e=>h (iM.2 e)
   rw[List.mem_cons,List.mem_cons,mem_left];constructor
   ·rintro(rfl|hh)
    ·exact⟨.inl rfl,h⟩
    ·exact⟨.inr hh.1,hh.2⟩
   ·rintro⟨rfl|hh,a⟩
    ·exact .inl rfl
    ·exact .inr ⟨hh,a⟩
theorem Tk{seen:List Nat}{s:Nat}:∀ {L:ME},(∃q∈E7 seen L,q.1=s)->(E7 (s::seen) L).length<(E7 seen L).length:=by
 have g:∀ {L:ME},(E7 (s::seen) L).length<=(E7 seen L).length:=by
  intro L
  induction L with
  |nil=>exact Nat.le_refl _
  |cons p L c=>
   have d:E7 seen (p::L)=iB (fQ p.1 seen) (E7 seen L) (p::E7 seen L):=rfl;have e:E7 (s::seen) (p::L)=iB (fQ p.1 (s::seen)) (E7 (s::seen) L) (p::E7 (s::seen) L):=rfl;rw[d,e,j2,j2,mC,mC];by_cases h:p.1∈seen
   ·simp[h,c]
   ·by_cases b:p.1=s
    ·subst b;simp[h];omega
    ·simp[h,b];exact c
 intro L
 induction L with
 |nil=>rintro⟨q,a,_⟩;cases a
 |cons p L c=>
  rintro⟨q,a,f⟩;have d:E7 seen (p::L)=iB (fQ p.1 seen) (E7 seen L) (p::E7 seen L):=rfl;have e:E7 (s::seen) (p::L)=iB (fQ p.1 (s::seen)) (E7 (s::seen) L) (p::E7 (s::seen) L):=rfl;rw[d,j2,mC]at a ⊢;rw[e,j2,mC];by_cases h:p.1∈seen
  ·simp[h]at a ⊢;exact c ⟨q,a,f⟩
  ·by_cases b:p.1=s
   ·have:=g (L:=L);have i:s ∉ seen:=b▸h;simp[b,i];omega
   ·simp[h]at a;simp[h,b];rcases a with rfl|a
    ·exact absurd f b
    ·exact c ⟨q,a,f⟩
theorem u'{L:ME}(h:IQ L 0=true){p q:Nat×Nat×Nat}(d:p∈L)(f:q∈L)(e:p.1=q.1):p=q:=by
 have:=(rX h).2;obtain⟨i,hi⟩:=List.mem_iff_getElem?.1 d;obtain⟨j,a⟩:=List.mem_iff_getElem?.1 f;have b:=Q9 hi;have c:=Q9 a;have:i=j:=by
  refine(List.getElem_inj (h₀:=by simpa using b) (h₁:=by simpa using c) this).1 ?_
  simp only[List.getElem_map];rw[List.getElem?_eq_getElem b]at hi;rw[List.getElem?_eq_getElem c]at a;cases hi;cases a;exact e
 subst this;rw[hi]at a;cases a;rfl
end Go.Abs
end
section
namespace Go.Abs
section
variable {X:iW} {B:Option Nat} {F F1:Nat->Prop} {n:Nat} {K K':j0} {H0 H1:Nat->Option Hd} {T0 T1 T2:Nat->a7} {m0 m1 m2:Mm} {a a':Act} {w w' w0:World}
theorem St.back{E:iW}{G:Nat->Prop}{J K0:j0}(L:X.Ok)(M:X F K H0 w)(s:∀t,c8 K0 H0 (T0 t) (a.tmps.getD t undef))(u:j8 G J H0 w0 m0)(d:St E B F1 n K' H1 T1 m1 a' w')(N:∀b,F b->F1 b)(O:K.le K')(i:bY H0 H1)(S:Kept F w w')
  (T:∀t,T2 t=.R3\/∃v,T2 t=Q2 v/\T1 t=Q2 v/\T0 t=Q2 v)
  (j:∀r x,m2 r=some x->m1 r=some x/\∃o,x=(.F8 o,.own)/\(m0 r=some x\/∀hd,H0 r=some hd->o8 K' H1 w' hd (.F8 o)->o8 K' H0 w' hd (.F8 o))):St X B F1 n K' H0 T2 m2 a' w':=by
 refine⟨d.ok,⟨?_,?_,?_,?_⟩,d.size,d.defers,fun t=>?_,L.grow F F1 K K' H0 H0 w w' M N O (fun _ _ e=>e) S⟩
 ·intro r c f hd h k q3;obtain⟨q,o,e,g2⟩:=j r _ h;cases e;have C:=d.mem.cont r _ .own hd q (by simp) (i r hd q3)
  rcases g2 with g2|g2
  ·exact Xp i C (u.cont r _ .own hd g2 (by simp) q3)
  ·exact g2 hd q3 C
 ·intro r c hd b h k q3;exact d.mem.own r c hd b (j r _ h).1 (i r hd k) q3
 ·intro r c hd b h k q3;obtain⟨_,o,e,_⟩:=j r _ h;cases e
 ·intro y A U V l p b h k q3 q4 q5 q6;exact d.mem.inj y A U V l p b (j y _ h).1 (j A _ k).1 (i y l q3) (i A p q4) q5 q6
 ·rcases T t with e|⟨v,Y,Z,e3⟩
  ·rw[e];simp[c8]
  ·rw[Y];have q:=d.tmp t;have D:=s t;rw[Z]at q;rw[e3]at D;exact((fT q).back i (fT D)).Q2
end
section
variable {P:Program} {F:Nat->Prop} {K:j0} {H:Nat->Option Hd} {w:World} {m:Mm}
theorem Xy{ρ:Operand->Value}{o:Oper}{i:Operand}(C:o.op=.entry i){f h u ks vs clk b:Nat}{seen:List Nat}{l:ME}{q:Nat×Nat×Nat}{c:Hd}(D:j8 F K H w m)(k:m u=some (.F8 (.m ks vs l clk),.own))(E:ρ i=.pointer (some ⟨f,0,none⟩))
  (G:w.heap[f]? =some (.mapIter (some h) b (q.1::seen).reverse.toArray clk))(J:H u=some c)(L:c.base=some h)(M:q∈l)(N:IQ l 0=true):
  ∃y,(execOp ρ o).run P w=.ok (.value y) w/\c8 K H (Q2 (.t [(ks,q.2.1),(vs,q.2.2)])) y:=by
 obtain⟨U,d,v,O,x⟩:=D.cont _ _ .own c k (by simp) J
 rw[L]at v;cases v;obtain⟨S,T⟩:=(M5 _ _).1 x;obtain⟨j,A⟩:=List.mem_iff_getElem?.1 M;have p:j<d.toList.length:=by rw[S];exact Q9 A
 have r:=T j q d.toList[j] A (List.getElem?_eq_getElem p);have s:w.heap[f]? =some (.mapIter (some h) b (seen.reverse.toArray.push d.toList[j].born) clk):=by rw[G,r.1];simp
 have e:=run_entry_at (P:=P) w f h b seen.reverse.toArray d clk d.toList[j] s O (List.getElem_mem _) (by rw[Hf x];exact(rX N).2)
 refine⟨.tuple #[d.toList[j].key,d.toList[j].val],?_,?_⟩
 ·simp only[execOp,C,E];exact j1 e
 ·simp only[Q2,List.map_cons,List.map_nil,c8];exact⟨_,rfl,.cons (by simp only[c8];exact r.2.1) (.cons (by simp only[c8];exact r.2.2.1) .nil)⟩
end
section
variable {P:Program} {R:J6} {z:BV} {lo:List HO} {X:Ctx} {B:Option Nat} {ro:Option Nat} {n:Nat} {g:List a7} {Fu:Nat} {I:GY}
theorem O1.st{E:Nat}{A:J1}{nx:Nat}{D:w7}{p:Nat}{st:j9}(b:O1 n g E A nx D p st){F:Nat->Prop}{K:j0}{H:Nat->Option Hd}{a:Act}{w:World}:St (X.bA st.gh st.s7) B F n K H st.z6.T st.z6.m a w↔St (X.bA g (Hk p)) B F n K H (TE E A) (n9 (G3 nx D)) a w:=by
 have c:st.z6.T=TE E A:=b.tmps;rw[c,b.tW,b.gh,b.s7]
theorem Hz(o7:P.follows .mixedOrders=true)(hR:P2 P R)(Iw:bK P (Gk I z lo))(hB:(B=none->ro≠none)\/∀y f args nx D k,I y f args nx D k≠ .ok z lo){s:WK}{XV:Nat}{V:Oper}(z':s.a2.toList=V::s.r2)(BK:V.op=.entry s.i2)(he3:V.dst=some s.t2)(Rw:V.guard=none)
  (FD:Code.j3 s.c1=true)(oM:G6 n s.a1.toList=true)(Xz:G6 n s.r1=true)(hdc:G0 n s.c1=true)(M:G6 n s.a2.toList=true)
  {c mi ks vs clk N mb bi:Nat}{l:ME}{seen:List Nat}{q:Nat×Nat×Nat}{C:KS}{E1:Nat}{A1:J1}{nx:Nat}{D:w7}{p:Nat}{H0:Nat->Option Hd}{hdi hmi:Hd}
  (h:V3 s.r1 P R none s.a1 (fun E A nx D p=>BJ s.c1 P Fu R I none E A nx D p fun e E A nx D p=>BI e
   (iB (Gg (eF E A s.i2) (.c c)) (iB (XT (s6 nx D mi) (.m ks vs l clk)) (bM s.t2 (.t [(ks,q.2.1),(vs,q.2.2)]) E A fun E A=>V3 s.r2 P R none s.a2 C E A nx D p) (.er 564 0)) (.er 565 0)) (fun _=>.er 566 0) (.er 567 0)) E1 A1 nx D p=.ok z lo)
  (hX:X.Ok)(DC:oK X ro)(hXH:∀F K H p w,X F K H g p w->bY H0 H)(PD:zU c=true)(Tu:pO c=0)(hi1:H0 (pR c)=some hdi)(B':hdi.base=some bi)(hm1:H0 mi=some hmi)(hm2:hmi.base=some mb)(hq:q∈l)(ha:IQ l 0=true)
  {F:Nat->Prop}(hFb:F bi){st:j9}{K:j0}{H:Nat->Option Hd}{a:Act}{w:World}(hb:w.heap[bi]? =some (.mapIter (some mb) N (q.1::seen).reverse.toArray clk))(he:O1 n g E1 A1 nx D p st)(BS:St (X.bA st.gh st.s7) B F n K H st.z6.T st.z6.m a w)(H7:∀r,st.nx<=r->H r=none){Q:Exit->Act->World->Prop}
  (hQ:∀E' A' Tv D' p' C' a' w',C E' A' Tv D' p'=.ok z lo->O1 n g E' A' Tv D' p' C'->sN X B F F n K w C' a' w'->s.c2.wpIn (Wd ro) 0 P (Exit.inBlock s.b Q) a' w'):
  wpListIn (Wd ro) 0 P s.a1 (Exit.then ((Code.seq s.c1 (.block s.b (.seq (.region XV s.a2 false) s.c2))).wpIn (Wd ro) 0 P Q) Q) s.r1 a w:=by
 have a6X:∀ (j:Nat) (d:Tmp),(s.a1[j]?).bind (·.dst)=some d->d<n:=fun j d hj=>bS oM j d (by simpa using hj)
 have O:∀ (j:Nat) (d:Tmp),(s.a2[j]?).bind (·.dst)=some d->d<n:=fun j d hj=>bS M j d (by simpa using hj)
 refine R2 (yl:=none) (Y:=none) (hh:=none) (F0:=F) hX hR trivial trivial a6X s.r1 E1 A1 nx D p _ st F K H a w h Xz he (fun _ h=>h) (fun _ e=>by cases e) BS H7 (fun E2 A2 Fs D2 p2 sP a2 w2 sQ a3b pV=>?_)
 show(Code.seq s.c1 _).wpIn (Wd ro) 0 P Q a2 w2;obtain⟨⟨F2,K2,H2,On,iX,FV,Iv,Vi⟩,Z⟩:=pV;refine wpIn_seq (mD o7 hR Iw s.c1 FD hdc X B F ro none g none none hX DC trivial trivial hB E2 A2 Fs D2 p2 _ sP F2 K2 H2 a2 w2 _ sQ a3b On (fun _ e=>by cases e) iX Iv ?_)
 intro e E3 A3 nx3 D3 p3 st3 a3 w3 u G XO;rcases dN u with⟨rfl,u⟩|⟨i,rfl,u⟩|⟨rfl,u⟩
 rotate_left
 ·cases u
 ·cases u
 show(Code.block s.b _).wpIn (Wd ro) 0 P Q a3 w3;have XO:=XO.trans On FV Vi Z;obtain⟨⟨F3,K3,H3,a60,J,hK3,b0D,Vj⟩,L⟩:=XO;simp only[j2]at u;split at u
 rotate_left
 ·cases u
 rename_i XU;split at u
 rotate_left
 ·cases u
 rename_i S;have XU:=lZ _ _ XU;have S:=mA _ _ S;refine wpIn_block (wpIn_seq (wpIn_region_list ?_));rw[z'];obtain⟨E4,A4,hk4,hT4⟩:=fU (show bM s.t2 (.t [(ks,q.2.1),(vs,q.2.2)]) E3 A3 (fun E A=>V3 s.r2 P R none s.a2 C E A nx3 D3 p3)=.ok z lo from u)
 have hHL:bY H0 H3:=hXH F3 K3 H3 st3.s7 w3 (by have:=J.x;rw[G.gh]at this;exact this)
 have v:=G.st.1 J;have a08:u7 K3 H3 (.c c) (a3.eval s.i2):=by
  rw[<-XU];exact nX v.tmp s.i2
 have Xc:a3.eval s.i2=.pointer (some ⟨bi,0,none⟩):=by
  have h4:c % 8=4:=X0.1 PD;rcases a08 with⟨e,_⟩|⟨e,_⟩|hc
  ·omega
  ·omega
  ·obtain⟨hd,b,g1,g2,g3,_⟩:=hc.oG PD;rw[hHL _ _ hi1]at g1;cases g1;rw[B']at g2;cases g2;rw[g3,Tu]
 have a62:w3.heap[bi]? =some (.mapIter (some mb) N (q.1::seen).reverse.toArray clk):=by rw[L.block bi hFb];exact hb
 have hmm:n9 (G3 nx3 D3) mi=some (.F8 (.m ks vs l clk),.own):=by rw[Z1,S]
 obtain⟨y,pD,xA⟩:=Xy (P:=P) (ρ:=a3.eval) BK v.mem hmm Xc a62 (hHL _ _ hm1) hm2 hq ha;simp only[wpListIn];have My:∀ (j:Nat) (d:Tmp),(s.a2[j]?).bind (·.dst)=some d->d<a3.tmps.size:=fun j d h=>Nat.lt_of_lt_of_le (O j d h) J.size
 have hgg:B7 s.a2 V st3.z6.T true:=by unfold B7;rw[Rw]
 rw[N8 J My hgg,if_pos rfl];refine⟨fun f _=>eU ro f,?_⟩
 have Xb:∀c,V.op≠ .defer c:=fun c e=>by rw[BK]at e;cases e
 rw[Oper.semAt_eq _ _ _ Xb,pD];show wpListIn (Wd ro) 0 P s.a2 _ s.r2 (a3.put V.dst y) w3;rw[z']at M;simp only[G6,Bool.and_eq_true]at M;have G':=v.put (o:=V) M.1 (hX.grow _ _) (.refl K3) (fun _ _ e=>e) (.refl F3 w3) v.ok v.mem xA
 obtain⟨st4,U⟩:=O1.ex n g E4 A4 nx3 D3 p3 G.lt;have hT:cV (TE E3 A3) V.dst (Q2 (.t [(ks,q.2.1),(vs,q.2.2)]))=TE E4 A4:=by
  rw[he3];funext t';unfold TE;rw[hT4];simp only[cV];split<;>rfl
 rw[hT]at G';refine R2 (yl:=none) (Y:=none) (hh:=none) (F0:=F) hX hR trivial trivial O s.r2 E4 A4 nx3 D3 p3 C st4 F3 K3 H3 _ w3 hk4 M.2 U a60 (fun _ e=>by cases e) (U.st.2 G') (fun r hr=>b0D r (by rw[G.nx];rw[U.nx]at hr;exact hr)) (fun E5 A5 nx5 D5 p5 st5 a5 w5 hk5 b0H ht5=>?_)
 show s.c2.wpIn (Wd ro) 0 P (Exit.inBlock s.b Q) a5 w5;exact hQ E5 A5 nx5 D5 p5 st5 a5 w5 hk5 b0H (ht5.trans a60 hK3 Vj L)
end
end Go.Abs
end
section
namespace Go.Abs
section
variable {P:Program} {R:J6} {z:BV} {lo:List HO} {X:Ctx} {B:Option Nat} {ro:Option Nat} {n:Nat} {g:List a7} {Fu:Nat} {I:GY}
theorem MU(o7:P.follows .mixedOrders=true)(hR:P2 P R)(Iw:bK P (Gk I z lo))(hB:(B=none->ro≠none)\/∀y f args nx D k,I y f args nx D k≠ .ok z lo){o:WK}{id1 XV:Nat}{oN:Oper}(XA:o.a1.toList=oN::o.r1)(hN2:oN.op=.next o.i false)(hN3:oN.dst=some o.t)(hN4:oN.guard=none)
  (FD:Code.j3 o.c1=true)(oM:G6 n o.a1.toList=true)(hdc:G0 n o.c1=true)
  {c mi ks vs clk u nx p:Nat}{l:ME}{O:Nat}{S:J1}{H0:Nat->Option Hd}{D3:w7}{kc:KC}{J:List Nat->Hp->Prop}{F0:Nat->Prop}
  (hX:X.Ok)(DC:oK X ro)(PD:zU c=true)(Tu:Nat.beq (pO c) 0=true)(hi:eF O S o.i=.c c)(hold:Sx u l=true)(hsl:Nat.ble u clk=true)(Ik:nx<1048575)(KJ:mi≠pR c)
  (H7:∀r,nx<=r->H0 r=none)(hJm:∀seen G,J seen G->G mi=.m ks vs l clk)
  (hJe:∀seen G,J seen G->E7 seen l=[]->∀ (F:Nat->Prop) (K:j0) (T:Nat->a7) (a:Act) (w:World) (H:w7),(∀r,s6 nx H r=if r=pR c then .i mi u seen clk else G r)->St (X.bA g (Hk p)) B F n K H0 T (n9 (G3 nx H)) a w->St (X.bA g (Hk p)) B F n K H0 T (n9 (G3 nx D3)) a w)
  (DD:∀seen G,J seen G->∀q∈E7 seen l,∀ (F:Nat->Prop) (K:j0) (a aN:Act) (w wN:World) (H DN:w7) (EN:Nat) (AN:J1) (Q:Exit->Act->World->Prop),(∀b,F0 b->F b)->(∀r,s6 nx H r=if r=pR c then .i mi u seen clk else G r)->(∀r,s6 nx DN r=if r=pR c then .i mi u (q.1::seen) clk else G r)->
   St (X.bA g (Hk p)) B F n K H0 (TE O S) (n9 (G3 nx H)) a w->(∀t',F7 EN AN t'=if t'=o.t then .t [(0,17),(ks,q.2.1),(vs,q.2.2)]else F7 O S t')->St (X.bA g (Hk p)) B F n K H0 (TE EN AN) (n9 (G3 nx DN)) aN wN->Kept F w wN->
   (∀ (I':Hp) (F':Nat->Prop) (K':j0) (a':Act) (w':World) (Rx:w7),J (q.1::seen) I'->(∀r,s6 nx Rx r=if r=pR c then .i mi u (q.1::seen) clk else I' r)->St (X.bA g (Hk p)) B F' n K' H0 (TE O S) (n9 (G3 nx Rx)) a' w'->(∀b,F b->F' b)->K.le K'->Fix F K K'->Kept F w w'->Q .normal a' w')->
   wpListIn (Wd ro) 0 P o.a1 (Exit.then ((Code.seq o.c1 (.block o.b (.seq (.region XV o.a2 false) o.c2))).wpIn (Wd ro) 0 P Q) Q) o.r1 aN wN)
  (h:Xt o P Fu R I kc O S nx D3 p=.ok z lo){Fe:Nat->Prop}{Ke:j0}{we:World}{Q:Exit->Act->World->Prop}
  (hQ:∀e v x Tv D' p' C' a' w',kc e v x Tv D' p'=.ok z lo->O1 n g v x Tv D' p' C'->sN X B F0 Fe n Ke we C' a' w'->Q e.out a' w'):
  ∀ (k:Nat) (seen:List Nat) (G:Hp) (F:Nat->Prop) (K:j0) (a:Act) (w:World) (H:w7),(E7 seen l).length<=k->J seen G->(∀r,s6 nx H r=if r=pR c then .i mi u seen clk else G r)->St (X.bA g (Hk p)) B F n K H0 (TE O S) (n9 (G3 nx H)) a w->
   (∀b,F0 b->F b)->(∀b,Fe b->F b)->Ke.le K->Fix F0 Ke K->Kept F0 we w->Code.roundsIn (Wd ro) 0 P (.seq (.region id1 o.a1 false) (.seq o.c1 (.block o.b (.seq (.region XV o.a2 false) o.c2)))) Q (k+1) a w:=by
 have Lm:∀ (j:Nat) (d:Tmp),(o.a1[j]?).bind (·.dst)=some d->d<n:=fun j d hj=>bS oM j d (by simpa using hj)
 have U:=oM;rw[XA]at U;simp only[G6,Bool.and_eq_true]at U;obtain⟨EE,AE,hk0,hTE⟩:=fU (show bM o.t (.t [(0,9)]) O S (fun E A=>V3 o.r1 P R none o.a1 (fun E A nx D p=>BJ o.c1 P Fu R I none E A nx D p fun e E A nx D p=>BI e (.er 584 0) (fun i=>kc (.exit i) E A nx D p) (kc .ret E A nx D p)) E A nx D3 p)=.ok z lo from h)
 have a2T:∀q (k:Nat->J1->Rn),∃v x,bM o.t (.t q) O S k=k v x/\∀t',F7 v x t'=if t'=o.t then .t q else F7 O S t':=by
  exact fun q k=>Xw (show bM o.t (.t [(0,9)]) O S (fun E A=>V3 o.r1 P R none o.a1 (fun E A nx D p=>BJ o.c1 P Fu R I none E A nx D p fun e E A nx D p=>BI e (.er 584 0) (fun i=>kc (.exit i) E A nx D p) (kc .ret E A nx D p)) E A nx D3 p)=.ok z lo from h) q k
 intro k
 induction k using Nat.strongRecOn with
 |_ k ih=>
 intro seen G F K a w H hk hJ Z BS L hFe hKe lE nY;rw[roundsIn_succ];refine wpIn_seq (wpIn_region_list ?_);rw[XA];obtain⟨st0,he0⟩:=O1.ex n g O S nx H p Ik;have DG:=he0.st.2 BS;have b0K:s6 nx H (pR c)=.i mi u seen clk:=by rw[Z,if_pos rfl]
 have b0L:s6 nx H mi=.m ks vs l clk:=by rw[Z,if_neg KJ];exact hJm seen G hJ
 let PR:Nat->J1->w7->Nat->Prop:=fun v x D' p'=>p'=p/\((E7 seen l=[]/\(∀t',F7 v x t'=if t'=o.t then .t [(0,9)]else F7 O S t')/\D'=H)\/
  ∃q∈E7 seen l,(∀t',F7 v x t'=if t'=o.t then .t [(0,17),(ks,q.2.1),(vs,q.2.2)]else F7 O S t')/\∀r,s6 nx D' r=if r=pR c then .i mi u (q.1::seen) clk else G r)
 have b0M:∀v x D' p',Decidable (PR v x D' p'):=fun v x D' p'=>Classical.propDecidable _
 let kp:KS:=fun v x _ D' p'=>@ite _ (PR v x D' p') (b0M v x D' p') (.ok (.c 0) []) (.er 0 0)
 have a63:Eu o.i o.t kp O S nx H p=.ok (.c 0) []:=by
  refine Xx hi PD Tu b0K b0L hold hsl a2T (fun hl v x hs=>?_) (fun q hq v x D' hs hd=>?_)
  ·exact if_pos ⟨rfl,.inl ⟨hl,hs,rfl⟩⟩
  ·refine if_pos ⟨rfl,.inr ⟨q,hq,hs,fun r=>?_⟩⟩
   rw[hd r,Z r];split<;>rfl
 refine Fq (F0:=F) (g:=g) (all:=o.a1) hX Lm hN2 hN3 hN4 U.1 a63 he0 (fun _ h=>h) DG (fun r hr=>H7 r (by rw[he0.nx]at hr;exact hr)) (fun v x D' C' a' w' Wp he' ht Gj=>?_)
 have hPR:PR v x D' p:=by
  rcases Classical.em (PR v x D' p)with h'|h'
  ·exact h'
  ·have:kp v x nx D' p=.er 0 0:=if_neg h';rw[this]at Wp;cases Wp
 obtain⟨_,⟨hl,hs,rfl⟩|⟨q,hq,hs,hd⟩⟩:=hPR
 ·
   have hTT:TE v x=TE EE AE:=by
    funext t';unfold TE;rw[hs,hTE]
   have V:=he'.st.1 Gj;rw[hTT]at V;have V:=hJe seen G hJ hl F K _ a' w' D' Z V;obtain⟨stE,heE⟩:=O1.ex n g EE AE nx D3 p Ik;have a3c:Kept F w w':=ht.kept;refine R2 (yl:=none) (Y:=none) (hh:=none) (F0:=F0) hX hR trivial trivial Lm o.r1 EE AE nx D3 p _ stE F K H0 a' w' hk0 U.2 heE L (fun _ e=>by cases e) (heE.st.2 V) (fun r hr=>H7 r (by rw[heE.nx]at hr;exact hr)) (fun E2 A2 Fs D2 p2 sP a2 w2 sQ a3b pV=>?_)
   refine wpIn_seq ?_;obtain⟨⟨F2,K2,H2,On,iX,FV,Iv,M⟩,C⟩:=pV;refine mD o7 hR Iw o.c1 FD hdc X B F0 ro none g none none hX DC trivial trivial hB E2 A2 Fs D2 p2 _ sP F2 K2 H2 a2 w2 _ sQ a3b (fun b hb=>On b (L b hb)) (fun _ e=>by cases e) iX Iv ?_
   intro e E3 A3 nx3 D3 p3 st3 a3 w3 N a65 XO;have XO:=(XO.trans On FV M C).trans hFe hKe lE (nY.trans (a3c.mono L));rcases dN N with⟨rfl,N⟩|⟨i,rfl,N⟩|⟨rfl,N⟩
   ·cases N
   ·exact hQ (.exit i) _ _ _ _ _ st3 a3 w3 N a65 XO
   ·exact hQ .ret _ _ _ _ _ st3 a3 w3 N a65 XO
 ·refine DD seen G hJ q hq F K a a' w w' H D' v x _ L Z hd BS hs (he'.st.1 Gj) ht.kept (fun I' F' K' a2 w2 Rx hJ' a3d iX uN hKK M C=>?_)
  have AD:=Tk (s:=q.1) ⟨q,hq,rfl⟩;obtain⟨k',rfl⟩:∃k',k=k'+1:=⟨k- 1,by omega⟩
  exact ih k' (by omega) (q.1::seen) I' F' K' a2 w2 Rx (by omega) hJ' a3d iX (fun b hb=>uN b (L b hb)) (fun b hb=>uN b (hFe b hb)) (hKe.trans hKK) (lE.trans (M.less L)) (nY.trans (C.mono L))
end
end Go.Abs
end
section
namespace Go.Abs
theorem St.a1l{X b:iW}{B:Option Nat}{F:Nat->Prop}{n:Nat}{K:j0}{H:Nat->Option Hd}{T:Nat->a7}{m:Mm}{a:Act}{w:World}(h:St X B F n K H T m a w)(c:b F K H w):St b B F n K H T m a w:=⟨h.ok,h.mem,h.size,h.defers,h.tmp,c⟩
theorem gF{nx:Nat}{D:w7}{r:Nat}{x:c7×p8}(h:n9 (G3 nx D) r=some x):∃o,s6 nx D r=o/\o≠ .z/\x=(.F8 o,.own):=by
 rw[Z1]at h;cases a:s6 nx D r<;>rw[a]at h<;>first|(cases h;exact⟨_,rfl,by simp,rfl⟩)|cases h
theorem dV{nx:Nat}{D:w7}{r:Nat}{o:HO}(h:s6 nx D r=o)(a:o≠ .z):n9 (G3 nx D) r=some (.F8 o,.own):=by
 rw[Z1,h];cases o<;>first|rfl|exact absurd rfl a
theorem oK.pair{X:Ctx}{ro:Option Nat}{a:List Hd}(h:oK X ro):oK (oH a X) ro:=fun l e F K H _ p w b=>h l e F K H _ p w b.2
theorem FA{X:iW}{B:Option Nat}{F:Nat->Prop}{n:Nat}{K:j0}{H0:Nat->Option Hd}{f:Nat}{j:J1}{m:Mm}{a:Act}{w:World}{i:Operand}{c:Nat}(h:St X B F n K H0 (TE f j) m a w)(hi:eF f j i=.c c)(d:zU c=true):∃hd b,H0 (pR c)=some hd/\hd.base=some b:=by
 have k:u7 K H0 (.c c) (a.eval i):=by
  rw[<-hi];exact nX h.tmp i
 have p:c % 8=4:=X0.1 d;rcases k with⟨e,_⟩|⟨e,_⟩|l
 ·omega
 ·omega
 ·obtain⟨hd,b,o,g2,q,_⟩:=l.oG d;exact⟨hd,b,o,g2⟩
section
variable {P:Program} {R:J6} {X:Ctx} {B:Option Nat} {ro:Option Nat} {n:Nat} {g:List a7} {Fu:Nat} {I:GY}
theorem a3e(o7:P.follows .mixedOrders=true)(hR:P2 P R)(Iw:∀z lo,bK P (Gk I z lo))(hB:(B=none->ro≠none)\/∀z lo y f args nx D k,I y f args nx D k≠ .ok z lo){j:WK}{XV:Nat}{oN oE:Oper}(XA:j.a1.toList=oN::j.r1)(z':j.a2.toList=oE::j.r2)(BK:oE.op=.entry j.i2)(he3:oE.dst=some j.t2)(Rw:oE.guard=none)
  (FD:Code.j3 j.c1=true)(Pv:Code.j3 j.c2=true)(oM:G6 n j.a1.toList=true)(hdc:G0 n j.c1=true)(Ax:G6 n j.a2.toList=true)(PE:G0 n j.c2=true)
  {c mi ks vs clk A nx p r0 o y:Nat}{l:ME}{l':List HO}{L:Nat}{M:J1}{H0:Nat->Option Hd}{U:w7}{Ks:List Nat}{seen:List Nat}{q:Nat×Nat×Nat}
  (hX:X.Ok)(DC:oK X ro)(PD:zU c=true)(Tu:Nat.beq (pO c) 0=true)(hi:eF L M j.i=.c c)(Ik:nx<1048575)(KJ:mi≠pR c)(ha:IQ l 0=true)(hr0:nx<=r0)
  (H7:∀r,nx<=r->H0 r=none)(hm:s6 nx U mi=.m ks vs l clk)(hz:s6 nx U (pR c)=.z)(hKs:∀t,t ∉ Ks->F7 L M t=.u)(hq:q∈l)
  (h:vL j c mi ks vs clk l P Fu R I (a1h j P Fu R I (yN Ks L M nx U p r0 (.ok (.a 0 0) []))) q L M nx U p=.ok (.a o y) l')
  {F:Nat->Prop}{K:j0}{a aN:Act}{w wN:World}{D0 DN:w7}{EN:Nat}{AN:J1}{Q:Exit->Act->World->Prop}
  (V:∀r,s6 nx DN r=if r=pR c then .i mi A (q.1::seen) clk else s6 nx U r)
  (BS:St (X.bA g (Hk p)) B F n K H0 (TE L M) (n9 (G3 nx D0)) a w)(hTN:∀t',F7 EN AN t'=if t'=j.t then .t [(0,17),(ks,q.2.1),(vs,q.2.2)]else F7 L M t')(s:St (X.bA g (Hk p)) B F n K H0 (TE EN AN) (n9 (G3 nx DN)) aN wN)(hkN:Kept F w wN)
  (hQ:∀ (I':Hp) (F':Nat->Prop) (K':j0) (a':Act) (w':World) (Rx:w7),I'=s6 nx U->(∀r,s6 nx Rx r=if r=pR c then .i mi A (q.1::seen) clk else I' r)->St (X.bA g (Hk p)) B F' n K' H0 (TE L M) (n9 (G3 nx Rx)) a' w'->(∀b,F b->F' b)->K.le K'->Fix F K K'->Kept F w w'->Q .normal a' w'):
  wpListIn (Wd ro) 0 P j.a1 (Exit.then ((Code.seq j.c1 (.block j.b (.seq (.region XV j.a2 false) j.c2))).wpIn (Wd ro) 0 P Q) Q) j.r1 aN wN:=by
 have N:=oM;rw[XA]at N;simp only[G6,Bool.and_eq_true]at N;have a3h:=Nat.eq_of_beq_eq_true Tu;obtain⟨E2,A2,h2,hT2⟩:=fU (show bM j.t (.t [(0,17),(ks,q.2.1),(vs,q.2.2)]) L M _=_ from h);have hTT:TE EN AN=TE E2 A2:=by funext t';unfold TE;rw[hTN,hT2]
 rw[hTT]at s;obtain⟨hdi,bi,Y,B'⟩:=FA BS hi PD;have Z:n9 (G3 nx DN) (pR c)=some (.F8 (.i mi A (q.1::seen) clk),.own):=dV (by rw[V,if_pos rfl]) (by simp)
 obtain⟨bi',mb,hmi,g1,g2,g3,g4⟩:=s.mem.cont (pR c) _ .own hdi Z (by simp) Y
 rw[B']at g1;cases g1;have XB:(oH (jW H0 nx) X).Ok:=MJ hX;have yL:St ((oH (jW H0 nx) X).bA (vK H0 nx++g) (Hk p)) B F n K H0 (TE E2 A2) (n9 (G3 nx DN)) aN wN:=s.a1l (ML s.x (fun _ _ e=>e))
 have iX:=(yL.a2Z (XB.grow _ _) Z);obtain⟨J',heN⟩:=O1.ex n (vK H0 nx++g) E2 A2 nx U p Ik;have a3j:St ((oH (jW H0 nx) X).bA J'.gh J'.s7) B (fun b=>F b\/bV H0 (pR c) b) n K H0 J'.z6.T J'.z6.m aN wN:=heN.st.2 (iX.sub (fun r x S=>by
  obtain⟨o,e1,e2,e3⟩:=gF S;have Gv:r≠pR c:=fun e=>e2 (by rw[<-e1,e,hz])
  show(if r=pR c then none else _)=_
  rw[if_neg Gv,e3]
  exact dV (by rw[V,if_neg Gv];exact e1) e2))
 refine Hz o7 hR (Iw _ _) (hB.imp id (fun hh=>hh _ _)) z' BK he3 Rw FD oM N.2 hdc Ax h2 XB DC.pair (fun F K H p w S=>(mG S H7).1) PD a3h Y B' g3 g4 hq ha (F:=fun b=>F b\/bV H0 (pR c) b) (.inr ⟨hdi,Y,B'⟩) g2 heN a3j (fun r hr=>H7 r (by rw[heN.nx]at hr;exact hr)) (fun E4 A4 XC D4 p4 st4 a4 w4 hk4 Rw ht4=>?_)
 have fin:∀E5 A5 v D5 p5 G a5 w5,yN Ks L M nx U p r0 (.ok (.a 0 0) []) E5 A5 v D5 p5=.ok (.a o y) l'->O1 n (vK H0 nx++g) E5 A5 v D5 p5 G->sN (oH (jW H0 nx) X) B (fun b=>F b\/bV H0 (pR c) b) (fun b=>F b\/bV H0 (pR c) b) n K wN G a5 w5->Q .normal a5 w5:=by
  intro E5 A5 v D5 p5 G a5 w5 d he5 J;obtain⟨rfl,hck,a3k,_⟩:=Hw d;obtain⟨⟨F5,K5,H5,b0Q,C,hK5,b5t,O⟩,E⟩:=J;have C:=he5.st.1 C;have hHL:bY H0 H5:=(mG C.x H7).1;obtain⟨L',hF6⟩:=St.PC (XB.grow _ _) yL Z (C.sub (m2:=iP (n9 (G3 v D5)) (pR c)) (fun r x S=>(Z2 S).2)) (by unfold iP;rw[if_pos rfl]) b0Q hK5 hHL (by rw[Y];rfl) O E
  have hkw:Kept F w w5:=hkN.trans (E.mono fun _ e=>.inl e)
  refine hQ _ _ K5 a5 w5 DN rfl V (St.back (hX.grow _ _) BS.x BS.tmp s.mem L' hF6 hK5 hHL hkw (fun t=>?_) (fun r x S=>?_)) hF6 hK5 (O.less fun _ e=>.inl e) hkw
  ·by_cases ht:t∈Ks
   ·refine .inr ⟨F7 L M t,rfl,?_,rfl⟩;show Q2 (F7 E5 A5 t)=_;rw[hck t ht]
   ·left;show Q2 (F7 L M t)=_;rw[hKs t ht];rfl
  ·obtain⟨o',e1,e2,e3⟩:=gF S;refine⟨?_,o',e3,.inl S⟩;by_cases e:r=pR c
   ·subst e;rw[j6];rw[Z]at S;exact S
   ·rw[n6 _ _ _ _ e];show(if r=pR c then none else _)=_
    rw[if_neg e,e3];have AD:=Co e1 e2;exact dV (by rw[a3k r AD (by omega),<-e1,V,if_neg e]) e2
 obtain⟨⟨F4,K4,H4,O',G',hK4,a3l,a67⟩,a3m⟩:=ht4;refine mD o7 hR (Iw _ _) j.c2 Pv PE (oH (jW H0 nx) X) B (fun b=>F b\/bV H0 (pR c) b) ro none (vK H0 nx++g) none none XB DC.pair trivial trivial (hB.imp id (fun hh=>hh _ _)) E4 A4 XC D4 p4 _ st4 F4 K4 H4 a4 w4 _ hk4 Rw O' (fun _ e=>by cases e) G' a3l ?_
 intro e E5 A5 v D5 p5 G a5 w5 d he5 J;have J:=J.trans O' hK4 a67 a3m;rcases dN d with⟨rfl,d⟩|⟨i,rfl,d⟩|⟨rfl,d⟩
 ·exact fin E5 A5 v D5 p5 G a5 w5 d he5 J
 ·have d:iB (Nat.beq i j.b) (yN Ks L M nx U p r0 (.ok (.a 0 0) []) E5 A5 v D5 p5) (.er 568 0)=.ok (.a o y) l':=d;rw[j2]at d;split at d
  ·rename_i hb;have hb:=Nat.eq_of_beq_eq_true hb;show(if i=j.b then Q .normal a5 w5 else Q (.exit i) a5 w5)
   rw[if_pos hb];exact fin E5 A5 v D5 p5 G a5 w5 d he5 J
  ·cases d
 ·cases d
end
end Go.Abs
end
section
namespace Go.Abs
theorem a1m{c:Nat}{v:BV}(h:Q2 v=Q2 (.c c))(j:3<=c):v=.c c:=by
 have f:Q2 (.c c)=if c=9 then .bool false else if c=17 then .bool true else .Bu 0 c:=by
  simp only[Q2];rw[if_neg (by omega),if_neg (by omega)]
 rw[f]at h;cases v with
 |c n=>
  simp only[Q2]at h;by_cases b:n=1
  ·rw[if_pos b]at h;split at h
   ·cases h
   ·split at h<;>cases h
  ·rw[if_neg b]at h;by_cases d:n=2
   ·rw[if_pos d]at h;split at h
    ·cases h
    ·split at h<;>cases h
   ·rw[if_neg d]at h;split at h
    ·split at h
     ·rename_i e g2;rw[e,g2]
     ·split at h<;>cases h
    ·split at h
     ·split at h
      ·cases h
      ·split at h
       ·rename_i e g2 m i;rw[g2,i]
       ·cases h
     ·split at h
      ·cases h
      ·split at h
       ·cases h
       ·cases h;rfl
 |a k n=>
  simp only[Q2]at h;split at h
  ·cases h
  ·split at h<;>cases h
 |t l=>
  simp only[Q2]at h;split at h
  ·cases h
  ·split at h<;>cases h
 |u=>
  simp only[Q2]at h;split at h
  ·cases h
  ·split at h<;>cases h
theorem XD{E a:Nat}{A b:J1}(h:TE E A=TE a b)(x:Operand):Q2 (eF E A x)=Q2 (eF a b x):=by
 cases x with
 |tmp t=>exact congrFun h t
 |const y=>rfl
 |global g=>rfl
 |func f=>rfl
section
variable {z:BV} {l:List HO}
theorem PF{t:TypeId}{f x:Operand}{P:Program}{b:Rn->KS}{E:Nat}{A:J1}{nx:Nat}{D:w7}{p:Nat}(h:Ht t f x P b E A nx D p=.ok z l):
  ∃c y,eF E A f=.c c/\eF E A x=.c y/\3<=c/\3<=y/\y % 8<=3/\b (.ok (.a (pO c) y) []) E A nx D p=.ok z l:=by
 unfold Ht at h;cases d:eF E A f with
 |a _ _=>rw[d]at h;cases h
 |t _=>rw[d]at h;cases h
 |u=>rw[d]at h;cases h
 |c c=>
  rw[d]at h;cases e:eF E A x with
  |a _ _=>rw[e]at h;cases h
  |t _=>rw[e]at h;cases h
  |u=>rw[e]at h;cases h
  |c y=>
   rw[e]at h;simp only[j2]at h;split at h
   ·split at h
    ·split at h
     ·split at h
      ·rename_i k g2 i j;exact⟨c,y,rfl,rfl,Nat.le_of_ble_eq_true g2,Nat.le_of_ble_eq_true i,Nat.le_of_ble_eq_true j,h⟩
      ·cases h
     ·cases h
    ·cases h
   ·cases h
end
section
variable {P:Program} {R:J6} {X:Ctx} {B:Option Nat} {ro:Option Nat} {n:Nat} {g:List a7} {Fu:Nat} {I:GY}
theorem a3n(o7:P.follows .mixedOrders=true)(hR:P2 P R)(Iw:∀z lo,bK P (Gk I z lo))(hB:(B=none->ro≠none)\/∀z lo y f args nx D k,I y f args nx D k≠ .ok z lo){A:WK}{XV id3:Nat}{oN oE oj:Oper}(XA:A.a1.toList=oN::A.r1)(z':A.a2.toList=oE::A.r2)(BK:oE.op=.entry A.i2)(he3:oE.dst=some A.t2)(Rw:oE.guard=none)
  {ops:Array Oper}{j:Nat}{tt:TypeId}{ax x:Operand}(Ux:A.c2=.region id3 ops true)(hj:ops.toList[j]? =some oj)(Ww:j+1=ops.toList.length)(XU:oj.op=.store tt ax x)(hjd:oj.dst=none)
  (FD:Code.j3 A.c1=true)(Pv:Code.j3 A.c2=true)(oM:G6 n A.a1.toList=true)(hdc:G0 n A.c1=true)(Ax:G6 n A.a2.toList=true)(PE:G0 n A.c2=true)
  {c mi ks vs clk G nx p r0 s N N' o y:Nat}{l:ME}{l':List HO}{Z:Nat}{A1:J1}{H0:Nat->Option Hd}{D2:w7}{Ks:List Nat}{seen:List Nat}{q:Nat×Nat×Nat}
  (hX:X.Ok)(DC:oK X ro)(PD:zU c=true)(Tu:Nat.beq (pO c) 0=true)(hi:eF Z A1 A.i=.c c)(Ik:nx<1048575)(ha:IQ l 0=true)(hr0:r0<nx)(hrr:r0≠pR c)(b0T:∃hd,H0 r0=some hd)
  (H7:∀r,nx<=r->H0 r=none)(hz:s6 nx D2 (pR c)=.z)(hz0:s6 nx D2 r0=.z)(hKs:∀t,t ∉ Ks->F7 Z A1 t=.u)(hq:q∈l)(hy:y<cB)
  (h:vL A c mi ks vs clk l P Fu R I (MN ops j tt ax x P R r0 s N (fun M=>yN Ks Z A1 nx D2 p r0 M)) q Z A1 nx D2 p=.ok (.a o y) l')
  {F:Nat->Prop}{K:j0}{a aN:Act}{w wN:World}{D0 DN:w7}{EN:Nat}{AN:J1}{Q:Exit->Act->World->Prop}
  (P':∀r,s6 nx DN r=if r=pR c then .i mi G (q.1::seen) clk else if r=r0 then .c s N' else s6 nx D2 r)
  (BS:St (X.bA g (Hk p)) B F n K H0 (TE Z A1) (n9 (G3 nx D0)) a w)(hTN:∀t',F7 EN AN t'=if t'=A.t then .t [(0,17),(ks,q.2.1),(vs,q.2.2)]else F7 Z A1 t')(C:St (X.bA g (Hk p)) B F n K H0 (TE EN AN) (n9 (G3 nx DN)) aN wN)(hkN:Kept F w wN)
  (hQ:∀ (F':Nat->Prop) (K':j0) (a':Act) (w':World) (Rx:w7),(∀r,s6 nx Rx r=if r=pR c then .i mi G (q.1::seen) clk else if r=r0 then .c s (U9 N' o 1 y)else s6 nx D2 r)->St (X.bA g (Hk p)) B F' n K' H0 (TE Z A1) (n9 (G3 nx Rx)) a' w'->(∀b,F b->F' b)->K.le K'->Fix F K K'->Kept F w w'->Q .normal a' w'):
  wpListIn (Wd ro) 0 P A.a1 (Exit.then ((Code.seq A.c1 (.block A.b (.seq (.region XV A.a2 false) A.c2))).wpIn (Wd ro) 0 P Q) Q) A.r1 aN wN:=by
 have Xz:=oM;rw[XA]at Xz;simp only[G6,Bool.and_eq_true]at Xz;have a3h:=Nat.eq_of_beq_eq_true Tu;obtain⟨E2,A2,h2,hT2⟩:=fU (show bM A.t (.t [(0,17),(ks,q.2.1),(vs,q.2.2)]) Z A1 _=_ from h);have hTT:TE EN AN=TE E2 A2:=by funext t';unfold TE;rw[hTN,hT2]
 rw[hTT]at C;obtain⟨hdi,bi,hi1,B'⟩:=FA BS hi PD;obtain⟨RJ,hH0⟩:=b0T;have hri:n9 (G3 nx DN) (pR c)=some (.F8 (.i mi G (q.1::seen) clk),.own):=dV (by rw[P',if_pos rfl]) (by simp)
 have hrN:n9 (G3 nx DN) r0=some (.F8 (.c s N'),.own):=dV (by rw[P',if_neg hrr,if_pos rfl]) (by simp)
 obtain⟨bi',mb,hmi,g1,g2,g3,g4⟩:=C.mem.cont (pR c) _ .own hdi hri (by simp) hi1
 rw[B']at g1;cases g1;obtain⟨_,cs0,_,_,_,_,_,_,a1o⟩:=C.mem.cont r0 _ .own RJ hrN (by simp) hH0
 have XB:(oH (jW H0 nx) X).Ok:=MJ hX;have yL:St ((oH (jW H0 nx) X).bA (vK H0 nx++g) (Hk p)) B F n K H0 (TE E2 A2) (n9 (G3 nx DN)) aN wN:=C.a1l (ML C.x (fun _ _ e=>e))
 have iX:=(yL.a2Z (XB.grow _ _) hri);have Yw:iP (n9 (G3 nx DN)) (pR c) r0=some (.F8 (.c s N'),.own):=by unfold iP;rw[if_neg hrr];exact hrN
 have a3j:=(iX.a2Z (XB.grow _ _) Yw);obtain⟨J',heN⟩:=O1.ex n (vK H0 nx++g) E2 A2 nx D2 p Ik;have E:St ((oH (jW H0 nx) X).bA J'.gh J'.s7) B (fun b=>(F b\/bV H0 (pR c) b)\/bV H0 r0 b) n K H0 J'.z6.T J'.z6.m aN wN:=heN.st.2 (a3j.sub (fun r x hx=>by
  obtain⟨o,L,e2,e3⟩:=gF hx;have Gv:r≠pR c:=fun e=>e2 (by rw[<-L,e,hz])
  have a68:r≠r0:=fun e=>e2 (by rw[<-L,e,hz0])
  show(if r=r0 then none else if r=pR c then none else _)=_
  rw[if_neg a68,if_neg Gv,e3]
  exact dV (by rw[P',if_neg Gv,if_neg a68];exact L) e2))
 refine Hz o7 hR (Iw _ _) (hB.imp id (fun hh=>hh _ _)) z' BK he3 Rw FD oM Xz.2 hdc Ax h2 XB DC.pair (fun F K H p w hx=>(mG hx H7).1) PD a3h hi1 B' g3 g4 hq ha (F:=fun b=>(F b\/bV H0 (pR c) b)\/bV H0 r0 b) (.inl (.inr ⟨hdi,hi1,B'⟩)) g2 heN E (fun r hr=>H7 r (by rw[heN.nx]at hr;exact hr)) (fun E4 A4 XC D4 p4 st4 a4 w4 O Rw ht4=>?_)
 obtain⟨⟨F4,K4,H4,O',E,hK4,a3l,U⟩,J⟩:=ht4;have E:=Rw.st.1 E;have b0U:bY H0 H4:=(mG E.x H7).1;have O:iB (Nat.ble (Nat.succ r0) XC) (zX XC D4 r0 (.c s N) fun D=>kI ops.toList P R ops (fun E' A' Tv D' p' tr=>iB (nM (BH tr) (dM ops)) (iB (Bs r0 j (BH tr) 0) (Ht tt ax x P (fun M=>yN Ks Z A1 nx D2 p r0 M) E' A' Tv D' p') (.er 560 0)) (.er 504 0)) E4 A4 XC D p4 []) (.er 598 0)=.ok (.a o y) l':=O
 rw[j2]at O;split at O
 rotate_left
 ·cases O
 rename_i AD;have AD:r0<XC:=Nat.le_of_ble_eq_true AD;obtain⟨D5,hk5,hD5⟩:=gE (d:=D4) (o:=.c s N) AD (fun D=>kI ops.toList P R ops (fun E' A' Tv D' p' tr=>iB (nM (BH tr) (dM ops)) (iB (Bs r0 j (BH tr) 0) (Ht tt ax x P (fun M=>yN Ks Z A1 nx D2 p r0 M) E' A' Tv D' p') (.er 560 0)) (.er 504 0)) E4 A4 XC D p4 [])
 rw[hk5]at O;rw[Ux]at Pv PE ⊢;have b0V:S2 ops=true:=by have:=Pv;simp[Code.j3]at this;exact this.1
 have hds:G6 n ops.toList=true:=PE;obtain⟨off,kk,y1,E6,A6,nx6,D6,S,b5v,hk6,hT6,b5x,hm6,b5z,hS0,⟨EJ,AJ,hTJ,⟨c0,Tp,b0X,b5B,b0Y⟩,_,hxx⟩,hTj,Lm⟩:=Th (n:=n) (k:=Ht tt ax x P (fun M=>yN Ks Z A1 nx D2 p r0 M)) hR O hds Rw.lt hj XU (s:=s) (N:=N) (by rw[hD5,if_pos rfl])
 obtain⟨c',y',hax,hxv,UD,hy3,hy8,hk7⟩:=PF hk6;obtain⟨rfl,hck,a3k,a18⟩:=Hw hk7;injection a18 with a69 b2P;injection a69 with ho1 ho2;have hTE:TE E6 A6=TE EJ AJ:=by rw[<-hT6,<-Ww,hTj hjd,hTJ]
 have Yq:c'=c0:=by
  have h1:=XD hTE ax;rw[hax,Tp]at h1;have h4:c0 % 8=4:=X0.1 b0X;have:=a1m h1 (by omega)
  cases this;rfl
 have hyy:y1=y/\kk=1:=by
  have h1:=XD hTE x;rw[hxv]at h1;have h2:=a1m h1.symm hy3;rcases hxx with⟨L,e2,_⟩|L
  ·rw[L]at h2;cases h2;exact⟨ho2,e2⟩
  ·rw[L]at h2;cases h2
 obtain⟨rfl,rfl⟩:=hyy;have hoo:off=o:=by rw[<-b0Y,<-Yq];exact ho1
 subst hoo;have hy8:y1 % 8<=3:=by rw[<-ho2];exact hy8
 obtain⟨b00,hF5⟩:=St.PC (XB.grow _ _) iX Yw (E.sub (m2:=iP (n9 (G3 XC D4)) r0) (fun r x hx=>(Z2 hx).2)) (by unfold iP;rw[if_pos rfl]) O' hK4 b0U (by rw[hH0];rfl) U J
 obtain⟨S',Ds',hA,a7b,a3o,a7c⟩:=Lm N';have hT4:(S' 0).T=TE E4 A4:=by rw[a3o,hS0];rfl
 have hm4:(S' 0).m=S0 (iP (n9 (G3 XC D4)) r0) r0 (c7.F8 (.c s N'),p8.own):=by
  rw[a3o,hS0];funext r;show(if r=r0 then _ else n9 (G3 XC D5) r)=_
  by_cases e:r=r0
  ·subst e;rw[if_pos rfl,j6]
  ·rw[if_neg e,n6 _ _ _ _ e];unfold iP;rw[if_neg e,Z1,Z1,hD5,if_neg e]
 have hn4:(S' 0).nx=XC:=by rw[a3o,hS0];rfl
 refine Dr (XB.grow _ _) o7 (Rk P) hA b0V a7b (by rw[hT4,hm4];exact b00) (fun r hr=>a3l r (by rw[hn4]at hr;rw[Rw.nx];exact hr)) (fun a6 w6 ht6=>?_)
 obtain⟨⟨K6,H6,L',hK6,b5O,a1p⟩,V⟩:=ht6;have a3p:bY H0 H6:=(mG L'.x H7).1;have hml:∀r,(S' ops.toList.length).m r=if r=r0 then some (c7.F8 (.c s (U9 N' off 1 y1)),p8.own)else(S ops.toList.length).m r:=fun r=>by rw[a7c];rfl
 have hTl:(S' ops.toList.length).T=TE E6 A6:=by rw[a7c];exact hT6
 obtain⟨b02,hF7⟩:=St.PC (XB.grow _ _) yL hri (L'.sub (m2:=iP (S' ops.toList.length).m (pR c)) (fun r x hx=>(Z2 hx).2)) (by unfold iP;rw[if_pos rfl]) (fun b hb=>hF5 b hb) (hK4.trans hK6) a3p (by rw[hi1];rfl) ((U.less fun b hb=>.inl hb).trans (a1p.less hF5)) ((J.less fun b hb=>.inl hb).trans (V.less hF5))
 have hkw:Kept F w w6:=hkN.trans ((J.less fun b hb=>.inl (.inl hb)).trans (V.less fun b hb=>hF5 b (.inl hb)))
 obtain⟨D9,_,hD9⟩:=gE (d:=DN) (o:=.c s (U9 N' off 1 y1)) hr0 (fun D=>D)
 have Y:∀r,s6 nx D9 r=if r=pR c then .i mi G (q.1::seen) clk else if r=r0 then .c s (U9 N' off 1 y1)else s6 nx D2 r:=fun r=>by
  rw[hD9,P'];by_cases e:r=r0
  ·subst e;rw[if_pos rfl,if_neg hrr,if_pos rfl]
  ·rw[if_neg e,if_neg e,if_neg e]
 refine hQ _ K6 a6 w6 D9 Y (St.back (hX.grow _ _) BS.x BS.tmp C.mem b02 hF7 (hK4.trans hK6) a3p hkw (fun t=>?_) (fun r x' hx'=>?_)) hF7 (hK4.trans hK6) ((U.less fun b hb=>.inl (.inl hb)).trans (a1p.less fun b hb=>hF5 b (.inl hb))) hkw
 ·by_cases ht:t∈Ks
  ·refine .inr ⟨F7 Z A1 t,rfl,?_,rfl⟩;rw[hTl];show Q2 (F7 E6 A6 t)=_;rw[hck t ht]
  ·left;show Q2 (F7 Z A1 t)=_;rw[hKs t ht];rfl
 ·obtain⟨o',L,e2,rfl⟩:=gF hx';by_cases e:r=pR c
  ·subst e;rw[Y,if_pos rfl]at L;subst L;exact⟨by rw[j6],_,rfl,.inl hri⟩
  ·rw[n6 _ _ _ _ e];have hid:iP (S' ops.toList.length).m (pR c) r=(S' ops.toList.length).m r:=by unfold iP;rw[if_neg e]
   rw[hid,hml];by_cases e0:r=r0
   ·subst e0;rw[Y,if_neg e,if_pos rfl]at L;subst L;refine⟨by rw[if_pos rfl],_,rfl,.inr (fun hd hh hc=>?_)⟩
    obtain⟨b',cs,et,fz,q1,q2,q3,q4,q5⟩:=hc;refine⟨b',cs,et,fz,q1,q2,q3,q4,q5.1,q5.2.1,fun i v hv=>?_⟩
    have hc:=q5.2.2 i v hv;rw[Fz hy]at hc ⊢;by_cases ei:i=off
    ·rw[if_pos ei]at hc ⊢;exact hc.free hy8
    ·rw[if_neg ei]at hc ⊢;have hil:i<(cs0.toList.take s).length:=by
         have:=Q9 hv;rw[q5.2.1]at this;rw[a1o.2.1];exact this
     exact hc.back a3p _ (a1o.2.2 i _ (List.getElem?_eq_getElem hil))
   ·rw[if_neg e0];rw[Y,if_neg e,if_neg e0]at L;have hlr:=Co L e2;refine⟨R0 ?_ e2,o',rfl,.inl (dV (by rw[P',if_neg e,if_neg e0];exact L) e2)⟩
    rw[hm6,a3k r hlr e0];exact L
end
end Go.Abs
end
section
namespace Go.Abs
section
variable {X:iW} {B:Option Nat} {F:Nat->Prop} {n:Nat} {K:j0} {H:Nat->Option Hd} {T T2:Nat->a7} {m m2:Mm} {a:Act} {w:World}
theorem St.less(h:St X B F n K H T m a w)(b:∀t,T2 t=.R3\/T2 t=T t):St X B F n K H T2 m a w:=
 ⟨h.ok,h.mem,h.size,h.defers,fun t=>by
  rcases b t with e|e
  ·rw[e];simp[c8]
  ·rw[e];exact h.tmp t,h.x⟩
theorem St.swap(h:St X B F n K H T m a w){p s N q:Nat}(t:m p=some (.F8 (.c s q),.own))(L:N/cB<cB^s)(M:∀i,i<s->R6 (N/cB) i=R6 (q/cB) i):St X B F n K H T (S0 m p (.F8 (.c s N),.own)) a w:=by
 have d:∀r x,S0 m p (c7.F8 (.c s N),p8.own) r=some x->(r=p/\x=(.F8 (.c s N),.own))\/m r=some x:=fun r x k=>by
  by_cases e:r=p
  ·subst e;rw[j6]at k;cases k;exact .inl ⟨rfl,rfl⟩
  ·rw[n6 _ _ _ _ e]at k;exact .inr k
 have l:∀r c,S0 m p (c7.F8 (.c s N),p8.own) r=some (c,.own)->∃c',m r=some (c',.own):=fun r c k=>by
  rcases d r _ k with⟨rfl,_⟩|k
  ·exact⟨_,t⟩
  ·exact⟨_,k⟩
 refine⟨h.ok,⟨?_,?_,?_,?_⟩,h.size,h.defers,h.tmp,h.x⟩
 ·intro r c f hd j o q3;rcases d r _ j with⟨rfl,e⟩|j
  ·cases e;obtain⟨O,cs,e,S,U,g2,V,Y,u⟩:=h.mem.cont r _ .own hd t (by simp) q3
   refine⟨O,cs,e,S,U,g2,V,Y,L,u.2.1,fun i v E=>?_⟩
   rw[M i (by rw[<-u.2.1];exact Q9 E)]
   exact u.2.2 i v E
  ·exact h.mem.cont r c f hd j o q3
 ·intro r c hd b j o q3;rcases d r _ j with⟨rfl,e⟩|j
  ·cases e;have:=h.mem.own r (.F8 (.c s q)) hd b t o q3;exact this
  ·exact h.mem.own r c hd b j o q3
 ·intro r c hd b j o q3;rcases d r _ j with⟨rfl,e⟩|j
  ·cases e
  ·exact h.mem.aQ r c hd b j o q3
 ·intro G J Z c2 y A b j o q3 q4 q5 q6;obtain⟨C,k1⟩:=l G Z j;obtain⟨D,k2⟩:=l J c2 o;exact h.mem.inj G J C D y A b k1 k2 q3 q4 q5 q6
end
theorem HA{e E:Nat}{A:J1}:∀ {f:List Nat},a28 e E A f=true->∃t∈f,∃c,F7 E A t=.c c/\JI c=true/\sR c=e
 |[],h=>by cases h
 |t::f,h=>by
  have h:iB (@BV.rec (fun _=>Bool) (fun c=>iB (JI c) (Nat.beq (sR c) e) false) (fun _ _=>false) (fun _=>false) false (F7 E A t)) true (a28 e E A f)=true:=h
  rw[j2]at h;split at h
  ·rename_i b;cases d:F7 E A t with
   |c c=>
    rw[d]at b;simp only[j2]at b;split at b
    ·rename_i i;exact⟨t,List.mem_cons_self ..,c,d,i,Nat.eq_of_beq_eq_true b⟩
    ·cases b
   |a _ _=>rw[d]at b;cases b
   |t _=>rw[d]at b;cases b
   |u=>rw[d]at b;cases b
  ·obtain⟨j,b,i⟩:=HA h;exact⟨j,List.mem_cons_of_mem _ b,i⟩
section
variable {P:Program} {R:J6} {z:BV} {lo:List HO} {X:Ctx} {B:Option Nat} {ro:Option Nat} {n:Nat} {g:List a7} {Fu:Nat} {I:GY}
theorem PG(o7:P.follows .mixedOrders=true)(hR:P2 P R)(Iw:∀z lo,bK P (Gk I z lo))(hB:(B=none->ro≠none)\/∀z lo y f args nx D k,I y f args nx D k≠ .ok z lo){nt r0:Nat}{O:Code}{M:WK}(hwk:Aq O=some M)(FD:Code.j3 O=true)(KM:G0 n O=true)
  (hX:X.Ok)(DC:oK X ro){E:Nat}{A:J1}{nx:Nat}{D:w7}{p:Nat}{kc:KC}{st:j9}{F0 F:Nat->Prop}{K:j0}{H:Nat->Option Hd}{a:Act}{w:World}{Q:Exit->Act->World->Prop}
  (h:Ru nt r0 O M P Fu R I E A nx D p kc=.ok z lo)(he:O1 n g E A nx D p st)(hF:∀b,F0 b->F b)(BS:St (X.bA st.gh st.s7) B F n K H st.z6.T st.z6.m a w)(H7:∀r,st.nx<=r->H r=none)
  (hQ:∀e E' A' Tv D' p' C' a' w',kc e E' A' Tv D' p'=.ok z lo->O1 n g E' A' Tv D' p' C'->sN X B F0 F n K w C' a' w'->Q e.out a' w'):(Code.loop O).wpIn (Wd ro) 0 P Q a w:=by
 obtain⟨id1,XV,oN,oE,rfl,XA,hN2,hN3,hN4,z',BK,he3,Rw⟩:=MQ hwk;have BS:=he.st.1 BS;have H7:∀r,nx<=r->H r=none:=fun r hr=>H7 r (by rw[he.nx];exact hr)
 have Ik:=he.lt;simp only[Code.j3,Bool.and_eq_true]at FD;simp only[G0,Bool.and_eq_true]at KM;have Z:Code.j3 M.c1=true:=by simp_all
 have a7e:Code.j3 M.c2=true:=by simp_all
 obtain⟨oM,R',Ax,PE⟩:=KM;unfold Ru at h;cases hv:eF E A M.i with
 |a _ _=>rw[hv]at h;cases h
 |t _=>rw[hv]at h;cases h
 |u=>rw[hv]at h;cases h
 |c c=>
 rw[hv]at h;simp only[j2]at h;split at h
 rotate_left
 ·cases h
 rename_i PD;split at h
 rotate_left
 ·cases h
 rename_i Tu;cases S:s6 nx D (pR c)with
 |c _ _=>rw[S]at h;cases h
 |m _ _ _ _=>rw[S]at h;cases h
 |f _ _ _ _=>rw[S]at h;cases h
 |z=>rw[S]at h;cases h
 |i mi since seen last=>
 rw[S]at h;simp only at h;cases U:s6 nx D mi with
 |c _ _=>rw[U]at h;cases h
 |i _ _ _ _=>rw[U]at h;cases h
 |f _ _ _ _=>rw[U]at h;cases h
 |z=>rw[U]at h;cases h
 |m ks vs l clk=>
 rw[U]at h;simp only at h;split at h
 rotate_left
 ·cases h
 rename_i hold;split at h
 rotate_left
 ·cases h
 rename_i hsl;split at h
 rotate_left
 ·cases h
 rename_i hcl;have hcl:=Nat.eq_of_beq_eq_true hcl;subst hcl;split at h
 rotate_left
 ·cases h
 rename_i a3q;split at h
 ·cases h
 rename_i V;have V:mi≠pR c:=fun e=>V (by rw[e];exact Nat.beq_refl _)
 split at h
 ·cases h
 rename_i HZ;have HZ:mi≠r0:=fun e=>HZ (by rw[e];exact Nat.beq_refl _)
 obtain⟨E1,A1,h,Qj⟩:=MT h;generalize hKs:Xr (Xq (.seq (.region id1 M.a1 false) (.seq M.c1 (.block M.b (.seq (.region XV M.a2 false) M.c2))))) E A (rng nt 0)=Ks at h Qj;have a7f:E.mod 4294967291<cB:=Nat.lt_trans (Nat.mod_lt _ (by decide)) (by decide)
 have FV:∀t,t ∉ Ks->F7 E1 A1 t=.u:=fun t ht=>by rw[Qj,if_neg ht,Tj a7f]
 split at h
 rotate_left
 ·cases h
 rename_i hi;have hi:=lZ _ _ hi;have b03:=Co S (by simp)
 obtain⟨D1,h1,G⟩:=gE (d:=D) (o:=.z) b03 (fun D1=>Xu r0 M P Fu R I kc Ks E1 A1 nx D1 p c mi ks vs clk l (E7 seen l))
 rw[h1]at h;have DG:St (X.bA g (Hk p)) B F n K H (TE E1 A1) (n9 (G3 nx D)) a w:=BS.less (fun t=>by
  by_cases ht:t∈Ks
  ·right;show Q2 (F7 E1 A1 t)=Q2 (F7 E A t);rw[Qj,if_pos ht]
  ·left;show Q2 (F7 E1 A1 t)=_;rw[FV t ht];rfl)
 unfold Xu at h;refine wpIn_loop_rounds ((E7 seen l).length+1) ?_;cases hs0:iB (Nat.ble nx r0) none (yM M.c2)with
 |none=>
  rw[hs0]at h;simp only[j2]at h;split at h
  rotate_left
  ·cases h
  rename_i L;have L:=Nat.le_of_ble_eq_true L;obtain⟨C,h,_,hgo,_⟩:=Fy h;refine MU (J:=fun v Dn=>Dn=s6 nx D1/\∀s,s∈seen->s∈v) o7 hR (Iw _ _) (hB.imp id (fun hh=>hh _ _)) XA hN2 hN3 hN4 Z oM R' hX DC PD Tu hi hold hsl Ik V H7 (fun v Dn hJ=>by rw[hJ.1,G,if_neg V];exact U) ?_ ?_ h hQ (E7 seen l).length seen (s6 nx D1) F K a w D (Nat.le_refl _) ⟨rfl,fun _ e=>e⟩ (fun r=>?_) DG hF (fun _ e=>e) (.refl K) (.refl F0 K) (.refl F0 w)
  ·intro v Dn hJ hl F' K' T' a' w' D0 hD0 hs;refine hs.sub (fun r x hx=>?_)
   obtain⟨o,e1,e2,rfl⟩:=gF hx;have Gv:r≠pR c:=fun e=>e2 (by rw[<-e1,e,G,if_pos rfl])
   exact dV (by rw[hD0,if_neg Gv,hJ.1];exact e1) e2
  ·intro v Dn hJ q hq F' K' a1 aN w1 wN D0 DN EN AN Q' hF0 hD0 P' hs1 hTN hsN hkN hQ';obtain⟨hJ1,hJ2⟩:=hJ;subst hJ1;obtain⟨hql,hqs⟩:=mem_left.1 hq;obtain⟨o,y,l',hf,_⟩:=hgo q (mem_left.2 ⟨hql,fun e=>hqs (hJ2 _ e)⟩)
   exact a3e o7 hR Iw hB XA z' BK he3 Rw Z a7e oM R' Ax PE hX DC PD Tu hi Ik V a3q L H7 (by rw[G,if_neg V];exact U) (by rw[G,if_pos rfl]) FV hql hf P' hs1 hTN hsN hkN (fun I' F2 K2 a2 w2 Rx e1=>hQ' I' F2 K2 a2 w2 Rx ⟨e1,fun s hs=>List.mem_cons_of_mem _ (hJ2 s hs)⟩)
  ·rw[G];by_cases e:r=pR c
   ·rw[if_pos e,e,S]
   ·rw[if_neg e,if_neg e]
 |some s0=>
  rw[hs0]at h;obtain⟨ops,j,tt,ax,x⟩:=s0;have a3r:yM M.c2=some (ops,j,tt,ax,x):=by
   rw[j2]at hs0;split at hs0
   ·cases hs0
   ·exact hs0
  obtain⟨id3,oj,Ux,hj,Ww,XU,hjd⟩:=Jr a3r;simp only[j2]at h;split at h
  rotate_left
  ·cases h
  rename_i L;have L:=Nat.le_of_ble_eq_true L;split at h
  ·cases h
  rename_i hrr;have hrr:r0≠pR c:=fun e=>hrr (by rw[e];exact Nat.beq_refl _)
  cases Y:s6 nx D1 r0 with
  |m _ _ _ _=>rw[Y]at h;cases h
  |i _ _ _ _=>rw[Y]at h;cases h
  |f _ _ _ _=>rw[Y]at h;cases h
  |z=>rw[Y]at h;cases h
  |c s N=>
  rw[Y]at h;simp only at h;split at h
  rotate_left
  ·cases h
  rename_i b07;obtain⟨D2,h2,hD2⟩:=gE (d:=D1) (o:=.z) L (fun D2=>MO (fun q=>vL M c mi ks vs clk l P Fu R I (MN ops j tt ax x P R r0 s N (fun out=>yN Ks E1 A1 nx D2 p r0 out)) q E1 A1 nx D2 p) (E7 seen l) [] fun C=>
   fN (Bt C N) fun N2=>if ZZ s N2 C=true then(if Nat.ble (Nat.succ (Nat.div N2 cB)) (Nat.pow cB s)=true then zX nx D1 r0 (.c s N2) fun D3=>Xt M P Fu R I kc E1 A1 nx D3 p else .er 597 0)else .er 586 0)
  rw[h2]at h;obtain⟨C,h,_,hgo,b08⟩:=Fy h;rw[J8]at h;split at h
  rotate_left
  ·cases h
  rename_i U';split at h
  rotate_left
  ·cases h
  rename_i hNN;have hNN:Bt C N/cB<cB^s:=Nat.le_of_ble_eq_true hNN;obtain⟨D3,h3,hD3⟩:=gE (d:=D1) (o:=.c s (Bt C N)) L (fun D3=>Xt M P Fu R I kc E1 A1 nx D3 p)
  rw[h3]at h;have U':=Hx U';obtain⟨tr,htr,cr,hcr,Qi,hcR⟩:=HA b07;have hHr:∃hd,H r0=some hd:=by
   have hb:=fT (DG.tmp tr);rw[hcr]at hb;have h5:=X1.1 Qi;rcases hb with⟨e,_⟩|⟨e,_⟩|hc
   ·omega
   ·omega
   ·obtain⟨hd,_,_,_,g1,_⟩:=hc.uB Qi;rw[hcR]at g1;exact⟨hd,g1⟩
  have Xc:∀q∈E7 seen l,∃o y l',vL M c mi ks vs clk l P Fu R I (MN ops j tt ax x P R r0 s N (fun out=>yN Ks E1 A1 nx D2 p r0 out)) q E1 A1 nx D2 p=.ok (.a o y) l'/\R6 (Bt C N/cB) o=y:=fun q hq=>by
   obtain⟨o,y,l',hf,RX⟩:=hgo q hq;exact⟨o,y,l',hf,(U' _ RX).1⟩
  refine MU (ks:=ks) (vs:=vs) (J:=fun v Dn=>(∀s,s∈seen->s∈v)/\∃N',(Dn=fun r=>if r=r0 then .c s N' else s6 nx D2 r)/\∀i,i<s->R6 (N'/cB) i=R6 (Bt C N/cB) i\/(R6 (N'/cB) i=R6 (N/cB) i/\∀q∈E7 seen l,q.1∈v->∀o y l',vL M c mi ks vs clk l P Fu R I (MN ops j tt ax x P R r0 s N (fun out=>yN Ks E1 A1 nx D2 p r0 out)) q E1 A1 nx D2 p=.ok (.a o y) l'->o≠i))
   o7 hR (Iw _ _) (hB.imp id (fun hh=>hh _ _)) XA hN2 hN3 hN4 Z oM R' hX DC PD Tu hi hold hsl Ik V H7 (fun v Dn hJ=>?_) ?_ ?_ h hQ (E7 seen l).length seen (fun r=>if r=r0 then .c s N else s6 nx D2 r) F K a w D (Nat.le_refl _) ⟨fun _ e=>e,N,rfl,fun i _=>.inr ⟨rfl,fun q hq hs=>absurd hs (mem_left.1 hq).2⟩⟩ (fun r=>?_) DG hF (fun _ e=>e) (.refl K) (.refl F0 K) (.refl F0 w)
  ·obtain⟨_,N',rfl,_⟩:=hJ;show(if mi=r0 then _ else s6 nx D2 mi)=_
   rw[if_neg HZ,hD2,if_neg HZ,G,if_neg V];exact U
  ·rintro v Dn ⟨hJs,N',rfl,hJ⟩ hl F' K' T' a' w' D0 hD0 hs;have h0:n9 (G3 nx D0) r0=some (.F8 (.c s N'),.own):=dV (by rw[hD0,if_neg hrr];exact if_pos rfl) (by simp)
   refine(hs.swap h0 hNN (fun i hi=>?_)).sub (fun r x hx=>?_)
   ·rcases hJ i hi with e|⟨e1,e2⟩
    ·exact e.symm
    ·rw[e1];refine Hy (fun q hq=>?_) (fun q hq=>?_)
     ·rw[<-(U' q hq).1];exact Wi _ _
     ·rcases b08 q hq with e|⟨q',g1,l',g2⟩
      ·cases e
      ·refine e2 q' g1 ?_ _ _ l' g2;rcases Classical.em (q'.1∈v)with h'|h'
       ·exact h'
       ·have:=mem_left.2 ⟨(mem_left.1 g1).1,h'⟩;rw[hl]at this;cases this
   ·obtain⟨o,e1,e2,rfl⟩:=gF hx;by_cases e:r=r0
    ·subst e;rw[hD3,if_pos rfl]at e1;rw[j6,e1]
    ·rw[n6 _ _ _ _ e];rw[hD3,if_neg e]at e1;have Gv:r≠pR c:=fun ee=>e2 (by rw[<-e1,ee,G,if_pos rfl])
     exact dV (by rw[hD0,if_neg Gv];show(if r=r0 then _ else s6 nx D2 r)=_;rw[if_neg e,hD2,if_neg e];exact e1) e2
  ·rintro v Dn ⟨hJs,N',rfl,hJ⟩ q hq F' K' a1 aN w1 wN D0 DN EN AN Q' hF0 hD0 P' hs1 hTN hsN hkN hQ';obtain⟨hql,hqs⟩:=mem_left.1 hq;have hqL:q∈E7 seen l:=mem_left.2 ⟨hql,fun e=>hqs (hJs _ e)⟩
   obtain⟨o,y,l',hf,hfy⟩:=Xc q hqL;have hy:y<cB:=by rw[<-hfy];exact Wi _ _
   refine a3n o7 hR Iw hB XA z' BK he3 Rw Ux hj Ww XU hjd Z a7e oM R' Ax PE hX DC PD Tu hi Ik a3q L hrr hHr H7 (by rw[hD2];split<;>first|rfl|(rw[G,if_pos rfl])) (by rw[hD2,if_pos rfl]) FV hql hy hf P' hs1 hTN hsN hkN (fun F2 K2 a2 w2 Rx a3d=>hQ' (fun r=>if r=r0 then .c s (U9 N' o 1 y)else s6 nx D2 r) F2 K2 a2 w2 Rx ⟨fun s hs=>List.mem_cons_of_mem _ (hJs s hs),U9 N' o 1 y,rfl,fun i hi=>?_⟩ a3d)
   rw[Fz hy];by_cases ei:i=o
   ·left;rw[if_pos ei,ei];exact hfy.symm
   ·rw[if_neg ei];rcases hJ i hi with e|⟨e1,e2⟩
    ·exact .inl e
    ·refine .inr ⟨e1,fun q' hq' hs' o' y' l'' hf'=>?_⟩
     rcases List.mem_cons.1 hs' with e|hs'
     ·have:=u' a3q (mem_left.1 hq').1 hql e;subst this;rw[hf]at hf';injection hf' with g1 _;injection g1 with g2 _;rw[<-g2];exact fun e=>ei e.symm
     ·exact e2 q' hq' hs' o' y' l'' hf'
  ·by_cases e:r=pR c
   ·rw[if_pos e,e,S]
   ·rw[if_neg e];by_cases e0:r=r0
    ·subst e0;rw[G,if_neg e]at Y;exact Y.trans (if_pos rfl).symm
    ·show _=(if r=r0 then _ else s6 nx D2 r)
     rw[if_neg e0,hD2,if_neg e0,G,if_neg e]
end
end Go.Abs
end
section
namespace Go.Abs
section
variable {P:Program} {R:J6} {Fu:Nat} {I:GY} {nt r0:Nat}
theorem PH(o7:P.follows .mixedOrders=true)(hR:P2 P R)(M:∀z lo,bK P (Gk I z lo)){z:BV}{lo:List HO}{n:Nat}:∀ (c:Code),Code.j3 c=true->G0 n c=true->Xe P Fu R I z lo n (MP nt r0 c) c:=by
 intro c
 induction c with
 |seq x y Vf Vg=>
  intro d f X B F0 ro g hX G hB E A nx D p S st F K H a w Q h Y U o C J;simp only[Code.j3,Bool.and_eq_true]at d;simp only[G0,Bool.and_eq_true]at f;refine wpIn_seq (Vf d.1 f.1 X B F0 ro g hX G hB E A nx D p _ st F K H a w _ h Y U o C ?_);intro e E' A' L D' p' k O w' hk v Z;rcases dN hk with⟨rfl,j⟩|⟨i,rfl,j⟩|⟨rfl,j⟩
  ·obtain⟨⟨F',K',H',uN,Gj,hK,It,lE⟩,V⟩:=Z;exact Vg d.2 f.2 X B F0 ro g hX G hB E' A' L D' p' S k F' K' H' O w' Q j v (fun b hb=>uN b (U b hb)) Gj It (fun e E2 A2 Fs D2 p2 sP a2 w2 sQ BK pV=>J e E2 A2 Fs D2 p2 sP a2 w2 sQ BK (pV.trans uN hK lE V))
  ·exact J _ _ _ _ _ _ k O w' j v Z
  ·exact J _ _ _ _ _ _ k O w' j v Z
 |cond c x y Vf Vg=>
  intro d f X B F0 ro g hX G hB E A nx D p S st F K H a w Q h Y U o C J;simp only[Code.j3,Bool.and_eq_true]at d;simp only[G0,Bool.and_eq_true]at f;have hc:=nX (E:=E) (A:=A) (a:=a) (K:=K) (H:=H) (by rw[<-Y.tmps];exact o.tmp) c
  have h: @BV.rec (fun _=>Rn) (fun n=>iB (Nat.beq n 17) (MP nt r0 x P Fu R I none E A nx D p S) (iB (Nat.beq n 9) (MP nt r0 y P Fu R I none E A nx D p S) (.er 513 0))) (fun _ _=>.er 514 0) (fun _=>.er 515 0) (.er 516 0) (eF E A c)=.ok z lo:=h
  cases hv:eF E A c with
  |c q=>
   rw[hv]at h hc;simp only[j2]at h;split at h
   ·rename_i e;have e:=Nat.eq_of_beq_eq_true e;subst e;exact wpIn_cond_true ((hc.cell (by decide)).isBool.1 rfl) (Vf d.1 f.1 X B F0 ro g hX G hB E A nx D p S st F K H a w Q h Y U o C J)
   ·split at h
    ·rename_i e;have e:=Nat.eq_of_beq_eq_true e;subst e;exact wpIn_cond_false ((hc.cell (by decide)).isBool.2 rfl) (Vg d.2 f.2 X B F0 ro g hX G hB E A nx D p S st F K H a w Q h Y U o C J)
    ·cases h
  |a s n=>rw[hv]at h;cases h
  |t q=>rw[hv]at h;cases h
  |u=>rw[hv]at h;cases h
 |block id c ih=>
  intro d f X B F0 ro g hX G hB E A nx D p S st F K H a w Q h Y U o C J;refine wpIn_block (ih d f X B F0 ro g hX G hB E A nx D p _ st F K H a w _ h Y U o C ?_);intro e E' A' L D' p' k O w' hk v Z;rcases dN hk with⟨rfl,j⟩|⟨i,rfl,j⟩|⟨rfl,j⟩
  ·exact J .normal _ _ _ _ _ k O w' j v Z
  ·simp only[I3.out,Exit.inBlock];rw[j2]at j;by_cases hi:i=id
   ·rw[if_pos hi];rw[if_pos (by rw[hi];exact Nat.beq_refl id)]at j
    exact J .normal _ _ _ _ _ k O w' j v Z
   ·rw[if_neg hi];rw[if_neg (fun e=>hi (Nat.eq_of_beq_eq_true e))]at j
    exact J (.exit i) _ _ _ _ _ k O w' j v Z
  ·exact J .ret _ _ _ _ _ k O w' j v Z
 |loop c ih=>
  intro d f X B F0 ro g hX G hB E A nx D p S st F K H a w Q h Y U o C J;have h: @Option.rec WK (fun _=>Rn) (Ev (MP nt r0 c P Fu R I none) S Fu E A nx D p) (fun wk=>Ru nt r0 c wk P Fu R I E A nx D p S) (Aq c)=.ok z lo:=h
  cases hwk:Aq c with
  |some wk=>
   rw[hwk]at h;exact PG o7 hR M (.inl hB) hwk d f hX G h Y U o C J
  |none=>
  rw[hwk]at h;have h:Ev (MP nt r0 c P Fu R I none) S Fu E A nx D p=.ok z lo:=h;refine wpIn_loop_rounds Fu ?_;have go:∀ (N:Nat) (E:Nat) (A:J1) (nx:Nat) (D:w7) (p:Nat) (st:j9) (F:Nat->Prop) (K:j0) (H:Nat->Option Hd) (a:Act) (w:World),Ev (MP nt r0 c P Fu R I none) S N E A nx D p=.ok z lo->O1 n g E A nx D p st->(∀b,F0 b->F b)->
    St (X.bA st.gh st.s7) B F n K H st.z6.T st.z6.m a w->(∀r,st.nx<=r->H r=none)->(∀e E' A' L D' p' k O w',S e E' A' L D' p'=.ok z lo->O1 n g E' A' L D' p' k->sN X B F0 F n K w k O w'->Q e.out O w')->Code.roundsIn (Wd ro) 0 P c Q N a w:=by
   intro N
   induction N with
   |zero=>intro E A nx D p st F K H a w h;cases h
   |succ N ihN=>
    intro E A nx D p st F K H a w h Y U o C J;rw[roundsIn_succ];refine ih d f X B F0 ro g hX G hB E A nx D p _ st F K H a w _ h Y U o C ?_;intro e E' A' L D' p' k O w' hk v Z;rcases dN hk with⟨rfl,j⟩|⟨i,rfl,j⟩|⟨rfl,j⟩
    ·obtain⟨⟨F1,K1,H1,uN,yL,hK,KN,lE⟩,V⟩:=Z;exact ihN E' A' L D' p' k F1 K1 H1 O w' j v (fun b hb=>uN b (U b hb)) yL KN (fun e E2 A2 Fs D2 p2 sP a2 w2 sQ BK pV=>J e E2 A2 Fs D2 p2 sP a2 w2 sQ BK (pV.trans uN hK lE V))
    ·exact J _ _ _ _ _ _ k O w' j v Z
    ·exact J _ _ _ _ _ _ k O w' j v Z
  exact go Fu E A nx D p st F K H a w h Y U o C J
 |scope c ih=>
  intro d f X B F0 ro g hX G hB E A nx D p S st F K H a w Q h Y U o C J;refine aL (ih d f X B F0 ro g hX G hB E A nx D p S st F K H a w _ h Y U o C ?_);intro e E' A' L D' p' k O w' hk v Z;have:=J e E' A' L D' p' k O w' hk v Z;cases e<;>exact this
 |skip=>exact fun d f=>kL o7 hR (M _ _) d f
 |region id ops draw=>exact fun d f=>kL o7 hR (M _ _) d f
 |exit id=>exact fun d f=>kL o7 hR (M _ _) d f
 |ret=>exact fun d f=>kL o7 hR (M _ _) d f
 |label l=>exact fun d f=>kL o7 hR (M _ _) d f
 |rangeFunc g0 ps assign body _ _=>exact fun d f=>kL o7 hR (M _ _) d f
 |_=>exact fun d f=>kL o7 hR (M _ _) d f
theorem XE(o7:P.follows .mixedOrders=true)(b:P2 P R):P2 P (Xv nt r0 Fu P R):=
 sG (ev:=MP nt r0) (fun _ _ _ c a hd=>PH o7 b (fun _ _=>Jn o7 b) c a hd)
def sH(P:Program)(a:Nat):Prop:=∀ks vs l clk,Kn P (.mk a [.c (iQ 0)] [.m ks vs l clk] (.c (iQ 1)) [.m ks vs l clk,.m ks vs l clk])
theorem Tl{g:Nat}(d:sH P g){args:List BV}{b:List HO}{v:BV}{l:List HO}(h:Jp args b=.ok v l):Kn P (.mk g args b v l):=by
 unfold Jp at h
 match args,h with
 |[.c c],h=>
  simp only[j2]at h;split at h
  ·rename_i e;have e:=Nat.eq_of_beq_eq_true e;subst e
   match b,h with
   |[.m ks vs j clk],h=>cases h;exact d ks vs j clk
   |[.c _ _],h=>cases h
   |[.f _ _ _ _],h=>cases h
   |[.i _ _ _ _],h=>cases h
   |[.z],h=>cases h
   |_::_::_,h=>cases h
   |[],h=>cases h
  ·cases h
 |[.a _ _],h=>cases h
 |[.t _],h=>cases h
 |[.u],h=>cases h
 |_::_::_,h=>cases h
 |[],h=>cases h
theorem FB(o7:P.follows .mixedOrders=true){c:Nat}(b:sH P c)(d:P2 P R):∀ (S:List (Nat×Nat×Nat)),P2 P (Rv S c Fu P R)
 |[]=>fun f args a v l h=>by
  have g:iB (Nat.beq f c) (Jp args a) (Xm Fu P R f args a)=.ok v l:=h;rw[j2]at g;split at g
  ·rename_i e;rw[Nat.eq_of_beq_eq_true e];exact Tl b g
  ·exact sG (ev:=BJ) (fun _ _ _ _ i hd=>kL o7 d (Jn o7 d) i hd) f args a v l g
 |p::S=>fun f args a v l h=>by
  have h:iB (Nat.beq f p.1) (Xv p.2.1 p.2.2 Fu P R f args a) (Rv S c Fu P R f args a)=.ok v l:=h;rw[j2]at h;split at h
  ·exact XE o7 d f args a v l h
  ·exact FB o7 b d S f args a v l h
theorem MV(o7:P.follows .mixedOrders=true){b:Nat}(a:sH P b)(S:List (Nat×Nat×Nat)):∀N,P2 P (a1i S b Fu P N)
 |0=>fun f args c v l h=>by cases h
 |N+1=>FB o7 a (MV o7 a S N) S
theorem Js(o7:P.follows .mixedOrders=true){c:Nat}(b:sH P c)(S:List (Nat×Nat×Nat)){T:List KE}(d:ZW P T)(N:Nat){f:Nat}{a:List BV}{o:List HO}{v:BV}{l:List HO}(h:We (Rv S c Fu P (Hq T (a1i S c Fu P N)) f a o) v l=true):Kn P (.mk f a o v l):=
 FB o7 b (mE (MV o7 b S N) d) S f a o v l (An h)
end
end Go.Abs
end
section
namespace Go.Abs
open Go.Proofs
theorem XF{P:Program}{cl:Nat}(hf:∀xs w,(callFunc cl xs).run P w=.ok (.enter cl xs) w)(A:∀ (b:Nat) (t:Array MapEntry) (u:Nat) (w:World),w.heap[b]? =some (.map t u)->Calls P cl #[.map (some b)] w fun e w'=>e=.returned (.map (some w.heap.size))/\w'=w.alloc (.map t u)):sH P cl:=by
 intro ks vs l clk;refine⟨hf,?_⟩;intro F K H w xs j B hm C M;have N:([HO.m ks vs l clk].map c7.F8).length=1:=rfl;rw[N]at C M;obtain⟨hd,y⟩:=M 0 (by omega)
 have O:E8 (fun _=>none) 0 ([HO.m ks vs l clk].map c7.F8) 0=some (.F8 (.m ks vs l clk),.own):=by rw[u6];rfl
 have D:=hm.cont 0 _ .own hd O (by simp) y
 obtain⟨b,t,E,R,h3⟩:=D;have hv:xs=[.map (some b)]:=by
  obtain⟨x,Y,rfl,h,S⟩:=B;cases (show Y=[]from S)
  ·have hb:u7 K H (.c (iQ 0)) x:=fT (x:=.c (iQ 0)) h;rcases hb with⟨e,_⟩|⟨e,_⟩|A
   ·cases e
   ·cases e
   ·obtain⟨d,a,T,g2,g3,_⟩:=A.isMap (by decide)
    have:mR (iQ 0)=0:=rfl;rw[this,y]at T;cases T;rw[E]at g2;cases g2;rw[g3]
 subst hv;refine(A b t clk w R).mono (fun e w' ⟨he,hw⟩=>?_)
 subst hw;have Z:=u5 R;have n:∀a,a<w.heap.size->(w.alloc (.map t clk)).heap[a]? =w.heap[a]? :=fun a i=>by
  show(w.heap.push (.map t clk))[a]? =_;rw[Array.getElem?_push_lt i,Array.getElem?_eq_getElem i]
 have I2:(w.alloc (.map t clk)).heap[w.heap.size]? =some (.map t clk):=by
  show(w.heap.push (.map t clk))[w.heap.size]? =_;simp
 have hH1:H 1=none:=C 1 (by omega)
 let oM:Hd:=⟨some w.heap.size,0,0,0⟩
 have U:bY H (S0 H 1 oM):=L9 hH1;have k:∀r x,E8 (fun _=>none) 0 ([HO.m ks vs l clk,HO.m ks vs l clk].map c7.F8) r=some x->(r=0\/r=1)/\x=(.F8 (.m ks vs l clk),.own):=fun r x q=>by
  rw[u6]at q;split at q
  ·rename_i s
   match r,s,q with
   |0,_,q=>exact⟨.inl rfl,by simpa using q.symm⟩
   |1,_,q=>exact⟨.inr rfl,by simpa using q.symm⟩
   |r+2,s,_=>exact absurd s.2 (by simp)
  ·cases q
 obtain⟨o1,o2,o3,_⟩:=hm.own 0 _ hd b O y E;have z:S0 H 1 oM 0=some hd:=by rw[n6 _ _ _ _ (by omega)];exact y
 have v:S0 H 1 oM 1=some oM:=j6 _ _ _;have G:∀r d a,(r=0\/r=1)->S0 H 1 oM r=some d->d.base=some a->(r=0/\a=b/\d=hd)\/(r=1/\a=w.heap.size/\d=oM):=fun r d a s I L=>by
  rcases s with rfl|rfl
  ·rw[z]at I;cases I;rw[E]at L;cases L;exact .inl ⟨rfl,rfl,rfl⟩
  ·rw[v]at I;cases I;cases L;exact .inr ⟨rfl,rfl,rfl⟩
 obtain⟨nK1,nK2⟩:=j.y6.new (Nat.le_refl w.heap.size);refine⟨.map (some w.heap.size),Q2 (.c (iQ 1)),_,K,S0 H 1 oM,he,⟨rfl,rfl⟩,.refl K,?_,⟨?_,?_,?_,?_⟩,fun r s=>?_,⟨⟨fun a cs i=>?_,fun a p i=>?_⟩,fun a i=>?_,j.inv,j.apart⟩,⟨rfl,rfl,rfl,?_,fun a i=>n a (j.lt a i),Nat.le_refl _⟩,.refl F K,by simp,fun r s=>?_⟩
 ·show c8 K (S0 H 1 oM) (Q2 (.c (iQ 1))) _;have:u7 K (S0 H 1 oM) (.c (iQ 1)) (.map (some w.heap.size)):=.inr (.inr (.map 1 oM _ (by omega) v rfl))
  exact this.Q2
 ·intro r c f d J V q3;obtain⟨s,q⟩:=k r _ J;cases q;rcases s with rfl|rfl
  ·rw[z]at q3;cases q3;exact o8.mono (.refl K) U (fun a e=>n a (by rw[E]at e;cases e;exact Z)) ⟨b,t,E,R,h3⟩
  ·rw[v]at q3;cases q3;have:=o8.mono (w':=w) (.refl K) U (fun _ _=>rfl) (show o8 K H w hd (.F8 (.m ks vs l clk))from⟨b,t,E,R,h3⟩)
   obtain⟨b2,es2,I,L,e3⟩:=this;rw[E]at I;cases I;rw[R]at L;cases L;exact⟨w.heap.size,t,rfl,I2,e3⟩
 ·intro r c d a J V q3;obtain⟨s,q⟩:=k r _ J;cases q;rcases G r d a s V q3 with⟨_,rfl,_⟩|⟨_,rfl,_⟩
  ·exact⟨o1,o2,o3,fun A=>by cases A⟩
  ·exact⟨fun hF=>absurd (j.lt _ hF) (Nat.lt_irrefl _),nK1,nK2,fun A=>by cases A⟩
 ·intro r c d a J V q3;obtain⟨_,q⟩:=k r _ J;cases q
 ·intro r r' c c' d X a J V q3 q4 q5 q6;rcases G r d a (k r _ J).1 q3 q5 with⟨rfl,e,_⟩|⟨rfl,e,_⟩<;>rcases G r' X a (k r' _ V).1 q4 q6 with⟨rfl,e',_⟩|⟨rfl,e',_⟩<;>first|rfl|omega
 ·rw[n6 _ _ _ _ (by simp at s;omega)]
  exact C r (by simp at s;omega)
 ·obtain⟨e,fz,g⟩:=j.y6.1 a cs i;exact⟨e,fz,by rw[n a (u5 g)];exact g⟩
 ·obtain⟨o,T,g2⟩:=j.y6.2 a p i;exact⟨o,by rw[n a (u5 T)];exact T,g2⟩
 ·show a<(w.heap.push _).size;rw[Array.size_push];have:=j.lt a i;omega
 ·show w.heap.size<=(w.heap.push _).size;rw[Array.size_push];omega
 ·have:r=0:=by simp at s;omega
  subst this;exact n6 _ _ _ _ (by omega)
end Go.Abs
namespace Go.Proofs
open Go.Shelf
def Tryz.Jt:Go.Shelf.Ren:=⟨fun|5=>155|7=>158|n=>n,fun|23=>216|25=>168|3=>2|n=>n,fun|n=>n⟩
theorem Tryz.XG:Go.Proofs.SlLaysW.n5 Tryz.prog Tryz.Jt:= {
 mixed:=by kernel_rfl
 f5:=⟨Tryz.f155.name,by decide,Tryz.func155.trans (congrArg some (by kernel_rfl))⟩
 f7:=Tryz.func158.trans (congrArg some (by kernel_rfl))
 t4:=Tryz.underlying4
 a4:=Tryz.isAgg4
 z4:=Tryz.sizeOf4
 v4:=Tryz.zeroValue4
 t20:=Tryz.underlying20
 a20:=Tryz.isAgg20
 z20:=Tryz.sizeOf20
 v20:=Tryz.zeroValue20
 t23:=Tryz.underlying216
 a23:=Tryz.isAgg216
 z23:=Tryz.sizeOf216
 v23:=Tryz.zeroValue216}
theorem Ju:Go.Abs.sH Tryz.prog 155:=Go.Abs.XF (Go.Abs.cN Tryz.func155 (c:=Go.Abs.kJ Tryz.prog 155) (by kernel_rfl) (by decide)) (fun b d a w e=>AnyW.maps_Clone Tryz.XG b d a w e)
end Go.Proofs
end
