/- Part 3 of the road to this seat's statements: lemmas about a small interpreter over the model's code, and about the functions that it is used on. No condition of its own. -/
import Derived.Test.YtmpngboelipooaaGreatW2
set_option linter.all false
section
namespace Go.Abs
section
variable {P:Program} {F:Nat->Prop} {K:b8} {H:Nat->Option Hd} {w:World} {m:Mm} {nx:Nat} {v:BV} {new:List HO} {set:List (Nat×HO)} {rd:List Nat} {ev:Operand->BV} {ρ:Operand->Value}
theorem JY(n i k:Nat):Df n i k=iS (n/cB) i k:=by
 show n/cB^ (i+1) % cB^k=n/cB/cB^i % cB^k;rw[fc,<-jt]
theorem jN{o:HO}{k:Nat->Nat->l6}(h:hC o k=.ok v new set rd):∃s n,o=.c s n/\k s n=.ok v new set rd:=by
 cases o with
 |c s n=>exact⟨s,n,rfl,h⟩
 |_=>cases h
theorem S0{r:Nat}{o:HO}(h:G9 m r=o)(a:o≠ .z):m r=some (.z5 o,.own):=by
 unfold G9 at h;split at h
 .rename_i o' e;rw[e,h]
 .exact absurd h.symm a
theorem eA(hm:l5 F K H w m){r s n b:Nat}{hd:Hd}(d:G9 m r=.c s n)(g:H r=some hd)(h:hd.base=some b):
  ∃cs e,w.heap[b]? =some (.cells cs e (0,0))/\cs.size=hd.sz+hd.len/\s<=hd.sz/\x7 H s (n/cB) ((cs.toList.drop hd.len).take s)/\m r=some (.z5 (.c s n),.own):=by
 have a:=S0 d (by simp)
 obtain⟨p,cs,e,q,i,g2,j,k,l⟩:=hm.cont r _ .own hd a (by simp) g
 rw[h]at i;cases i;obtain⟨_,_,_,f⟩:=hm.own r _ hd b a g h;obtain⟨o,t,hh⟩:=f rfl;rw[g2]at hh;cases hh;exact⟨cs,e,g2,j,k,l,a⟩
theorem Fs{k n o s x:Nat}{vs d:List Value}(b:x7 H k n vs)(c:x7 H s x d)(h:o+s<=k):x7 H k (vT n o s x) (vs.take o++d++vs.drop (o+s)):=by
 have g:=b.2.1;have j:=c.2.1;refine⟨a0c c.1 b.1 h,by simp;omega,fun i y a=>?_⟩
 rw[JL c.1];by_cases e:i<o
 .rw[ai (by omega)]
  rw[bk,bc (by simp;omega),cy e]at a
  exact b.2.2 i y a
 .by_cases f:i<o+s
  .rw[aj ⟨by omega,f⟩]
   rw[bk,bd (by simp;omega),bc (by simp;omega)]at a
   refine c.2.2 (i- o) y ?_;rw[<-a];congr 1;simp;omega
  .rw[ai (by omega)]
   rw[bk,bd (by simp;omega),bd (by simp;omega),dp]at a
   refine b.2.2 i y ?_;rw[<-a];congr 1;simp;omega
theorem Ii{A U:List Value}{o s:Nat}(h:o+U.length<=s)(c:s<=A.length):(A.take o++U++A.drop (o+U.length)).take s=(A.take s).take o++U++(A.take s).drop (o+U.length):=by
 refine cq (fun i=>?_)
 by_cases a:i<s
 .rw[cy a,bk,bk];by_cases b:i<o
  .rw[bc (by simp;omega),bc (by simp;omega),cy b,cy b,cy a]
  .by_cases d:i<o+U.length
   .rw[bd (by simp;omega),bc (by simp;omega),bd (by simp;omega),bc (by simp;omega)]
    congr 1;simp;omega
   .rw[bd (by simp;omega),bd (by simp;omega),bd (by simp;omega),bd (by simp;omega),dp,dp,cy (by simp;omega)]
    congr 1;simp;omega
 .rw[an (by simp;omega),an (by simp;omega)]
theorem rJ{α:Type}{A U:List α}{o d:Nat}(h:o+d<=A.length):(A.take (o+d)++U++A.drop (o+d+U.length)).drop d=(A.drop d).take o++U++(A.drop d).drop (o+U.length):=by
 rw[bk,du (by rw[fw];omega),bk,ky,Nat.add_sub_cancel,dm]
 congr 3;omega
theorem WI{o n a:Nat}(h:o % cB=n % cB):(VK o n a) /cB=o/cB:=by
 show(o- n % cB+(n % cB+a) % 4294967291) /cB=o/cB;have c:=jm o cB;have b:(n % cB+a) % 4294967291<cB:=oo (fk _ (by decide)) (by decide)
 rw[<-h]at b ⊢;have e:o- o % cB=cB*(o/cB):=by omega
 rw[e,rn R4,fl b,jr]
theorem Ft{n i k x:Nat}(b:x<cB^k):W2 n i k x/cB=vT (n/cB) i k x:=by
 have a:vT n (i+1) k x % cB=n % cB:=by
  have:=JL (n:=n) (i:=i+1) (k:=k) (x:=x) (j:=0) b;rw[ai (by omega),U1,U1,je,jh,jh]at this
  exact this
 show VK (vT n (i+1) k x) n _/cB=_;rw[WI a,JK,JK,xY,xY];have c:n % cB^ (i+1)=n % cB+cB*(n/cB % cB^i):=by rw[jt,Nat.mod_mul]
 rw[c,jt,me cB,fe,<-kg,jg _ _ R4,fl (fk _ R4),bz,fc n cB]
variable (l8:L4 F K w) (hm:l5 F K H w m) (n6:∀x,u6 K H (ev x) (ρ x))
include l8 hm n6
theorem a3V(o:Oper){t:TypeId}{x:Operand}(k:o.op=.load t x)(h:uV P t (ev x) (G9 m)=.ok v new set rd):z8 P F K H w m nx v new set ((execOp ρ o).run P w):=by
 obtain⟨c,e,h⟩:=x8 h;obtain⟨j,h⟩:=a8 h;cases f:vU P t with
 |zero=>rw[f]at h;exact l6.noConfusion (show l6.er 74 0=_ from h)
 |succ d=>
  rw[f]at h;obtain⟨s,n,g,h⟩:=jN (show hC (G9 m (pR c)) (fun s n=>nB (Nat.ble (Nat.add (pO c) (bA (Nat.succ d))) s) 75 (.ok (uK d (Df n (pO c) (bA (Nat.succ d)))) [] [] [pR c]))=_ from h)
  obtain⟨i,h⟩:=a8 h;cases h;have i:pO c+bA (d+1)<=s:=af i;have l:j6 H c (ρ x):=(e▸n6 x).cell (by rw[R9]at j;omega)
  obtain⟨hd,b,p,g2,q,E,G,I⟩:=l.gP j;obtain⟨cs,J,r,L,q3,q4,_⟩:=eA hm g p g2;obtain⟨a,u,y⟩:=yZ (P:=P) (K:=K) (H:=H) (n:=n/cB) f i;have A:c6 K H ((U4 s (n/cB)).drop (pO c)) (s7 cs (pO c+hd.len) ((U4 s (n/cB)).drop (pO c)).length):=by
   have:=c6.drop (pO c) (oR (K:=K) q4);have B:s7 cs (pO c+hd.len) ((U4 s (n/cB)).drop (pO c)).length=((cs.toList.drop hd.len).take s).drop (pO c):=by
    rw[cv,Q9,ky,dm,ez hd.len];rfl
   rw[B];exact this
  obtain⟨z,C,D⟩:=oA (P:=P) r A u;simp only[execOp,k,q,Instr.loadAt,Instr.sureAddr];rw[c8 (x:=z) (w':=w) (by simpa using C),JY]
  exact r8 l8 hm (y z D)
omit l8 hm n6 in
theorem row_one{k n:Nat}{vs:List Value}(h:x7 H k n vs):∀y∈vs,one y=true:=by
 intro y a;obtain⟨i,b⟩:=bn.1 a;exact(h.2.2 i y b).one
theorem a0B(o:Oper){t:TypeId}{a x:Operand}(z:o.op=.store t a x)(h:iT P t (ev a) (ev x) (G9 m)=.ok v new set rd):z8 P F K H w m nx v new set ((execOp ρ o).run P w):=by
 obtain⟨c,e,h⟩:=x8 h;obtain⟨q,h⟩:=a8 h;obtain⟨s,n,i,h⟩:=jN h;obtain⟨s',y,B,h⟩:=dV h;obtain⟨j,h⟩:=a8 h;obtain⟨r,h⟩:=a8 h;obtain⟨k,h⟩:=a8 h;cases h;have j:s'=j9 P t:=ab j;have r:1<=s':=af r;have k:pO c+s'<=s:=af k;have C:j6 H c (ρ a):=(e▸n6 a).cell (by rw[R9]at q;omega)
 obtain⟨hd,b,l,g2,D,R,S,T⟩:=C.gP q;obtain⟨cs,V,E,G,q3,q4,f⟩:=eA hm i l g2;have d:=(n6 x).row B;have u:=d.2.1;obtain⟨w',I,g⟩:=eP (P:=P) (t:=t) (v:=ρ x) (off:=pO c+hd.len) (u.trans j) (by omega) E (by omega) (row_one d)
 simp only[execOp,z,D];rw[jI I];have p:(H8 cs (pO c+hd.len) (ρ x).cells.toList).size=cs.size:=M7 _ _ _;have K8:x7 H s (W2 n (pO c) s' y/cB) (((H8 cs (pO c+hd.len) (ρ x).cells.toList).toList.drop hd.len).take s):=by
  rw[Ft d.1,I9 _ _ _ (by omega),rJ (by simp;omega)]
  have:=Fs q4 d k;have J:((cs.toList.drop hd.len).take (pO c)++(ρ x).cells.toList++(cs.toList.drop hd.len).drop (pO c+(ρ x).cells.toList.length)).take s=((cs.toList.drop hd.len).take s).take (pO c)++(ρ x).cells.toList++((cs.toList.drop hd.len).take s).drop (pO c+s'):=by
   have:=Ii (A:=cs.toList.drop hd.len) (U:=(ρ x).cells.toList) (o:=pO c) (s:=s) (by omega) (by simp;omega)
   rw[this,u]
  rw[J];exact this
 obtain⟨L,M,N,_⟩:=hm.own _ _ hd b f l g2;refine⟨K,H,.refl K,.refl H,fun _ h O=>absurd h O,.inl ⟨rfl,rfl⟩,?_,l8.N9 g M N,g.kept L,.refl F K⟩
 show l5 F K H w' (N9 m (pR c) (.z5 (.c s (W2 n (pO c) s' y)),.own));exact hm.ZU _ _ _ hd b f l g2 g.other (fun _=>⟨_,_,g.here⟩) ⟨b,_,_,_,g2,g.here,by rw[p];exact G,q3,K8⟩
end
end Go.Abs
end
section
namespace Go.Abs
section
variable {P:Program} {F:Nat->Prop} {K:b8} {H:Nat->Option Hd} {w:World} {m:Mm} {nx:Nat} {v:BV} {new:List HO} {set:List (Nat×HO)} {rd:List Nat} {ev:Operand->BV} {ρ:Operand->Value}
theorem Fv{x:Value}(h:nR x=true):j6 H (qM x) x:=by
 unfold nR at h;split at h
 .rename_i k n;have h:n<=18446744073709551616:=af h;have e:Value.int k (Int.ofNat n)=Value.int k (((cZ+n:Nat):Int) - (cZ:Int)):=by
   congr 1;show(n:Int)=_;generalize cZ=z;omega
  rw[show qM (.int k (Int.ofNat n))=N8 (G0 k) (cZ+n)from rfl,e];exact .int k _ (by show 9223372036854775808+n<73786976294838206464;omega)
 .rename_i k n;have h:n+1<=cZ:=af h;have e:Value.int k (Int.negSucc n)=Value.int k (((cZ- (n+1):Nat):Int) - (cZ:Int)):=by
   congr 1;generalize cZ=z at*
   omega
  rw[show qM (.int k (Int.negSucc n))=N8 (G0 k) (cZ- (n+1))from rfl,e];exact .int k _ (by show 9223372036854775808- (n+1)<73786976294838206464;omega)
 .rename_i b;cases b
  .exact .Ax
  .exact .SN
 .exact .Hm
 .exact .gE
 .exact .Jk
 .exact .Jl
 .cases h
theorem mM:∀ (vs:List Value),vs.all nR=true->x7 H vs.length (Ho vs) vs
 |[],_=>⟨by simp[Ho],rfl,fun i x h=>by simp at h⟩
 |x::vs,h=>by
  simp only[nq,ah]at h;have c:=Fv (H:=H) h.1;have d:=mM vs h.2;have e:Ho (x::vs)=qM x+Ho vs*cB^1:=by
   show qM x+cB*Ho vs=_;rw[fg,gv]
  have f:=c.lt.2;have a:qM x<cB^1:=by rw[fg];exact f
  rw[e];refine⟨by rw[bq,ez vs.length];exact JM a d.1,rfl,fun i y b=>?_⟩
  rw[EB a];cases i with
  |zero=>simp at b;subst b;rw[aj (by omega),X6 f];exact c
  |succ i=>rw[ai (by omega)];exact d.2.2 i y (by simpa using b)
theorem Fw(x:Value):u6 K H (OC x) x:=by
 unfold OC;split
 .rename_i cs;rw[a9];split
  .rename_i h;exact⟨cs,rfl,mM _ h⟩
  .trivial
 .rw[a9];split
  .rename_i h;exact .inr (.inr (Fv h))
  .trivial
theorem jO{t:TypeId}(h:eG P t=true):∃i z,P.info? t=some i/\i.zero=some z/\z.cells.toList.length=i.size/\j9 P t=i.size/\i.size≠0/\i.size<=16777216/\lU P t=Ho z.cells.toList/\z.cells.toList.all nR=true:=by
 unfold eG at h;split at h
 .rename_i i a;split at h
  .rename_i z b;simp only[ah,dx,ig,pc]at h;obtain⟨⟨⟨⟨d,f⟩,c⟩,g⟩,_⟩:=h;refine⟨i,z,a,b,f,by simp[j9,a],?_,g,by simp[lU,a,b],d⟩
   intro e;rw[e]at c;cases c
  .cases h
 .cases h
theorem Mq{t:TypeId}(h:eG P t=true){i:TypeInfo}(a:P.info? t=some i):i.bytes<=65536:=by
 unfold eG at h;rw[a]at h;simp only at h;split at h
 .simp only[ah,pc]at h;exact h.2
 .cases h
theorem rK(n:Nat):bH n/cB=n:=by
 show(n*cB+n % 4294967291) /cB=n;have a:n % 4294967291<cB:=oo (fk _ (by decide)) (by decide)
 rw[gv,rn R4,fl a,jr]
theorem mN(l8:L4 F K w)(hm:l5 F K H w m)(a:H nx=none){s n:Nat}{arr:Array Value}(e:TypeId)(b:s<=arr.size)(d:x7 H s n (arr.toList.take s)){x:Value}
  (f:∀hd:Hd,hd.base=some w.heap.size->hd.sz=arr.size->hd.len=0->u6 K (N9 H nx hd) v x):∃K' H',W8 F K H w m nx v [.c s (bH n)] [] x (w.alloc (.cells arr e)) K' H':=by
 let hd:Hd:=⟨some w.heap.size,arr.size,0,0⟩
 have g:n9 K (N9 H nx hd) (w.alloc (.cells arr e)) hd (.z5 (.c s (bH n))):=
  ⟨w.heap.size,arr,e,(0,0),rfl,L0 w _,rfl,b,by rw[rK];exact d.cP (M3 a)⟩
 have:=P4 l8 hm a arr e (.z5 (.c s (bH n))) hd rfl g .S6 (.bool false) (by simp[b9]) []
 exact⟨K,N9 H nx hd,this.le,this.hle,this.K8,f hd rfl rfl rfl,this.mem,this.ok,this.kept,this.fix⟩
theorem RA{hd:Hd}(hn:nx<1048576)(a:hd.base=some w.heap.size)(b:hd.len=0):u6 K (N9 H nx hd) (.c (bO nx 0)) (.pointer (some ⟨w.heap.size,0,none⟩)):=by
 have:=j6.ptr (H:=N9 H nx hd) nx 0 hd w.heap.size hn (by decide) (j8 _ _ _) a
 rw[b]at this;exact .inr (.inr this)
variable (l8:L4 F K w) (hm:l5 F K H w m) (n6:∀x,u6 K H (ev x) (ρ x)) (G2:∀i,i<new.length->H (nx+i)=none) (hn:nx<1048575)
include l8 hm n6 G2 hn
theorem a0C(o:Oper){e:TypeId}(c:o.op=.alloc e)(h:VO P e nx=.ok v new set rd):z8 P F K H w m nx v new set ((execOp ρ o).run P w):=by
 obtain⟨d,h⟩:=a8 h;cases h;obtain⟨i,z,f,g,j,k,_,_,l,n⟩:=jO d;have a:(execOp ρ o).run P w=.ok (.value (.pointer (some ⟨w.heap.size,0,none⟩))) (w.alloc (.cells z.cells e)):=by
  simp only[execOp,c];refine c8 ?_;simp only[Instr.alloc,au,dU f g,ak,newVar,mC];rfl
 rw[a];have b:j9 P e=z.cells.size:=by rw[k,<-j];simp
 refine mN l8 hm (G2 0 (by simp)) e (by omega) ?_ (fun hd p _ q=>RA (by omega) p q)
 rw[l,b,bj (by simp)]
 have:=mM (H:=H) _ n;simpa using this
theorem a6J(o:Oper){e:TypeId}{x:Operand}(b:o.op=.box e x)(h:C' (ev x) nx=.ok v new set rd):z8 P F K H w m nx v new set ((execOp ρ o).run P w):=by
 obtain⟨s,n,c,h⟩:=dV h;cases h;have a:=(n6 x).row c;simp only[execOp,b];rw[c8 (x:=.pointer (some ⟨w.heap.size,0,none⟩)) (w':=w.alloc (.cells (ρ x).cells e)) rfl];have g:(ρ x).cells.size=s:=by have:=a.2.1;simpa using this
 refine mN l8 hm (G2 0 (by simp)) e (by omega) ?_ (fun hd d _ f=>RA (by omega) d f)
 rw[bj (by simp;omega)]
 exact a
end
end Go.Abs
end
section
namespace Go.Abs
section
variable {P:Program} {F:Nat->Prop} {K:b8} {H:Nat->Option Hd} {w:World} {m:Mm} {nx:Nat} {v:BV} {new:List HO} {set:List (Nat×HO)} {rd:List Nat} {ev:Operand->BV} {ρ:Operand->Value}
theorem rL{t e:TypeId}(h:Hq P t=some e):P.underlying t=some (.slice e):=by
 unfold Hq at h;split at h
 .rename_i b a;cases h;exact a
 .cases h
theorem Fx{t:TypeId}(h:1<=J2 P t):∃e,Hq P t=some e/\P.underlying t=some (.slice e)/\J2 P t=j9 P e/\bA (vU P e)=j9 P e:=by
 unfold J2 at h ⊢;cases a:Hq P t with
 |none=>rw[a]at h;simp at h
 |some e=>
  rw[a]at h;have:=tR (P:=P) (t:=e) (by simp only at h;omega)
  exact⟨e,rfl,rL a,this.symm,this.symm⟩
theorem Fy{t:TypeId}(h:1<=Cc P t):∃e,P.underlying t=some (.array (Hj P t) e)/\Cc P t=j9 P e/\B' P t=vU P e:=by
 unfold Cc at h ⊢;unfold Hj B';cases a:arT P t with
 |none=>rw[a]at h;simp at h
 |some x=>
  rw[a]at h;have:=tR (P:=P) (t:=x.2) (by simp only at h;omega)
  refine⟨x.2,?_,this.symm,rfl⟩;unfold arT at a;split at a
  .rename_i n e b;cases a;exact b
  .cases a
theorem WJ{z a:Nat}(h:z<=a):∃j,a=z+j/\a- z=j:=⟨a- z,by omega,rfl⟩
theorem wH{x:BV}{y:Value}{k:Nat->l6}(a:u6 K H x y)(h:vI x k=.ok v new set rd):∃j ki,y=.int ki ((j:Nat):Int)/\k j=.ok v new set rd:=by
 obtain⟨c,rfl,d,e,b⟩:=Ck h;obtain⟨ki,_,a,_⟩:=a.int d;obtain⟨j,f,g⟩:=WJ e;rw[g]at b;have i:∀z:Nat,(((z+j:Nat):Int) - (z:Int))=(j:Int):=fun z=>by omega
 refine⟨j,ki,?_,b⟩;rw[a,f,i]
theorem WL{c:Nat}{x:Value}{k:Nat->l6}(a:u6 K H (.c c) x)(h:iV c k=.ok v new set rd):∃p l f,x=.slice p l f/\l<1048576/\k l=.ok v new set rd:=by
 unfold iV at h;rw[a9]at h;split at h
 .rename_i e;have e:=ab e;subst e;exact⟨none,0,0,(a.cell (by decide)).isNil.1 rfl,by decide,h⟩
 .obtain⟨d,h⟩:=a8 h;have g:j6 H c x:=a.cell (by rw[Z0]at d;omega)
  obtain⟨hd,b,o,cap,_,_,i,_,_,_,_,_,_,_,g2,_⟩:=g.vQ d;exact⟨_,_,_,i,g2,h⟩
theorem zA{n:Nat}(h:n<1048577):u6 K H (.c (G5 n)) (.int .i64 (n:Int)):=by
 have a:G5 n=N8 (G0 .i64) (cZ+n):=by
  show 128*n+1180591620717411303456=128*(9223372036854775808+n)+8*4;omega
 have b:Value.int .i64 (n:Int)=.int .i64 (((cZ+n:Nat):Int) - (cZ:Int)):=by
  congr 1;generalize cZ=z;omega
 rw[a,b];exact .inr (.inr (.int .i64 _ (by show 9223372036854775808+n<73786976294838206464;omega)))
variable (l8:L4 F K w) (hm:l5 F K H w m) (n6:∀x,u6 K H (ev x) (ρ x))
include l8 hm n6
theorem Mr(o:Oper){t:TypeId}{x y:Operand}(A:o.op=.indexAddr t x y)(h:nU P t (ev x) (ev y)=.ok v new set rd):z8 P F K H w m nx v new set ((execOp ρ o).run P w):=by
 obtain⟨c,L,h⟩:=x8 h;obtain⟨j,ki,B,h⟩:=wH (n6 y) h;have C:=L▸n6 x;rw[a9]at h;split at h
 .rename_i D;obtain⟨d,h⟩:=a8 h;obtain⟨f,h⟩:=a8 h;obtain⟨g,h⟩:=a8 h;obtain⟨rfl,rfl,rfl,rfl⟩:=bK h;have d:1<=J2 P t:=af d;have f:j+1<=sL c:=af f;have g:sO c+j*J2 P t<=1048575:=af g;obtain⟨e,_,l,n,_⟩:=Fx d;have p:j6 H c (ρ x):=C.cell (by rw[Z0]at D;omega)
  obtain⟨hd,b,o',cap,q,g2,r,E,G,I,T,U,M,N,_⟩:=p.vQ D;have s:o'=sO c+hd.len:=I.resolve_left (by omega)
  subst s;have O:=fS (P:=P) (w:=w) (t:=t) (e:=e) (a:=(j:Int)) (ki:=ki) (b:=b) (off:=sO c+hd.len) (len:=sL c) (cap:=cap) l (by omega) (ie _) (by rw[cu];omega)
  simp only[execOp,A,r,B];rw[c8 O,cu,<-n];refine r8 l8 hm (.inr (.inr ?_));have u:sO c+j*J2 P t<1048576:=by omega
  have k:Nat.add (sO c) (Nat.mul j (J2 P t))=sO c+j*J2 P t:=rfl;rw[k];exact .a2q M u q g2 (by omega)
 .obtain⟨J,h⟩:=a8 h;obtain⟨d,h⟩:=a8 h;obtain⟨f,h⟩:=a8 h;obtain⟨g,h⟩:=a8 h;obtain⟨rfl,rfl,rfl,rfl⟩:=bK h;have d:j+1<=Hj P t:=af d;have f:1<=Cc P t:=af f;have g:pO c+j*Cc P t<=1048575:=af g;obtain⟨e,l,n,_⟩:=Fy f;have p:j6 H c (ρ x):=C.cell (by rw[R9]at J;omega)
  obtain⟨hd,b,q,g2,r,E,G,I⟩:=p.gP J;obtain⟨i,R,z⟩:=L9 (P:=P) (t:=e) (by omega)
  have S:(j:Int)<(Hj P t:Int):=by omega
  simp only[execOp,A,r,B];rw[c8 (x:=.pointer (some ⟨b,pO c+hd.len+j*j9 P e,none⟩)) (w':=w) ?_]
  .refine r8 l8 hm (.inr (.inr ?_));rw[show Nat.add c (Nat.mul 8 (Nat.mul j (Cc P t)))=bO (pR c) (pO c+j*Cc P t)by rw[show Nat.mul j (Cc P t)=j*Cc P t from rfl,<-Rz,<-E],<-n]
   exact .a2q G (by omega) q g2 (by omega)
  .simp only[Instr.indexAt,au,asIntOf,bg,ak,u7 l,Instr.sureAddr];simp[S,M9 R,z,H7]
theorem a6K(o:Oper){c:Call}{x:Operand}{t:TypeId}(d:o.op=.call c)(f:c.callee=.builtin .len)(g:c.args.toList=[x])(i:c.argTypes.toList=[t])(h:L' P t (ev x)=.ok v new set rd):z8 P F K H w m nx v new set ((execOp ρ o).run P w):=by
 obtain⟨a,h⟩:=a8 h;obtain⟨e,j⟩:=dv.1 a;have k:=rL j;obtain⟨n,q,h⟩:=x8 h;obtain⟨p,l,u,r,g2,h⟩:=WL (q▸n6 x) h;obtain⟨rfl,rfl,rfl,rfl⟩:=bK h;have b:(execOp ρ o).run P w=.ok (.value (.int .i64 (l:Int))) w:=by
  rw[D8 o d f];have a:c.args.map ρ= #[ρ x]:=by
   apply db.1;simp[g]
  have s:c.argTypes= #[t]:=by
   apply db.1;simp[i]
  rw[a,s];simp only[builtin];refine c8 ?_;simp only[Builtin.len_,r];simp[u7 k,goInt]
 rw[b];exact r8 l8 hm (zA (by omega))
end
end Go.Abs
end
section
namespace Go.Abs
section
variable {P:Program} {F:Nat->Prop} {K:b8} {H:Nat->Option Hd} {w:World} {m:Mm} {nx:Nat} {v:BV} {new:List HO} {set:List (Nat×HO)} {rd:List Nat} {ev:Operand->BV} {ρ:Operand->Value}
theorem WM{k k':IntKind}{n a:Nat}(h:N8 (G0 k) n % 128=N8 (G0 k') a % 128):k=k':=by
 have c:=fD k;have d:=fD k';have e:(128*n+8*G0 k) % 128=(128*a+8*G0 k') % 128:=h;have b:G0 k=G0 k':=by omega
 revert b;cases k<;>cases k'<;>decide
theorem DF{k:IntKind}{n n':Nat}:N8 (G0 k) n<N8 (G0 k) n'↔n<n':=by
 show 128*n+8*G0 k<128*n'+8*G0 k↔n<n';omega
theorem Bl(n6:∀x,u6 K H (ev x) (ρ x))(a:IntKind):∀ (l:List Operand) (n:Nat),n<73786976294838206464->iX (fun y x=>Nat.ble (Nat.succ x) y) ev l (N8 (G0 a) n)=.ok v new set rd->
  ∃f,v=.c (N8 (G0 a) f)/\f<73786976294838206464/\new=[]/\set=[]/\rd=[]/\((l.map ρ).foldlM Builtin.max2 (.int a ((n:Nat) - (cZ:Int)))).run P w=.ok (.int a ((f:Nat) - (cZ:Int))) w
 |[],n,g,h=>by
  obtain⟨rfl,rfl,rfl,rfl⟩:=bK h;exact⟨n,rfl,g,rfl,rfl,rfl,by simp⟩
 |o::l,n,g,h=>by
  obtain⟨c,i,h⟩:=x8 h;obtain⟨d,h⟩:=a8 h;have d:=ab d;have j:pK c=true:=by
   rw[cD];have s:(128*n+8*G0 a) % 128=c % 128:=d;omega
  obtain⟨k',_,k,p,q⟩:=(i▸n6 o).int j;rw[p]at d h;have r:=WM d;subst r;generalize n8 c=n2 at*
  rw[a9]at h;simp only[az,pa,au,k,Builtin.max2,bg,ak];split at h
  .rename_i b;have b:N8 (G0 a) n<N8 (G0 a) n2:=af b;have b:=DF.1 b;have e:((n2:Nat):Int) - (cZ:Int)>(n:Int) - (cZ:Int):=by generalize cZ=z;omega
   rw[aj e];exact Bl n6 a l n2 q h
  .rename_i b;have b:¬N8 (G0 a) n<N8 (G0 a) n2:=fun hh=>b (dk hh)
   have b:¬n<n2:=fun hh=>b (DF.2 hh)
   have e:¬((n2:Nat):Int) - (cZ:Int)>(n:Int) - (cZ:Int):=by generalize cZ=z;omega
   rw[ai e];exact Bl n6 a l n g h
theorem Bm(n6:∀x,u6 K H (ev x) (ρ x))(a:IntKind):∀ (l:List Operand) (n:Nat),n<73786976294838206464->iX (fun y x=>Nat.ble (Nat.succ y) x) ev l (N8 (G0 a) n)=.ok v new set rd->
  ∃g,v=.c (N8 (G0 a) g)/\g<73786976294838206464/\new=[]/\set=[]/\rd=[]/\((l.map ρ).foldlM Builtin.min2 (.int a ((n:Nat) - (cZ:Int)))).run P w=.ok (.int a ((g:Nat) - (cZ:Int))) w
 |[],n,i,h=>by
  obtain⟨rfl,rfl,rfl,rfl⟩:=bK h;exact⟨n,rfl,i,rfl,rfl,rfl,by simp⟩
 |o::l,n,i,h=>by
  obtain⟨c,j,h⟩:=x8 h;obtain⟨f,h⟩:=a8 h;have f:=ab f;have k:pK c=true:=by
   rw[cD];have t:(128*n+8*G0 a) % 128=c % 128:=f;omega
  obtain⟨k',_,p,q,r⟩:=(j▸n6 o).int k;rw[q]at f h;have s:=WM f;subst s;generalize n8 c=d at*
  rw[a9]at h;simp only[az,pa,au,p,Builtin.min2,bg,ak];split at h
  .rename_i b;have b:N8 (G0 a) d<N8 (G0 a) n:=af b;have b:=DF.1 b;have e:((d:Nat):Int) - (cZ:Int)<(n:Int) - (cZ:Int):=by generalize cZ=z;omega
   rw[aj e];exact Bm n6 a l d r h
  .rename_i b;have b:¬N8 (G0 a) d<N8 (G0 a) n:=fun hh=>b (dk hh)
   have b:¬d<n:=fun hh=>b (DF.2 hh)
   have e:¬((d:Nat):Int) - (cZ:Int)<(n:Int) - (cZ:Int):=by generalize cZ=z;omega
   rw[ai e];exact Bm n6 a l n i h
variable (l8:L4 F K w) (hm:l5 F K H w m) (n6:∀x,u6 K H (ev x) (ρ x))
include l8 hm n6
theorem a6L(o:Oper){c:Call}(e:o.op=.call c)(f:c.callee=.builtin .max)(h:Cd (fun y x=>Nat.ble (Nat.succ x) y) ev c.args.toList=.ok v new set rd):z8 P F K H w m nx v new set ((execOp ρ o).run P w):=by
 unfold Cd at h;cases a:c.args.toList with
 |nil=>rw[a]at h;cases h
 |cons x r=>
  rw[a]at h;obtain⟨n,g,h⟩:=x8 h;obtain⟨i,h⟩:=a8 h;obtain⟨d,_,j,b,k⟩:=(g▸n6 x).int i;rw[b]at h;obtain⟨l,rfl,p,rfl,rfl,rfl,g2⟩:=Bl (P:=P) (w:=w) n6 d r _ k h;rw[D8 o e f];simp only[builtin];rw[c8 (w':=w) ?_]
  .exact r8 l8 hm (.inr (.inr (.int d l p)))
  .simp only[Builtin.max_,pb,a,az,j];exact g2
theorem a6M(o:Oper){c:Call}(e:o.op=.call c)(f:c.callee=.builtin .min)(h:Cd (fun y x=>Nat.ble (Nat.succ y) x) ev c.args.toList=.ok v new set rd):z8 P F K H w m nx v new set ((execOp ρ o).run P w):=by
 unfold Cd at h;cases a:c.args.toList with
 |nil=>rw[a]at h;cases h
 |cons x r=>
  rw[a]at h;obtain⟨n,g,h⟩:=x8 h;obtain⟨i,h⟩:=a8 h;obtain⟨d,_,j,b,k⟩:=(g▸n6 x).int i;rw[b]at h;obtain⟨l,rfl,p,rfl,rfl,rfl,g2⟩:=Bm (P:=P) (w:=w) n6 d r _ k h;rw[D8 o e f];simp only[builtin];rw[c8 (w':=w) ?_]
  .exact r8 l8 hm (.inr (.inr (.int d l p)))
  .simp only[Builtin.min_,pb,a,az,j];exact g2
theorem a6N(o:Oper){c:Call}{x:Operand}{t:TypeId}(s:o.op=.call c)(u:c.callee=.builtin .cap)(y:c.args.toList=[x])(z:c.argTypes.toList=[t])(h:O' P t (ev x)=.ok v new set rd):z8 P F K H w m nx v new set ((execOp ρ o).run P w):=by
 obtain⟨d,h⟩:=a8 h;obtain⟨e,A⟩:=dv.1 d;have B:=rL A;obtain⟨n,C,h⟩:=x8 h;have k:=C▸n6 x;have⟨l,p,q,D,g2,h⟩:∃l p q,ρ x=.slice p q l/\l<1048577/\lN (G5 l)=.ok v new set rd:=by
  rw[a9]at h;split at h
  .rename_i f;have f:=ab f;subst f;exact⟨0,_,_,(k.cell (by decide)).isNil.1 rfl,by decide,h⟩
  .obtain⟨a,h⟩:=a8 h;obtain⟨g,h⟩:=a8 h;have g:=ab g;have i:j6 H n (ρ x):=k.cell (by rw[Z0]at a;omega)
   obtain⟨hd,b,o',cap,_,_,r,_,E,_,_,_,_,_,q3,_⟩:=i.vQ a;rw[E g]at r;exact⟨_,_,_,r,by omega,h⟩
 obtain⟨rfl,rfl,rfl,rfl⟩:=bK h;have j:(execOp ρ o).run P w=.ok (.value (.int .i64 (l:Int))) w:=by
  rw[D8 o s u];have d:c.args.map ρ= #[ρ x]:=by
   apply db.1;simp[y]
  have a:c.argTypes= #[t]:=by
   apply db.1;simp[z]
  rw[d,a];simp only[builtin];refine c8 ?_;simp only[Builtin.cap_,D];simp[u7 B,goInt]
 rw[j];exact r8 l8 hm (zA g2)
end
end Go.Abs
end
section
namespace Go.Abs
section
variable {P:Program} {F:Nat->Prop} {K:b8} {H:Nat->Option Hd} {w:World} {m:Mm} {nx:Nat} {v:BV} {new:List HO} {set:List (Nat×HO)} {rd:List Nat} {ev:Operand->BV} {ρ:Operand->Value}
theorem a3W(P:Program)(t:TypeId):Cc P t=bA (B' P t):=by
 unfold Cc B';cases arT P t<;>rfl
def Bd(ρ:Operand->Value)(o:Option Operand)(d a:Nat):Prop:=match o with
 |none=>a=d
 |some x=>∃ki,ρ x=.int ki ((a:Nat):Int)
theorem Cv(n6:∀x,u6 K H (ev x) (ρ x)){o:Option Operand}{d:Nat}{k:Nat->l6}(h:oI ev o d k=.ok v new set rd):∃a,Bd ρ o d a/\k a=.ok v new set rd:=by
 cases o with
 |none=>exact⟨d,rfl,h⟩
 |some x=>
  obtain⟨j,ki,b,c⟩:=wH (n6 x) h;exact⟨j,⟨ki,b⟩,c⟩
theorem aQ{x:Operand}{ki:IntKind}{a n:Nat}{c:BoundsCode}(h:ρ x=.int ki (a:Int))(b:a<=n):(Instr.sliceBound (ρ x) n c).run P w=.ok a w:=by
 rw[h,Q6 (ie _) (by omega),cu]
theorem wI{lo e mx:Option Operand}{a b g len cap:Nat}{s:Bool}(c:Bd ρ lo 0 a)(d:Bd ρ e len b)(f:Bd ρ mx cap g)(hh:mx.isSome=true->e.isSome=true)(i:a<=b)(h:b<=g)(j:g<=cap):
  (Instr.sliceBounds s len cap (lo.map ρ) (e.map ρ) (mx.map ρ)).run P w=.ok (a,b,g) w:=by
 cases mx with
 |none=>
  cases f;cases e with
  |none=>
   cases d;cases lo with
   |none=>cases c;simp[Instr.sliceBounds]
   |some x=>obtain⟨k,c⟩:=c;simp[Instr.sliceBounds,aQ c i]
  |some y=>
   obtain⟨l,d⟩:=d;cases lo with
   |none=>cases c;simp[Instr.sliceBounds,aQ d h]
   |some x=>obtain⟨k,c⟩:=c;simp[Instr.sliceBounds,aQ c i,aQ d h]
 |some z=>
  obtain⟨k3,f⟩:=f;cases e with
  |none=>exact absurd (hh rfl) (by simp)
  |some y=>
   obtain⟨l,d⟩:=d;cases lo with
   |none=>cases c;simp[Instr.sliceBounds,aQ d h,aQ f j]
   |some x=>obtain⟨k,c⟩:=c;simp[Instr.sliceBounds,aQ c i,aQ d h,aQ f j]
variable (l8:L4 F K w) (hm:l5 F K H w m) (n6:∀x,u6 K H (ev x) (ρ x))
include l8 hm n6
theorem a0D(o:Oper){t:TypeId}{x i:Operand}(B:o.op=.index t x i)(h:qO P t (ev x) (ev i)=.ok v new set rd):z8 P F K H w m nx v new set ((execOp ρ o).run P w):=by
 have s:=n6 x;generalize ev x=X at h s;cases X with
 |a k n=>
  obtain⟨j,ki,C,h⟩:=wH (n6 i) (show vI (ev i) (fun j=>@Nat.rec (fun _=>l6) (.er 107 0) (fun b _=>nB (Nat.ble (Nat.succ j) (Hj P t)) 108 (nB (Nat.ble (Nat.mul (Nat.succ j) (bA (Nat.succ b))) k) 109 (nB (Nat.ble 1 (bA (Nat.succ b))) 110 (xI (uK b (iS n (Nat.mul j (bA (Nat.succ b))) (bA (Nat.succ b)))))))) (B' P t))=_ from h)
  cases d:B' P t with
  |zero=>rw[d]at h;exact l6.noConfusion (show l6.er 107 0=_ from h)
  |succ b=>
   rw[d]at h;obtain⟨y,h⟩:=a8 (show nB (Nat.ble (Nat.succ j) (Hj P t)) 108 (nB (Nat.ble (Nat.mul (Nat.succ j) (bA (Nat.succ b))) k) 109 (nB (Nat.ble 1 (bA (Nat.succ b))) 110 (xI (uK b (iS n (Nat.mul j (bA (Nat.succ b))) (bA (Nat.succ b)))))))=_ from h);obtain⟨f,h⟩:=a8 h;obtain⟨g,h⟩:=a8 h;cases h;have y:j+1<=Hj P t:=af y;have f:(j+1)*bA (b+1)<=k:=af f;have g:1<=bA (b+1):=af g;have p:Cc P t=bA (b+1):=by rw[a3W,d]
   obtain⟨e,D,A,q⟩:=Fy (by rw[p];exact g)
   obtain⟨cs,E,G⟩:=s;have I:j*bA (b+1)+bA (b+1)<=k:=by rw[bl,kj]at f;exact f
   obtain⟨a,J,g2⟩:=yZ (P:=P) (K:=K) (H:=H) (n:=n) (q.symm.trans d) I;obtain⟨z,L,M⟩:=xZ (P:=P) (w:=w) (oR (K:=K) G) J;obtain⟨N,O,r⟩:=L9 (P:=P) (t:=e) (by rw[<-A,p];omega)
   have R:(j:Int)<(Hj P t:Int):=by omega
   have S:j*j9 P e=j*bA (b+1):=by rw[<-A,p]
   simp only[execOp,B,E,C];rw[c8 (x:=z) (w':=w) ?_]
   .exact r8 l8 hm (g2 z M)
   .simp only[Instr.index,au,asIntOf,bg,ak,u7 D];rw[aj ⟨ie _,R⟩];simp only[au,M9 O,r,ak,cu,S,L]
 |c n=>exact l6.noConfusion (show l6.er 106 0=_ from h)
 |t l=>exact l6.noConfusion (show l6.er 111 0=_ from h)
 |u=>exact l6.noConfusion (show l6.er 112 0=_ from h)
end
end Go.Abs
end
section
namespace Go.Abs
section
variable {P:Program} {F:Nat->Prop} {K:b8} {H:Nat->Option Hd} {w:World} {m:Mm} {nx:Nat} {v:BV} {new:List HO} {set:List (Nat×HO)} {rd:List Nat} {ev:Operand->BV} {ρ:Operand->Value}
theorem RB{r o a b e Ay f n:Nat}{hd:Hd}{g o':Nat}(j:r<1048576)(k:o+a*Ay<1048576)(y:b<1048576)(l:Ay<256)(p:f<2)(q:H r=some hd)(s:hd.base=some g)
  (z:a<=b)(A:b<=e)(t:f=1->e=b)(i:e=0\/o'=o+hd.len)(B:o+e*Ay<=hd.sz)(u:n=b- a):
  u6 K H (.c (pJ r (o+a*Ay) n Ay f)) (.slice (if e=a then some ⟨g,o',none⟩else some (⟨g,o'+a*Ay,none⟩:Addr)) (b- a) (e- a)):=by
 subst u;refine .inr (.inr ?_);have C:o+a*Ay+(e- a)*Ay=o+e*Ay:=by
  obtain⟨d,rfl⟩:∃d,e=a+d:=⟨e- a,by omega⟩
  rw[gd,bl];omega
 split
 .rename_i h;exact .sl _ _ _ _ _ hd g o' (e- a) j k (by omega) l p q s (by omega) (fun h=>by have:=t h;omega) (.inl (by omega)) (by omega)
 .rename_i h;refine .sl _ _ _ _ _ hd g (o'+a*Ay) (e- a) j k (by omega) l p q s (by omega) (fun h=>by have:=t h;omega) ?_ (by omega)
  rcases i with i|i
  .omega
  .exact .inr (by rw[i];omega)
theorem mO{c:Nat}{k:Nat->l6}(h:iV c k=.ok v new set rd):(c=25/\k 0=.ok v new set rd)\/(Ln c=true/\k (sL c)=.ok v new set rd):=by
 unfold iV at h;rw[a9]at h;split at h
 .rename_i e;exact .inl ⟨ab e,h⟩
 .exact .inr (a8 h)
theorem a2t{mx a:Option Operand}(b:oN mx true (oN a false true)=true):mx.isSome=true->a.isSome=true:=by
 cases mx with
 |none=>simp
 |some z=>cases a with
  |none=>exact Bool.noConfusion (show false=true from b)
  |some z=>simp
variable (l8:L4 F K w) (hm:l5 F K H w m) (n6:∀x,u6 K H (ev x) (ρ x))
include l8 hm n6
theorem a0E(o:Oper){t:TypeId}{x:Operand}{lo hi mx:Option Operand}(R:o.op=.slice t x lo hi mx)(h:iW P t (ev x) lo hi mx ev (G9 m)=.ok v new set rd):z8 P F K H w m nx v new set ((execOp ρ o).run P w):=by
 obtain⟨c,ex,h⟩:=x8 h;have S:=ex▸n6 x;rw[a9]at h;split at h
 .rename_i hp;obtain⟨a,u,h⟩:=Cv n6 h;obtain⟨b,y,h⟩:=Cv n6 h;cases mx with
  |some z=>exact l6.noConfusion (show l6.er 124 0=_ from h)
  |none=>
   obtain⟨k,h⟩:=a8 h;obtain⟨d,h⟩:=a8 h;obtain⟨i,h⟩:=a8 h;obtain⟨l,h⟩:=a8 h;obtain⟨q,h⟩:=a8 h;obtain⟨B,h⟩:=a8 h;obtain⟨s,n,T,h⟩:=jN h;obtain⟨h7,h⟩:=a8 h;cases h;have k:a<=b:=af k;have d:b<=Hj P t:=af d;have i:1<=Cc P t:=af i;have l:Cc P t<=255:=af l;have q:Hj P t<=1048575:=af q;have B:pO c+a*Cc P t<=1048575:=af B;have h7:pO c+Hj P t*Cc P t<=s:=af h7;obtain⟨e,M,U,_⟩:=Fy i;have V:j6 H c (ρ x):=S.cell (by rw[R9]at hp;omega)
   obtain⟨hd,A,N,g2,X,g4,Y,C⟩:=V.gP hp;obtain⟨cs,et,Z,q2,q3,q4,_⟩:=eA hm T N g2;obtain⟨D,j,r⟩:=L9 (P:=P) (t:=e) (by omega)
   have E:=wI (P:=P) (w:=w) (s:=false) (mx:=none) u y (show Bd ρ none (Hj P t) (Hj P t)from rfl) (by simp) k d (aw _)
   simp only[execOp,R,X];rw[c8 (x:=.slice (if Hj P t=a then some ⟨A,pO c+hd.len,none⟩else some (⟨A,pO c+hd.len+a*Cc P t,none⟩:Addr)) (b- a) (Hj P t- a)) (w':=w) ?_]
   .refine r8 l8 hm ?_;refine RB Y (by omega) (by omega) (by omega) ?_ N g2 k d ?_ (.inr rfl) (by omega) rfl
    .rw[a9];split<;>decide
    .rw[a9];split
     .rename_i f;intro _;exact(ab f).symm
     .intro f;exact absurd f (by decide)
   .simp only[Instr.sliceAt,au,u7 M,ak,Instr.sureAddr,bg,E,M9 j,r,<-U,H7];split<;>rfl
 .obtain⟨k,k1⟩:=a8 h;clear h;have k:1<=J2 P t:=af k;obtain⟨e,_,M,U,_⟩:=Fx k;obtain⟨D,j,r⟩:=L9 (P:=P) (t:=e) (by omega)
  rcases mO k1 with⟨e0,G⟩|⟨O,G⟩
  .clear k1;obtain⟨a,u,k3⟩:=Cv n6 G;clear G;obtain⟨b,y,k4⟩:=Cv n6 k3;clear k3;obtain⟨m',I,J⟩:=Cv n6 k4;clear k4;obtain⟨h0,k6⟩:=a8 J;clear J;obtain⟨d,k7⟩:=a8 k6;clear k6;obtain⟨i,k8⟩:=a8 k7;clear k7;obtain⟨l,k9⟩:=a8 k8;clear k8;have d:a<=b:=af d;have i:b<=m':=af i;have l:m'<=0:=af l;rw[a9,aj (by rw[e0];rfl)]at k9
   obtain⟨r1,r2,r3,r4⟩:=bK k9;rw[r1,r2,r3];have hv:=(S.cell (by rw[e0];decide)).isNil.1 e0
   have ha0:a=0:=by omega
   have RC:b=0:=by omega
   have JQ:m'=0:=by omega
   rw[ha0]at u;rw[RC]at y;rw[JQ]at I;have E:=wI (P:=P) (w:=w) (s:=true) u y I (a2t h0) (aw _) (aw _) (aw _);have g:=tB (P:=P) (w:=w) M j none 0 0 _ _ _ _ _ _ E;simp only[execOp,R,hv];rw[c8 g];exact r8 l8 hm (.inr (.inr .Hm))
  .clear k1;obtain⟨a,u,k3⟩:=Cv n6 G;clear G;obtain⟨b,y,k4⟩:=Cv n6 k3;clear k3;obtain⟨m',I,J⟩:=Cv n6 k4;clear k4;obtain⟨h0,k6⟩:=a8 J;clear J;obtain⟨d,k7⟩:=a8 k6;clear k6;obtain⟨i,k8⟩:=a8 k7;clear k7;obtain⟨l,k9⟩:=a8 k8;clear k8;have d:a<=b:=af d;have i:b<=m':=af i;have l:m'<=sL c:=af l;have hn:¬(Nat.beq c 25=true):=by
    intro f;rw[ab f]at O;exact absurd O (by decide)
   rw[a9,ai hn]at k9;obtain⟨q,k10⟩:=a8 k9;obtain⟨B,k11⟩:=a8 k10;obtain⟨r1,r2,r3,r4⟩:=bK k11;rw[r1,r2,r3];have q:sE c=J2 P t:=ab q;have B:sO c+a*J2 P t<=1048575:=af B;have V:j6 H c (ρ x):=S.cell (by rw[Z0]at O;omega)
   obtain⟨hd,A,o',cap,N,g2,X,g4,Y,C,g7,g8,g9,g10,g11,g12,g13⟩:=V.vQ O;obtain⟨p,bm',e1,e3,e4⟩:∃p,Bd ρ mx cap p/\m'<=p/\p<=cap/\(mx=none/\p=cap/\m'=sL c\/mx≠none/\p=m'):=by
    cases mx with
    |none=>cases I;exact⟨cap,rfl,g4,aw _,.inl ⟨rfl,rfl,rfl⟩⟩
    |some z=>exact⟨m',I,aw _,by omega,.inr ⟨by simp,rfl⟩⟩
   have E:=wI (P:=P) (w:=w) (s:=true) u y bm' (a2t h0) d (by omega) e3
   have g:=tB (P:=P) (w:=w) M j (some ⟨A,o',none⟩) (sL c) cap _ _ _ _ _ _ E;simp only[execOp,R,X];rw[c8 g];refine r8 l8 hm ?_;have e5:Option.map (fun x:Addr=>x.add (a*D.size)) (some (⟨A,o',none⟩:Addr))=some (⟨A,o'+a*J2 P t,none⟩:Addr):=by
    rw[da,H7,r,<-U]
   rw[e5];have hsz:sO c+p*J2 P t<=hd.sz:=by
    have:p*J2 P t<=cap*J2 P t:=ay _ e3;rw[q]at g7;omega
   refine RB g9 (by omega) (by omega) (by rw[<-q];exact g12) ?_ N g2 d (by omega) ?_ ?_ hsz rfl
   .rw[a9];split
    .cases mx with
     |none=>exact g13
     |some z=>show 1<2;decide
    .decide
   .intro f;rw[a9]at f;split at f
    .rename_i L;have L:=ab L;rcases e4 with⟨Z,q2,q3⟩|⟨Z,q2⟩
     .rw[Z]at f;have:=Y f;omega
     .omega
    .exact absurd f (by decide)
   .rcases C with C|C
    .exact .inl (by omega)
    .exact .inr C
end
end Go.Abs
end
section
namespace Go.Abs
section
variable {P:Program} {F:Nat->Prop} {K:b8} {H:Nat->Option Hd} {w:World} {m:Mm} {nx:Nat} {v:BV} {new:List HO} {set:List (Nat×HO)} {rd:List Nat} {ev:Operand->BV} {ρ:Operand->Value}
theorem Bn(n6:∀x,u6 K H (ev x) (ρ x)){t:TypeId}{s:Nat}{place:Nat->Option (Nat×Nat)}(A:j9 P t=s)(B:∀f o,HV P t f=o+1->place f=some (o,bA (OD P t f))){k:Nat->l6}:
  ∀ (ps:List (Nat×Operand)) (n:Nat) (cs:Array Value),x7 H s n cs.toList->dN P t ev ps n k=.ok v new set rd->
  ∃c a,Instr.fill place cs (ps.map fun u=>(u.1,ρ u.2))=some a/\x7 H s c a.toList/\k c=.ok v new set rd
 |[],n,cs,j,h=>⟨n,cs,rfl,j,h⟩
 |(i,x)::ps,n,cs,j,h=>by
  cases p:HV P t i with
  |zero=>exact absurd (show(@Nat.rec (fun _=>l6) (.er 62 0) (fun o _=>vR (ev x) fun s x=>nB (Nat.beq s (bA (OD P t i))) 63 (nB (Nat.ble (Nat.add o s) (j9 P t)) 157 (fN (vT n o s x) fun c=>dN P t ev ps c k))) (HV P t i))=_ from h) (by rw[p];exact l6.noConfusion)
  |succ off=>
   have h:=(show(@Nat.rec (fun _=>l6) (.er 62 0) (fun o _=>vR (ev x) fun s x=>nB (Nat.beq s (bA (OD P t i))) 63 (nB (Nat.ble (Nat.add o s) (j9 P t)) 157 (fN (vT n o s x) fun c=>dN P t ev ps c k))) (HV P t i))=_ from h)
   rw[p]at h;obtain⟨q,y,E,G⟩:=dV h;obtain⟨d,I⟩:=a8 G;obtain⟨l,C⟩:=a8 I;rw[B6]at C;have d:=ab d;have J:=B i off p;have l:off+q<=j9 P t:=af l;rw[A]at l;have N:off+bA (OD P t i)<=s:=by rw[<-d];exact l
   have D:=(n6 x).row E;have g:=D.2.1;have r:=j.2.1;simp only[bp]at g r;have b:off+(ρ x).cells.toList.length<=cs.size:=by rw[bp,g,d];omega
   have z:x7 H s (vT n off q y) (H8 cs off (ρ x).cells.toList).toList:=by
    rw[I9 cs _ _ b];have e:off+(ρ x).cells.toList.length=off+q:=by rw[bp,g]
    rw[e];exact Fs j D (by omega)
   obtain⟨c,a,L,g2,M⟩:=Bn n6 A B ps _ _ z C;refine⟨c,a,?_,g2,M⟩;simp only[az,Instr.fill,J];rw[ai ?_]
   .rw[gY];exact L
   .simp only[gp,bt,ke];refine⟨by rw[g,d];simp,by rw[g,d];omega⟩
variable (l8:L4 F K w) (hm:l5 F K H w m) (n6:∀x,u6 K H (ev x) (ρ x))
include l8 hm n6
theorem a0F(o:Oper){t:TypeId}{ps:Array (Nat×Operand)}(N:o.op=.build t ps)(h:En P t ps.toList ev=.ok v new set rd):z8 P F K H w m nx v new set ((execOp ρ o).run P w):=by
 obtain⟨O,I⟩:=a8 h;obtain⟨g,J⟩:=a8 I;clear h I;obtain⟨R,z,L,g2,S,T,Y,Z,U,V⟩:=jO O;have j:x7 H (j9 P t) (lU P t) z.cells.toList:=by
  have:=mM (H:=H) z.cells.toList V;rw[S,<-T,<-U]at this;exact this
 have key:∃n b,P.built t (ps.map fun(i,x)=>(i,ρ x)).toList=some b/\x7 H (j9 P t) n b.toList/\xI (.a (j9 P t) n)=.ok v new set rd:=by
  unfold JD at g;split at g
  .rename_i u k;have d:∀f∈u.toList,∃i,P.info? f.type=some i:=by
    intro f l;exact dv.1 (fu.1 g f l)
   obtain⟨y,b,p,q,q3⟩:=Bn n6 (s:=j9 P t) rfl (place:=fun i=>((u.toList.map fun f=>(f.offset,j9 P f.type)).toArray)[i]?) (by
    intro f off l;obtain⟨A,B,c,C,D,hz,E⟩:=DE l;rw[k]at c;cases c;have X:bA (vU P B.type)=j9 P B.type:=(tR (by omega)).symm
    simp[C,D,E,X]) ps.toList _ z.cells j J
   refine⟨y,b,?_,q,q3⟩;unfold Program.built;rw[L,k];simp only[g2,kO u.toList d];rw[<-p];congr 1;simp
  .rename_i n e k;obtain⟨M,G⟩:=dv.1 g;obtain⟨y,b,p,q,q3⟩:=Bn n6 (s:=j9 P t) rfl (place:=fun i=>some (i*M.size,M.size)) (by
    intro f off l;obtain⟨A,B,c,_⟩:=DE l;rw[k]at c
    cases c) ps.toList _ z.cells j J
   refine⟨y,b,?_,q,q3⟩;unfold Program.built;rw[L,k];simp only[g2,G];rw[<-p];congr 1;simp
  .cases g
 obtain⟨n,b,p,q,q3⟩:=key;cases q3;have r:=sw w t (ps.map fun(i,x)=>(i,ρ x)) b p
 simp only[execOp,N];rw[c8 r];exact r8 l8 hm ⟨b,rfl,q⟩
end
end Go.Abs
end
section
namespace Go.Abs
section
variable {P:Program} {F:Nat->Prop} {K:b8} {H:Nat->Option Hd} {w:World} {m:Mm} {nx:Nat} {v:BV} {new:List HO} {set:List (Nat×HO)} {rd:List Nat} {ev:Operand->BV} {ρ:Operand->Value}
theorem DG{s k x n:Nat}{d vs:List Value}(a:x7 H s x d)(c:x7 H k n vs):x7 H (s+k) (x+n*cB^s) (d++vs):=by
 refine⟨JM a.1 c.1,by rw[bu,a.2.1,c.2.1],fun i y b=>?_⟩
 rw[EB a.1];split
 .rename_i e;rw[bc (by rw[a.2.1];exact e)]at b
  exact a.2.2 i y b
 .rename_i e;rw[bd (by rw[a.2.1];omega),a.2.1]at b
  exact c.2.2 _ y b
theorem Bo(d:∀x,u6 K H (ev x) (ρ x)){sz:Nat}:∀ (ps:List (Nat×Operand)) (i:Nat) (cs:Array Value) (k:Nat->l6),(i+ps.length)*sz=cs.size->nS ev sz ps i k=.ok v new set rd->
  ∃n a rest,Instr.fill (fun i=>some (i*sz,sz)) cs (ps.map fun u=>(u.1,ρ u.2))=some a/\a.toList=cs.toList.take (i*sz)++rest/\x7 H (ps.length*sz) n rest/\k n=.ok v new set rd
 |[],i,cs,k,p,h=>by
  refine⟨0,cs,[],rfl,?_,⟨by simp,by simp,fun i x f=>by simp at f⟩,h⟩
  rw[bf,bj];rw[bp,<-p];simp
 |(j,x)::ps,i,cs,k,p,h=>by
  obtain⟨r,B⟩:=a8 (show nB (Nat.beq j i) 66 (vR (ev x) fun s x=>nB (Nat.beq s sz) 67 (nS ev sz ps (Nat.succ i) fun n=>k (Nat.add x (Nat.mul (Nat.pow cB sz) n))))=_ from h)
  obtain⟨q,y,C,D⟩:=dV B;obtain⟨t,k3⟩:=a8 D;have r:=ab r;have t:=ab t;have f:=(d x).row C;rw[t]at f;have z:=f.2.1;have A:i*sz+sz+ps.length*sz=cs.size:=by
   rw[<-p,bq,bl,bl,kj];omega
  have b:i*sz+(ρ x).cells.toList.length<=cs.size:=by omega
  have g:=I9 cs (i*sz) _ b;have l:(i+1)*sz=i*sz+sz:=by rw[bl,kj]
  obtain⟨n,a,rest,E,g2,G,I⟩:=Bo d ps (i+1) (H8 cs (i*sz) (ρ x).cells.toList) _ (by rw[M7,bl,l];exact A) k3
  refine⟨_,a,(ρ x).cells.toList++rest,?_,?_,?_,I⟩
  .have c:=z;simp only[bp]at c;simp only[az,Instr.fill,r];rw[ai ?_]
   .rw[gY];exact E
   .simp only[gp,bt,ke];refine⟨by rw[c];simp,by rw[c];omega⟩
  .rw[g2,g,l,<-bk];congr 1;have o:(cs.toList.take (i*sz)).length=i*sz:=by rw[fw,bp];omega
   rw[cn (by rw[bu,o,z];omega),bj (by rw[bu,o,z];omega)]
  .have:=DG f G;have e:y+n*cB^sz=Nat.add y (Nat.mul (Nat.pow cB sz) n):=by rw[gv];rfl
   rw[<-e,bq,bl,kj,ez];exact this
end
end Go.Abs
end
section
namespace Go.Abs
section
variable {P:Program} {F:Nat->Prop} {K:b8} {H:Nat->Option Hd} {w:World} {m:Mm} {nx:Nat} {v:BV} {new:List HO} {set:List (Nat×HO)} {rd:List Nat} {ev:Operand->BV} {ρ:Operand->Value}
theorem Bp{len b n a:Nat}(h:OE nx len b n a=.ok v new set rd):len<=1048575/\b<=255/\1<=b/\len*b<=16777216/\v=.c (pJ nx 0 len b a)/\new=[.c (len*b) (bH n)]/\set=[]/\rd=[]:=by
 obtain⟨d,e⟩:=a8 h;obtain⟨f,g⟩:=a8 e;obtain⟨j,k3⟩:=a8 g;obtain⟨k,k4⟩:=a8 k3;cases k4;exact⟨af d,af f,af j,af k,rfl,rfl,rfl,rfl⟩
theorem WN{hd:Hd}{len a:Nat}(hn:nx<1048576)(e:len<=1048575)(f:a<=255)(b:hd.base=some w.heap.size)(g:hd.sz=len*a)(d:hd.len=0):u6 K (N9 H nx hd) (.c (pJ nx 0 len a 1)) (.slice (some ⟨w.heap.size,0,none⟩) len len):=
 .inr (.inr (.sl nx 0 len a 1 hd w.heap.size 0 len hn (by decide) (by omega) (by omega) (by decide) (j8 _ _ _) b (aw _) (fun _=>rfl) (.inr (by rw[d])) (by omega)))
variable (l8:L4 F K w) (hm:l5 F K H w m) (n6:∀x,u6 K H (ev x) (ρ x)) (G2:∀i,i<new.length->H (nx+i)=none) (hn:nx<1048575)
include l8 hm n6 G2 hn
theorem JZ(o:Oper){t:TypeId}{n:Nat}{ps:Array (Nat×Operand)}(s:o.op=.buildSlice t n ps)(h:qN P t n ps.toList ev nx=.ok v new set rd):z8 P F K H w m nx v new set ((execOp ρ o).run P w):=by
 obtain⟨f,u⟩:=a8 h;obtain⟨b,k⟩:=a8 u;have f:=ab f;cases g:Hq P t with
 |none=>rw[g]at b;exact Bool.noConfusion (show false=true from b)
 |some e=>
  rw[g]at b;have b:eG P e=true:=b;have y:=rL g;obtain⟨i,z,r,A,R,B,S,_,_,_⟩:=jO b;have C:1<=J2 P t:=by
   obtain⟨_,_,_,_,_,_,q⟩:=Bo n6 ps.toList 0 (Array.replicate (ps.toList.length*J2 P t) (Value.bool false)) _ (by simp) k
   exact(Bp q).2.2.1
  have l:J2 P t=i.size:=by
   have D:J2 P t=bA (vU P e):=by unfold J2;rw[g]
   rw[D]at C ⊢;rw[<-tR (by omega),B]
  rw[l]at k;obtain⟨N,DV,rest,E,p,q3,q4⟩:=Bo n6 ps.toList 0 ((Array.range (n*i.size)).map fun j=>(if n*i.size=0 then #[]else z.cells)[j % (if n*i.size=0 then #[]else z.cells).size]!) _ (by simp[<-f]) k
  obtain⟨G,I,T,U,rfl,rfl,rfl,rfl⟩:=Bp q4;simp only[lh,List.take_zero,gq]at p;rw[f]at q3;have a:Instr.fill (fun j=>some (j*i.size,i.size)) ((Array.range (n*i.size)).map fun j=>(if n*i.size=0 then #[]else z.cells)[j % (if n*i.size=0 then #[]else z.cells).size]!) (ps.map fun(j,x)=>(j,ρ x)).toList=some DV:=by
   rw[<-E];congr 1;simp
  have c:(Instr.buildSlice t n (ps.map fun(j,x)=>(j,ρ x))).run P w=.ok (.slice (some ⟨w.heap.size,0,none⟩) n n) (w.alloc (.cells DV e)):=by
   simp only[Instr.buildSlice,au,u7 y,ak,M9 r];rw[ai (by omega)]
   by_cases d:n*i.size=0
   .simp only[d,di]at a ⊢;simp only[au,bg,ak,a,mC]
   .simp only[d,dw]at a ⊢;simp only[au,dU r A,bg,ak,a,mC]
  simp only[execOp,s];rw[c8 c];have J:DV.size=n*i.size:=by rw[<-bp,p,q3.2.1]
  refine mN l8 hm (G2 0 (by simp)) e (by omega) ?_ (fun hd L M O=>WN (by omega) G I L (by rw[M,J]) O)
  rw[bj (by rw[bp];omega),p]
  exact q3
end
end Go.Abs
end
section
namespace Go.Abs
section
variable {P:Program} {F:Nat->Prop} {K:b8} {H:Nat->Option Hd} {w:World} {m:Mm} {nx:Nat} {v:BV} {new:List HO} {set:List (Nat×HO)} {rd:List Nat} {ev:Operand->BV} {ρ:Operand->Value}
theorem zB{z s:Nat}{vs:List Value}(h:x7 H s z vs):∀n:Nat,x7 H (n*s) (Lr z s n) (List.replicate n vs).flatten
 |0=>⟨by show 0<cB^ (0*s);exact oa R4,by simp,fun i x a=>by simp at a⟩
 |n+1=>by
  have b:=zB h n;have e:Lr z s (n+1)=z+Lr z s n*cB^s:=by
   show z+cB^s*Lr z s n=_;rw[gv]
  rw[e,nk,gb,bl,kj,ez (n*s)];exact DG h b
theorem Fz{t:TypeId}(h:(@Option.rec TypeId (fun _=>Bool) false (fun e=>eG P e) (Hq P t))=true)(f:1<=J2 P t):∃e i z,Hq P t=some e/\P.underlying t=some (.slice e)/\P.info? e=some i/\i.zero=some z/\i.bytes<=65536/\
  i.size=J2 P t/\z.cells.size=J2 P t/\(∀H,x7 H (J2 P t) (lU P e) z.cells.toList):=by
 cases a:Hq P t with
 |none=>rw[a]at h;exact Bool.noConfusion (show false=true from h)
 |some e=>
  rw[a]at h;have h:eG P e=true:=h;obtain⟨i,z,c,g,d,g2,n,o,j,k⟩:=jO h;have b:J2 P t=i.size:=by
   have l:J2 P t=bA (vU P e):=by unfold J2;rw[a]
   rw[l]at f ⊢;rw[<-tR (by omega),g2]
  refine⟨e,i,z,rfl,rL a,c,g,Mq h c,b.symm,by rw[b,<-d];simp,fun H=>?_⟩
  rw[b,<-d,j];exact mM _ k
theorem Ij(z:Array Value)(n s:Nat)(b:z.size=s)(d:1<=s):(madeCells z (n*s)).toList=(List.replicate n z.toList).flatten:=by
 apply cq;intro j;by_cases c:j<n*s
 .have a:j % s<s:=fk _ d;rw[jB z.toList s (by simpa using b) n j c]
  have e:j % z.size<z.size:=by rw[b];exact a
  simp[madeCells,c,b,py z (j % s) (by omega)]
 .rw[an (by simp[qb];omega),an]
  have:((List.replicate n z.toList).flatten).length=n*s:=by simp[b]
  omega
variable (l8:L4 F K w) (hm:l5 F K H w m) (n6:∀x,u6 K H (ev x) (ρ x)) (G2:∀i,i<new.length->H (nx+i)=none) (hn:nx<1048575)
include l8 hm n6 G2 hn
theorem Ms{R:z0}(o:Oper){t:TypeId}{l c:Operand}(y:o.op=.makeSlice t l c)(h:sX t l c P R ev nx (G9 m)=.ok v new set rd):z8 P F K H w m nx v new set ((execOp ρ o).run P w):=by
 unfold sX at h;cases g:Hq P t with
 |none=>rw[g]at h;exact l6.noConfusion (show l6.er 207 0=_ from h)
 |some e=>
  rw[g]at h;obtain⟨r,A⟩:=a8 h;obtain⟨n,ki,B,C⟩:=wH (n6 l) A;obtain⟨S,j,D,k3⟩:=wH (n6 c) C;obtain⟨k,k4⟩:=a8 k3;have k:=ab k;subst k;rw[B6]at k4;obtain⟨E,G,s,T,rfl,rfl,rfl,rfl⟩:=Bp k4;obtain⟨U,i,z,a,I,J,L,u,M,p,b⟩:=Fz (P:=P) (t:=t) (by rw[g];exact r) s
  rw[g]at a;cases a;have d:(i.bytes:Int)*(n:Int)<=281474976710656:=by
   have r:(i.bytes:Int)*(n:Int)<=65536*(n:Int):=kz (by omega) (by omega)
   omega
  have f:=run_make (P:=P) w t e i z I J L ki j n n (by omega) (sy _) d (by omega)
  simp only[execOp,y,B,D];rw[c8 f];simp only[cu,M];have q:(madeCells z.cells (n*J2 P t)).size=n*J2 P t:=qb _ _;refine mN l8 hm (G2 0 (by simp)) e (by omega) ?_ (fun hd u N O=>WN (by omega) E G u (by rw[N,q]) O)
  rw[bj (by rw[bp];omega),Ij _ _ _ p s]
  exact zB (b H) n
end
end Go.Abs
end
section
namespace Go.Abs
section
variable {P:Program} {F:Nat->Prop} {K:b8} {H:Nat->Option Hd} {w:World} {m:Mm} {nx:Nat} {v:BV} {new:List HO} {set:List (Nat×HO)} {rd:List Nat} {ev:Operand->BV} {ρ:Operand->Value}
structure a3X(P:Program)(w:World)(t u:TypeId)(e:TypeId)(i:TypeInfo)(z:Value)(y:Value)(n:Nat)(news:List Value):Prop where
 zero:n=0->∀ty b sl sc,sl<=sc->(Builtin.append_ #[t,u] ty #[.slice b sl sc,y]).run P w=.ok (.slice b sl sc) w
 room:∀ty g o sl sc cur eb,w.heap[g]? =some (.cells cur eb (0,0))->sl+n<=sc->o+sl*i.size+news.length<=cur.size->∃w',(Builtin.append_ #[t,u] ty #[.slice (some ⟨g,o,none⟩) sl sc,y]).run P w=.ok (.slice (some ⟨g,o,none⟩) (sl+n) sc) w'/\Jo w w' g (H8 cur (o+sl*i.size) news) eb
 nil:0<n->∀ty,(Builtin.append_ #[t,u] ty #[.slice none 0 0,y]).run P w=.ok (.slice (some ⟨w.heap.size,0,none⟩) n (grownCap w n 0 e)) (w.drew.alloc (.cells (news.toArray++Builtin.zeroCells z.cells (grownCap w n 0 e- n)) e))
 grow:∀ty b sl sc (olds:List Value),olds.length=sl*i.size->(∀j v,olds[j]? =some v->w.cell? (b.add j)=some v)->sc<sl+n->sl+n<=1048576->(Builtin.append_ #[t,u] ty #[.slice (some b) sl sc,y]).run P w=
  .ok (.slice (some ⟨w.heap.size,0,none⟩) (sl+n) (grownCap w (sl+n) sc e)) (w.drew.alloc (.cells (olds.toArray++news.toArray++Builtin.zeroCells z.cells (grownCap w (sl+n) sc e- (sl+n))) e))
theorem FA{t e:TypeId}{i:TypeInfo}{z:Value}(hu:P.underlying t=some (.slice e))(hi:P.info? e=some i)(hz:i.zero=some z)(hb:i.bytes<=65536){a:Option Addr}{n c:Nat}{news:List Value}(hn:n<=1048576)
  (hl:news.length=n*i.size)(ha:0<n->∃b,a=some b/\∀j v,news[j]? =some v->w.cell? (b.add j)=some v)(h1:∀v∈news,one v=true):a3X P w t t e i z (.slice a n c) n news where
 zero:=fun e0 ty b sl sc h=>by subst e0;exact fT (P:=P) (w:=w) (ty:=ty) hu hi b a sl sc c h
 room:=fun ty g o sl sc cur eb hh h2 h3=>by
  rcases jd n with h0|h0
  .subst h0;refine⟨w,fT (P:=P) (w:=w) (ty:=ty) hu hi _ a sl sc c (by omega),?_⟩
   have:news=[]:=bw (by omega)
   subst this;exact Jo.refl hh
  .obtain⟨b,rfl,hc⟩:=ha h0;have hf:=ko (P:=P) w i.size n b n c news hl hc;obtain⟨w',h4,h5⟩:=Abs.J9 P g (o+sl*i.size) eb news w cur 0 hh (by omega) h1
   refine⟨w',?_,by simpa using h5⟩
   have b0d:(⟨g,o,none⟩:Addr).add (sl*i.size)=⟨g,o+sl*i.size,none⟩:=by rw[H7]
   simp only[Builtin.append_];simp[u7 hu,M9 hi,Builtin.lenOf,h2,hf,b0d,h4]
 nil:=fun h0 ty=>by
  obtain⟨b,rfl,hc⟩:=ha h0;have:n*i.bytes<=1048576*65536:=gm hn hb;exact qd (P:=P) w t ty e i z hu hi hz b n c news hl hc h0 (by omega) (by omega)
 grow:=fun ty b sl sc olds h2 h3 h4 h5=>by
  rcases jd n with h0|h0
  .subst h0;have:news=[]:=bw (by omega)
   subst this;have hf:∀w,(Builtin.firstCells i.size 0 (.slice a 0 c)).run P w=.ok #[] w:=by
    intro w;cases a<;>simp[Builtin.firstCells,loadCells,loadCellsFrom]
   have hfo:=ko (P:=P) w.drew i.size sl b sl sc olds h2 (by simpa using h3)
   have hmul:sl*i.bytes<=1048576*65536:=gm (by omega) hb
   have a6O:=oh (need:=sl) (old:=sc) (bytes:=i.bytes) (by omega) (by omega)
   have n1:¬(sl<=sc):=by omega
   have n2:¬(9223372036854775807<(sl:Int)):=by omega
   have n3:¬(281474976710656<Builtin.nextslicecap sl sc*i.bytes):=by omega
   simp only[Builtin.append_,jr];simp[u7 hu,sizeOf,typeInfo,zeroValue,hi,hz,Builtin.lenOf,n1,n2,n3,Question.forced,hf,hfo,newRow,grownCap]
  .obtain⟨a',rfl,hc⟩:=ha h0;have hmul:(sl+n)*i.bytes<=1048576*65536:=gm (by omega) hb
   have a6O:=oh (need:=sl+n) (old:=sc) (bytes:=i.bytes) (by omega) (by omega)
   exact rk (P:=P) w t ty e i z hu hi hz b sl sc olds h2 h3 a' n c news hl hc h4 (by omega) a6O
theorem rM(z:Array Value)(n:Nat)(a:1<=z.size):(Builtin.zeroCells z n).toList=(List.replicate n z.toList).flatten:=by
 have:=Ij z n z.size rfl a;rw[<-this];rfl
theorem Po{t u e:TypeId}{i:TypeInfo}{z:Value}{ku kx:IntKind}(q:P.underlying t=some (.slice e))(k:P.underlying u=some (.int ku))(f:P.info? e=some i)(D:i.zero=some z)(S:i.bytes<=65536)(E:z.cells.size=i.size)(hs:1<=i.size){n:Nat}(hn:n<=1048576)
  (h1:∀v∈z.cells.toList,one v=true):a3X P w t u e i z (.int kx (n:Int)) n (List.replicate n z.cells.toList).flatten:=by
 have G:IntKind.i64.wrap (n:Int)=(n:Int):=by rw[pd];omega
 have I:¬((n:Int)<0):=by omega
 have J:n*i.bytes<=1048576*65536:=gm hn S;have L:¬(281474976710656<(n:Int)*(i.bytes:Int)):=by
  have:((n*i.bytes:Nat):Int)<=1048576*65536:=by omega
  rw[mc]at this;omega
 have d:=rM z.cells n (by omega)
 have T:(List.replicate n z.cells.toList).flatten.length=n*i.size:=by simp[E]
 have r:∀v∈(List.replicate n z.cells.toList).flatten,one v=true:=by
  intro v M;obtain⟨l,U,M⟩:=qp.1 M;rw[List.mem_replicate]at U;exact h1 v (U.2▸M)
 have N:i.size≠0:=by omega
 have s:n=0->∀ty b a j,a<=j->(Builtin.append_ #[t,u] ty #[.slice b a j,.int kx (n:Int)]).run P w=.ok (.slice b a j) w:=by
  intro e0 ty b a j h;subst e0;have p:IntKind.i64.wrap 0=0:=by decide
  simp only[Builtin.append_];cases b<;>simp[u7 q,u7 k,M9 f,wB f,asInt,asIntOf,p,h,storeCells]
 refine⟨s,?_,?_,?_⟩
 .intro ty g o a j O eb hh R V;rcases jd n with c|c
  .refine⟨w,?_,?_⟩
   .rw[s c ty _ a j (by omega),c,jr]
   .subst c;exact Jo.refl hh
  .have c:n≠0:=by omega
   obtain⟨w',X,Y⟩:=Abs.J9 P g (o+a*i.size) eb _ w O 0 hh (by omega) r
   refine⟨w',?_,by simpa using Y⟩
   have x:(⟨g,o,none⟩:Addr).add (a*i.size)=⟨g,o+a*i.size,none⟩:=by rw[H7]
   simp only[Builtin.append_];simp[u7 q,u7 k,M9 f,wB f,asInt,asIntOf,G,I,L,R,rp c N,dU f D,x,d,X]
 .intro h0 ty;have c:n≠0:=by omega
  have y:¬(9223372036854775807<(n:Int)):=by omega
  have A:¬(281474976710656<Builtin.nextslicecap n 0*i.bytes):=by rw[nextslicecap_zero h0];omega
  simp only[Builtin.append_];simp[u7 q,u7 k,M9 f,wB f,asInt,asIntOf,G,I,L,c,rp c N,y,A,Question.forced,run_firstCells_none,dU f D,newRow,grownCap,<-d]
 .intro ty b a j olds R V X Y;have Z:(a+n)*i.bytes<=1048576*65536:=gm (by omega) S
  have B:=oh (need:=a+n) (old:=j) (bytes:=i.bytes) (by omega) (by omega)
  have y:¬(9223372036854775807<(a:Int)+(n:Int)):=by omega
  have C:=ko (P:=P) w.drew i.size a b a j olds R (by simpa using V)
  rcases jd n with c|c
  .subst c;have c:¬(a<=j):=by omega
   have y:¬(9223372036854775807<(a:Int)):=by omega
   have A:¬(281474976710656<Builtin.nextslicecap a j*i.bytes):=by simpa using B
   have p:IntKind.i64.wrap 0=0:=by decide
   simp only[Builtin.append_];simp[u7 q,u7 k,M9 f,wB f,asInt,asIntOf,p,c,y,A,Question.forced,C,dU f D,newRow,grownCap]
  .have c:n≠0:=by omega
   have n4:¬(a+n<=j):=by omega
   have A:¬(281474976710656<Builtin.nextslicecap (a+n) j*i.bytes):=by omega
   simp only[Builtin.append_];simp[u7 q,u7 k,M9 f,wB f,asInt,asIntOf,G,I,L,rp c N,y,A,n4,Question.forced,C,dU f D,newRow,grownCap,<-d]
end
end Go.Abs
end
section
namespace Go.Abs
section
variable {P:Program} {F:Nat->Prop} {K:b8} {H:Nat->Option Hd} {w:World} {m:Mm} {nx:Nat} {v:BV} {new:List HO} {set:List (Nat×HO)} {rd:List Nat} {ev:Operand->BV} {ρ:Operand->Value}
theorem W8.drew{x:Value}{w':World}{K':b8}{H':Nat->Option Hd}(h:W8 F K H w.drew m nx v new set x w' K' H'):W8 F K H w m nx v new set x w' K' H':=
 ⟨h.le,h.hle,h.K8,h.rep,h.mem,h.ok,⟨h.kept.os,h.kept.tape,h.kept.output,h.kept.size,h.kept.block,ew (lf _) h.kept.drawn⟩,h.fix⟩
theorem W8.kill{x:Value}{w':World}{K':b8}{H':Nat->Option Hd}{r:Nat}(h:W8 F K H w (dI m (r,.dead)) nx v new [] x w' K' H'):W8 F K H w m nx v new [(r,.z)] x w' K' H':=
 ⟨h.le,h.hle,h.K8,h.rep,h.mem,h.ok,h.kept,h.fix⟩
theorem oT(l8:L4 F K w)(hm:l5 F K H w m)(j:H nx=none)(hn:nx<1048575){e:TypeId}{z:Value}{sz l n xs ys cap:Nat}{olds news:List Value}(k:z.cells.size=sz)(A:sz<=255)(B:l+n<=1048575)(o:x7 H (l*sz) xs olds)(p:x7 H (n*sz) ys news)(g:l+n<=cap):
  ∃K' H',W8 F K H w m nx (.c (pJ nx 0 (l+n) sz 0)) [.c ((l+n)*sz) (bH (xs+ys*cB^ (l*sz)))] [] (.slice (some ⟨w.heap.size,0,none⟩) (l+n) cap) (w.drew.alloc (.cells (olds.toArray++news.toArray++Builtin.zeroCells z.cells (cap- (l+n))) e)) K' H':=by
 have a:=DG o p;have q:l*sz+n*sz=(l+n)*sz:=by rw[bl]
 rw[q]at a;have b:(olds++news).length=(l+n)*sz:=a.2.1;have d:(olds.toArray++news.toArray++Builtin.zeroCells z.cells (cap- (l+n))).size=cap*sz:=by
  have C:(l+n)*sz+(cap- (l+n))*sz=cap*sz:=by rw[<-bl];congr 1;omega
  have D:olds.toArray.size+news.toArray.size=(l+n)*sz:=by rw[<-b];simp
  rw[Array.size_append,Array.size_append,size_zeroCells,k];omega
 have f:(l+n)*sz<=cap*sz:=ay _ g;obtain⟨K',H',r⟩:=mN (nx:=nx) (v:=.c (pJ nx 0 (l+n) sz 0)) (x:=.slice (some ⟨w.heap.size,0,none⟩) (l+n) cap) (l8.heap (w':=w.drew) rfl) (hm.heap (w':=w.drew) rfl) j e (s:=(l+n)*sz) (n:=xs+ys*cB^ (l*sz)) (arr:=olds.toArray++news.toArray++Builtin.zeroCells z.cells (cap- (l+n))) (by rw[d];exact f) (by
  have:(olds.toArray++news.toArray++Builtin.zeroCells z.cells (cap- (l+n))).toList.take ((l+n)*sz)=olds++news:=by
   rw[fj,fj,cn (by simp only[bu]at b ⊢;omega),bj (by simp only[bu]at b ⊢;omega)]
  rw[this];exact a) (fun hd t u y=>.inr (.inr (.sl nx 0 (l+n) sz 0 hd w.heap.size 0 cap (by omega) (by decide) (by omega) (by omega) (by decide) (j8 _ _ _) t g (fun h=>by cases h) (.inr (by rw[y])) (by rw[u,d];omega))))
 exact⟨K',H',r.drew⟩
theorem FB(l:Nat)(a:Nat)(h:l=0):x7 H (l*a) 0 []:=by
 subst h;exact⟨by simp,by simp,fun i x b=>by simp at b⟩
theorem FC{D:Hp}{a c:Nat}{k:Nat->Nat->List Nat->l6}(h:J' D a c k=.ok v new set rd):(c=25/\k 0 0 []=.ok v new set rd)\/(Ln c=true/\∃s n,D (sR c)=.c s n/\sO c+sL c*a<=s/\k (sL c) (Df n (sO c) (sL c*a)) [sR c]=.ok v new set rd):=by
 unfold J' at h;rw[a9]at h;split at h
 .rename_i e;exact .inl ⟨ab e,h⟩
 .obtain⟨b,h⟩:=a8 h;obtain⟨s,n,d,h⟩:=jN h;obtain⟨f,h⟩:=a8 h;exact .inr ⟨b,s,n,d,af f,h⟩
variable (l8:L4 F K w) (hm:l5 F K H w m)
include l8 hm
omit l8 in
theorem FD{c s n e:Nat}{x:Value}(l:j6 H c x)(o:Ln c=true)(hd:G9 m (sR c)=.c s n)(p:sO c+sL c*e<=s):∃olds a cap,x=.slice (some a) (sL c) cap/\x7 H (sL c*e) (Df n (sO c) (sL c*e)) olds/\(sL c≠0->∀j u,olds[j]? =some u->w.cell? (a.add j)=some u):=by
 obtain⟨d,b,o',cap,q,g2,r,E,G,g,I,J,L,t,y,z,A⟩:=l.vQ o;obtain⟨cs,M,B,N,q3,q4,C⟩:=eA hm hd q g2;refine⟨(((cs.toList.drop d.len).take s).drop (sO c)).take (sL c*e),⟨b,o',none⟩,cap,r,?_,?_⟩
 .rw[JY];exact Mp q4 p
 .intro O j u f;have D:o'=sO c+d.len:=by rcases g with g|g<;>omega
  rw[D,H7,eI B];rw[ky,List.take_take,dm]at f;have k:j<min (sL c*e) (s- sO c):=by
   rcases bh j (min (sL c*e) (s- sO c))with h|h
   .exact h
   .rw[an (by rw[fw];omega)]at f;cases f
  rw[cy k,dp,ez d.len]at f;simpa using f
variable (G2:∀i,i<new.length->H (nx+i)=none) (hn:nx<1048575)
include G2 hn
theorem Pp{t u e:TypeId}{i:TypeInfo}{z:Value}{c n ys:Nat}{x y:Value}{news:List Value}{rd0:List Nat}(U:z.cells.size=i.size)(k:i.size=J2 P t)(hx:u6 K H (.c c) x)(D:a3X P w t u e i z y n news)(hy:x7 H (n*J2 P t) ys news){ty:TypeId}
  (h:Lt P t c nx (G9 m) n ys rd0=.ok v new set rd):∃x' w' K' H',(Builtin.append_ #[t,u] ty #[x,y]).run P w=.ok x' w'/\W8 F K H w m nx v new set x' w' K' H':=by
 unfold Lt at h;rw[a9]at h;split at h
 .rename_i V;have V:=ab V;obtain⟨A,h⟩:=a8 h;cases h;obtain⟨p,l,cp,rfl,hle⟩:∃p l cp,x=.slice p l cp/\l<=cp:=by
   rw[a9]at A;split at A
   .rename_i q;rw[ab q]at hx;exact⟨_,_,_,(hx.cell (by decide)).isNil.1 rfl,aw _⟩
   .obtain⟨_,_,_,_,_,_,g,g',_⟩:=(hx.cell (by rw[Z0]at A;omega)).vQ A
    exact⟨_,_,_,g,g'⟩
  exact⟨_,w,K,H,D.zero V ty p l cp hle,.refl K,.refl H,fun _ h h'=>absurd h h',hx,hm,l8,.refl F w,.refl F K⟩
 .rename_i V;have ZI:0<n:=by
   rcases jd n with h|h
   .subst h;exact absurd rfl V
   .exact h
  have Rx:=hy.2.1;rcases FC h with⟨rfl,k1⟩|⟨hs,s,N,X,hb,k1⟩
  .obtain⟨A,k2⟩:=a8 k1;obtain⟨O,k3⟩:=a8 k2;obtain⟨h3,k4⟩:=a8 k3;have A:0+n<=1048575:=af A;have O:J2 P t<=255:=af O;rw[a9,aj (by rfl)]at k4
   cases k4;have ex:=(hx.cell (by decide)).isNil.1 rfl
   obtain⟨K',H',hA⟩:=oT (nx:=nx) (e:=e) (l:=0) (n:=n) (xs:=0) (ys:=ys) (cap:=grownCap w n 0 e) (olds:=[]) (news:=news) l8 hm (G2 0 (by simp)) hn (U.trans k) O A (FB 0 _ rfl) hy (by rw[bz];exact mv w _ _ _)
   refine⟨_,_,K',H',by rw[ex];exact D.nil ZI ty,?_⟩
   simp only[bz,Array.empty_append]at hA;simp only[bz,Nat.add_eq,Nat.mul_eq,Nat.pow_eq];exact hA
  .obtain⟨A,k2⟩:=a8 k1;obtain⟨O,k3⟩:=a8 k2;obtain⟨h3,k4⟩:=a8 k3;have A:sL c+n<=1048575:=af A;have O:J2 P t<=255:=af O;have hc:j6 H c x:=hx.cell (by rw[Z0]at hs;omega)
   obtain⟨olds,a,cap,ex,E,hoc⟩:=FD hm hc hs X hb;obtain⟨Y,b,o',a93,g1,g2,g3,g4,g5,g6,g7,g8,g9,g10,g11,g12,g13⟩:=hc.vQ hs;rw[ex]at g3;simp only[oe,ae,true_and]at g3;obtain⟨rfl,rfl⟩:=g3;have G:∀j u,olds[j]? =some u->w.cell? ((⟨b,o',none⟩:Addr).add j)=some u:=by
    intro j u hj;refine hoc ?_ j u hj;intro V;have:=E.2.1;rw[V,lh]at this;rw[bw this]at hj;cases hj
   have J:olds.length=sL c*i.size:=by rw[E.2.1,k]
   have hnc:¬(Nat.beq c 25=true):=by
    intro hb;rw[ab hb]at hs;exact absurd hs (by decide)
   rw[a9,a9,ai hnc]at k4;split at k4
   .rename_i o;have o:=ab o;cases k4;have a6z:cap=sL c:=g5 o;obtain⟨K',H',hA⟩:=oT (nx:=nx) (e:=e) (l:=sL c) (n:=n) (cap:=grownCap w (sL c+n) cap e) l8 hm (G2 0 (by simp)) hn (U.trans k) O A E hy (mv w _ _ _)
    exact⟨_,_,K',H',by rw[ex];exact D.grow ty _ _ _ olds J G (by omega) (by omega),hA⟩
   .obtain⟨h5,k5⟩:=a8 k4;obtain⟨_,k7⟩:=a8 k5;cases k7;have h5:sE c=J2 P t:=ab h5;have L:=S0 X (by simp)
    have hfl:dI m (sR c,p0.dead)=N9 m (sR c) (.z5 (.c s N),.dead):=by simp[dI,L]
    have hmd:l5 F K H w (dI m (sR c,p0.dead)):=by
     rw[hfl];exact hm.flag _ _ .own .dead L (by simp) (by simp)
    by_cases d:sL c+n<=cap
    .have ho':o'=sO c+Y.len:=g6.resolve_left (by omega)
     obtain⟨cs,et,q1,q2,q3,q4,_⟩:=eA hm X g1 g2;obtain⟨o1,o2,o3,_⟩:=hm.own _ _ Y b L g1 g2;have Hz:cap*J2 P t+o'<=cs.size:=by
      rw[h5]at g7;omega
     have R:o'+sL c*i.size+news.length<=cs.size:=by
      rw[Rx,k,fe,<-bl];have:(sL c+n)*J2 P t<=cap*J2 P t:=ay _ d;omega
     obtain⟨w',hr,I⟩:=D.room ty b o' (sL c) cap cs et q1 d R;have Z:=I.kept (F:=F) o1;have S:∀B c' f' f T,dI m (sR c,p0.dead) B=some (c',f')->f'≠ .dead->H B=some f->f.base=some T->T≠b:=by
      intro B c' f' f T C M p3 p4 p5;subst p5;rw[hfl]at C;by_cases e':B=sR c
      .subst e';rw[j8]at C;cases C;exact M rfl
      .rw[m7 _ _ _ _ e']at C;cases f' with
       |dead=>exact M rfl
       |own=>exact e' (hm.inj B _ c' _ f Y T C L p3 g1 p4 g2)
       |X9=>
        obtain⟨DV,g⟩:=hm.X9 B c' f T C p3 p4;rw[o2]at g;cases g
     have Rr:l5 F K H w' (dI m (sR c,p0.dead)):=hmd.world (fun B c' f' f T C M p3 p4=>I.other T (S B c' f' f T C M p3 p4))
     have EI:L4 F K w':=l8.N9 I o2 o3
     let S9:Hd:=⟨some b,cs.size- o',o',0⟩
     have hf:H nx=none:=G2 0 (by simp)
     have r:=DG E hy;have e1:sL c*J2 P t+n*J2 P t=(sL c+n)*J2 P t:=by rw[bl]
     rw[e1]at r;have b0e:(H8 cs (o'+sL c*i.size) news).size=cs.size:=M7 _ _ _;have a6P:((H8 cs (o'+sL c*i.size) news).toList.drop o').take ((sL c+n)*J2 P t)=olds++news:=by
      have hq:olds=(cs.toList.drop o').take (sL c*J2 P t):=by
          apply cq;intro j;by_cases hj:j<sL c*J2 P t
          .rw[cy hj,dp];have WO:j<olds.length:=by rw[J,k];exact hj
           have h6:=G j olds[j] (by simp[WO])
           rw[H7,eI q1]at h6;simp[WO]at h6 ⊢;exact h6.symm
          .rw[an (by rw[J,k];omega),an (by rw[fw];omega)]
      rw[I9 cs _ _ R,ez o',rJ (by simp only[bp];omega),k,<-hq,cn (by rw[r.2.1];exact aw _),bj (by rw[r.2.1];exact aw _)]
     have a3G:(sL c+n)*J2 P t<=cs.size- o':=by
      have:(sL c+n)*J2 P t<=cap*J2 P t:=ay _ d;omega
     refine⟨_,w',K,N9 H nx S9,by rw[ex];exact hr,W8.kill ⟨.refl K,M3 hf,?_,?_,?_,EI,Z,.refl F K⟩⟩
     .intro B C M;by_cases e':B=nx
      .subst e';simp
      .rw[m7 _ _ _ _ e']at M;exact absurd C M
     .refine .inr (.inr (.sl nx 0 (sL c+n) (J2 P t) 0 S9 b o' cap (by omega) (by decide) (by omega) (by omega) (by decide) (j8 _ _ _) rfl d (fun h=>by cases h) (.inr (bz _).symm) ?_))
      show 0+cap*J2 P t<=cs.size- o';omega
     .refine Rr.new nx hf (.z5 (.c ((sL c+n)*J2 P t) (bH (Df N (sO c) (sL c*J2 P t)+ys*cB^ (sL c*J2 P t))))) S9 ⟨b,_,et,(0,0),rfl,I.here,by rw[b0e];show cs.size=cs.size- o'+o';omega,a3G,?_⟩ (fun b' ZG=>?_)
      .show x7 _ _ _ ((List.drop o' (H8 cs (o'+sL c*i.size) news).toList).take _);rw[rK,a6P];exact r.cP (M3 hf)
      .cases ZG;exact⟨o1,o2,o3,fun _=>⟨_,et,I.here⟩,fun B c' f C M p3=>S B c' .own f b C (by simp) M p3 rfl⟩
    .obtain⟨K',H',hA⟩:=oT (nx:=nx) (e:=e) (l:=sL c) (n:=n) (cap:=grownCap w (sL c+n) cap e) l8 hmd (G2 0 (by simp)) hn (U.trans k) O A E hy (mv w _ _ _)
     exact⟨_,_,K',H',by rw[ex];exact D.grow ty _ _ _ olds J G (by omega) (by omega),hA.kill⟩
theorem WQ(l:∀x,u6 K H (ev x) (ρ x))(o:Oper){c:Call}{x y:Operand}{t u:TypeId}(Z:o.op=.call c)(hc:c.callee=.builtin .append)(ha:c.args.toList=[x,y])(ht:c.argTypes.toList=[t,u])
  (h:gV P t u (ev x) (ev y) nx (G9 m)=.ok v new set rd):z8 P F K H w m nx v new set ((execOp ρ o).run P w):=by
 obtain⟨h1,k0⟩:=a8 h;obtain⟨I,k1⟩:=a8 k0;have I:1<=J2 P t:=af I;obtain⟨e,i,z,he,A,J,L,M,j,g,k⟩:=Fz h1 I;obtain⟨n,ex,E⟩:=x8 k1;have O:=ex▸l x;have ea:c.args.map ρ= #[ρ x,ρ y]:=by apply db.1;simp[ha]
 have et:c.argTypes= #[t,u]:=by apply db.1;simp[ht]
 rw[D8 o Z hc,ea,et];simp only[builtin];have f:∀ {s:Sem Value},(∃R w' K' H',s.run P w=.ok R w'/\W8 F K H w m nx v new set R w' K' H')->z8 P F K H w m nx v new set ((do pure (Next.value (<-s)):Sem Next).run P w):=by
  intro s ⟨R,w',K',H',q1,q2⟩;rw[c8 q1];exact⟨K',H',q2⟩
 rw[a9]at E;split at E
 .rename_i B;have B:=ab B;obtain⟨S,ki,G,k3⟩:=wH (l y) E;obtain⟨r,k4⟩:=a8 k3;have r:S<=1048575:=af r;have p:∃T,P.underlying u=some (.int T):=by
   unfold kdT at B;split at B
   .rename_i T A;exact⟨T,A⟩
   .cases B
  obtain⟨ku,p⟩:=p;rw[he]at k4;have b:=Po (P:=P) (w:=w) (kx:=ki) A p J L M (g.trans j.symm) (by omega) (n:=S) (by omega) (row_one (k H))
  rw[<-G]at b;exact f (Pp l8 hm G2 hn (g.trans j.symm) j O b (zB (k H) S) k4)
 .obtain⟨r,k3⟩:=a8 E;have r:t=u:=ab r;subst r;obtain⟨d,C,k4⟩:=x8 k3;have G:=C▸l y;rcases FC k4 with⟨rfl,U⟩|⟨hd,s,N,V,X,U⟩
  .have C:=(G.cell (by decide)).isNil.1 rfl
   have b:=FA (P:=P) (w:=w) A J L M (a:=none) (n:=0) (c:=0) (news:=[]) (by omega) (by simp) (by omega) (by simp)
   rw[<-C]at b;exact f (Pp l8 hm G2 hn (g.trans j.symm) j O b (FB 0 _ rfl) U)
  .have D:j6 H d (ρ y):=G.cell (by rw[Z0]at hd;omega)
   obtain⟨olds,a,cap,C,q,Y⟩:=FD hm D hd V X;obtain⟨_,_,_,_,_,_,_,_,_,_,_,_,_,_,g11,_⟩:=D.vQ hd;have b:=FA (P:=P) (w:=w) A J L M (a:=some a) (n:=sL d) (c:=cap) (news:=olds) (by omega) (by rw[q.2.1,j]) (fun h0=>⟨a,rfl,Y (by omega)⟩) (row_one q)
   rw[<-C]at b;exact f (Pp l8 hm G2 hn (g.trans j.symm) j O b q U)
end
end Go.Abs
end
section
namespace Go.Abs
section
variable {P:Program} {F:Nat->Prop} {K:b8} {H:Nat->Option Hd} {w:World} {m:Mm} {nx:Nat} {v:BV} {new:List HO} {set:List (Nat×HO)} {rd:List Nat} {ev:Operand->BV} {ρ:Operand->Value}
theorem Cw(l8:L4 F K w)(hm:l5 F K H w m){r s n off k y b:Nat}{hd:Hd}{cs:Array Value}{l:TypeId}{news:List Value}{w':World}{x:Value}(g:G9 m r=.c s n)(i:H r=some hd)(g2:hd.base=some b)(p:w.heap[b]? =some (.cells cs l (0,0)))
  (a:x7 H k y news)(q:off+k<=s)(d:Jo w w' b (H8 cs (off+hd.len) news) l)(t:u6 K H v x):W8 F K H w m nx v [] [(r,.c s (W2 n off k y))] x w' K H:=by
 obtain⟨u,z,e,B,q3,q4,f⟩:=eA hm g i g2;rw[p]at e;cases e;have C:=a.2.1;have j:(H8 cs (off+hd.len) news).size=cs.size:=M7 _ _ _;have K8:x7 H s (W2 n off k y/cB) (((H8 cs (off+hd.len) news).toList.drop hd.len).take s):=by
  rw[Ft a.1,I9 _ _ _ (by omega),rJ (by simp only[bp];omega)]
  have:=Fs q4 a q;have D:((cs.toList.drop hd.len).take off++news++(cs.toList.drop hd.len).drop (off+news.length)).take s=((cs.toList.drop hd.len).take s).take off++news++((cs.toList.drop hd.len).take s).drop (off+k):=by
   have:=Ii (A:=cs.toList.drop hd.len) (U:=news) (o:=off) (s:=s) (by omega) (by simp only[cv,bp];omega)
   rw[this,C]
  rw[D];exact this
 obtain⟨E,G,I,_⟩:=hm.own _ _ hd b f i g2;refine⟨.refl K,.refl H,fun _ h J=>absurd h J,t,?_,l8.N9 d G I,d.kept E,.refl F K⟩
 show l5 F K H w' (N9 m r (.z5 (.c s (W2 n off k y)),.own));exact hm.ZU _ _ _ hd b f i g2 d.other (fun _=>⟨_,_,d.here⟩) ⟨b,_,_,_,g2,d.here,by rw[j];exact B,q3,K8⟩
theorem WR{k n j:Nat}{vs:List Value}(h:x7 H k n vs)(a:j<=k):x7 H j (iS n 0 j) (vs.take j):=by
 have:=Mp (off:=0) (s:=j) h (by omega)
 simpa using this
variable (l8:L4 F K w) (hm:l5 F K H w m) (n6:∀x,u6 K H (ev x) (ρ x))
include l8 hm n6
theorem a0G(o:Oper){c:Call}{x:Operand}{t:TypeId}(V:o.op=.call c)(X:c.callee=.builtin .clear)(Y:c.args.toList=[x])(Z:c.argTypes.toList=[t])
  (h:nV P t (ev x) (G9 m)=.ok v new set rd):z8 P F K H w m nx v new set ((execOp ρ o).run P w):=by
 obtain⟨n,ex,u⟩:=x8 h;have L:=ex▸n6 x;have ea:c.args.map ρ= #[ρ x]:=by apply db.1;simp[Y]
 have et:c.argTypes= #[t]:=by apply db.1;simp[Z]
 rw[D8 o V X,ea,et];simp only[builtin];cases y:Hq P t with
 |none=>rw[y]at u;exact l6.noConfusion (show l6.er 145 0=_ from u)
 |some e=>
  rw[y]at u;obtain⟨h1,k2⟩:=a8 u;obtain⟨A,k3⟩:=a8 k2;have A:1<=J2 P t:=af A;obtain⟨e',i,z,j,M,hi,hz,hb,hs,hzs,k⟩:=Fz (P:=P) (t:=t) (by rw[y];exact h1) A
  rw[y]at j;cases j;have a:∀ {p:Option Addr} {O:Nat},ρ x=.slice p 0 O->(Builtin.clear_ #[t] o.type #[ρ x]).run P w=.ok (.tuple #[]) w:=by
   intro p O e;rw[e];cases p<;>simp[Builtin.clear_,u7 M]
  rcases mO k3 with⟨e0,k4⟩|⟨l,k4⟩
  .rw[a9,aj (by rfl)]at k4
   obtain⟨rfl,rfl,rfl,rfl⟩:=bK k4;subst e0;rw[c8 (a ((L.cell (by decide)).isNil.1 rfl))]
   exact r8 l8 hm (.inl ⟨rfl,rfl⟩)
  .have B:j6 H n (ρ x):=L.cell (by rw[Z0]at l;omega)
   obtain⟨hd,b,o',cap,R,g2,C,g4,g5,D,g7,g8,g9,g10,g11,g12,g13⟩:=B.vQ l;rw[a9]at k4;split at k4
   .rename_i g;have g:=ab g;obtain⟨rfl,rfl,rfl,rfl⟩:=bK k4;rw[g]at C;rw[c8 (a C)];exact r8 l8 hm (.inl ⟨rfl,rfl⟩)
   .rename_i g;have g:sL n≠0:=fun hh=>g (by rw[hh];rfl)
    obtain⟨s,N,q,k5⟩:=jN k4;obtain⟨E,k6⟩:=a8 k5;cases k6;have E:sO n+sL n*J2 P t<=s:=af E;have G:o'=sO n+hd.len:=by rcases D with D|D<;>omega
    subst G;obtain⟨cs,I,S,q2,q3,q4,_⟩:=eA hm q R g2;have d:=zB (k H) (sL n);have f:=rM z.cells (sL n) (by omega)
    obtain⟨w',T,r2⟩:=Abs.J9 P b (sO n+hd.len) I (List.replicate (sL n) z.cells.toList).flatten w cs 0 S (by rw[d.2.1];omega) (row_one d)
    have r:(Builtin.clear_ #[t] o.type #[ρ x]).run P w=.ok (.tuple #[]) w':=by
     rw[C];obtain⟨U,J⟩:∃U,sL n=U+1:=⟨sL n- 1,by omega⟩
     rw[J]at T f ⊢;simp only[Builtin.clear_];simp[u7 M,dU hi hz,f,T]
    rw[c8 r];exact⟨K,H,Cw l8 hm q R g2 S d E (by simpa using r2) (.inl ⟨rfl,rfl⟩)⟩
theorem a3Y(o:Oper){c:Call}{x y:Operand}{t u:TypeId}(ho:o.op=.call c)(hc:c.callee=.builtin .copy)(ha:c.args.toList=[x,y])(ht:c.argTypes.toList=[t,u])
  (h:xP P t u (ev x) (ev y) (G9 m)=.ok v new set rd):z8 P F K H w m nx v new set ((execOp ρ o).run P w):=by
 obtain⟨_,k0⟩:=a8 h;obtain⟨S,k1⟩:=a8 k0;have S:1<=J2 P t:=af S;obtain⟨e,_,hu,he,_⟩:=Fx S;obtain⟨i,hi,T⟩:=L9 (P:=P) (t:=e) (by omega)
 have U:i.size=J2 P t:=by rw[T,<-he]
 obtain⟨n,ex,k2⟩:=x8 k1;obtain⟨d,I,k3⟩:=x8 k2;have hx:=ex▸n6 x;have hy:=I▸n6 y;have ea:c.args.map ρ= #[ρ x,ρ y]:=by apply db.1;simp[ha]
 have et:c.argTypes= #[t,u]:=by apply db.1;simp[ht]
 rw[D8 o ho hc,ea,et];simp only[builtin];obtain⟨sl,a,cap,ys,olds,B,I,C,D,k4⟩:∃sl a cap ys olds B,ρ y=.slice a sl cap/\x7 H (sl*J2 P t) ys olds/\(sl≠0->∃b,a=some b/\∀j u,olds[j]? =some u->w.cell? (b.add j)=some u)/\
   iV n (fun l=>fN (iB (Nat.ble sl l) sl l) fun q=>iB (Nat.beq q 0) (.ok (.c (G5 0)) [] [] B) (hC (G9 m (sR n)) fun s N=>nB (Nat.ble (Nat.add (sO n) (Nat.mul q (J2 P t))) s) 144
    (.ok (.c (G5 q)) [] [(sR n,.c s (W2 N (sO n) (Nat.mul q (J2 P t)) (iS ys 0 (Nat.mul q (J2 P t)))))] (sR n::B))))=.ok v new set rd:=by
  rcases FC k3 with⟨rfl,k4⟩|⟨J,s,N,r,hb,k4⟩
  .exact⟨0,none,0,0,[],[],(hy.cell (by decide)).isNil.1 rfl,FB 0 _ rfl,fun h=>absurd rfl h,k4⟩
  .obtain⟨olds,a,cap,I,C,D⟩:=FD hm (hy.cell (by rw[Z0]at J;omega)) J r hb
   exact⟨_,some a,cap,_,olds,_,I,C,fun k=>⟨a,rfl,D k⟩,k4⟩
 have z:∀l:Nat,iB (Nat.ble sl l) sl l=Nat.min sl l:=by
  intro l;rw[a9];show _=min sl l;by_cases E:sl<=l
  .rw[aj (dk E),lv E]
  .rw[ai (fun hh=>E (af hh)),Nat.min_eq_right (by omega)]
 have f:∀ {p:Option Addr} {l V:Nat},ρ x=.slice p l V->Nat.min sl l=0->(Builtin.copy_ #[t,u] o.type #[ρ x,ρ y]).run P w=.ok (goInt 0) w:=by
  intro p l V e k;rw[e,I];have G:(Builtin.firstCells i.size 0 (.slice a sl cap)).run P w=.ok #[] w:=by
   cases a<;>simp[Builtin.firstCells,loadCells,loadCellsFrom]
  cases p<;>simp[Builtin.copy_,u7 hu,Builtin.lenOf,k,M9 hi,G,storeCells]
 have L:u6 K H (.c (G5 0)) (goInt 0):=zA (n:=0) (by decide)
 rcases mO k4 with⟨e0,A⟩|⟨J,A⟩
 .rw[B6,z,a9,aj (by rw[show Nat.min sl 0=0 from Nat.min_zero sl];rfl)]at A
  cases A;subst e0;rw[c8 (f ((hx.cell (by decide)).isNil.1 rfl) (Nat.min_zero sl))]
  exact r8 l8 hm L
 .have X:j6 H n (ρ x):=hx.cell (by rw[Z0]at J;omega)
  obtain⟨hd,b,o',V,g1,g2,g3,g4,g5,Y,g7,g8,g9,g10,g11,g12,g13⟩:=X.vQ J;rw[B6,z,a9]at A;split at A
  .rename_i k;have k:=ab k;cases A;rw[c8 (f g3 k)];exact r8 l8 hm L
  .rename_i k;have k:Nat.min sl (sL n)≠0:=fun hh=>k (by rw[hh];rfl)
   obtain⟨q,O⟩:∃q,Nat.min sl (sL n)=q:=⟨_,rfl⟩;have Z:q<=sl:=by rw[<-O];exact Nat.min_le_left _ _
   have hq2:q<=sL n:=by rw[<-O];exact Nat.min_le_right _ _
   rw[O]at A k;obtain⟨s,N,r,k6⟩:=jN A;obtain⟨h3,k7⟩:=a8 k6;cases k7;have h3:sO n+q*J2 P t<=s:=af h3;have ho':o'=sO n+hd.len:=by rcases Y with Y|Y<;>omega
   subst ho';obtain⟨bb,rfl,Wb⟩:=D (by omega)
   obtain⟨cs,et',q1,q2,q3,q4,_⟩:=eA hm r g1 g2;have WS:q*J2 P t<=sl*J2 P t:=ay _ Z;have g:=WR C WS;have G:=ko (P:=P) w i.size q bb sl cap (olds.take (q*J2 P t)) (by rw[g.2.1,U]) (fun j u R=>by
    have yE:j<q*J2 P t:=by
     rcases bh j (q*J2 P t)with h'|h'
     .exact h'
     .rw[an (by rw[g.2.1];exact h')]at R;cases R
    rw[cy yE]at R
    exact Wb j u R)
   obtain⟨w',r1,r2⟩:=Abs.J9 P b (sO n+hd.len) et' (olds.take (q*J2 P t)) w cs 0 q1 (by rw[g.2.1];omega) (row_one g)
   have M:(Builtin.copy_ #[t,u] o.type #[ρ x,ρ y]).run P w=.ok (goInt q) w':=by
    rw[g3,I];simp only[Builtin.copy_];simp[u7 hu,Builtin.lenOf,M9 hi,O,G,r1]
   rw[c8 M];exact⟨K,H,Cw l8 hm r g1 g2 q1 g h3 (by simpa using r2) (zA (by omega))⟩
end
end Go.Abs
end
section
namespace Go.Abs
section
variable {P:Program} {F:Nat->Prop} {K:b8} {H:Nat->Option Hd} {w:World} {m:Mm} {nx:Nat} {v:BV} {new:List HO} {set:List (Nat×HO)} {rd:List Nat} {ev:Operand->BV} {ρ:Operand->Value}
def ix(key:Nat):ME->Option Nat
 |[]=>none
 |p::l=>if p.2.1=key then some 0 else(ix key l).map (· +1)
def sx(s:Nat):ME->Option Nat
 |[]=>none
 |p::l=>if p.1=s then some 0 else(sx s l).map (· +1)
theorem jP{key:Nat}:∀ {l:ME} {j:Nat},ix key l=some j->∃p,l[j]? =some p/\p.2.1=key
 |[],_,h=>by cases h
 |p::l,j,h=>by
  simp only[ix]at h;split at h
  .rename_i e;cases h;exact⟨p,rfl,e⟩
  .cases a:ix key l with
   |none=>rw[a]at h;cases h
   |some d=>
    rw[a]at h;cases h;obtain⟨q,b,c⟩:=jP a;exact⟨q,by simpa using b,c⟩
theorem WU{s:Nat}:∀ {l:ME} {j:Nat},sx s l=some j->∃p,l[j]? =some p/\p.1=s
 |[],_,h=>by cases h
 |p::l,j,h=>by
  simp only[sx]at h;split at h
  .rename_i e;cases h;exact⟨p,rfl,e⟩
  .cases a:sx s l with
   |none=>rw[a]at h;cases h
   |some d=>
    rw[a]at h;cases h;obtain⟨q,b,c⟩:=WU a;exact⟨q,by simpa using b,c⟩
theorem aD{key:Nat}{k:Nat->Nat->l6}{e:l6}:∀ (l:ME),qP key l k e=match ix key l with
  |none=>e
  |some j=>match l[j]? with
   |some p=>k p.1 p.2.2
   |none=>e
 |[]=>rfl
 |p::l=>by
  show iB (Nat.beq p.2.1 key) (k p.1 p.2.2) (qP key l k e)=_;rw[a9,aD l];by_cases h:p.2.1=key
  .rw[aj (by rw[ig];exact h)];simp[ix,h]
  .rw[ai (fun hh=>h (ab hh))]
   simp only[ix,ai h];cases ix key l<;>simp
theorem FE{key n:Nat}:∀ (l:ME) (k:ME->l6),VP key n l k=match ix key l with
  |none=>k l
  |some j=>match l[j]? with
   |some p=>k (l.set j (p.1,key,n))
   |none=>k l
 |[],k=>rfl
 |p::l,k=>by
  show iB (Nat.beq p.2.1 key) (k ((p.1,key,n)::l)) (VP key n l fun a=>k (p::a))=_
  rw[a9,FE l];by_cases h:p.2.1=key
  .rw[aj (by rw[ig];exact h)];simp[ix,h]
  .rw[ai (fun hh=>h (ab hh))]
   simp only[ix,ai h];cases b:ix key l with
   |none=>simp
   |some j=>
    obtain⟨q,c,_⟩:=jP b;simp[c]
theorem FF{key:Nat}:∀ (l:ME) (k:ME->l6),VQ key l k=match ix key l with
  |none=>k l
  |some j=>k (l.eraseIdx j)
 |[],k=>rfl
 |p::l,k=>by
  show iB (Nat.beq p.2.1 key) (k l) (VQ key l fun a=>k (p::a))=_
  rw[a9,FF l];by_cases h:p.2.1=key
  .rw[aj (by rw[ig];exact h)];simp[ix,h]
  .rw[ai (fun hh=>h (ab hh))]
   simp only[ix,ai h];cases b:ix key l<;>simp
theorem rN{x:Nat×Nat×Nat}:∀ (l:ME) (k:ME->l6),Rk x l k=k (l++ [x])
 |[],k=>rfl
 |p::l,k=>by
  show Rk x l (fun a=>k (p::a))=_
  rw[rN l];rfl
theorem zC{s n:Nat}:∀ (l:ME) (k:ME->l6) (e:l6),Lu s n l k e=match sx s l with
  |none=>e
  |some j=>match l[j]? with
   |some p=>k (l.set j (p.1,p.2.1,n))
   |none=>e
 |[],k,e=>rfl
 |p::l,k,e=>by
  show iB (Nat.beq p.1 s) (k ((p.1,p.2.1,n)::l)) (Lu s n l (fun a=>k (p::a)) e)=_
  rw[a9,zC l];by_cases h:p.1=s
  .rw[aj (by rw[ig];exact h)];simp[sx,h]
  .rw[ai (fun hh=>h (ab hh))]
   simp only[sx,ai h];cases b:sx s l with
   |none=>simp
   |some j=>
    obtain⟨q,c,_⟩:=WU b;simp[c]
theorem E9{ks vs:Nat}:∀ (l:ME) (es:List MapEntry),G8 H ks vs l es↔es.length=l.length/\∀ (j:Nat) (p:Nat×Nat×Nat) (e:MapEntry),l[j]? =some p->es[j]? =some e->eH H ks vs p e
 |[],es=>by
  constructor
  .rintro rfl;exact⟨rfl,fun j p e h=>by simp at h⟩
  .rintro⟨h,_⟩;exact jl.1 h
 |p::l,es=>by
  constructor
  .rintro⟨e,f,rfl,c,d⟩;obtain⟨i,g2⟩:=(E9 l f).1 d;refine⟨by simp[i],fun j q g a b=>?_⟩
   cases j with
   |zero=>simp at a b;subst a;subst b;exact c
   |succ j=>exact g2 j q g (by simpa using a) (by simpa using b)
  .rintro⟨c,d⟩;cases es with
   |nil=>simp at c
   |cons e es=>
    exact⟨e,es,rfl,d 0 p e rfl rfl,(E9 l es).2 ⟨by simpa using c,fun j q g a b=>d (j+1) q g (by simpa using a) (by simpa using b)⟩⟩
def X1(ks n:Nat):Value:=match ks with
 |0=>.int .i64 (((n8 n:Nat):Int) - (cZ:Int))
 |k+1=>.agg ((m9 k n).map fun n=>Value.int .i64 n).toArray
theorem a0H{s n:Nat}:(∀i,i<s->P3 n i % 128=32)->n<cB^s->∀vs,x7 H s n vs->vs=(m9 s n).map fun n=>Value.int .i64 n:=by
 intro d _ vs h;obtain⟨_,l,f⟩:=h;refine cq (fun i=>?_)
 by_cases b:i<s
 .have c:i<vs.length:=by omega
  rw[ag c];have g:=f i vs[i] (ag c);have o:=d i b;obtain⟨k,j,e,_⟩:=g.isInt (cD.2 (by omega))
  have a:AT (P3 n i)=4:=by show P3 n i % 128/8=4;omega
  have:k=.i64:=mE (k':=.i64) (by rw[<-j,a];rfl)
  subst this;rw[e];simp[m9,b]
 .rw[an (by omega),an (by simp[m9];omega)]
theorem kU{ks n:Nat}{x:Value}(h:y9 H ks n x)(c:gL ks n):x=X1 ks n:=by
 cases ks with
 |zero=>
  have f:=(show j6 H n x from h).lt;have g:=c 0 (by decide)
  rw[X6 f.2]at g;obtain⟨k,a,e,_⟩:=(show j6 H n x from h).isInt (cD.2 (by omega))
  have b:AT n=4:=by show n % 128/8=4;omega
  have:k=.i64:=mE (k':=.i64) (by rw[<-a,b];rfl)
  subst this;exact e
 |succ k=>
  obtain⟨cs,rfl,d⟩:=h;have:=a0H c d.1 _ d;simp only[X1];congr 1;apply db.1;exact this
theorem FG{ks n:Nat}{x:Value}(h:y9 H ks n x):n<cB^nL ks:=by
 cases ks with
 |zero=>have:=(show j6 H n x from h).lt;show n<cB^1;rw[fg];exact this.2
 |succ k=>obtain⟨cs,_,a⟩:=h;exact a.1
theorem Mt{s a b:Nat}(j:a<cB^s)(k:b<cB^s)(c:∀i,i<s->P3 a i % 128=32)(d:∀i,i<s->P3 b i % 128=32)(h:m9 s a=m9 s b):a=b:=by
 refine JX s a b j k (fun i f=>?_)
 have g:(m9 s a)[i]? =(m9 s b)[i]? :=by rw[h]
 simp only[m9,bo,fy f,da,ae]at g;have l:=c i f;have n:=d i f;have e:n8 (P3 a i)=n8 (P3 b i):=by generalize cZ=z at g;omega
 have o:n8 (P3 a i)=P3 a i/128:=rfl;have p:n8 (P3 b i)=P3 b i/128:=rfl;omega
def HA(P:Program)(kt:TypeId)(ks:Nat):Prop:=(∃k,ks=k+1/\bP P kt k=true)\/(ks=0/\∃k,P.underlying kt=some (.int k))
theorem Tx{kt:TypeId}{ks:Nat}(a:a3t P kt=true)(g:vU P kt=ks+1):HA P kt ks:=by
 obtain⟨i,d,l,b,n,c,f⟩:=DD g;unfold a3t at a;rw[b]at a;split at a
 .rename_i o e;cases e;rcases f with⟨_,h⟩|⟨k,j,_⟩
  .simp[R0,b]at h
  .subst j;rw[c,a0z]at a;exact .inl ⟨k,rfl,a⟩
 .rename_i k e;cases e;rcases f with⟨rfl,_⟩|⟨k',_,h⟩
  .exact .inr ⟨rfl,k,b⟩
  .simp[R0,b]at h
 .cases a
theorem F6{kt:TypeId}{ks:Nat}(h:HA P kt ks)(em:Bool)(n:Nat):(Instr.checkKey em 10000 kt (X1 ks n)).run P w=.ok () w:=by
 rcases h with⟨k,rfl,c⟩|⟨rfl,k,a⟩
 .obtain⟨d,a,e,g,f⟩:=hP c;rw[Instr.checkKey];simp only[au,dc a,ak,X1];rw[<-Array.forIn_toList];have:=gJ (P:=P) (w:=w) (em:=em) (n:=9998) (cs:=((m9 k n).map fun n=>Value.int .i64 n).toArray) d.toList 0 ((m9 k n).map fun n=>(.i64,n)) f (by simp[m9,e]) (by simp)
  simp at this ⊢;rw[this];rfl
 .have:∀b:Nat,(Instr.checkKey em (b+1) kt (X1 0 n)).run P w=.ok () w:=by
   intro b;simp[Instr.checkKey,dc a,X1]
  exact this 9999
theorem oU{kt:TypeId}{ks vs key:Nat}(h:HA P kt ks)(M:gL ks key)(s:key<cB^nL ks)(l:ME)(es:List MapEntry)(o:G8 H ks vs l es):
  (Instr.findKey kt (X1 ks key) es).run P w=.ok ((ix key l).bind fun j=>(es[j]?).map fun e=>(j,e.val)) w:=by
 have c:∀ (p:Nat×Nat×Nat) (e:MapEntry),eH H ks vs p e->e.key=X1 ks p.2.1/\p.2.1<cB^nL ks/\gL ks p.2.1:=fun p e ⟨_,g2,_,N⟩=>⟨kU g2 N,FG g2,N⟩
 rcases h with⟨k,rfl,O⟩|⟨rfl,k,d⟩
 .obtain⟨fs,d,R,S,T⟩:=hP O;have y:∀i,i<k->P3 key i % 128=32:=M;have A:key<cB^k:=s;rw[rz w (by simp[d])]
  have B:∀b:Nat,b<cB^k->gL (k+1) b->(Op.equal kt (X1 (k+1) key) (X1 (k+1) b)).run P w=.ok (decide (b=key)) w:=by
   intro b f C;have t:P.fieldsOf kt=fs:=by simp[Program.fieldsOf,d]
   unfold X1 Op.equal Op.maxDepth;have D:=bR (P:=P) (w:=w) 9998 ((m9 k key).map fun n=>Value.int .i64 n).toArray ((m9 k b).map fun n=>Value.int .i64 n).toArray fs.toList 0 (((m9 k key).zip (m9 k b)).map fun u=>(.i64,u.1,u.2)) T (by simp[m9,R])
    (by
     apply cq;intro i;by_cases a:i<k
     .simp[m9,a]
     .rw[an (by simp[m9];omega),an (by simp[m9];omega)])
    (by
     apply cq;intro i;by_cases a:i<k
     .simp[m9,a]
     .rw[an (by simp[m9];omega),an (by simp[m9];omega)])
   rw[nw w 9999 kt _ _ (by rw[t];exact d) S,t,D]
   congr 1;rw[ff,decide_eq_true_iff,fu];constructor
   .intro x;refine(Mt A f y (show ∀i,i<k->P3 b i % 128=32 from C) ?_).symm;apply cq;intro i;by_cases a:i<k
    .have:=x (.i64,(m9 k key)[i]'(by simp[m9,a]),(m9 k b)[i]'(by simp[m9,a])) (by
         rw[cd];refine⟨((m9 k key)[i]'(by simp[m9,a]),(m9 k b)[i]'(by simp[m9,a])),?_,rfl⟩
         rw[<-qq (h:=by simp[m9,a])]
         exact cf _)
     rw[ag (by simp[m9,a]),ag (by simp[m9,a])]
     simpa using this
    .rw[an (by simp[m9];omega),an (by simp[m9];omega)]
   .rintro rfl u d;obtain⟨q,U,rfl⟩:=cd.1 d;obtain⟨i,a⟩:=bn.1 U;have:=qf.1 a;have e:q.1=q.2:=cz (this.1.symm.trans this.2);simp[e]
  have E:∀ (l:ME) (es:List MapEntry) (i:Nat),G8 H (k+1) vs l es->(Instr.findAsking kt (X1 (k+1) key) es i).run P w=.ok ((ix key l).bind fun j=>(es[j]?).map fun e=>(i+j,e.val)) w:=by
   intro l
   induction l with
   |nil=>intro es i o;cases o;simp[Instr.findAsking,ix]
   |cons p l G=>
    rintro es i ⟨e,g,rfl,I,g2⟩;obtain⟨J,r,q3⟩:=c p e I;simp only[Instr.findAsking,au,J,B _ r q3,ak,ix];by_cases f:p.2.1=key
    .simp[f]
    .simp only[f,decide_false,dw,dq,G g (i+1) g2];congr 1;cases V:ix key l with
     |none=>simp
     |some j=>simp[fe,ez 1]
  simpa using E l es 0 o
 .have E:∀ (l:ME) (es:List MapEntry) (i:Nat),G8 H 0 vs l es->Instr.findNow (.int k) (X1 0 key) es i=some ((ix key l).bind fun j=>(es[j]?).map fun e=>(i+j,e.val)):=by
   intro l
   induction l with
   |nil=>intro es i o;cases o;rfl
   |cons p l G=>
    rintro es i ⟨e,g,rfl,I,g2⟩;obtain⟨J,r,q3⟩:=c p e I;have L:((((n8 key:Nat):Int) - (cZ:Int))==(((n8 p.2.1:Nat):Int) - (cZ:Int)))=decide (p.2.1=key):=by
     rw[ff,decide_eq_true_iff,qx];have X:=M 0 (by decide)
     have Y:=q3 0 (by decide)
     rw[X6 (by have s:key<cB^1:=s;rw[fg]at s;exact s)]at X
     rw[X6 (by have r:p.2.1<cB^1:=r;rw[fg]at r;exact r)]at Y
     have Z:n8 key=key/128:=rfl;have eb:n8 p.2.1=p.2.1/128:=rfl;constructor
     .intro hh;generalize cZ=z at hh;omega
     .intro hh;rw[hh]
    simp only[Instr.findNow,J,X1,Instr.sameNow,di,L,ix];by_cases f:p.2.1=key
    .simp[f]
    .simp only[f,decide_false,dw];have:=G g (i+1) g2;simp only[X1]at this;rw[this];congr 1;cases V:ix key l with
     |none=>simp
     |some j=>simp[fe,ez 1]
  simp only[Instr.findKey,au,dc d,ak,E l es 0 o];simp
end
end Go.Abs
end
section
namespace Go.Abs
theorem Ik{α β:Type}{f:α->β}:∀ {l:List α},(l.map f).Nodup->∀ {a b:α},a∈l->b∈l->f a=f b->a=b
 |[],_,_,_,h,_,_=>by cases h
 |x::l,g,a,b,k,m,e=>by
  rw[az,dn]at g;rcases av.1 k with i|c<;>rcases av.1 m with j|d
  .rw[i,j]
  .rw[i]at e;exact absurd (by rw[e];exact nm d) g.1
  .rw[j]at e;exact absurd (by rw[<-e];exact nm c) g.1
  .exact Ik g.2 c d e
theorem hZ{key:Nat}:∀ {l:ME},ix key l=none↔ ∀p∈l,p.2.1≠key
 |[]=>by simp[ix]
 |p::l=>by
  simp only[ix];by_cases h:p.2.1=key
  .rw[aj h];exact Iff.intro (fun a=>absurd a (by simp)) (fun a=>absurd h (a p (ar ..)))
  .rw[ai h];constructor
   .intro a q b;have c:ix key l=none:=by
     cases e:ix key l with
     |none=>rfl
     |some j=>rw[e]at a;cases a
    rcases av.1 b with rfl|b
    .exact h
    .exact hZ.1 c q b
   .intro a;rw[hZ.2 fun q b=>a q (al _ b)];rfl
theorem eB{key:Nat}{l l':ME}(a:l.Perm l')(h:ix key l=none):ix key l'=none:=hZ.2 fun p b=>hZ.1 h p (a.mem_iff.2 b)
theorem zD{key:Nat}{l l':ME}(c:l.Perm l')(k:(l.map (·.2.1)).Nodup){j:Nat}{p:Nat×Nat×Nat}(h:ix key l=some j)(b:l[j]? =some p):∃a,ix key l'=some a/\l'[a]? =some p:=by
 obtain⟨q,d,f⟩:=jP h;rw[b]at d;cases d;cases g:ix key l' with
 |none=>exact absurd f (hZ.1 g p (c.mem_iff.1 (df b)))
 |some a=>
  obtain⟨q,i,g2⟩:=jP g;have e:q=p:=Ik k (c.mem_iff.2 (df i)) (df b) (g2.trans f.symm);subst e;exact⟨a,rfl,i⟩
theorem fE{α:Type}{p q:α}:∀ {l:List α} {j:Nat},l[j]? =some p->(l.set j q).Perm (q::l.eraseIdx j)
 |[],j,h=>by simp at h
 |a::l,0,_=>by simp
 |a::l,j+1,h=>by
  simp only[List.set_cons_succ,qs];exact((fE (by simpa using h)).cons a).trans (.swap _ _ _)
theorem vB{α:Type}{p:α}{l:List α}{j:Nat}(h:l[j]? =some p):l.Perm (p::l.eraseIdx j):=by
 have e:l.set j p=l:=by
  apply cq;intro i;rw[ir];split
  .rename_i e;subst e;split
   .exact h.symm
   .rename_i a;rw[an (by omega)]at h;cases h
  .rfl
 have:=fE (q:=p) h;rwa [e]at this
theorem FH{α:Type}{p:α}{l l':List α}{j a:Nat}(b:l.Perm l')(h:l[j]? =some p)(c:l'[a]? =some p):(l.eraseIdx j).Perm (l'.eraseIdx a):=
 List.Perm.cons_inv (((vB h).symm.trans b).trans (vB c))
theorem Mu{α:Type}{p q:α}{l l':List α}{j a:Nat}(c:l.Perm l')(h:l[j]? =some p)(b:l'[a]? =some p):(l.set j q).Perm (l'.set a q):=
 ((fE h).trans ((FH c h b).cons q)).trans (fE b).symm
theorem Ka{α β:Type}{f:α->β}{p q:α}{l:List α}{j:Nat}(h:l[j]? =some p)(e:f q=f p):(l.set j q).map f=l.map f:=by
 apply cq;intro i;rw[bo,bo,ir];split
 .rename_i a;subst a;split
  .rw[h];simp[e]
  .rename_i b;rw[an (by omega)]at h;cases h
 .rfl
theorem wJ{α:Type}{l:List α}{a:α}(h:l.Nodup)(b:a ∉ l):(l++ [a]).Nodup:=by
 rw[om];exact⟨h,by simp,fun x c y d e=>by rw[cb.1 d]at e;exact b (e▸c)⟩
theorem zE{s:Nat}:∀ {es:List MapEntry} {j:Nat} {e:MapEntry},(es.map (·.born)).Nodup->es[j]? =some e->e.born=s->es.findIdx? (fun e=>(e.born:Int)==(s:Int))=some j
 |[],j,e,_,h,_=>by simp at h
 |a::es,0,e,_,h,b=>by
  simp at h;subst h;rw[List.findIdx?_cons,aj (by simp[b])]
 |a::es,j+1,e,c,h,b=>by
  rw[az,dn]at c;have h:es[j]? =some e:=by simpa using h
  have d:a.born≠s:=fun f=>c.1 (by rw[f,<-b];exact nm (df h))
  rw[List.findIdx?_cons,ai (by simp;omega),zE c.2 h b]
  rfl
section
variable {H:Nat->Option Hd} {ks vs clk:Nat} {l l':ME} {es:Array MapEntry}
theorem Cx{j:Nat}{e:MapEntry}{f:MapEntry->MapEntry}(h:es[j]? =some e)(a:(f e).born=e.born):((es.modify j f).toList.map (·.born))=es.toList.map (·.born):=by
 rw[px];apply cq;intro i;rw[bo,bo,po];split
 .rename_i b;subst b;rw[jb,h];simp[a]
 .simp
theorem rO{es:List MapEntry}:(∀e∈es,e.born<clk)↔ ∀b∈es.map (·.born),b<clk:=by
 constructor
 .intro h b c;obtain⟨e,a,rfl⟩:=cd.1 c;exact h e a
 .exact fun h e a=>h _ (nm a)
end
end Go.Abs
end
section
namespace Go.Abs
section
variable {P:Program} {F:Nat->Prop} {K:b8} {H:Nat->Option Hd} {w:World} {m:Mm} {nx:Nat} {v:BV} {new:List HO} {set:List (Nat×HO)} {rd:List Nat} {ev:Operand->BV} {ρ:Operand->Value}
theorem RD(l8:L4 F K w)(hm:l5 F K H w m)(d:H nx=none)(o:Obj)(a:HO)(b:(c7.z5 a).isCells=false){x:Value}
  (e:n9 K (N9 H nx ⟨some w.heap.size,0,0,0⟩) (w.alloc o) ⟨some w.heap.size,0,0,0⟩ (.z5 a))(c:u6 K (N9 H nx ⟨some w.heap.size,0,0,0⟩) v x):∃K' H',W8 F K H w m nx v [a] [] x (w.alloc o) K' H':=by
 have:=oK l8 hm d o (.z5 a) b e c.I1;exact⟨K,_,this.le,this.hle,this.K8,c,this.mem,this.ok,this.kept,this.fix⟩
theorem DH{t:TypeId}{ks vs:Nat}(a:ks+1=eK P t)(h:vs+1=uJ P t):∃kt r i z,P.underlying t=some (.map kt r)/\HA P kt ks/\P.info? r=some i/\i.zero=some z/\∀H,y9 H vs (JA P t) z:=by
 unfold eK at a;unfold uJ at h;cases c:mpK P t with
 |none=>rw[c]at a;cases a
 |some x=>
  rw[c]at a h;simp only[a9]at a h;split at a
  .rename_i s;simp only[ah]at s;obtain⟨⟨y,A⟩,b⟩:=s;have j:P.underlying t=some (.map x.1 x.2):=by
    unfold mpK at c;split at c
    .rename_i k v j;cases c;exact j
    .cases c
   obtain⟨i,z,n,u,B,g2,M,N,C,D⟩:=jO A;refine⟨x.1,x.2,i,z,j,Tx y a.symm,n,u,fun H=>?_⟩
   have o:JA P t=Ho z.cells.toList:=by unfold JA;rw[c];exact C
   have f:=mM (H:=H) z.cells.toList D;rw[o];obtain⟨O,d,g,E,G,I,_⟩:=DD h.symm;rw[n]at g;cases g;unfold a2h at b;rw[n]at b;simp only[u]at b;rw[B,G]at f;split at b
   .rename_i cs e;cases e;have p:2<=vU P x.2:=af b;obtain⟨k,rfl⟩:∃k,vs=k+1:=⟨vs- 1,by omega⟩
    exact⟨cs,rfl,f⟩
   .cases b
   .rename_i R J L e;cases e;have p:vU P x.2=1:=ab b;have:vs=0:=by omega
    subst this;have q:z.cells.toList=[z]:=by
     cases z<;>first|rfl|(exact absurd rfl (J _))|(exact absurd rfl (L _))
    rw[q]at f ⊢;have:=f.2.2 0 z rfl;rw[X6 (by have:=f.1;rw[a0y,fg]at this;exact this)]at this
    exact this
   .cases b
  .cases a
theorem wK{x:BV}{s n sh:Nat}{y:Value}(b:u6 K H x y)(d:(x=.c n/\s=1/\3<=n)\/x=.a s n)(h:Hs x=sh+1):y9 H sh n y/\s=nL sh:=by
 rcases d with⟨rfl,rfl,e⟩|rfl
 .have:sh=0:=by have:(1:Nat)=sh+1:=h;omega
  subst this;exact⟨b.cell e,rfl⟩
 .have:sh=s+1:=by have:s+1+1=sh+1:=h;omega
  subst this;exact⟨b,rfl⟩
theorem rP{o:HO}{k:Nat->Nat->ME->Nat->l6}(h:hM o k=.ok v new set rd):∃ks vs l clk,o=.m ks vs l clk/\k ks vs l clk=.ok v new set rd:=by
 cases o with
 |m ks vs l clk=>exact⟨ks,vs,l,clk,rfl,h⟩
 |_=>cases h
theorem Pq(hm:l5 F K H w m){c ks vs clk:Nat}{l:ME}{x:Value}(g:j6 H c x)(h:vV c=true)(hd:G9 m (mR c)=.m ks vs l clk):∃hd b es,H (mR c)=some hd/\hd.base=some b/\x=.map (some b)/\m (mR c)=some (.z5 (.m ks vs l clk),.own)/\w.heap[b]? =some (.map es clk)/\D7 H ks vs l clk es:=by
 obtain⟨a,b,e,g2,i,_,_⟩:=g.isMap h;have d:=S0 hd (by simp)
 obtain⟨k,es,f,j,q3⟩:=hm.cont _ _ .own a d (by simp) e
 rw[g2]at f;cases f;exact⟨a,b,es,e,g2,i,d,j,q3⟩
theorem iF(l8:L4 F K w)(hm:l5 F K H w m){r ks vs clk a b:Nat}{l l':ME}{hd:Hd}{es c:Array MapEntry}(d:m r=some (.z5 (.m ks vs l clk),.own))(e:H r=some hd)(g2:hd.base=some b)(hh:w.heap[b]? =some (.map es clk))
  (f:D7 H ks vs l' a c){x:Value}(g:u6 K H v x):W8 F K H w m nx v [] [(r,.m ks vs l' a)] x (w.putObj b (.map c a)) K H:=by
 obtain⟨i,j,q3⟩:=oG (c':=.z5 (.m ks vs l' a)) (o':=.map c a) l8 hm d e g2 hh (fun _ _ _ h=>by cases h) rfl ⟨b,c,g2,by rw[I0 hh,aj rfl],f⟩
 exact⟨.refl K,.refl H,fun _ h k=>absurd h k,g,i,j,q3,.refl F K⟩
theorem Pr{es:Array MapEntry}{j:Nat}{e:MapEntry}(h:es[j]? =some e)(f:MapEntry->MapEntry):(es.modify j f).toList=es.toList.set j (f e):=by
 rw[px];apply cq;intro q;rw[po,ir];by_cases b:j=q
 .subst b;have c:j<es.size:=by
   rcases bh j es.size with a|a
   .exact a
   .rw[fb a]at h;cases h
  rw[ba c]at h;cases h;simp[c]
 .simp[b]
theorem WV{ks vs j:Nat}{l:ME}{es:List MapEntry}(h:G8 H ks vs l es){p:Nat×Nat×Nat}{e:MapEntry}(d:eH H ks vs p e):G8 H ks vs (l.set j p) (es.set j e):=by
 rw[E9]at h ⊢;refine⟨by simp[h.1],fun i q f a b=>?_⟩
 rw[ir]at a b;by_cases c:j=i
 .subst c;simp only[di]at a b;split at a
  .cases a;split at b
   .cases b;exact d
   .cases b
  .cases a
 .simp only[c,dw]at a b;exact h.2 i q f a b
theorem Tz{ks vs:Nat}{l:ME}{es:List MapEntry}(h:G8 H ks vs l es){p:Nat×Nat×Nat}{e:MapEntry}(g:eH H ks vs p e):G8 H ks vs (l++ [p]) (es++ [e]):=by
 rw[E9]at h ⊢;refine⟨by simp[h.1],fun i q f a b=>?_⟩
 rcases bh i l.length with c|c
 .rw[bc c]at a;rw[bc (by omega)]at b
  exact h.2 i q f a b
 .rw[bd c]at a;rw[bd (by omega),h.1]at b
  obtain⟨d,hd⟩:∃d,i- l.length=d:=⟨_,rfl⟩;rw[hd]at a b;cases d with
  |zero=>simp at a b;subst a;subst b;exact g
  |succ d=>simp at a
theorem Ps{ks vs j:Nat}{l:ME}{es:List MapEntry}(h:G8 H ks vs l es):G8 H ks vs (l.eraseIdx j) (es.eraseIdx j):=by
 rw[E9]at h ⊢;refine⟨by simp[List.length_eraseIdx,h.1],fun i q f b a=>?_⟩
 rw[List.getElem?_eraseIdx]at b a;split at b
 .rename_i c;rw[aj c]at a;exact h.2 i q f b a
 .rename_i c;rw[ai c]at a;exact h.2 (i+1) q f b a
section
variable {ks vs clk:Nat} {l l':ME} {es:Array MapEntry}
theorem Bq(q6:G8 H ks vs l' es.toList)(c:l.Perm l')(d:(l.map (·.2.1)).Nodup)(g:(es.toList.map (·.born)).Nodup)(b:∀e∈es.toList,e.born<clk){key n:Nat}(k:ix key l=none){e:MapEntry}(o:eH H ks vs (clk,key,n) e)(i:e.born=clk):D7 H ks vs (l++ [(clk,key,n)]) (clk+1) (es.push e):=by
 refine⟨l'++ [(clk,key,n)],?_,c.append_right _,?_,?_,?_⟩
 .rw[oi];exact Tz q6 o
 .rw[nv];refine wJ d fun h=>?_
  obtain⟨p,q,r⟩:=cd.1 h;exact hZ.1 k p q r
 .rw[oi,nv];refine wJ g fun h=>?_
  have j:e.born<clk:=rO.1 b _ h;rw[i]at j;exact pn _ j
 .intro f a;rw[oi,cj]at a;rcases a with a|a
  .exact Nat.lt_succ_of_lt (b f a)
  .rw[cb.1 a,i];exact qt _
theorem zF(q6:G8 H ks vs l' es.toList)(c:l.Perm l')(d:(l.map (·.2.1)).Nodup)(g:(es.toList.map (·.born)).Nodup)(h:∀e∈es.toList,e.born<clk){j b:Nat}{p q:Nat×Nat×Nat}{e:MapEntry}{f:MapEntry->MapEntry}(k:l[j]? =some p)(i:l'[b]? =some p)(a:es[b]? =some e)(o:eH H ks vs q (f e))(r:q.2.1=p.2.1)(n:(f e).born=e.born):D7 H ks vs (l.set j q) clk (es.modify b f):=by
 refine⟨l'.set b q,?_,Mu c k i,?_,?_,?_⟩
 .rw[Pr a];exact WV q6 o
 .rw[Ka k r];exact d
 .rw[Cx a n];exact g
 .rw[rO,Cx a n];exact rO.1 h
theorem Pt(q6:G8 H ks vs l' es.toList)(a:l.Perm l')(b:(l.map (·.2.1)).Nodup)(c:(es.toList.map (·.born)).Nodup)(d:∀e∈es.toList,e.born<clk){j f:Nat}{p:Nat×Nat×Nat}(i:l[j]? =some p)(g:l'[f]? =some p):D7 H ks vs (l.eraseIdx j) clk (es.eraseIdxIfInBounds f):=by
 refine⟨l'.eraseIdx f,?_,FH a i g,?_,?_,?_⟩
 .rw[gk];exact Ps q6
 .exact b.sublist ((ow _ _).map _)
 .rw[gk];exact c.sublist ((ow _ _).map _)
 .intro e h;rw[gk]at h;exact d e ((ow _ _).subset h)
end
theorem Kb(ks n:Nat):Instr.sameBits 10000 (X1 ks n) (X1 ks n)=true:=by
 cases ks with
 |zero=>simp[X1,Instr.sameBits]
 |succ k=>
  have:∀l:List Int,((l.map fun n=>Value.int .i64 n).zip (l.map fun n=>Value.int .i64 n)).all (fun(x,y)=>Instr.sameBits 9999 x y)=true:=by
   intro l
   induction l with
   |nil=>rfl
   |cons a l b=>
    simp only[az,jy,nq,ah];exact⟨by simp[Instr.sameBits],b⟩
  simp only[X1,Instr.sameBits,pe,km];exact this _
theorem jQ(ks n:Nat):(Instr.keyThatStays (X1 ks n) (X1 ks n)).run P w=.ok (X1 ks n) w:=by
 simp[Instr.keyThatStays,Kb]
theorem zG(hm:l5 F K H w m){t:TypeId}{x i:BV}{u g:Value}{k:Nat->Nat->Nat->Nat->ME->Nat->l6}(A:u6 K H x u)(B:u6 K H i g)(h:qQ P t x i (G9 m) k=.ok v new set rd):
  ∃r key ks vs l clk kt d a z hd b es l',k r key ks vs l clk=.ok v new set rd/\P.underlying t=some (.map kt d)/\HA P kt ks/\P.info? d=some a/\a.zero=some z/\(∀H,y9 H vs (JA P t) z)/\
   H r=some hd/\hd.base=some b/\u=.map (some b)/\m r=some (.z5 (.m ks vs l clk),.own)/\w.heap[b]? =some (.map es clk)/\(G8 H ks vs l' es.toList/\l.Perm l'/\(l.map (·.2.1)).Nodup/\(es.toList.map (·.born)).Nodup/\∀e∈es.toList,e.born<clk)/\
   y9 H ks key g/\gL ks key/\g=X1 ks key/\(∀w,(Instr.findKey kt (X1 ks key) es.toList).run P w=.ok ((ix key l').bind fun j=>(es.toList[j]?).map fun e=>(j,e.val)) w):=by
 obtain⟨c,rfl,h⟩:=x8 h;obtain⟨y,h⟩:=a8 h;obtain⟨ks,vs,l,clk,C,h⟩:=rP h;obtain⟨f,h⟩:=a8 h;obtain⟨n,h⟩:=a8 h;obtain⟨o,h⟩:=a8 h;obtain⟨s,key,D,h⟩:=dV h;obtain⟨E,h⟩:=a8 h;have f:ks+1=eK P t:=ab f;have n:Hs i=eK P t:=ab n;have o:vs+1=uJ P t:=ab o;obtain⟨kt,d,a,z,G,g2,I,J,L⟩:=DH f o;obtain⟨hd,b,es,M,N,q3,q4,q5,l',q6⟩:=Pq hm (A.cell (by rw[kP]at y;omega)) y C
 obtain⟨p,O⟩:=wK B D (n.trans f.symm);have q:gL ks key:=by intro j R;exact mL E j (by rw[O];exact R)
 have S:=kU p q;exact⟨_,key,ks,vs,l,clk,kt,d,a,z,hd,b,es,l',h,G,g2,I,J,L,M,N,q3,q4,q5,q6,p,q,S,fun w=>oU g2 q (FG p) l' es.toList q6.1⟩
variable (l8:L4 F K w) (hm:l5 F K H w m) (n6:∀x,u6 K H (ev x) (ρ x))
include l8 hm in
theorem TD(b:∀i,i<new.length->H (nx+i)=none)(f:nx<1048575)(o:Oper){t:TypeId}(e:o.op=.makeMap t none)(h:Eo P t nx=.ok v new set rd):z8 P F K H w m nx v new set ((execOp ρ o).run P w):=by
 unfold Eo at h;cases c:eK P t with
 |zero=>rw[c]at h;exact l6.noConfusion (show l6.er 160 0=_ from h)
 |succ ks=>
  cases d:uJ P t with
  |zero=>rw[c,d]at h;exact l6.noConfusion (show l6.er 161 0=_ from h)
  |succ vs=>
   rw[c,d]at h;cases (show SW (.m ks vs [] 0) (kD nx)=_ from h);have a:(execOp ρ o).run P w=.ok (.value (.map (some w.heap.size))) (w.alloc (.map #[] 0)):=by
    simp only[execOp,e];refine c8 ?_;simp only[Instr.makeMap,ns,au,lb,ak,bg]
   rw[a];exact RD l8 hm (b 0 (by simp)) (.map #[] 0) _ rfl ⟨_,_,rfl,L0 w _,[],rfl,.refl _,by simp,by simp,by simp⟩ (.inr (.inr (.map nx _ w.heap.size (by omega) (j8 _ _ _) rfl)))
include l8 hm n6 in
theorem WX(o:Oper){t:TypeId}{x i:Operand}{a:Bool}(M:o.op=.lookup t x i a)(h:eZ P t (ev x) (ev i) a (G9 m)=.ok v new set rd):z8 P F K H w m nx v new set ((execOp ρ o).run P w):=by
 obtain⟨r,key,ks,vs,l,clk,kt,vt,N,z,hd,b,es,l',h,G,g2,O,R,S,q1,q2,q3,q4,q5,⟨q6,g,C,T,U⟩,p1,p3,I,J⟩:=zG hm (n6 x) (n6 i) h;have D:∀ (y:Value) (n:Nat) (f:Bool),y9 H vs n y->u6 K H (iB a (.t [(vs,n),(0,I3 f)]) (uK vs n)) (if a then .tuple #[y,.bool f]else y):=by
  intro y n f q;cases a with
  |true=>
   refine⟨#[y,.bool f],rfl,rfl,fun j p u c B=>?_⟩
   match j with
   |0=>simp at c B;subst c;subst B;exact q
   |1=>
    simp at c B;subst c;subst B;have:=aB (K:=K) (H:=H) f;exact this.cell (by cases f<;>decide)
   |j+2=>simp at c
  |false=>
   show u6 K H (uK vs n) y;cases vs with
   |zero=>exact .inr (.inr q)
   |succ k=>exact q
 have done:∀ (y:Value) (n:Nat) (f:Bool),y9 H vs n y->(Instr.lookup t (ρ x) (ρ i) a).run P w=.ok (if a then .tuple #[y,.bool f]else y) w->l6.ok (iB a (.t [(vs,n),(0,I3 f)]) (uK vs n)) [] [] [r]=.ok v new set rd->z8 P F K H w m nx v new set ((execOp ρ o).run P w):=by
  intro y n f q V X;cases X;simp only[execOp,M];rw[c8 V];exact r8 l8 hm (D y n f q)
 rw[aD]at h;cases s:ix key l with
 |none=>
  rw[s]at h;have d:=eB g s;refine done z (JA P t) false (S H) ?_ ?_
  .rw[q3,I];unfold Instr.lookup;simp only[au,dc G,ak,B3 q5,bg,F6 g2,J,d];simp[dU O R]
  .rw[<-h];cases a<;>rfl
 |some j=>
  obtain⟨p,c,Y⟩:=jP s;rw[s]at h;simp only[c]at h;obtain⟨A,d,e⟩:=zD g C s c;obtain⟨Z,e2⟩:=(E9 _ _).1 q6;have L:A<es.toList.length:=by
   rw[Z];rcases bh A l'.length with E|E
   .exact E
   .rw[an E]at e;cases e
  have he:=e2 A p es.toList[A] e (ag L);refine done es.toList[A].val p.2.2 true he.2.2.1 ?_ ?_
  .rw[q3,I];unfold Instr.lookup;simp only[au,dc G,ak,B3 q5,bg,F6 g2,J,d,gx,ag L,da]
  .rw[<-h];cases a<;>rfl
include l8 hm n6 in
theorem Cy(o:Oper){t:TypeId}{x i y:Operand}(E:o.op=.mapUpdate t x i y\/o.op=.insert t x i y)(h:W5 P t (ev x) (ev i) (ev y) (G9 m)=.ok v new set rd):z8 P F K H w m nx v new set ((execOp ρ o).run P w):=by
 obtain⟨r,key,ks,vs,l,clk,kt,vt,Z,z,hd,b,es,l',h,S,g2,g3,g4,g5,T,U,q3,q4,q5,⟨q6,c,g,u,A⟩,V,X,G,Y⟩:=zG hm (n6 x) (n6 i) h;obtain⟨h1,h⟩:=a8 h;obtain⟨s,n,hy,h⟩:=dV h;obtain⟨B,_⟩:=wK (n6 y) hy (ab h1);have I:execOp ρ o=(do Instr.mapUpdate t (ρ x) (ρ i) (ρ y);pure Next.skip:Sem Next):=by
  rcases E with E|E<;>simp only[execOp,E]
 rw[I];rw[aD]at h;cases k:ix key l with
 |none=>
  rw[k]at h;simp only[rN]at h;cases h;have q:=eB c k;have a:(Instr.mapUpdate t (ρ x) (ρ i) (ρ y)).run P w=.ok () (w.putObj b (.map (es.push {key:=X1 ks key,val:=ρ y,born:=clk}) (clk+1))):=by
   rw[q3,G];unfold Instr.mapUpdate;simp only[au,dc S,ak,B3 q5,F6 g2,Y,q,nc];exact E7 q5
  rw[jI a];refine⟨K,H,iF l8 hm q4 T U q5 ?_ (.inl ⟨rfl,rfl⟩)⟩;exact Bq q6 c g u A k ⟨.inl rfl,G▸V,B,X⟩ rfl
 |some j=>
  obtain⟨p,J,C⟩:=jP k;rw[k]at h;simp only[J,FE,k]at h;cases h;obtain⟨d,q,f⟩:=zD c g k J;obtain⟨e1,e2⟩:=(E9 _ _).1 q6;have L:d<es.toList.length:=by
   rw[e1];rcases bh d l'.length with M|M
   .exact M
   .rw[an M]at f;cases f
  have N:=e2 d p es.toList[d] f (ag L);have O:d<es.size:=by simpa using L
  have D:es[d]? =some es[d]:=ba O;have R:es[d].key=X1 ks key:=by
   have:=kU N.2.1 N.2.2.2;rw[C]at this;exact this
  have a:(Instr.mapUpdate t (ρ x) (ρ i) (ρ y)).run P w=.ok () (w.putObj b (.map (es.modify d fun e=> {e with key:=X1 ks key,val:=ρ y}) clk)):=by
   rw[q3,G];unfold Instr.mapUpdate;simp only[au,dc S,ak,B3 q5,F6 g2,Y,q,gx,ag L,da,D,ec,R,jQ];exact E7 q5
  rw[jI a];refine⟨K,H,iF l8 hm q4 T U q5 ?_ (.inl ⟨rfl,rfl⟩)⟩;exact zF q6 c g u A J f D ⟨N.1,G▸V,B,X⟩ C.symm rfl
include l8 hm n6 in
theorem WY(o:Oper){c:Call}{x y:Operand}{t u:TypeId}(M:o.op=.call c)(N:c.callee=.builtin .delete)(O:c.args.toList=[x,y])(R:c.argTypes.toList=[t,u])(h:kL P t (ev x) (ev y) (G9 m)=.ok v new set rd):z8 P F K H w m nx v new set ((execOp ρ o).run P w):=by
 obtain⟨r,key,ks,vs,l,clk,kt,Z,S,z,hd,b,es,l',h,A,g2,g3,g4,g5,B,C,q3,q4,q5,⟨q6,d,e,i,k⟩,p1,p3,D,E⟩:=zG hm (n6 x) (n6 y) h;have T:c.args.map ρ= #[ρ x,ρ y]:=by apply db.1;simp[O]
 have U:c.argTypes= #[t,u]:=by apply db.1;simp[R]
 rw[D8 o M N,T,U];simp only[builtin];have G:(#[t,u]:Array TypeId)[0]? =some t:=rfl;have I:(#[ρ x,ρ y]:Array Value)[0]? =some (ρ x):=rfl;have J:(#[ρ x,ρ y]:Array Value)[1]? =some (ρ y):=rfl;rw[FF]at h;cases n:ix key l with
 |none=>
  rw[n]at h;cases h;have f:=eB d n;have a:(Builtin.delete_ #[t,u] o.type #[ρ x,ρ y]).run P w=.ok (.tuple #[]) (w.putObj b (.map es clk)):=by
   unfold Builtin.delete_;simp only[G,I,J];rw[q3,D];simp only[au,dc A,ak,B3 q5,F6 g2,E,f,nc,E7 q5,bg]
  rw[c8 a];exact⟨K,H,iF l8 hm q4 B C q5 ⟨l',q6,d,e,i,k⟩ (.inl ⟨rfl,rfl⟩)⟩
 |some j=>
  obtain⟨p,L,V⟩:=jP n;rw[n]at h;cases h;obtain⟨q,f,g⟩:=zD d e n L;obtain⟨X,f2⟩:=(E9 _ _).1 q6;have Y:q<es.toList.length:=by
   rw[X];rcases bh q l'.length with s|s
   .exact s
   .rw[an s]at g;cases g
  have a:(Builtin.delete_ #[t,u] o.type #[ρ x,ρ y]).run P w=.ok (.tuple #[]) (w.putObj b (.map (es.eraseIdxIfInBounds q) clk)):=by
   unfold Builtin.delete_;simp only[G,I,J];rw[q3,D];simp only[au,dc A,ak,B3 q5,F6 g2,E,f,gx,ag Y,da,E7 q5,bg]
  rw[c8 a];refine⟨K,H,iF l8 hm q4 B C q5 ?_ (.inl ⟨rfl,rfl⟩)⟩;exact Pt q6 d e i k L g
end
end Go.Abs
end
section
namespace Go.Abs
section
variable {P:Program} {F:Nat->Prop} {K:b8} {H:Nat->Option Hd} {w:World} {m:Mm} {nx:Nat} {v:BV} {new:List HO} {set:List (Nat×HO)} {rd:List Nat} {ev:Operand->BV} {ρ:Operand->Value}
theorem Mv{vs n s:Nat}{y:Value}(c:y9 H vs n y)(d:s<1048577):u6 K H (.t [(vs,n),(0,G5 s)]) (.tuple #[y,.int .i64 (s:Int)]):=by
 refine⟨_,rfl,rfl,fun j p u a b=>?_⟩
 match j with
 |0=>simp at a b;subst a;subst b;exact c
 |1=>
  simp at a b;subst a;subst b;have:=zA (K:=K) (H:=H) d;refine this.cell ?_;show 3<=128*s+1180591620717411303456;omega
 |j+2=>simp at a
variable (l8:L4 F K w) (hm:l5 F K H w m) (n6:∀x,u6 K H (ev x) (ρ x))
include l8 hm n6
theorem Pu(o:Oper){t:TypeId}{x i:Operand}(ho:o.op=.mapEntry t x i)(h:cU P t (ev x) (ev i) (G9 m)=.ok v new set rd):z8 P F K H w m nx v new set ((execOp ρ o).run P w):=by
 obtain⟨r,key,ks,vs,l,clk,kt,vt,inf,z,hd,b,es,l',h,S,g2,g3,g4,T,U,L,q3,q4,q5,⟨q6,d,n,B,C⟩,V,p3,I,X⟩:=zG hm (n6 x) (n6 i) h;obtain⟨Y,h⟩:=a8 h;have Y:clk<=1048576:=af Y;simp only[execOp,ho];rw[aD]at h;cases y:ix key l with
 |none=>
  rw[y]at h;simp only[rN]at h;cases h;have s:=eB d y;have c:(Instr.mapEntry t (ρ x) (ρ i)).run P w=.ok (.tuple #[z,goInt clk]) (w.putObj b (.map (es.push {key:=X1 ks key,val:=z,born:=clk}) (clk+1))):=by
   rw[q3,I];unfold Instr.mapEntry;simp only[au,dc S,ak,B3 q5,F6 g2,X,s,nc,dU g3 g4];rw[E7 q5];rfl
  rw[c8 c];refine⟨K,H,iF l8 hm q4 U L q5 ?_ (Mv (T H) (by omega))⟩
  exact Bq q6 d n B C y ⟨.inl rfl,I▸V,T H,p3⟩ rfl
 |some j=>
  obtain⟨p,A,D⟩:=jP y;rw[y]at h;simp only[A]at h;obtain⟨J,h⟩:=a8 h;have J:p.1<=1048576:=af J;cases h;obtain⟨a,s,g⟩:=zD d n y A;obtain⟨e1,e2⟩:=(E9 _ _).1 q6;have M:a<es.toList.length:=by
   rw[e1];rcases bh a l'.length with k|k
   .exact k
   .rw[an k]at g;cases g
  have u:=e2 a p es.toList[a] g (ag M);have N:a<es.size:=by simpa using M
  have E:es[a]? =some es[a]:=ba N;have O:es[a].key=X1 ks key:=by
   have:=kU u.2.1 u.2.2.2;rw[D]at this;exact this
  have R:es[a].born=p.1:=u.1.resolve_right (fun e=>by rw[e]at J;exact absurd J (by decide))
  have c:(Instr.mapEntry t (ρ x) (ρ i)).run P w=.ok (.tuple #[es.toList[a].val,goInt p.1]) (w.putObj b (.map (es.modify a fun e=> {e with key:=X1 ks key}) clk)):=by
   rw[q3,I];unfold Instr.mapEntry;simp only[au,dc S,ak,B3 q5,F6 g2,X,s,gx,ag M,da,E,ec,O,jQ,R];rw[E7 q5];rfl
  rw[c8 c]
  obtain⟨Z,f2,f3⟩:=oG (c':=.z5 (.m ks vs l clk)) (o':=.map (es.modify a fun e=> {e with key:=X1 ks key}) clk) l8 hm q4 U L q5 (fun _ _ _ h=>by cases h) rfl ⟨b,_,L,by rw[I0 q5,aj rfl],by
   have e3:l.set j p=l:=by
    apply cq;intro q;rw[ir];by_cases G:j=q
    .subst G;rw[A];have:j<l.length:=by
         rcases bh j l.length with k|k
         .exact k
         .rw[an k]at A;cases A
     simp[this]
    .simp[G]
   have:=zF (f:=fun e=> {e with key:=X1 ks key}) q6 d n B C A g E (q:=p) ⟨u.1,(by show y9 H ks p.2.1 (X1 ks key);rw[D,<-I];exact V),u.2.2.1,u.2.2.2⟩ rfl rfl
   rw[e3]at this
   exact this⟩
  have e4:N9 m r (.z5 (.m ks vs l clk),.own)=m:=by
   funext r';by_cases G:r'=r
   .subst G;rw[j8,q4]
   .rw[m7 _ _ _ _ G]
  rw[e4]at Z;exact⟨K,H,.refl K,.refl H,fun _ h k=>absurd h k,Mv u.2.2.1 (by omega),Z,f2,f3,.refl F K⟩
theorem Kc(o:Oper){t:TypeId}{x i y:Operand}(O:o.op=.entryStore t x i y)(h:R6 (ev x) (ev i) (ev y) (G9 m)=.ok v new set rd):z8 P F K H w m nx v new set ((execOp ρ o).run P w):=by
 obtain⟨c,R,h⟩:=x8 h;have S:=R▸n6 x;obtain⟨N,h⟩:=a8 h;obtain⟨s,ki,T,h⟩:=wH (n6 i) h;obtain⟨r,h⟩:=a8 h;have r:s<=1048576:=af r;obtain⟨ks,vs,l,clk,U,h⟩:=rP h;obtain⟨V,h⟩:=a8 h;obtain⟨s',n,X,h⟩:=dV h;obtain⟨z,_⟩:=wK (n6 y) X (ab V);obtain⟨hd,b,es,Y,Z,q3,q4,q5,l',q6,f,A,g,B⟩:=Pq hm (S.cell (by rw[kP]at N;omega)) N U
 rw[zC]at h;cases C:sx s l with
 |none=>rw[C]at h;cases h
 |some j=>
  obtain⟨p,D,k⟩:=WU C;rw[C]at h;simp only[D]at h;cases h;obtain⟨j',a⟩:=bn.1 (f.mem_iff.1 (df D));obtain⟨e1,e2⟩:=(E9 _ _).1 q6;have d:j'<es.toList.length:=by
   rw[e1];rcases bh j' l'.length with E|E
   .exact E
   .rw[an E]at a;cases a
  have u:=e2 j' p es.toList[j'] a (ag d);have G:j'<es.size:=by simpa using d
  have I:es[j']? =some es[j']:=ba G;have J:es.toList[j'].born=s:=(u.1.resolve_right (fun e=>by rw[k]at e;rw[e]at r;exact absurd r (by decide))).trans k
  have L:=zE g (ag d) J;have q:(Instr.entryStore t (ρ x) (ρ i) (ρ y)).run P w=.ok () (w.putObj b (.map (es.modify j' fun e=> {e with val:=ρ y}) clk)):=by
   rw[q3,T];unfold Instr.entryStore;have M:es.findIdx? (fun e=>(e.born:Int)==(s:Int))=some j':=by
    obtain⟨el⟩:=es;exact(List.findIdx?_toArray ..).trans L
   simp only[au,bg,ak,B3 q5,asInt,asIntOf,M];exact E7 q5
  simp only[execOp,O];rw[jI q];refine⟨K,H,iF l8 hm q4 Y Z q5 ?_ (.inl ⟨rfl,rfl⟩)⟩;exact zF q6 f A g B D a I ⟨u.1,u.2.1,z,u.2.2.2⟩ rfl rfl
end
section
variable {P:Program} {F:Nat->Prop} {K:b8} {H:Nat->Option Hd} {w:World} {m:Mm} {nx:Nat} {v:BV} {new:List HO} {set:List (Nat×HO)} {rd:List Nat} {ev:Operand->BV} {ρ:Operand->Value}
theorem WZ{o:HO}{k:Nat->Nat->List Nat->Nat->l6}(h:hI o k=.ok v new set rd):∃a b c d,o=.i a b c d/\k a b c d=.ok v new set rd:=by
 cases o<;>first|exact l6.noConfusion (show l6.er _ _=_ from h)|exact⟨_,_,_,_,rfl,h⟩
theorem DI{s:Nat}:∀ {l:ME} {k:Nat×Nat×Nat->l6},SY s l k (.er 231 0)=.ok v new set rd->∃ (j:Nat) (p:Nat×Nat×Nat),l[j]? =some p/\p.1=s/\k p=.ok v new set rd
 |[],k,h=>by cases h
 |p::l,k,h=>by
  have h:iB (Nat.beq p.1 s) (k p) (SY s l k (.er 231 0))=.ok v new set rd:=h;rw[a9]at h;split at h
  .rename_i e;exact⟨0,p,rfl,ab e,h⟩
  .obtain⟨j,q,a,b,c⟩:=DI h;exact⟨j+1,q,by simpa using a,b,c⟩
theorem Il:∀ {l:ME} {n:Nat},VT l n=true->(∀p∈l,n<=p.1)/\(l.map (·.1)).Nodup
 |[],n,_=>⟨fun p h=>absurd h (by simp),jz⟩
 |p::l,n,h=>by
  have h:iB (Nat.ble n p.1) (VT l (Nat.succ p.1)) false=true:=h;rw[a9]at h;split at h
  .rename_i b;have b:=af b;obtain⟨c,g2⟩:=Il h;refine⟨fun q a=>?_,?_⟩
   .rcases av.1 a with rfl|a
    .exact b
    .have:=c q a;omega
   .rw[az,dn];refine⟨fun hm=>?_,g2⟩
    obtain⟨q,a,e⟩:=cd.1 hm;have:=c q a;omega
  .cases h
variable (l8:L4 F K w) (hm:l5 F K H w m) (n6:∀x,u6 K H (ev x) (ρ x))
include l8 hm n6
theorem a0I(d:∀i,i<new.length->H (nx+i)=none)(A:nx<1048575)(o:Oper){t:TypeId}{x:Operand}(g:o.op=.range t x)(h:AV P t (ev x) nx (G9 m)=.ok v new set rd):z8 P F K H w m nx v new set ((execOp ρ o).run P w):=by
 obtain⟨c,j,h⟩:=x8 h;have k:=j▸n6 x;obtain⟨e,h⟩:=a8 h;obtain⟨ks,vs,l,clk,n,h⟩:=rP h;obtain⟨p,h⟩:=a8 h;obtain⟨q,h⟩:=a8 h;obtain⟨kt,B,r,z,s,_⟩:=DH (P:=P) (t:=t) (ab p) (ab q);cases h;obtain⟨hd,b,es,u,y,q3,q4,q5,q6⟩:=Pq hm (k.cell (by rw[kP]at e;omega)) e n
 have a:(execOp ρ o).run P w=.ok (.value (.pointer (some ⟨w.heap.size,0,none⟩))) (w.alloc (.mapIter (some b) clk #[] clk)):=by
  simp only[execOp,g,q3];refine c8 ?_;simp only[Instr.range,au,dc s,ak,B3 q5,lb,bg]
 rw[a];have f:H nx=none:=d 0 (by simp)
 exact RD l8 hm f (.mapIter (some b) clk #[] clk) _ rfl ⟨_,b,hd,rfl,L0 w _,M3 f _ _ u,y,rfl⟩ (.inr (.inr (.ptr nx 0 _ w.heap.size (by omega) (by omega) (j8 _ _ _) rfl)))
omit l8 n6 in
theorem RE{c:Nat}{y:Value}(q:j6 H c y)(r:sV c=true)(s:pO c=0){g a e:Nat}{seen:List Nat}(t:G9 m (pR c)=.i g a seen e){ks vs:Nat}{l:ME}{clk:Nat}(u:G9 m g=.m ks vs l clk):
  ∃hd b f es d,H (pR c)=some hd/\hd.base=some b/\y=.pointer (some ⟨b,0,none⟩)/\w.heap[b]? =some (.mapIter (some f) a seen.reverse.toArray e)/\w.heap[f]? =some (.map es clk)/\D7 H ks vs l clk es/\H g=some d/\d.base=some f/\hd.len=0:=by
 obtain⟨hd,b,h,g2,z,_,_,_⟩:=q.gP r;obtain⟨D,f,d,j,A,k,n,o⟩:=hm.cont _ _ .own hd (S0 t (by simp)) (by simp) h
 rw[g2]at j;cases j;obtain⟨E,es,p,B,C⟩:=hm.cont _ _ .own d (S0 u (by simp)) (by simp) k
 rw[n]at p;cases p;exact⟨hd,b,f,es,d,h,g2,by rw[z,s,o],A,B,C,k,n,o⟩
theorem a0J(o:Oper){i:Operand}(L:o.op=.entry i)(h:vX (ev i) (G9 m)=.ok v new set rd):z8 P F K H w m nx v new set ((execOp ρ o).run P w):=by
 obtain⟨c,M,h⟩:=x8 h;have N:=M▸n6 i;obtain⟨G,h⟩:=a8 h;obtain⟨O,h⟩:=a8 h;obtain⟨R,a,seen,I,S,h⟩:=WZ h;obtain⟨ks,vs,l,clk,T,h⟩:=rP h;obtain⟨q,h⟩:=a8 h;obtain⟨h6,h⟩:=a8 h;cases seen with
 |nil=>cases h
 |cons s seen=>
  obtain⟨k,h⟩:=a8 (show nB (Nat.ble s 1048576) 241 (SY s l (fun p=>.ok (.t [(ks,p.2.1),(vs,p.2.2)]) [] [] [pR c,R]) (.er 231 0))=_ from h)
  have k:s<=1048576:=af k;obtain⟨j0,p,r,d,h⟩:=DI h;cases h;obtain⟨hd,b,J,es,U,q1,q2,q3,q4,q5,⟨V,q6,y,X,z,Y⟩,q7,q8⟩:=RE hm (N.cell (by rw[R9]at G;omega)) G (ab O) S T
  have q:=ab q;subst q;obtain⟨j,A⟩:=bn.1 (y.mem_iff.1 (df r));obtain⟨Z,e2⟩:=(E9 _ _).1 q6;have B:j<es.toList.length:=by
   rw[Z];rcases bh j V.length with C|C
   .exact C
   .rw[an C]at A;cases A
  have D:=e2 j p es.toList[j] A (ag B);have hb:es.toList[j].born=s:=(D.1.resolve_right (fun e=>by rw[d]at e;rw[e]at k;exact absurd k (by decide))).trans d
  have E:w.heap[b]? =some (.mapIter (some J) a (seen.reverse.toArray.push es.toList[j].born) clk):=by rw[q4,hb];simp
  have f:=qz (P:=P) w b J a seen.reverse.toArray es clk es.toList[j] E q5 (cf _) z;have:(execOp ρ o).run P w=.ok (.value (.tuple #[es.toList[j].key,es.toList[j].val])) w:=by
   simp only[execOp,L,q3];exact c8 f
  rw[this];refine r8 l8 hm ⟨#[es.toList[j].key,es.toList[j].val],rfl,rfl,fun i p' u g n=>?_⟩
  match i with
  |0=>simp at g n;subst g;subst n;exact D.2.1
  |1=>simp at g n;subst g;subst n;exact D.2.2.1
  |i+2=>simp at g
end
end Go.Abs
end
section
namespace Go.Abs
section
variable {P:Program} {F:Nat->Prop} {K:b8} {H:Nat->Option Hd} {w:World} {m:Mm} {nx:Nat} {v:BV} {new:List HO} {set:List (Nat×HO)} {rd:List Nat} {ev:Operand->BV} {ρ:Operand->Value}
theorem FI{c n i:Nat}(a:c<cB):P3 (c+cB*n) i=match i with|0=>c|j+1=>P3 n j:=by
 have h:=EB (x:=c) (y:=n) (s:=1) (j:=i) (by rw[fg];exact a)
 rw[fg,gv n]at h;rw[h];cases i with
 |zero=>simp[X6 a]
 |succ j=>simp
theorem Kd(n6:∀x,u6 K H (ev x) (ρ x)):∀ (l:List Operand) (k:Nat->l6),Ep ev l k=.ok v new set rd->∃n,(∀ (i:Nat) (y:Value),(l.map ρ)[i]? =some y->j6 H (P3 n i) y)/\k n=.ok v new set rd
 |[],k,h=>⟨0,fun i y a=>by simp at a,h⟩
 |o::l,k,h=>by
  obtain⟨n,d,e⟩:=Kd n6 l (fun m=>vC (ev o) fun c=>nB (Nat.ble 3 c) 170 (k (Nat.add c (Nat.mul cB m)))) h
  obtain⟨c,f,g⟩:=x8 e;obtain⟨j,p⟩:=a8 g;have b:=(f▸n6 o).cell (af j);refine⟨c+cB*n,fun i y a=>?_,p⟩
  rw[FI b.lt.2];cases i with
  |zero=>simp at a;subst a;exact b
  |succ i=>exact d i y (by simpa using a)
variable (l8:L4 F K w) (hm:l5 F K H w m) (n6:∀x,u6 K H (ev x) (ρ x)) (G2:∀i,i<new.length->H (nx+i)=none) (hn:nx<1048575)
include l8 hm n6 G2 hn
theorem Pv(o:Oper){e:Fn}{first cap:Array Operand}(z:o.op=.makeFunc e first cap)(h:iE e first.toList cap.toList ev nx=.ok v new set rd):z8 P F K H w m nx v new set ((execOp ρ o).run P w):=by
 simp only[execOp,z,Instr.makeFunc];rw[c8 (x:=.func e (first.map ρ) (cap.map ρ)) (w':=w) (by simp)]
 unfold iE at h;cases d:a3w e with
 |none=>rw[d]at h;exact l6.noConfusion (show l6.er 171 0=_ from h)
 |some f=>
  rw[d]at h;have g:e=.func f:=by
   unfold a3w at d;split at d
   .cases d;rfl
   .cases d
  subst g;obtain⟨l,h⟩:=a8 h;have l:f<=65535:=af l;obtain⟨n,A,h⟩:=Kd n6 _ _ h;obtain⟨p,B,h⟩:=Kd n6 _ _ h;rw[a9]at h;split at h
  .rename_i q;have q:first.toList.length+cap.toList.length=0:=ab q
   obtain⟨rfl,rfl,rfl,rfl⟩:=bK h;refine r8 l8 hm ?_;have C:first= #[]:=by
    apply ed;simpa using(by omega:first.toList.length=0)
   have D:cap= #[]:=by
    apply ed;simpa using(by omega:cap.toList.length=0)
   subst C;subst D;rw[Array.map_empty];exact .inr (.inr (.Jm f (by omega)))
  .obtain⟨j,h⟩:=a8 h;obtain⟨s,h⟩:=a8 h;have j:first.toList.length<=4095:=af j
   have s:cap.toList.length<=4095:=af s;cases h;have a:H nx=none:=G2 0 (by simp)
   let hd:Hd:=⟨none,first.toList.length+4096*cap.toList.length,n,p⟩
   have c:=M3 (hd:=hd) a;refine⟨K,N9 H nx hd,.refl K,c,fun r E t=>?_,?_,?_,l8,.refl F w,.refl F K⟩
   .by_cases u:r=nx
    .subst u;simp
    .rw[m7 _ _ _ _ u]at t;exact absurd E t
   .refine .inr (.inr (.fn f nx hd (first.map ρ) (cap.map ρ) hn (by omega) (j8 _ _ _) rfl (by simp[hd]) (by simp at j ⊢;omega) (fun i y k=>?_) (fun i y k=>?_)))
    .exact j6.cP c (A i y (by simpa using k))
    .exact j6.cP c (B i y (by simpa using k))
   .exact hm.new nx a (.z5 (.f first.toList.length n cap.toList.length p)) hd ⟨rfl,rfl,by omega,rfl,rfl⟩ (fun b G=>by cases G)
end
end Go.Abs
end
section
namespace Go.Abs
def CR(ρ:Nat->Nat->Prop)(c c':Nat):Prop:=
 (c % 8<4/\c'=c)\/(c % 8=7/\c/524288=0/\c'=c)\/∃r j,ρ r j/\
  ((c % 8=7/\c/524288=r+1/\c'=(j+1)*524288+c % 524288)\/(c % 8=4/\c/8388608=r/\c'=j*8388608+c % 8388608)\/
   (c % 8=5/\c/4503599627370496=r/\c'=j*4503599627370496+c % 4503599627370496)\/(c % 8=6/\c/8=r/\c'=j*8+c % 8))
theorem CR.symm{ρ f:Nat->Nat->Prop}(h:∀r j,ρ r j->f j r){c c':Nat}(d:CR ρ c c'):CR f c' c:=by
 rcases d with⟨a,rfl⟩|⟨a,b,rfl⟩|⟨r,j,g,d⟩
 .exact .inl ⟨a,rfl⟩
 .exact .inr (.inl ⟨a,b,rfl⟩)
 .refine .inr (.inr ⟨j,r,h r j g,?_⟩);rcases d with⟨a,b,e⟩|⟨a,b,e⟩|⟨a,b,e⟩|⟨a,b,e⟩
  .exact .inl (by omega)
  .exact .inr (.inl (by omega))
  .exact .inr (.inr (.inl (by omega)))
  .exact .inr (.inr (.inr (by omega)))
theorem CR.mono{ρ d:Nat->Nat->Prop}(h:∀r j,ρ r j->d r j){c c':Nat}(a:CR ρ c c'):CR d c c':=by
 rcases a with b|b|⟨r,j,e,a⟩
 .exact .inl b
 .exact .inr (.inl b)
 .exact .inr (.inr ⟨r,j,h r j e,a⟩)
theorem CR.lt{ρ:Nat->Nat->Prop}{c c':Nat}(g:∀r j,ρ r j->j<1048575)(a:CR ρ c c')(h:c<cB):c'<cB:=by
 have e:cB=1208925819614629174706176:=rfl;rcases a with⟨_,rfl⟩|⟨_,_,rfl⟩|⟨r,j,i,a⟩
 .exact h
 .exact h
 .have:=g r j i;rcases a with⟨b,d,f⟩|⟨b,d,f⟩|⟨b,d,f⟩|⟨b,d,f⟩<;>rw[e]at* <;>omega
def TN(ρ:Nat->Nat->Prop)(hd a:Hd):Prop:=(hd.base≠none/\a=hd)\/
 (hd.base=none/\a.base=none/\a.sz=hd.sz/\(∀i,i<hd.sz % 4096->CR ρ (P3 hd.len i) (P3 a.len i))/\∀i,i<hd.sz/4096->CR ρ (P3 hd.cap i) (P3 a.cap i))
section
variable {ρ:Nat->Nat->Prop} {H H':Nat->Option Hd}
theorem CR.rep(hh:∀r j hd,ρ r j->H r=some hd->∃d,H' j=some d/\TN ρ hd d/\j<1048575){c:Nat}{v:Value}(h:j6 H c v):∀c',CR ρ c c'->j6 H' c' v:=by
 induction h with
 |int k n m=>
  intro c' a;have O:=fD k;have e:N8 (G0 k) n=128*n+8*G0 k:=rfl;rcases a with⟨_,rfl⟩|⟨g,_⟩|⟨r,j,_,a⟩
  .exact .int k n m
  .omega
  .omega
 |Ax=>intro c' a;rcases a with⟨_,rfl⟩|⟨g,_⟩|⟨r,j,_,a⟩<;>first|exact .Ax|omega
 |SN=>intro c' a;rcases a with⟨_,rfl⟩|⟨g,_⟩|⟨r,j,_,a⟩<;>first|exact .SN|omega
 |Hm=>intro c' a;rcases a with⟨_,rfl⟩|⟨g,_⟩|⟨r,j,_,a⟩<;>first|exact .Hm|omega
 |gE=>intro c' a;rcases a with⟨_,rfl⟩|⟨g,_⟩|⟨r,j,_,a⟩<;>first|exact .gE|omega
 |Jk=>intro c' a;rcases a with⟨_,rfl⟩|⟨g,_⟩|⟨r,j,_,a⟩<;>first|exact .Jk|omega
 |Jl=>intro c' a;rcases a with⟨_,rfl⟩|⟨g,_⟩|⟨r,j,_,a⟩<;>first|exact .Jl|omega
 |ptr r off hd b z m g u=>
  intro c' a;have e:bO r off=8*(r*1048576+off)+4:=rfl;rcases a with⟨a,_⟩|⟨a,_⟩|⟨o,j,p,a⟩
  .omega
  .omega
  .have q:o=r/\c'=bO j off:=by
    rw[show bO j off=8*(j*1048576+off)+4 from rfl];omega
   obtain⟨rfl,rfl⟩:=q;obtain⟨d,s,g2,y⟩:=hh _ j hd p g;rcases g2 with⟨_,rfl⟩|⟨g2,_⟩
   .exact .ptr j off _ b (by omega) m s u
   .rw[u]at g2;cases g2
 |sl r off len l full hd b w cap z m g u x A B I J K C=>
  intro c' a;have e:pJ r off len l full=8*(2*(256*(1048576*(r*1048576+off)+len)+l)+full)+5:=rfl;rcases a with⟨a,_⟩|⟨a,_⟩|⟨o,j,p,a⟩
  .omega
  .omega
  .have q:o=r/\c'=pJ j off len l full:=by
    rw[show pJ j off len l full=8*(2*(256*(1048576*(j*1048576+off)+len)+l)+full)+5 from rfl];omega
   obtain⟨rfl,rfl⟩:=q;obtain⟨d,s,g2,y⟩:=hh _ j hd p A;rcases g2 with⟨_,rfl⟩|⟨g2,_⟩
   .exact .sl j off len l full _ b w cap (by omega) m g u x s B I J K C
   .rw[B]at g2;cases g2
 |map r hd b z m g=>
  intro c' a;have e:kD r=8*r+6:=rfl;rcases a with⟨a,_⟩|⟨a,_⟩|⟨o,j,p,a⟩
  .omega
  .omega
  .have q:o=r/\c'=kD j:=by
    rw[show kD j=8*j+6 from rfl];omega
   obtain⟨rfl,rfl⟩:=q;obtain⟨d,s,g2,y⟩:=hh _ j hd p m;rcases g2 with⟨_,rfl⟩|⟨g2,_⟩
   .exact .map j _ b (by omega) s g
   .rw[g]at g2;cases g2
 |Jm f m=>
  intro c' a;have e:xH f 0=8*(0*65536+f)+7:=rfl;rcases a with⟨a,_⟩|⟨_,_,rfl⟩|⟨o,j,p,a⟩
  .omega
  .exact .Jm f m
  .omega
 |fn f r hd D E z m g u x A B I F G=>
  intro c' a;have e:xH f (r+1)=8*((r+1)*65536+f)+7:=rfl;rcases a with⟨a,_⟩|⟨_,a,_⟩|⟨o,j,p,a⟩
  .omega
  .omega
  .have q:o=r/\c'=xH f (j+1):=by
    rw[show xH f (j+1)=8*((j+1)*65536+f)+7 from rfl];omega
   obtain⟨rfl,rfl⟩:=q;obtain⟨d,s,g2,y⟩:=hh _ j hd p g;rcases g2 with⟨g2,_⟩|⟨_,g2,L,M,N⟩
   .exact absurd u g2
   .refine .fn f j d D E y m s g2 (L.trans x) A (fun i v t=>F i v t _ (M i ?_)) (fun i v t=>G i v t _ (N i ?_))
    .have:i<D.size:=by
      rcases bh i D.size with h|h
      .exact h
      .rw[fb h]at t;cases t
     rw[x];omega
    .have:i<E.size:=by
      rcases bh i E.size with h|h
      .exact h
      .rw[fb h]at t;cases t
     rw[x];omega
def kG(ρ:Nat->Nat->Prop)(s n a:Nat):Prop:=(∀i,i<s->CR ρ (P3 n i) (P3 a i))/\(n<cB^s->a<cB^s)
theorem kG.mono{a:Nat->Nat->Prop}(h:∀r j,ρ r j->a r j){s n n':Nat}(b:kG ρ s n n'):kG a s n n':=⟨fun i c=>(b.1 i c).mono h,b.2⟩
theorem kG.rep(hh:∀r j hd,ρ r j->H r=some hd->∃a,H' j=some a/\TN ρ hd a/\j<1048575){s n d:Nat}{vs:List Value}(h:x7 H s n vs)(e:kG ρ s n d):x7 H' s d vs:=by
 refine⟨e.2 h.1,h.2.1,fun i v c=>CR.rep hh (h.2.2 i v c) _ (e.1 i ?_)⟩
 rcases bh i vs.length with b|b
 .rw[h.2.1]at b;exact b
 .rw[an b]at c;cases c
theorem a3Z.rep(hh:∀r j hd,ρ r j->H r=some hd->∃a,H' j=some a/\TN ρ hd a/\j<1048575){b n e:Nat}{v:Value}(h:y9 H b n v)(f:kG ρ (nL b) n e):y9 H' b e v:=by
 cases b with
 |zero=>
  have g:j6 H n v:=h;have i:=g.lt.2;have c:=f.1 0 (by decide)
  have d:=f.2 (by show n<cB^1;rw[fg];exact i)
  have d:e<cB^1:=d;rw[fg]at d;rw[X6 i,X6 d]at c;exact CR.rep hh g _ c
 |succ k=>obtain⟨cs,rfl,c⟩:=h;exact⟨cs,rfl,kG.rep hh c f⟩
def UZ(ρ:Nat->Nat->Prop):BV->BV->Prop
 |.c c,.c c'=>c≠2/\CR ρ c c'
 |.a s n,.a e f=>e=s/\kG ρ s n f
 |.t l,.t d=>l≠ []/\d.length=l.length/\∀ (i:Nat) (p b:Nat×Nat),l[i]? =some p->d[i]? =some b->b.1=p.1/\kG ρ (nL p.1) p.2 b.2
 |_,_=>False
theorem UZ.mono{b:Nat->Nat->Prop}(h:∀r j,ρ r j->b r j){x x':BV}(a:UZ ρ x x'):UZ b x x':=by
 cases x<;>cases x'<;>try exact a
 .exact⟨a.1,a.2.mono h⟩
 .exact⟨a.1,a.2.mono h⟩
 .exact⟨a.1,a.2.1,fun i p c d e=>⟨(a.2.2 i p c d e).1,(a.2.2 i p c d e).2.mono h⟩⟩
theorem UZ.rep(hh:∀r j hd,ρ r j->H r=some hd->∃b,H' j=some b/\TN ρ hd b/\j<1048575){K K':b8}{x c:BV}{v:Value}(h:u6 K H x v)(a:UZ ρ x c):u6 K' H' c v:=by
 cases x<;>cases c<;>try exact a.elim
 .obtain⟨d,a⟩:=a;rcases h with⟨rfl,rfl⟩|⟨rfl,_⟩|h
  .rcases a with⟨_,rfl⟩|⟨f,_⟩|⟨r,j,_,f⟩
   .exact .inl ⟨rfl,rfl⟩
   .omega
   .omega
  .exact absurd rfl d
  .exact .inr (.inr (CR.rep hh h _ a))
 .obtain⟨rfl,a⟩:=a;obtain⟨cs,rfl,h⟩:=h;exact⟨cs,rfl,kG.rep hh h a⟩
 .obtain⟨f,d,m⟩:=a;obtain⟨vs,rfl,g2,n⟩:=h;refine⟨vs,rfl,g2.trans d.symm,fun i p x e o=>?_⟩
  .rename_i l q;have g:i<l.length:=by
    rcases bh i q.length with k|k
    .omega
    .rw[an k]at e;cases e
   obtain⟨s,t⟩:=m i l[i] p (ag g) e;have:=a3Z.rep hh (n i l[i] x (ag g) o) t;rw[s];exact this
def OR(ρ:Nat->Nat->Prop):HO->HO->Prop
 |.c s n,.c o q=>o=s/\kG ρ s (n/cB) (q/cB)
 |.m ks vs l clk,.m b d r a=>b=ks/\d=vs/\r=l/\a=clk/\∀p∈l,kG ρ (nL ks) p.2.1 p.2.1/\kG ρ (nL vs) p.2.2 p.2.2
 |.f j t k u,.f e g h i=>e=j/\h=k/\kG ρ j t g/\kG ρ k u i
 |_,_=>False
theorem OR.mono{b:Nat->Nat->Prop}(h:∀r j,ρ r j->b r j){x x':HO}(a:OR ρ x x'):OR b x x':=by
 cases x<;>cases x'<;>try exact a
 .exact⟨a.1,a.2.mono h⟩
 .exact⟨a.1,a.2.1,a.2.2.1,a.2.2.2.1,fun p c=>⟨(a.2.2.2.2 p c).1.mono h,(a.2.2.2.2 p c).2.mono h⟩⟩
 .exact⟨a.1,a.2.1,a.2.2.1.mono h,a.2.2.2.mono h⟩
def S1(o:HO)(hd:Hd):Hd:=match o with
 |.f a b c d=>⟨none,a+4096*c,b,d⟩
 |_=>hd
theorem OR.cont(hh:∀r j hd,ρ r j->H r=some hd->∃f,H' j=some f/\TN ρ hd f/\j<1048575){K K':b8}{w:World}{hd:Hd}{o o':HO}(h:n9 K H w hd (.z5 o))(a:OR ρ o o'):n9 K' H' w (S1 o' hd) (.z5 o'):=by
 cases o<;>cases o'<;>try exact a.elim
 .obtain⟨rfl,a⟩:=a;obtain⟨b,cs,e,q,i,k,c,l,m⟩:=h;exact⟨b,cs,e,q,i,k,c,l,kG.rep hh m a⟩
 .obtain⟨rfl,rfl,rfl,rfl,a⟩:=a;obtain⟨b,es,i,k,s,c,g,d⟩:=h;refine⟨b,es,i,k,s,?_,g,d⟩;rw[E9]at c ⊢;refine⟨c.1,fun j p e n t=>?_⟩
  obtain⟨u,g2,v,x⟩:=c.2 j p e n t;obtain⟨y,z⟩:=a p (g.mem_iff.2 (bn.2 ⟨j,n⟩));exact⟨u,a3Z.rep hh g2 y,a3Z.rep hh v z,x⟩
 .obtain⟨rfl,rfl,a⟩:=a;obtain⟨i,k,c,l,m⟩:=h;exact⟨rfl,rfl,c,rfl,rfl⟩
theorem OR.head{K:b8}{w:World}{hd:Hd}{o o':HO}(h:n9 K H w hd (.z5 o))(c:OR ρ o o'):TN ρ hd (S1 o' hd):=by
 cases o<;>cases o'<;>try exact c.elim
 .obtain⟨b,cs,e,m,a,_⟩:=h;exact .inl ⟨by rw[a];simp,rfl⟩
 .obtain⟨b,es,a,_⟩:=h;exact .inl ⟨by rw[a];simp,rfl⟩
 .obtain⟨rfl,rfl,d,f⟩:=c;obtain⟨a,g,n,j,k⟩:=h;refine .inr ⟨a,rfl,g.symm,fun i l=>?_,fun i l=>?_⟩
  .rw[j];exact d.1 i (by omega)
  .rw[k];exact f.1 i (by omega)
theorem TN.symm{e:Nat->Nat->Prop}(h:∀r j,ρ r j->e j r){hd a:Hd}(f:TN ρ hd a):TN e a hd:=by
 rcases f with⟨b,rfl⟩|⟨b,g,c,k,l⟩
 .exact .inl ⟨b,rfl⟩
 .exact .inr ⟨g,b,c.symm,fun i d=>(k i (by rw[<-c];exact d)).symm h,fun i d=>(l i (by rw[<-c];exact d)).symm h⟩
end
end Go.Abs
end
section
namespace Go.Abs
section
variable {v:BV} {new:List HO} {set:List (Nat×HO)} {rd:List Nat} {Q:Nat->Prop}
def tS(r:Nat):Lk->Option Nat
 |[]=>none
 |p::L=>if p.1=r then some p.2 else tS r L
def lk(L:Lk)(r j:Nat):Prop:=tS r L=some j
theorem Pw{r:Nat}{k:Nat->l6}{e:l6}:∀ (L:Lk),lkF r L k e=match tS r L with
  |some j=>k j
  |none=>e
 |[]=>rfl
 |p::L=>by
  show iB (Nat.beq p.1 r) (k p.2) (lkF r L k e)=_;rw[a9,Pw L];by_cases h:p.1=r
  .rw[aj (by rw[ig];exact h)];simp[tS,h]
  .rw[ai (fun hh=>h (ab hh))];simp[tS,h]
def ad(m:Nat):List Nat->Lk
 |[]=>[]
 |r::t=>(r,m+t.length)::ad m t
theorem mP(m:Nat)(a b:List Nat)(L:Lk):ad (m+a.length) b++(ad m a++L)=ad m (b++a)++L:=by
 induction b with
 |nil=>rfl
 |cons r t c=>
  simp only[ad,gy,bu];rw[c];congr 2;omega
theorem Px{r m:Nat}{L:Lk}:∀ {t:List Nat},r ∉ t->tS r (ad m t++L)=tS r L
 |[],_=>rfl
 |a::t,h=>by
  simp only[av,ke]at h;simp only[ad,gy,tS,ai (fun e:a=r=>h.1 e.symm)]
  exact Px h.2
def Va(L:Lk)(t:List Nat):Prop:=t.Nodup/\∀r∈t,tS r L=none
theorem Va.nil(L:Lk):Va L []:=⟨jz,fun _ h=>by cases h⟩
theorem DJ{L:Lk}{m:Nat}{t:List Nat}(h:Va L t)(r j:Nat)(a:lk L r j):lk (ad m t++L) r j:=by
 unfold lk at*
 rw[Px]
 .exact a
 .intro b;rw[h.2 r b]at a;cases a
theorem Va.app{L:Lk}{m:Nat}{a b:List Nat}(h:Va L a)(d:Va (ad m a++L) b):Va L (b++a):=by
 have hd:∀r∈b,r ∉ a:=by
  intro r g f;have:=d.2 r g;clear d
  induction a with
  |nil=>cases f
  |cons x t i=>
   simp only[ad,gy,tS]at this;split at this
   .cases this
   .rename_i j;rcases av.1 f with e|k
    .exact j e.symm
    .exact i ⟨(dn.1 h.1).2,fun r c=>h.2 r (al _ c)⟩ k this
 refine⟨om.2 ⟨d.1,h.1,fun a f b g e=>hd a f (e▸g)⟩,fun r c=>?_⟩
 rcases cj.1 c with c|c
 .have:=d.2 r c;rw[Px (hd r c)]at this;exact this
 .exact h.2 r c
theorem Xa{c:Nat}(h:Nat.land c 4=0):c % 8<4:=by
 have b:c.testBit 2=false:=by
  have a:(c &&& 4).testBit 2=false:=by rw[show c &&& 4=0 from h];simp
  rw[nu,show Nat.testBit 4 2=true by decide,Bool.and_true]at a
  exact a
 have:=oq (x:=c) (i:=2);rw[b]at this;have a:¬(c/2^2 % 2=1):=by simpa using this.symm
 omega
theorem a30{c:Nat}(h:Nat.land c 4≠0):4<=c % 8:=by
 rcases bh (c % 8) 4 with a|a
 .exfalso;apply h;have b:c.testBit 2=false:=by
   rw[oq];simp;omega
  show c &&& 4=0;apply pr;intro i;rw[nu];by_cases d:i=2
  .subst d;rw[b];simp
  .have:Nat.testBit 4 i=false:=by
    rw[show(4:Nat)=2^2 from rfl,si];simp;omega
   rw[this];simp
 .exact a
def a0K{α:Type}(Q:Nat->Prop)(L:Lk)(q:List Nat)(m:Nat)(R:(Nat->Nat->Prop)->α->Prop)(k:α->Lk->List Nat->Nat->l6)(z:l6):Prop:=
 ∃t a,Va L t/\(∀r∈t,Q r)/\R (lk (ad m t++L)) a/\k a (ad m t++L) (t++q) (m+t.length)=z
def DK{α:Type}(Q:Nat->Prop)(L:Lk)(q:List Nat)(m:Nat)(R:(Nat->Nat->Prop)->α->Prop)(f:(α->Lk->List Nat->Nat->l6)->l6):Prop:=
 (∃c x,∀k,f k=.er c x)\/∃t a,Va L t/\(∀r∈t,Q r)/\R (lk (ad m t++L)) a/\∀k,f k=k a (ad m t++L) (t++q) (m+t.length)
theorem DK.a31{α:Type}{L:Lk}{q:List Nat}{m:Nat}{R:(Nat->Nat->Prop)->α->Prop}{f:(α->Lk->List Nat->Nat->l6)->l6}(h:DK Q L q m R f){k:α->Lk->List Nat->Nat->l6}(b:f k=.ok v new set rd):a0K Q L q m R k (.ok v new set rd):=by
 rcases h with⟨c,x,h⟩|⟨t,a,d,e,g,i⟩
 .rw[h k]at b;cases b
 .exact⟨t,a,d,e,g,(i k).symm.trans b⟩
theorem DK.here{α:Type}{L:Lk}{q:List Nat}{m:Nat}{R:(Nat->Nat->Prop)->α->Prop}{f:(α->Lk->List Nat->Nat->l6)->l6}(a:α)(b:R (lk L) a)(h:∀k,f k=k a L q m):DK Q L q m R f:=
 .inr ⟨[],a,.nil L,(fun _ h=>by cases h),b,h⟩
theorem DK.err{α:Type}{L:Lk}{q:List Nat}{m:Nat}{R:(Nat->Nat->Prop)->α->Prop}{f:(α->Lk->List Nat->Nat->l6)->l6}(c x:Nat)(h:∀k,f k=.er c x):DK Q L q m R f:=.inl ⟨c,x,h⟩
theorem DK.bind{α β:Type}{L:Lk}{q:List Nat}{m:Nat}{R:(Nat->Nat->Prop)->α->Prop}{e:(Nat->Nat->Prop)->β->Prop}{f:(α->Lk->List Nat->Nat->l6)->l6}{g:α->Lk->List Nat->Nat->(β->Lk->List Nat->Nat->l6)->l6}{f2:(β->Lk->List Nat->Nat->l6)->l6}(h:DK Q L q m R f)
  (p:∀ρ i a,(∀r j,ρ r j->i r j)->R ρ a->R i a)(s:∀a L q m,DK Q L q m (fun ρ b=>R ρ a->e ρ b) (g a L q m))(d:∀k,f2 k=f (fun a L q m=>g a L q m k)):DK Q L q m e f2:=by
 rcases h with⟨c,x,h⟩|⟨t,a,u,w,y,l⟩
 .exact .inl ⟨c,x,fun k=>by rw[d,h]⟩
 rcases s a (ad m t++L) (t++q) (m+t.length)with⟨c,x,h⟩|⟨n,b,o,z,A,B⟩
 .exact .inl ⟨c,x,fun k=>by rw[d,l,h]⟩
 refine .inr ⟨n++t,b,u.app o,fun r C=>(cj.1 C).elim (z r) (w r),?_,fun k=>?_⟩
 .rw[<-mP];exact A (p _ _ a (DJ o) y)
 .rw[<-mP,bk,bu,ez n.length,<-fe,d,l,B]
theorem DK.map{α β:Type}{L:Lk}{q:List Nat}{m:Nat}{R:(Nat->Nat->Prop)->α->Prop}{b:(Nat->Nat->Prop)->β->Prop}{f:(α->Lk->List Nat->Nat->l6)->l6}{f2:(β->Lk->List Nat->Nat->l6)->l6}(h:DK Q L q m R f)
  (F:α->β)(d:∀k,f2 k=f (fun a L q m=>k (F a) L q m))(e:∀ρ a,R ρ a->b ρ (F a)):DK Q L q m b f2:=by
 rcases h with⟨c,x,h⟩|⟨t,a,g,i,j,l⟩
 .exact .inl ⟨c,x,fun k=>by rw[d,h]⟩
 .exact .inr ⟨t,F a,g,i,e _ _ j,fun k=>by rw[d,l]⟩
theorem DK.nB{α:Type}{L:Lk}{q:List Nat}{m:Nat}{R:(Nat->Nat->Prop)->α->Prop}{f f2:(α->Lk->List Nat->Nat->l6)->l6}{b:Bool}{c:Nat}(h:b=true->DK Q L q m R f)(a:∀k,f2 k=Abs.nB b c (f k)):DK Q L q m R f2:=by
 cases b with
 |false=>exact .inl ⟨c,0,fun k=>by rw[a];rfl⟩
 |true=>
  have e:f2=f:=by funext k;rw[a];rfl
  rw[e];exact h rfl
theorem Mw{c r:Nat}{L:Lk}{q:List Nat}{m:Nat}(d:Q r):DK Q L q m (fun ρ c'=>∃j,ρ r j/\c'=c+j*vW c- r*vW c) (JE c r L q m):=by
 cases b:tS r L with
 |some j=>
  refine .here _ ⟨j,b,rfl⟩ (fun k=>?_)
  unfold JE;rw[Pw,b];simp only[B6];rfl
 |none=>
  refine .inr ⟨[r],_,⟨by simp,fun x a=>by simp at a;subst a;exact b⟩,(fun x a=>by simp at a;subst a;exact d),⟨m,?_,rfl⟩,fun k=>?_⟩
  .simp[lk,ad,tS]
  .unfold JE;rw[Pw,b];simp only[B6];rfl
theorem oV(c:Nat):(c % 8=4->vW c=8388608)/\(c % 8=5->vW c=4503599627370496)/\(c % 8=6->vW c=8)/\(c % 8=7->vW c=524288):=by
 have h:vW c=Er (c % 8- 4) 8388608 4503599627370496 8 524288:=rfl;refine⟨fun e=>?_,fun e=>?_,fun e=>?_,fun e=>?_⟩<;>rw[h,e]<;>rfl
theorem swap_eq(c j S:Nat):c+j*S- c/S*S=j*S+c % S:=by
 have h:=Nat.div_add_mod' c S;generalize c/S*S=p at*
 generalize c % S=q at*
 generalize j*S=t at*
 omega
theorem a0L(c j S r:Nat)(a:c/S=r+1):c+j*S- r*S=(j+1)*S+c % S:=by
 have h:=Nat.div_add_mod' c S;rw[a,bl,kj]at h;rw[bl,kj];generalize r*S=p at*
 generalize c % S=q at*
 generalize j*S=t at*
 omega
def Refs(c r:Nat):Prop:=(c % 8=7/\c/524288=r+1)\/(c % 8=4/\c/8388608=r)\/(c % 8=5/\c/4503599627370496=r)\/(c % 8=6/\c/8=r)
theorem Mx{c:Nat}{L:Lk}{q:List Nat}{m:Nat}(t:∀r,Refs c r->Q r):DK Q L q m (fun ρ c'=>CR ρ c c') (JF c L q m):=by
 by_cases l:Nat.land c 4=0
 .refine .here c (.inl ⟨Xa l,rfl⟩) (fun k=>?_)
  unfold JF;rw[a9,aj (by rw[l];rfl)]
 .have w:4<=c % 8:=a30 l;have u:∀k:KL,JF c L q m k=iB (Nat.beq (AR c) 7) (@Nat.rec (fun _=>l6) (k c L q m) (fun r _=>JE c r L q m k) (fR c)) (fN (Nat.div c (vW c)) fun r=>JE c r L q m k):=by
   intro k;unfold JF;rw[a9,ai (fun h=>l (ab h))]
  by_cases i:c % 8=7
  .have n:∀k:KL,JF c L q m k=@Nat.rec (fun _=>l6) (k c L q m) (fun r _=>JE c r L q m k) (fR c):=by
    intro k;rw[u,a9,aj (by show Nat.beq (c % 8) 7=true;rw[i];rfl)]
   cases o:fR c with
   |zero=>
    refine .here c (.inr (.inl ⟨i,o,rfl⟩)) (fun k=>?_)
    exact(n k).trans (by rw[o];rfl)
   |succ r=>
    have f:=(oV c).2.2.2 i;have g:c/524288=r+1:=o;refine(Mw (c:=c) (r:=r) (L:=L) (q:=q) (m:=m) (t r (.inl ⟨i,g⟩))).map id (fun k=>(n k).trans (by rw[o];rfl)) (fun ρ a ⟨j,p,e⟩=>?_)
    refine .inr (.inr ⟨r,j,p,.inl ⟨i,g,?_⟩⟩);rw[f]at e;exact e.trans (a0L _ _ _ _ g)
  .obtain⟨r0,b⟩:∃r0,Nat.div c (vW c)=r0:=⟨_,rfl⟩;have n:∀k:KL,JF c L q m k=JE c r0 L q m k:=by
    intro k;rw[u,a9,ai (show ¬(Nat.beq (AR c) 7=true)from fun h=>i (ab h)),B6,b]
   have b:c/vW c=r0:=b;have d:c % 8=4\/c % 8=5\/c % 8=6:=by omega
   have s:Refs c r0:=by
    rcases d with d|d|d
    .exact .inr (.inl ⟨d,by rw[(oV c).1 d]at b;exact b⟩)
    .exact .inr (.inr (.inl ⟨d,by rw[(oV c).2.1 d]at b;exact b⟩))
    .exact .inr (.inr (.inr ⟨d,by rw[(oV c).2.2.1 d]at b;exact b⟩))
   refine(Mw (c:=c) (r:=r0) (L:=L) (q:=q) (m:=m) (t _ s)).map id (fun k=>n k) (fun ρ a ⟨j,p,e⟩=>?_)
   refine .inr (.inr ⟨_,j,p,?_⟩);rw[<-b,swap_eq]at e;rcases d with d|d|d
   .have f:=(oV c).1 d;rw[f]at e b;exact .inr (.inl ⟨d,b,e⟩)
   .have f:=(oV c).2.1 d;rw[f]at e b;exact .inr (.inr (.inl ⟨d,b,e⟩))
   .have f:=(oV c).2.2.1 d;rw[f]at e b;exact .inr (.inr (.inr ⟨d,b,e⟩))
def Py(s n:Nat)(ρ:Nat->Nat->Prop)(a:Nat):Prop:=(∀r j,ρ r j->j<1048575)->kG ρ s n a
theorem Py.mono{s n:Nat}(ρ b:Nat->Nat->Prop)(a:Nat)(h:∀r j,ρ r j->b r j)(c:Py s n ρ a):Py s n b a:=fun d=>kG.mono h (c fun r j e=>d r j (h r j e))
def HB(Q:Nat->Prop)(s n:Nat):Prop:=∀i,i<s->∀r,Refs (P3 n i) r->Q r
theorem My:∀ (s:Nat) {n:Nat} {L:Lk} {q:List Nat} {m:Nat},HB Q s n->DK Q L q m (Py s n) (P' s n L q m)
 |0,n,L,q,m,_=>.here 0 (fun _=>⟨fun i h=>by omega,fun _=>by simp⟩) (fun k=>rfl)
 |s+1,n,L,q,m,j=>by
  refine(Mx (c:=n % cB) (by
   have:=j 0 (by omega)
   rw[U1,je,jh]at this
   exact this)).bind (g:=fun c L q m k=>P' s (n/cB) L q m fun b L q m=>k (Nat.add c (Nat.mul cB b)) L q m) (fun ρ u a hh e=>CR.mono hh e) (fun c L q m=>?_) (fun k=>rfl)
  refine(My s (fun i h=>by rw[sY];exact j (i+1) (by omega))).map (fun b=>c+cB*b) (fun k=>rfl) (fun ρ b f e l=>?_)
  have f:=f l;have o:n % cB<cB:=fk _ R4;have d:c<cB:=e.lt l o;refine⟨fun i h=>?_,fun p=>?_⟩
  .rw[FI d];cases i with
   |zero=>
    have:P3 n 0=n % cB:=by rw[U1,je,jh]
    rw[this];exact e
   |succ i=>
    have:=f.1 i (by omega)
    rw[sY]at this;exact this
  .have r:n/cB<cB^s:=by
    refine mu ?_;rw[<-jt];exact p
   have t:=f.2 r;have:=JM (x:=c) (y:=b) (s:=1) (k:=s) (by rw[fg];exact d) t
   rw[fg,gv b,ez 1]at this;exact this
theorem oW{s n:Nat}(h:fJ s n=true)(ρ:Nat->Nat->Prop):kG ρ s n n:=⟨fun i a=>.inl ⟨Xa (Ih h i a),rfl⟩,fun h=>h⟩
theorem rQ{s n:Nat}{L:Lk}{q:List Nat}{m:Nat}(b:HB Q s n):DK Q L q m (Py s n) (Es s n L q m):=by
 cases a:fJ s n with
 |true=>
  refine .here n (fun _=>oW a _) (fun k=>?_)
  unfold Es;rw[a];rfl
 |false=>
  have e:Es s n L q m=P' s n L q m:=by
   funext k;unfold Es;rw[a];simp only[B6];rfl
  rw[e];exact My s b
theorem Kf(sh:Nat):OF sh=nL sh:=by cases sh<;>rfl
def PsX(l:List (Nat×Nat))(ρ:Nat->Nat->Prop)(b:List (Nat×Nat)):Prop:=(∀r j,ρ r j->j<1048575)->b.length=l.length/\∀ (i:Nat) (p a:Nat×Nat),l[i]? =some p->b[i]? =some a->a.1=p.1/\kG ρ (nL p.1) p.2 a.2
theorem Mz:∀ (l:List (Nat×Nat)) {L:Lk} {q:List Nat} {m:Nat},(∀p∈l,HB Q (nL p.1) p.2)->DK Q L q m (PsX l) (R' l L q m)
 |[],L,q,m,_=>.here [] (fun _=>⟨rfl,fun i p f d=>by simp at d⟩) (fun k=>rfl)
 |p::l,L,q,m,h=>by
  refine(rQ (s:=OF p.1) (n:=p.2) (by rw[Kf];exact h p (ar ..))).bind (g:=fun n L q m k=>R' l L q m fun l L q m=>k ((p.1,n)::l) L q m) Py.mono (fun n L q m=>?_) (fun k=>rfl)
  refine(Mz l (fun f r=>h f (al _ r))).map (fun j=>(p.1,n)::j) (fun k=>rfl) (fun ρ j t u o=>?_)
  obtain⟨d,w⟩:=t o;refine⟨by simp[d],fun i a b e c=>?_⟩
  cases i with
  |zero=>
   simp at e c;subst e;subst c;have:=u o;rw[Kf]at this;exact⟨rfl,this⟩
  |succ i=>exact w i a b (by simpa using e) (by simpa using c)
def BVX(x:BV)(ρ:Nat->Nat->Prop)(a:BV):Prop:=(∀r j,ρ r j->j<1048575)->UZ ρ x a
theorem BVX.mono{x:BV}(ρ b:Nat->Nat->Prop)(a:BV)(h:∀r j,ρ r j->b r j)(c:BVX x ρ a):BVX x b a:=fun d=>UZ.mono h (c fun r j e=>d r j (h r j e))
def BVQ(Q:Nat->Prop):BV->Prop
 |.c c=>∀r,Refs c r->Q r
 |.a s n=>HB Q s n
 |.t l=>∀p∈l,HB Q (nL p.1) p.2
 |.u=>True
theorem FJ{x:BV}{L:Lk}{q:List Nat}{m:Nat}(e:BVQ Q x):DK Q L q m (BVX x) (Lv x L q m):=by
 cases x with
 |c c=>
  refine .nB (f:=fun k=>JF c L q m fun c=>k (.c c)) (fun g=>?_) (fun k=>rfl)
  refine(Mx e).map BV.c (fun k=>rfl) (fun ρ a b d=>⟨?_,b⟩)
  rintro rfl;exact absurd g (by decide)
 |a s n=>exact(rQ e).map (BV.a s) (fun k=>rfl) (fun ρ a b d=>⟨rfl,b d⟩)
 |t l=>
  refine .nB (f:=fun k=>R' l L q m fun l=>k (.t l)) (fun g=>?_) (fun k=>rfl)
  refine(Mz l e).map BV.t (fun k=>rfl) (fun ρ a b d=>⟨?_,b d⟩)
  rintro rfl;exact absurd g (by decide)
 |u=>exact .err 181 0 (fun k=>rfl)
theorem RF{x:BV}{L:Lk}{q:List Nat}{m:Nat}{k:BV->Lk->List Nat->Nat->l6}(a:BVQ Q x)(h:Lv x L q m k=.ok v new set rd):a0K Q L q m (BVX x) k (.ok v new set rd):=(FJ a).a31 h
def VsX(l:List BV)(ρ:Nat->Nat->Prop)(a:List BV):Prop:=(∀r j,ρ r j->j<1048575)->a.length=l.length/\∀ (i:Nat) (x b:BV),l[i]? =some x->a[i]? =some b->UZ ρ x b
theorem VsX.mono{l:List BV}(ρ c:Nat->Nat->Prop)(a:List BV)(h:∀r j,ρ r j->c r j)(d:VsX l ρ a):VsX l c a:=fun e=>
 ⟨(d fun r j b=>e r j (h r j b)).1,fun i p f g k=>UZ.mono h ((d fun r j b=>e r j (h r j b)).2 i p f g k)⟩
theorem Br:∀ (l:List BV) {L:Lk} {q:List Nat} {m:Nat},(∀x∈l,BVQ Q x)->DK Q L q m (VsX l) (Rl l L q m)
 |[],L,q,m,_=>.here [] (fun _=>⟨rfl,fun i p f d=>by simp at d⟩) (fun k=>rfl)
 |p::l,L,q,m,h=>by
  refine(FJ (h p (ar ..))).bind (g:=fun v L q m k=>Rl l L q m fun l=>k (v::l)) BVX.mono (fun n L q m=>?_) (fun k=>rfl)
  refine(Br l (fun f r=>h f (al _ r))).map (fun j=>n::j) (fun k=>rfl) (fun ρ j s t o=>?_)
  obtain⟨d,u⟩:=s o;refine⟨by simp[d],fun i a b e c=>?_⟩
  cases i with
  |zero=>
   simp at e c;subst e;subst c;exact t o
  |succ i=>exact u i a b (by simpa using e) (by simpa using c)
theorem Xb(l:List BV){L:Lk}{q:List Nat}{m:Nat}{k:List BV->Lk->List Nat->Nat->l6}(a:∀x∈l,BVQ Q x)(h:Rl l L q m k=.ok v new set rd):a0K Q L q m (VsX l) k (.ok v new set rd):=(Br l a).a31 h
theorem Cz{ks vs:Nat}:∀ {l:ME},nW ks vs l=true->∀ (ρ:Nat->Nat->Prop),∀p∈l,kG ρ (nL ks) p.2.1 p.2.1/\kG ρ (nL vs) p.2.2 p.2.2
 |[],_,_,p,b=>by cases b
 |a::l,h,ρ,p,b=>by
  have h:iB (fJ (OF ks) a.2.1) (iB (fJ (OF vs) a.2.2) (nW ks vs l) false) false=true:=h;rw[a9,a9]at h;split at h
  .rename_i c;split at h
   .rename_i d;rw[Kf]at c d;rcases av.1 b with rfl|b
    .exact⟨oW c ρ,oW d ρ⟩
    .exact Cz h ρ p b
   .cases h
  .cases h
def OX(o:HO)(ρ:Nat->Nat->Prop)(o':HO):Prop:=(∀r j,ρ r j->j<1048575)->OR ρ o o'
theorem OX.mono{x:HO}(ρ b:Nat->Nat->Prop)(a:HO)(h:∀r j,ρ r j->b r j)(c:OX x ρ a):OX x b a:=fun d=>OR.mono h (c fun r j e=>d r j (h r j e))
theorem Pz{s n:Nat}(h:Nat.land n (Nat.mul cB (pL s))=0):fJ s (n/cB)=true:=by
 have a:=Fp n (cB*pL s);rw[show Nat.land n (cB*pL s)=0 from h]at a;have b:cB*pL s/cB=pL s:=Nat.mul_div_cancel_left _ R4;rw[b]at a;have c:cB*Nat.land (n/cB) (pL s)=0:=by omega
 have d:Nat.land (n/cB) (pL s)=0:=by
  rcases Nat.mul_eq_zero.1 c with e|e
  .exact absurd e (by decide)
  .exact e
 show Nat.beq (Nat.land (n/cB) (pL s)) 0=true;rw[d];rfl
def OQ(Q:Nat->Prop):HO->Prop
 |.c s n=>HB Q s (n/cB)
 |.f a b d e=>HB Q a b/\HB Q d e
 |_=>True
theorem FK{o:HO}{L:Lk}{q:List Nat}{m:Nat}(j:OQ Q o):DK Q L q m (OX o) (Et o L q m):=by
 cases o with
 |c s n=>
  have e:∀k,Et (.c s n) L q m k=iB (Nat.beq (Nat.land n (Nat.mul cB (pL s))) 0) (k (.c s n) L q m) (Es s (Nat.div n cB) L q m fun n=>fN (bH n) fun n=>k (.c s n)):=fun k=>rfl
  cases p:Nat.beq (Nat.land n (Nat.mul cB (pL s))) 0 with
  |true=>
   refine .here (.c s n) (fun _=>⟨rfl,oW (Pz (ab p)) _⟩) (fun k=>?_)
   rw[e,p];rfl
  |false=>
   refine(rQ j).map (fun n=>HO.c s (bH n)) (fun k=>?_) (fun ρ a r h=>⟨rfl,?_⟩)
   .rw[e,p];simp only[B6];rfl
   .rw[rK];exact r h
 |m ks vs l clk=>
  refine .nB (f:=fun k=>k (.m ks vs l clk) L q m) (fun y=>?_) (fun k=>rfl)
  exact .here (.m ks vs l clk) (fun _=>⟨rfl,rfl,rfl,rfl,Cz y _⟩) (fun k=>rfl)
 |f w x t u=>
  refine(rQ j.1).bind (g:=fun x L q m k=>Es t u L q m fun u=>k (.f w x t u)) Py.mono (fun a L q m=>?_) (fun k=>rfl)
  exact(rQ j.2).map (fun b=>HO.f w a t b) (fun k=>rfl) (fun ρ b A r h=>⟨rfl,rfl,r h,A h⟩)
 |i a b c d=>exact .err 183 0 (fun k=>rfl)
 |z=>exact .err 184 0 (fun k=>rfl)
theorem RG{o:HO}{L:Lk}{q:List Nat}{m:Nat}{k:HO->Lk->List Nat->Nat->l6}(a:OQ Q o)(h:Et o L q m k=.ok v new set rd):a0K Q L q m (OX o) k (.ok v new set rd):=(FK a).a31 h
end
end Go.Abs
end
section
namespace Go.Abs
section
variable {v:BV} {new:List HO} {set:List (Nat×HO)} {rd:List Nat} {Q:Nat->Prop} {D:Hp}
theorem zH(l:List Nat):Lw l=l.reverse:=by
 have:∀ (l a:List Nat),(@List.rec Nat (fun _=>List Nat->List Nat) (fun a=>a) (fun x _ b a=>b (x::a)) l) a=l.reverse++a:=by
  intro l
  induction l with
  |nil=>intro a;rfl
  |cons x l b=>intro a;show(@List.rec Nat (fun _=>List Nat->List Nat) (fun a=>a) (fun x _ b a=>b (x::a)) l) (x::a)=_;rw[b];simp
 exact(this l []).trans (bf _)
theorem RH(l:List HO):VR l=l.reverse:=by
 have:∀ (l a:List HO),(@List.rec HO (fun _=>List HO->List HO) (fun a=>a) (fun x _ b a=>b (x::a)) l) a=l.reverse++a:=by
  intro l
  induction l with
  |nil=>intro a;rfl
  |cons x l b=>intro a;show(@List.rec HO (fun _=>List HO->List HO) (fun a=>a) (fun x _ b a=>b (x::a)) l) (x::a)=_;rw[b];simp
 exact(this l []).trans (bf _)
theorem Im(L:Lk):W6 L=(L.map (·.1)).reverse:=by
 have:∀ (l:Lk) (a:List Nat),(@List.rec (Nat×Nat) (fun _=>List Nat->List Nat) (fun a=>a) (fun p _ b a=>b (p.1::a)) l) a=(l.map (·.1)).reverse++a:=by
  intro l
  induction l with
  |nil=>intro a;rfl
  |cons x l b=>intro a;show(@List.rec (Nat×Nat) (fun _=>List Nat->List Nat) (fun a=>a) (fun p _ b a=>b (p.1::a)) l) (x.1::a)=_;rw[b];simp
 exact(this L []).trans (bf _)
theorem zI{α:Type}(l:List α):B8 l=l.length:=by
 induction l with
 |nil=>rfl
 |cons x l a=>show Nat.succ (B8 l)=_;rw[a];rfl
theorem PA(m:Nat)(t:List Nat):(ad m t).map (·.1)=t:=by
 induction t with
 |nil=>rfl
 |cons a t b=>simp[ad,b]
theorem a2v{r j m:Nat}:∀ {t:List Nat},lk (ad m t++ []) r j->∃i,j=m+i/\t.reverse[i]? =some r
 |[],h=>by simp[lk,ad,tS]at h
 |a::t,h=>by
  simp only[lk,ad,gy,tS]at h;split at h
  .rename_i e;cases h;exact⟨t.length,rfl,by simp[e]⟩
  .obtain⟨i,f,b⟩:=a2v (t:=t) h;refine⟨i,f,?_⟩;rw[mn,bc,b];rcases bh i t.reverse.length with d|d
   .exact d
   .rw[an d]at b;cases b
theorem CA:∀ {l:List Nat},AU l=true->∀r∈l,r<1048575
 |[],_,r,h=>by cases h
 |a::l,h,r,b=>by
  have h:iB (Nat.ble a 1048574) (AU l) false=true:=h;rw[a9]at h;split at h
  .rename_i d;have d:a<=1048574:=af d;rcases av.1 b with rfl|b
   .omega
   .exact CA h r b
  .cases h
theorem zJ(B:∀r,Q r->OQ Q (D r)):∀ (fuel:Nat) (q a:List Nat) (L:Lk) (m:Nat) (d:List HO) (k:List HO->Lk->Nat->l6),(∀r∈q,Q r)->(∀r∈a,Q r)->qR D fuel q a L m d k=.ok v new set rd->
  ∃t s,Va L t/\(∀r∈t,Q r)/\s.length=(q++a.reverse++t.reverse).length/\(∀ (i:Nat) (r:Nat) (o:HO),(q++a.reverse++t.reverse)[i]? =some r->s.reverse[i]? =some o->OX (D r) (lk (ad m t++L)) o)/\
   k (s++d) (ad m t++L) (m+t.length)=.ok v new set rd
 |0,q,a,L,m,d,k,_,_,h=>l6.noConfusion (show l6.er 185 0=_ from h)
 |fuel+1,[],[],L,m,d,k,_,_,h=>⟨[],[],.nil L,(fun _ h=>by cases h),rfl,fun i r o g=>by simp at g,h⟩
 |fuel+1,[],b::F,L,m,d,k,p,C,h=>by
  have h:qR D fuel (Lw (b::F)) [] L m d k=.ok v new set rd:=h;rw[zH]at h;obtain⟨t,s,u,g2,E,y,z⟩:=zJ B fuel (b::F).reverse [] L m d k (fun r g=>C r (jw.1 g)) p h
  refine⟨t,s,u,g2,?_,?_,z⟩
  .simpa using E
  .intro i r o g f;exact y i r o (by simpa using g) f
 |fuel+1,r::G,a,L,m,d,k,p,C,h=>by
  have h:Et (D r) L a m (fun o L a m=>qR D fuel G a L m (o::d) k)=.ok v new set rd:=h
  obtain⟨j,I,M,J,N,O⟩:=RG (B r (p r (ar ..))) h;obtain⟨A,P,u,g2,E,y,z⟩:=zJ B fuel G (j++a) _ _ (I::d) k (fun x e=>p x (al _ e)) (fun x e=>(cj.1 e).elim (J x) (C x)) O
  have l:ad (m+j.length) A++(ad m j++L)=ad m (A++j)++L:=mP _ _ _ _;rw[l]at y z;refine⟨A++j,P++ [I],M.app u,fun x e=>(cj.1 e).elim (g2 x) (J x),?_,?_,?_⟩
  .simp only[bu,bq,List.length_reverse,eh]at E ⊢;omega
  .intro i x o e f;rw[List.reverse_append,mn,List.reverse_nil,gq,List.singleton_append]at f;cases i with
   |zero=>
    simp at e f;subst e;subst f;rw[<-l];exact OX.mono _ _ _ (DJ u) N
   |succ i=>
    refine y i x o ?_ (by simpa using f)
    simp only[gy,cx]at e;simpa using e
  .rw[bk,bu,ez A.length,<-fe];exact z
theorem iG{x:Nat}:∀ (olds:List Nat) (i:Nat) (L:Lk),(∀j,i<=j->tS j L=none)->tS x (eL olds i L)=if i<=x/\x<i+olds.length then olds[x- i]? else tS x L
 |[],i,L,_=>by rw[ai (by simp only[eh];omega)];rfl
 |r::olds,i,L,a=>by
  show tS x (eL olds (i+1) ((i,r)::L))=_;rw[iG olds (i+1) _ (fun j d=>by simp only[tS,ai (show ¬i=j by omega)];exact a j (by omega))]
  simp only[bq];by_cases h:i+1<=x/\x<i+1+olds.length
  .rw[aj h,aj (by omega),show x- i=(x- (i+1))+1 by omega];simp
  .rw[ai h];by_cases b:x=i
   .subst b;rw[aj (by omega)];simp[tS]
   .rw[ai (by omega)];simp only[tS,ai (show ¬i=x by omega)]
theorem zK{x:Nat}:∀ (n i r:Nat) (L:Lk),(∀j,i<=j->tS j L=none)->tS x (lW n i r L)=if i<=x/\x<i+n then some (r+(x- i))else tS x L
 |0,i,r,L,_=>by rw[ai (by omega)];rfl
 |n+1,i,r,L,a=>by
  show tS x (lW n (i+1) (r+1) ((i,r)::L))=_;rw[zK n (i+1) (r+1) _ (fun j d=>by simp only[tS,ai (show ¬i=j by omega)];exact a j (by omega))]
  by_cases h:i+1<=x/\x<i+1+n
  .rw[aj h,aj (by omega)];congr 1;omega
  .rw[ai h];by_cases b:x=i
   .subst b;rw[aj (by omega)];simp[tS]
   .rw[ai (by omega)];simp only[tS,ai (show ¬i=x by omega)]
noncomputable def lkB(olds:List Nat)(a nx:Nat):Lk:=lW a olds.length nx (eL olds 0 [])
theorem zL{olds:List Nat}{a nx i r:Nat}(h:lk (lkB olds a nx) i r):(olds[i]? =some r)\/(olds.length<=i/\i<olds.length+a/\r=nx+(i- olds.length)):=by
 unfold lk lkB at h;rw[zK _ _ _ _ (fun j d=>by rw[iG _ _ _ (fun _ _=>rfl),ai (by omega)];rfl)]at h
 split at h
 .rename_i b;cases h;exact .inr ⟨b.1,b.2,rfl⟩
 .rw[iG _ _ _ (fun _ _=>rfl)]at h
  split at h
  .exact .inl (by simpa using h)
  .cases h
theorem RI{olds:List Nat}{b nx i r:Nat}(h:olds[i]? =some r):lk (lkB olds b nx) i r:=by
 have d:i<olds.length:=by
  rcases bh i olds.length with a|a
  .exact a
  .rw[an a]at h;cases h
 unfold lk lkB;rw[zK _ _ _ _ (fun j e=>by rw[iG _ _ _ (fun _ _=>rfl),ai (by omega)];rfl),ai (by omega),iG _ _ _ (fun _ _=>rfl),aj (by omega)]
 simpa using h
noncomputable def kV(D:Hp):List Nat->List HO->List (Nat×HO)
 |r::a,o::b=>if Eu o (D r)then kV D a b else(r,o)::kV D a b
 |_,_=>[]
theorem FL{L:Lk}:∀ (l:List HO) (d:List Nat) (k:List (Nat×HO)->List HO->l6),d.length<=l.length->(∀o∈l,OQ (fun _=>True) o)->Z7 D l d L k=.ok v new set rd->
  ∃f:List HO,f.length=l.length/\(∀ (i:Nat) (a b:HO),l[i]? =some a->f[i]? =some b->OX a (lk L) b)/\k (kV D d f) (f.drop d.length)=.ok v new set rd
 |[],[],k,_,_,h=>⟨[],rfl,fun i a b e=>by simp at e,h⟩
 |[],r::d,k,p,_,h=>by simp at p
 |o::l,d,k,p,u,h=>by
  have h:Et o L [] 0 (fun o' _ q _=>nB (Nat.beq (B8 q) 0) 186 (@List.rec Nat (fun _=>l6) (Z7 D l d L fun s n=>k s (o'::n)) (fun r y _=>Z7 D l y L fun s n=>iB (Eu o' (D r)) (k s n) (k ((r,o')::s) n)) d))=.ok v new set rd:=h
  obtain⟨t,o',G,I,m,F⟩:=RG (Q:=fun _=>True) (u o (ar ..)) h
  obtain⟨z,E⟩:=a8 F;have z:t=[]:=by
   have:=ab z;rw[zI]at this;simpa using this
  subst z;have m:OX o (lk L) o':=m;cases d with
  |nil=>
   obtain⟨f,A,g2,j⟩:=FL l [] _ (by simp) (fun o B=>u o (al _ B)) E
   refine⟨o'::f,by simp[A],fun i a b e g=>?_,j⟩
   cases i with
   |zero=>simp at e g;subst e;subst g;exact m
   |succ i=>exact g2 i a b (by simpa using e) (by simpa using g)
  |cons r d=>
   obtain⟨f,A,g2,j⟩:=FL l d _ (by simpa using p) (fun o B=>u o (al _ B)) E
   refine⟨o'::f,by simp[A],fun i a b e g=>?_,?_⟩
   .cases i with
    |zero=>simp at e g;subst e;subst g;exact m
    |succ i=>exact g2 i a b (by simpa using e) (by simpa using g)
   .rw[a9]at j;simp only[kV,bq,np];split at j
    .rename_i C;rw[aj C];exact j
    .rename_i C;rw[ai C];exact j
theorem TO(m:Mm)(r:Nat)(o:HO)(us:List (Nat×HO))(a:o≠ .z):bF m ((r,o)::us)=bF (N9 m r (.z5 o,.own)) us:=by
 cases o<;>first|rfl|exact absurd rfl a
theorem Bs:∀ (b:List Nat) (os:List HO) (m:Mm),b.Nodup->b.length<=os.length->(∀o∈os,o≠ .z)->∀r,(r ∉ b->bF m (kV D b os) r=m r)/\
  (∀ (i:Nat) (o:HO),b[i]? =some r->os[i]? =some o->bF m (kV D b os) r=if Eu o (D r)then m r else some (.z5 o,.own))
 |[],os,m,_,_,_,r=>by
  have:kV D [] os=[]:=by cases os<;>rfl
  rw[this];exact⟨fun _=>rfl,fun i o h=>by simp at h⟩
 |a::b,[],m,_,g,_,r=>by simp at g
 |a::b,o::os,m,B,g,y,r=>by
  obtain⟨p,A⟩:=dn.1 B;have g:b.length<=os.length:=by simpa using g
  have j:∀o∈os,o≠ .z:=fun o d=>y o (al _ d)
  by_cases l:Eu o (D a)=true
  .have e:kV D (a::b) (o::os)=kV D b os:=by simp[kV,l]
   rw[e];obtain⟨k,q⟩:=Bs b os m A g j r;refine⟨fun h=>k (fun t=>h (al _ t)),fun i o' f d=>?_⟩
   cases i with
   |zero=>
    simp at f d;subst f;subst d;rw[k p,aj l]
   |succ i=>exact q i o' (by simpa using f) (by simpa using d)
  .have e:kV D (a::b) (o::os)=(a,o)::kV D b os:=by simp[kV,l]
   rw[e,TO _ _ _ _ (y o (ar ..))];obtain⟨k,q⟩:=Bs b os (N9 m a (.z5 o,.own)) A g j r;refine⟨fun h=>?_,fun i o' f d=>?_⟩
   .rw[k (fun t=>h (al _ t)),m7 _ _ _ _ (fun u=>h (by rw[u];exact ar ..))]
   .cases i with
    |zero=>
     simp at f d;subst f;subst d;rw[k p,j8,ai l]
    |succ i=>
     rw[q i o' (by simpa using f) (by simpa using d)]
     have:r≠a:=by
      intro u;subst u;exact p (bn.2 ⟨i,by simpa using f⟩)
     rw[m7 _ _ _ _ this]
end
theorem a0M{olds:List Nat}{t:List Nat}(h:olds=t.reverse){r j:Nat}(a:lk (ad 0 t++ []) r j):olds[j]? =some r:=by
 obtain⟨i,b,d⟩:=a2v a;rw[h,b,bz];exact d
section
variable {H:Nat->Option Hd} {K:b8} {w:World} {c s n:Nat} {x:Value}
def Live(H:Nat->Option Hd)(r:Nat):Prop:=(∃hd b,H r=some hd/\hd.base=some b)\/∃f a d,j6 H (xH f (r+1)) (.func (.func f) a d)
theorem j6.refs(h:j6 H c x){r:Nat}(a:Refs c r):Live H r:=by
 have p:=h;cases h with
 |int k n g=>have:=fD k;rcases a with a|a|a|a<;>(have e:N8 (G0 k) n=128*n+8*G0 k:=rfl;omega)
 |ptr r' off hd b l g i m=>
  have e:bO r' off=8*(r'*1048576+off)+4:=rfl;have:r=r':=by rcases a with a|a|a|a<;>omega
  subst this;exact .inl ⟨hd,b,i,m⟩
 |sl r' off len j d hd b o cap l g i m z q t=>
  have e:pJ r' off len j d=8*(2*(256*(1048576*(r'*1048576+off)+len)+j)+d)+5:=rfl;have:r=r':=by rcases a with a|a|a|a<;>omega
  subst this;exact .inl ⟨hd,b,q,t⟩
 |map r' hd b l g i=>
  have e:kD r'=8*r'+6:=rfl;have:r=r':=by rcases a with a|a|a|a<;>omega
  subst this;exact .inl ⟨hd,b,g,i⟩
 |Jm f g=>have e:xH f 0=8*(0*65536+f)+7:=rfl;exfalso;rcases a with a|a|a|a<;>omega
 |fn f r' hd u y l g i=>
  have e:xH f (r'+1)=8*((r'+1)*65536+f)+7:=rfl;have:r=r':=by rcases a with a|a|a|a<;>omega
  subst this;exact .inr ⟨f,u,y,p⟩
 |_=>exfalso;rcases a with a|a|a|a<;>omega
theorem Live.head{r:Nat}(h:Live H r):∃hd,H r=some hd:=by
 rcases h with⟨hd,b,a,_⟩|⟨f,e,g,h⟩
 .exact⟨hd,a⟩
 .generalize l:xH f (r+1)=c at h;generalize i:Value.func (.func f) e g=v at h;cases h<;>cases i
  .have j:xH f (r+1)=8*((r+1)*65536+f)+7:=rfl;have k:xH f 0=8*(0*65536+f)+7:=rfl;omega
  .rename_i d hd m a o p q t u y;have j:xH f (r+1)=8*((r+1)*65536+f)+7:=rfl;have k:xH f (d+1)=8*((d+1)*65536+f)+7:=rfl;have:d=r:=by omega
   subst this;exact⟨hd,a⟩
theorem x7.refs{vs:List Value}(h:x7 H s n vs):HB (Live H) s n:=by
 intro i a r b;have d:i<vs.length:=by rw[h.2.1];exact a
 exact(h.2.2 i vs[i] (ag d)).refs b
theorem y9.refs{b:Nat}(h:y9 H b n x):HB (Live H) (nL b) n:=by
 cases b with
 |zero=>
  have h:j6 H n x:=h;intro i d r a;have:i=0:=by have:i<1:=d;omega
  subst this;rw[X6 h.lt.2]at a;exact h.refs a
 |succ k=>obtain⟨cs,_,a⟩:=h;exact a.refs
theorem u6.refs{b:BV}(h:u6 K H b x):BVQ (Live H) b:=by
 cases b with
 |c c=>
  intro r d;rcases h with⟨rfl,_⟩|⟨rfl,_⟩|h
  .rcases d with d|d|d|d<;>omega
  .rcases d with d|d|d|d<;>omega
  .exact h.refs d
 |a s n=>obtain⟨cs,_,d⟩:=h;exact d.refs
 |t l=>
  obtain⟨vs,rfl,g2,g⟩:=h;intro p j;obtain⟨i,e⟩:=bn.1 j;have k:i<vs.size:=by
   rw[g2];rcases bh i l.length with f|f
   .exact f
   .rw[an f]at e;cases e
  exact(g i p vs[i] e (ba k)).refs
 |u=>trivial
theorem Xc{F:Nat->Prop}{m:Mm}(u:l5 F K H w m)(r:Nat)(y:Live H r):OQ (Live H) (G9 m r):=by
 obtain⟨hd,hh⟩:=y.head;cases z:G9 m r with
 |c s n=>
  obtain⟨b,cs,e,P,a,g,A,B,j⟩:=u.cont r _ .own hd (S0 z (by simp)) (by simp) hh
  exact j.refs
 |f R S T U=>
  obtain⟨C,g2,V,E,G⟩:=u.cont r _ .own hd (S0 z (by simp)) (by simp) hh
  rcases y with⟨k,b,a,g⟩|⟨f,l,o,h⟩
  .rw[hh]at a;cases a;rw[C]at g;cases g
  .generalize X:xH f (r+1)=c at h;generalize I:Value.func (.func f) l o=v at h;cases h<;>cases I
   .have J:xH f (r+1)=8*((r+1)*65536+f)+7:=rfl;have L:xH f 0=8*(0*65536+f)+7:=rfl;omega
   .rename_i p k Y a g A B j M N;have J:xH f (r+1)=8*((r+1)*65536+f)+7:=rfl;have L:xH f (p+1)=8*((p+1)*65536+f)+7:=rfl;have:p=r:=by omega
    subst this;rw[hh]at a;cases a;rw[g2]at N;refine⟨fun i O q d=>?_,fun i O q d=>?_⟩
    .have t:i<l.size:=by omega
     rw[<-E]at d;exact(j i l[i] (ba t)).refs d
    .have t:i<o.size:=by omega
     rw[<-G]at d;exact(M i o[i] (ba t)).refs d
 |_=>trivial
end
end Go.Abs
end
section
namespace Go.Abs
section
variable {P:Program} {F:Nat->Prop} {K:b8} {H:Nat->Option Hd} {w:World} {m:Mm} {nx:Nat} {v:BV} {new:List HO} {set:List (Nat×HO)} {rd:List Nat} {ev:Operand->BV} {ρ:Operand->Value}
def F7(P:Program)(R:z0):Prop:=∀f args a v l,R f args a=.ok v l->
 (∀b w,(callFunc f b).run P w=.ok (.enter f b) w)/\jE P f (args.map I1) (a.map c7.z5) (fun r c=>r=I1 v/\c=l.map c7.z5)
theorem aR{x:BV}{y:Value}(h:b9 K H (I1 x) y):u6 K H x y:=by
 cases x with
 |c n=>
  simp only[I1]at h;split at h
  .rename_i e;subst e;simp only[b9,c6]at h;obtain⟨cs,rfl,b⟩:=h;exact .inl ⟨rfl,by congr 1;simpa using b⟩
  .split at h
   .rename_i e;simp only[b9]at h;exact .inr (.inl ⟨e,h⟩)
   .split at h
    .rename_i e;subst e;simp only[b9]at h;subst h;exact .inr (.inr .Ax)
    .split at h
     .rename_i e;subst e;simp only[b9]at h;subst h;exact .inr (.inr .SN)
     .simp only[b9]at h;exact .inr (.inr h)
 |a k n=>simp only[I1,b9]at h;exact h
 |t l=>
  simp only[I1,b9]at h;obtain⟨cs,rfl,b⟩:=h;obtain⟨d,g2⟩:=(yG l _).1 b;exact⟨cs,rfl,by simpa using d,fun i p x f g=>g2 i p x f (by simpa using g)⟩
 |u=>trivial
def dB(K:b8)(H:Nat->Option Hd)(l:List BV)(vs:List Value):Prop:=vs.length=l.length/\∀ (i:Nat) (b:BV) (x:Value),l[i]? =some b->vs[i]? =some x->u6 K H b x
theorem dB.a0N:∀ {l:List BV} {vs:List Value},dB K H l vs->c6 K H (l.map I1) vs
 |[],vs,h=>by rw[jl.1 h.1];exact .nil
 |b::l,vs,h=>by
  cases vs with
  |nil=>exact absurd h.1 (by simp)
  |cons x vs=>
   exact .cons (h.2 0 b x rfl rfl).I1 (dB.a0N ⟨by simpa using h.1,fun i c y a d=>h.2 (i+1) c y (by simpa using a) (by simpa using d)⟩)
theorem DL(o:HO):OQ (fun _=>True) o:=by
 cases o with
 |c s n=>exact fun _ _ _ _=>trivial
 |f a b c d=>exact⟨fun _ _ _ _=>trivial,fun _ _ _ _=>trivial⟩
 |_=>trivial
theorem OR.a32{ρ:Nat->Nat->Prop}{a b:HO}(h:OR ρ a b):a≠ .z/\b≠ .z:=by
 cases a<;>cases b<;>first|exact h.elim|exact⟨by simp,by simp⟩
theorem O8{α:Type}{l:List α}{i:Nat}{a:α}(h:l[i]? =some a):i<l.length:=by
 rcases bh i l.length with b|b
 .exact b
 .rw[an b]at h;cases h
theorem FM{l:List Nat}(h:l.Nodup){i j r:Nat}(b:l[i]? =some r)(c:l[j]? =some r):i=j:=by
 have d:=O8 b;have f:=O8 c;rw[ag d]at b;rw[ag f]at c;have e:l[i]=l[j]:=cz (b.trans c.symm);have g:=List.pairwise_iff_getElem.1 h;rcases Nat.lt_trichotomy i j with a|a|a
 .exact absurd e (g i j d f a)
 .exact a
 .exact absurd e.symm (g j i f d a)
theorem tT{l:List HO}{r:Nat}{c:c7}{f:p0}(h:G4 (fun _=>none) 0 (l.map c7.z5) r=some (c,f)):∃o,l[r]? =some o/\c=.z5 o/\f=.own:=by
 rw[s9]at h;split at h
 .rename_i a;simp only[ae,aq]at h;have b:r<l.length:=by simpa using a.2
  refine⟨l[r],ag b,?_,h.2.symm⟩;rw[<-h.1];simp
 .cases h
theorem kW{l:List HO}{r:Nat}{o:HO}(h:l[r]? =some o):G4 (fun _=>none) 0 (l.map c7.z5) r=some (.z5 o,.own):=by
 have a:=O8 h;rw[s9,ic (by simpa using a)]
 rw[ag a]at h;simp only[ae]at h;simp[h]
theorem TP{K':b8}{H':Nat->Option Hd}{w':World}{hd:Hd}{a b:HO}(h:Eu a b=true)(l:n9 K' H' w' hd (.z5 a)):a=b\/∃g j k n2,a=.f g j k n2:=by
 cases a with
 |c s n=>
  cases b with
  |c o p=>
   have h:iB (Nat.beq s o) (Nat.beq n p) false=true:=h;rw[a9]at h;split at h
   .rename_i e;left;rw[ab e,ab h]
   .cases h
  |_=>exact Bool.noConfusion (show false=true from h)
 |f g j k n2=>exact .inr ⟨_,_,_,_,rfl⟩
 |m a b c d=>exact Bool.noConfusion (show false=true from h)
 |i a b c d=>exact Bool.noConfusion (show false=true from h)
 |z=>exact l.elim
theorem wL{o:HO}{hd:Hd}{b:Nat}(h:(S1 o hd).base=some b):S1 o hd=hd:=by
 cases o<;>first|rfl|cases h
theorem zM{o:HO}{hd:Hd}(h:∀a b c d,o≠ .f a b c d):S1 o hd=hd:=by
 cases o<;>first|rfl|exact absurd rfl (h _ _ _ _)
variable (l8:L4 F K w) (hm:l5 F K H w m) (G2:∀i,i<new.length->H (nx+i)=none)
include l8 hm G2
theorem a0O{R:z0}(hR:F7 P R){f:FuncId}{args:List BV}{vs:Array Value}(Y:dB K H args vs.toList)(h:iY R (G9 m) f args nx=.ok v new set rd):
  (∀As w,(callFunc f As).run P w=.ok (.enter f As) w)/\Calls P f vs w (fun e w''=>∃x K' H',e=.returned x/\W8 F K H w m nx v new set x w'' K' H'):=by
 unfold iY at h;obtain⟨T,Xd,a1,a2,a3,a4⟩:=Xb (Q:=Live H) args (fun b y=>by
  obtain⟨i,M⟩:=bn.1 y;have hl:i<vs.toList.length:=by rw[Y.1];exact O8 M
  exact(Y.2 i b vs.toList[i] M (ag hl)).refs) h
 simp only at a4;rw[zH,bf]at a4;obtain⟨X,s,b1,b2,b3,b4,b5⟩:=zJ (Q:=Live H) (fun r Z=>Xc hm r Z) 2000 T.reverse [] _ _ [] _ (fun r Z=>a2 r (jw.1 Z)) (fun r Z=>by cases Z) a4
 have hL:ad (0+T.length) X++(ad 0 T++ [])=ad 0 (X++T)++ []:=mP _ _ _ _;have a33:Va [] (X++T):=a1.app b1;rw[hL]at b4 b5;have a34:T.reverse++([]:List Nat).reverse++X.reverse=T.reverse++X.reverse:=by simp
 rw[a34]at b3 b4;obtain⟨hs,WD⟩:∃hs,hs=(X++T).reverse:=⟨_,rfl⟩;have b0f:T.reverse++X.reverse=hs:=by rw[WD];simp
 rw[b0f]at b3 b4;have holds:W6 (ad 0 (X++T)++ [])=hs:=by
  rw[Im,bf,PA,WD]
 have PB:hs.Nodup:=by rw[WD];exact rv.2 (a33.1.imp fun h e=>h e.symm)
 have a6S:∀r∈hs,Live H r:=by
  intro r Z;rw[WD,jw]at Z;exact(cj.1 Z).elim (b2 r) (a2 r)
 rw[RH,bf s]at b5;have a6T:0+T.length+X.length=hs.length:=by rw[WD];simp[ez]
 rw[a6T]at b5;obtain⟨k,a2w⟩:∃k,k=s.reverse:=⟨_,rfl⟩;rw[<-a2w]at b5 b4;have hol:k.length=hs.length:=by rw[a2w];simpa using b3
 cases hRr:R f Xd k with
 |er c x=>rw[hRr]at b5;cases b5
 |ok v0 l0=>
  rw[hRr]at b5;have b5:fN (Nat.sub (B8 l0) hs.length) (fun nn=>nB (Nat.ble (Nat.add hs.length (Nat.add nx nn)) 1048574) 198 (nB (AU (W6 (ad 0 (X++T)++ []))) 197 (Lv v0 (lW nn hs.length nx (eL (W6 (ad 0 (X++T)++ [])) 0 [])) [] 0 fun v' _ q _=>nB (Nat.beq (B8 q) 0) 187
   (Z7 (G9 m) l0 (W6 (ad 0 (X++T)++ [])) (lW nn hs.length nx (eL (W6 (ad 0 (X++T)++ [])) 0 [])) fun s n=>.ok v' n s (W6 (ad 0 (X++T)++ []))))))=.ok v new set rd:=b5
  rw[B6,zI,holds]at b5;obtain⟨nn,hnn⟩:∃nn,l0.length- hs.length=nn:=⟨_,rfl⟩;rw[show Nat.sub l0.length hs.length=nn from hnn]at b5;obtain⟨c1,c2⟩:=a8 b5;obtain⟨c3,c4⟩:=a8 c2;have c1:hs.length+(nx+nn)<=1048574:=af c1;have a35:=CA c3;obtain⟨Lb,hLb⟩:∃Lb,Lb=lkB hs nn nx:=⟨_,rfl⟩;rw[show lW nn hs.length nx (eL hs 0 [])=Lb from hLb.symm]at c4;obtain⟨Xe,a6V⟩:=hR f Xd k v0 l0 hRr;refine⟨Xe,?_⟩;have fwd:∀r j,lk (ad 0 (X++T)++ []) r j->hs[j]? =some r:=fun r j N=>a0M WD N
  have a37:∀r j,lk (ad 0 (X++T)++ []) r j->j<1048575:=fun r j N=>by have:=O8 (fwd r j N);omega
  have a38:∀i r,lk Lb i r->r<1048575:=fun i r Z=>by
   rw[hLb]at Z;rcases zL Z with A|⟨A,E,h3⟩
   .exact a35 r (bn.2 ⟨i,A⟩)
   .omega
  have inv:∀r j,lk (ad 0 (X++T)++ []) r j->lk Lb j r:=fun r j N=>by rw[hLb];exact RI (fwd r j N)
  have hor:∀ (i r:Nat) (o:HO),hs[i]? =some r->k[i]? =some o->OR (lk (ad 0 (X++T)++ [])) (G9 m r) o:=fun i r o A E=>b4 i r o A E a37
  have yX:∀ (i r:Nat),hs[i]? =some r->m r=some (.z5 (G9 m r),.own):=fun i r A=>by
   have hl:i<k.length:=by rw[hol];exact O8 A
   exact S0 rfl (hor i r k[i] A (ag hl)).a32.1
  have ZJ:∀ (i r:Nat),hs[i]? =some r->∃hd,H r=some hd:=fun i r A=>(a6S r (bn.2 ⟨i,A⟩)).head
  let H0:Nat->Option Hd:=fun j=>match hs[j]?,k[j]? with
   |some r,some o=>(H r).map (S1 o)
   |_,_=>none
  have Xf:∀ (j r:Nat) (o:HO),hs[j]? =some r->k[j]? =some o->H0 j=(H r).map (S1 o):=fun j r o A E=>by
   show(match hs[j]?,k[j]? with|some r,some o=>(H r).map (S1 o)|_,_=>none)=_
   rw[A,E]
  have C:∀ (j:Nat) (S9:Hd),H0 j=some S9->∃r o hd,hs[j]? =some r/\k[j]? =some o/\H r=some hd/\S9=S1 o hd:=fun j S9 N=>by
   have N:(match hs[j]?,k[j]? with|some r,some o=>(H r).map (S1 o)|_,_=>none)=some S9:=N
   split at N
   .rename_i r o A E;cases hh:H r with
    |none=>rw[hh]at N;cases N
    |some hd=>rw[hh]at N;cases N;exact⟨r,o,hd,A,E,hh,rfl⟩
   .cases N
  have hhF:∀r j hd,lk (ad 0 (X++T)++ []) r j->H r=some hd->∃S9,H0 j=some S9/\TN (lk (ad 0 (X++T)++ [])) hd S9/\j<1048575:=fun r j hd N hh=>by
   have A:=fwd r j N;have hl:j<k.length:=by rw[hol];exact O8 A
   have E:=ag hl;refine⟨S1 k[j] hd,by rw[Xf j r _ A E,hh];rfl,?_,a37 r j N⟩
   exact OR.head (hm.cont r _ .own hd (yX j r A) (by simp) hh) (hor j r _ A E)
  have Rq:c6 K H0 (Xd.map I1) vs.toList:=by
   obtain⟨p1,p2⟩:=(VsX.mono _ (lk (ad 0 (X++T)++ [])) _ (fun r j N=>by rw[<-hL];exact DJ b1 r j N) a3) a37
   refine dB.a0N ⟨Y.1.trans p1.symm,fun i b x y hx=>?_⟩
   have hl:i<args.length:=by rw[<-p1];exact O8 y
   exact UZ.rep hhF (Y.2 i args[i] x (ag hl) hx) (p2 i args[i] b (ag hl) y)
  let Hb:Nat->Prop:=fun b=>∃ (q r:Nat) (hd:Hd),hs[q]? =some r/\H r=some hd/\hd.base=some b
  let Fc:Nat->Prop:=fun b=>b<w.heap.size/\K.inv b=none/\¬Hb b
  have hFc:∀b,F b->Fc b:=fun b y=>⟨l8.lt b y,by
   cases M:K.inv b with
   |none=>rfl
   |some p=>exact absurd y (l8.inv b p M),fun⟨q,r,hd,hq,g1,g2⟩=>(hm.own r _ hd b (yX q r hq) g1 g2).1 y⟩
  have OT:L4 Fc K w:=by
   refine⟨l8.w8,fun b y=>y.1,fun b p hp y=>?_,l8.apart⟩
   have A:K.inv b=some p:=hp;rw[y.2.1]at A;cases A
  have Xg:∀ (j r:Nat) (o:HO) (hd:Hd),hs[j]? =some r->k[j]? =some o->H r=some hd->∀b,(S1 o hd).base=some b->hd.base=some b:=fun j r o hd _ _ _ b y=>by
   have:=wL y;rw[this]at y;exact y
  have JQ:l5 Fc K H0 w (G4 (fun _=>none) 0 (k.map c7.z5)):=by
   refine⟨?_,?_,?_,?_⟩
   .intro j c' f' S9 B G q3;obtain⟨o,S,rfl,rfl⟩:=tT B;obtain⟨r,o',hd,L,e3,e4,rfl⟩:=C j S9 q3;rw[S]at e3;cases e3;exact OR.cont hhF (hm.cont r _ .own hd (yX j r L) (by simp) e4) (hor j r o L S)
   .intro j c' S9 b B G q3;obtain⟨o,S,rfl,_⟩:=tT B;obtain⟨r,o',hd,L,e3,e4,rfl⟩:=C j S9 G;have y:=Xg j r o' hd L e3 e4 b q3;obtain⟨g1,g2,g3,g4⟩:=hm.own r _ hd b (yX j r L) e4 y;refine⟨fun ZG=>ZG.2.2 ⟨j,r,hd,L,e4,y⟩,g2,g3,fun hc=>g4 ?_⟩
    have:=hor j r o L S;revert this hc;cases G9 m r<;>cases o<;>first|exact fun _ h=>h.elim|(intro hc _;exact hc)
   .intro j c' S9 b B G q3;obtain⟨o,S,rfl,e⟩:=tT B;cases e
   .intro j j' c1' c2' bN kB b B G q3 q4 q5 q6;obtain⟨r,o,hd,L,e3,e4,rfl⟩:=C j bN q3;obtain⟨O,o',S9,e2',e3',e4',rfl⟩:=C j' kB q4;have A:=Xg j r o hd L e3 e4 b q5;have E:=Xg j' O o' S9 e2' e3' e4' b q6;have e:=hm.inj r O _ _ hd S9 b (yX j r L) (yX j' O e2') e4 e4' A E;subst e;exact FM PB L e2'
  have Xh:=a6V Fc K H0 w vs.toList OT Rq JQ (fun j N=>by
   cases hh:H0 j with
   |none=>rfl
   |some S9=>
    obtain⟨r,o,hd,L,e3,_⟩:=C j S9 hh;have:=O8 e3;simp at N;omega) (fun j N=>by
   have N:j<k.length:=by simpa using N
   have hj':j<hs.length:=by omega
   obtain⟨hd,hh⟩:=ZJ j hs[j] (ag hj')
   exact⟨_,by rw[Xf j _ _ (ag hj') (ag N),hh];rfl⟩)
  rw[show vs.toList.toArray=vs from rfl]at Xh;refine sq Xh ?_;rintro e w' ⟨x,rr,RM,K',HR,rfl,⟨rfl,rfl⟩,hle,oB,hmR,hz,a39,R8,RJ,Lf,Xi⟩;simp only[dy]at hz Lf Xi;rw[hol]at Lf Xi;obtain⟨t3,v',d1,_,d2,d3⟩:=RF (Q:=fun _=>True) (by
   cases v0 with
   |c n=>exact fun _ _=>trivial
   |a s n=>exact fun _ _ _ _=>trivial
   |t l=>exact fun _ _ _ _ _ _=>trivial
   |u=>trivial) c4
  simp only at d3;obtain⟨d4,d5⟩:=a8 d3;have d4:t3=[]:=by
   have:=ab d4;rw[zI]at this;simpa using this
  subst d4;have d2:BVX v0 (lk Lb) v':=d2;have d5:Z7 (G9 m) l0 hs Lb (fun s n=>.ok v' n s hs)=.ok v new set rd:=d5
  obtain⟨U,o1,o2,o3⟩:=FL l0 hs _ Lf (fun o _=>DL o) d5
  obtain⟨o4,o5,o6,_⟩:=l6.ok.inj o3;subst o4;subst o5;subst o6;have a0P:∀ (i:Nat) (a b:HO),l0[i]? =some a->U[i]? =some b->OR (lk Lb) a b:=fun i a b A E=>o2 i a b A E a38
  have b0i:∀o∈U,o≠ .z:=by
   intro o ho;obtain⟨i,M⟩:=bn.1 ho;have hl:i<l0.length:=by rw[<-o1];exact O8 M
   exact(a0P i _ o (ag hl) M).a32.2
  have Rx:(U.drop hs.length).length=nn:=by rw[cv,o1,hnn]
  have hf:∀i,i<nn->H (nx+i)=none:=fun i M=>G2 i (by rw[Rx];exact M)
  let H':Nat->Option Hd:=fun r=>if nx<=r/\r<nx+nn then(match U[r- nx+hs.length]? with
   |some o=>(HR (r- nx+hs.length)).map (S1 o)
   |none=>none)else H r
  have a4a:aY H H':=by
   intro r hd Z;show(if nx<=r/\r<nx+nn then _ else H r)=_
   by_cases I:nx<=r/\r<nx+nn
   .have:=hf (r- nx) (by omega)
    rw[show nx+(r- nx)=r by omega]at this
    rw[this]at Z;cases Z
   .rw[ai I];exact Z
  have Xj:∀i,i<nn->∀o,U[i+hs.length]? =some o->H' (nx+i)=(HR (i+hs.length)).map (S1 o):=fun i M o ho=>by
   show(if nx<=nx+i/\nx+i<nx+nn then(match U[nx+i- nx+hs.length]? with|some o=>(HR (nx+i- nx+hs.length)).map (S1 o)|none=>none)else H (nx+i))=_
   rw[aj (by omega),show nx+i- nx=i by omega,ho]
  have a6Z:∀ (i r:Nat) (o:HO) (hd:Hd),hs[i]? =some r->k[i]? =some o->H r=some hd->HR i=some (S1 o hd):=fun i r o hd A E h3=>by
   rw[Xi i (O8 A),Xf i r o A E,h3];rfl
  have hhB:∀i r hd,lk Lb i r->HR i=some hd->∃S9,H' r=some S9/\TN (lk Lb) hd S9/\r<1048575:=fun i r hd M hh=>by
   have y:=a38 i r M;rw[hLb]at M;rcases zL M with A|⟨A,E,h3⟩
   .have hl:i<k.length:=by rw[hol];exact O8 A
    have E:=ag hl;obtain⟨Dx,hh0⟩:=ZJ i r A;have e:=a6Z i r _ Dx A E hh0;rw[hh]at e;cases e;refine⟨Dx,a4a r Dx hh0,?_,y⟩;exact TN.symm inv (OR.head (hm.cont r _ .own Dx (yX i r A) (by simp) hh0) (hor i r _ A E))
   .have hl:i<l0.length:=by omega
    have hl2:i<U.length:=by rw[o1];exact hl
    have S:=ag hl;have L:=ag hl2;refine⟨S1 U[i] hd,?_,?_,y⟩
    .have:=Xj (i- hs.length) (by omega) U[i] (by rw[show i- hs.length+hs.length=i by omega];exact L)
     rw[h3,this,show i- hs.length+hs.length=i by omega,hh];rfl
    .exact OR.head (hmR.cont i _ .own hd (kW S) (by simp) hh) (a0P i _ _ S L)
  have K8:∀O,H O=none->H' O≠none->nx<=O/\O<nx+(U.drop hs.length).length:=by
   intro O B G;by_cases I:nx<=O/\O<nx+nn
   .rw[Rx];exact I
   .exact absurd (by show(if nx<=O/\O<nx+nn then _ else H O)=none;rw[ai I];exact B) G
  have a61:u6 K' H' v' x:=by
   exact UZ.rep hhB (aR oB) (d2 a38)
  have a3T:∀r c f hd b,m r=some (c,f)->f≠ .dead->r ∉ hs->H r=some hd->hd.base=some b->Fc b:=by
   intro r c f hd b B G q3 q4 q5;refine⟨W1 hm B G q4 q5,?_,?_⟩
   .cases f with
    |dead=>exact absurd rfl G
    |own=>exact(hm.own r c hd b B q4 q5).2.2.1
    |X9=>
     obtain⟨cs,g⟩:=hm.X9 r c hd b B q4 q5;cases M:K.inv b with
     |none=>rfl
     |some p=>have:=l8.apart b p M;rw[g]at this;cases this
   .rintro⟨q,O,S9,hq,g1,g2⟩;have b2:=yX q O hq;cases f with
    |dead=>exact absurd rfl G
    |own=>
     have e:=hm.inj r _ c _ hd S9 b B b2 q4 g1 q5 g2;exact q3 (e▸bn.2 ⟨q,hq⟩)
    |X9=>
     obtain⟨ZF,q6⟩:=hm.X9 r c hd b B q4 q5;rw[(hm.own _ _ S9 b b2 g1 g2).2.1]at q6;cases q6
  have a4b:Kept F w w':=R8.mono hFc;have RK:∀O c' f' hd b,kill hs m O=some (c',f')->f'≠ .dead->H O=some hd->hd.base=some b->Fc b:=by
   intro O c' f' hd b B G q3 q4;obtain⟨k1,k2⟩:=U3 B;exact a3T O c' f' hd b k2 G k1 q3 q4
  have Rr:l5 F K H w' (kill hs m):=(hm.sub (m2:=kill hs m) (fun r x h=>(U3 h).2)).world (fun O c' f' hd b B G q3 q4=>R8.block b (RK O c' f' hd b B G q3 q4))
  have ZH:l5 F K' H w' (kill hs m):=Rr.SO hle (fun O c' hd b B G q3=>by
   have y:=RK O c' _ hd b B (by simp) G q3
   obtain⟨_,g2,g3,_⟩:=Rr.own O c' hd b B G q3;have:=RJ b y;rw[g2,g3]at this
   exact this)
  have EI:L4 F K' w':=by
   refine⟨a39.w8,fun b y=>cc (l8.lt b y) R8.size,fun b p y hF=>a39.inv b p y (hFc b hF),a39.apart⟩
  have EP:Fix F K K':=fun b y=>RJ b (hFc b y)
  have look:∀r c f hd,G4 (bF m (kV (G9 m) hs U)) nx ((U.drop hs.length).map c7.z5) r=some (c,f)->H' r=some hd->
    (f=.own/\n9 K' H' w' hd c/\∃i o J,l0[i]? =some o/\HR i=some J/\(∀b,hd.base=some b->J.base=some b)/\(c.isCells=true->(c7.z5 o).isCells=true)/\lk Lb i r)\/(kill hs m r=some (c,f)/\H r=some hd):=by
   intro r c f hd B G;rw[s9]at B;split at B
   .rename_i I;have I:nx<=r/\r<nx+nn:=by rw[dy,Rx]at I;exact I
    obtain⟨i,M⟩:∃i,r=nx+i:=⟨r- nx,by omega⟩
    subst M;have M:i<nn:=by omega
    have hl2:i+hs.length<U.length:=by rw[o1];omega
    have Xk:i+hs.length<l0.length:=by omega
    have L:=ag hl2;have S:=ag Xk;simp only[ph,mh,ae,aq]at B;obtain⟨rfl,rfl⟩:=B;have h5:=Xj i M _ L;rw[G]at h5;cases hh:HR (i+hs.length)with
    |none=>rw[hh]at h5;cases h5
    |some J=>
     rw[hh]at h5;simp only[da,ae]at h5;have V:=a0P _ _ _ S L;have a62:hs.length+(nx+i- nx)=i+hs.length:=by omega
     left;refine⟨rfl,?_,i+hs.length,l0[i+hs.length],J,S,hh,fun b y=>?_,?_,?_⟩
     .rw[h5];simp only[a62];exact OR.cont hhB (hmR.cont _ _ .own J (kW S) (by simp) hh) V
     .rw[h5]at y;have:=wL y;rw[this]at y;exact y
     .simp only[a62];revert V;cases l0[i+hs.length]<;>cases U[i+hs.length]<;>first|exact fun h=>h.elim|(intro _ hc;exact hc)
     .rw[hLb];unfold lk lkB;rw[zK _ _ _ _ (fun j N=>by rw[iG _ _ _ (fun _ _=>rfl),ai (by omega)];rfl),aj (by omega)]
      congr 1;omega
   .rename_i I;have I:¬(nx<=r/\r<nx+nn):=by rw[dy,Rx]at I;exact I
    have G:H r=some hd:=by
     have:H' r=H r:=by show(if nx<=r/\r<nx+nn then _ else H r)=_;rw[ai I]
     rw[<-this];exact G
    obtain⟨s1,s2⟩:=Bs (D:=G9 m) hs U m PB (by rw[o1];exact Lf) b0i r
    by_cases Z:r∈hs
    .obtain⟨i,M⟩:=bn.1 Z;have hil:=O8 M;have Xk:i<l0.length:=by omega
     have hl2:i<U.length:=by rw[o1];exact Xk
     have hl3:i<k.length:=by rw[hol];exact hil
     have S:=ag Xk;have L:=ag hl2;have e3:=ag hl3;rw[s2 i _ M L]at B;have a4c:=a6Z i r _ hd M e3 G;have hc0:=hmR.cont i _ .own _ (kW S) (by simp) a4c
     have V:=a0P _ _ _ S L;have hc1:=OR.cont (K':=K') hhB hc0 V;have a4e:=yX i r M;have hcm:=hm.cont r _ .own hd a4e (by simp) G
     have a4f:=hor i r _ M e3;have a63:lk Lb i r:=by rw[hLb];exact RI M
     have a64:(∀k1 n1 k2 n2,U[i]≠ .f k1 n1 k2 n2)->(∀k1 n1 k2 n2,k[i]≠ .f k1 n1 k2 n2):=by
      intro hnf k1 n1 k2 n2 e;rw[zM hnf,e]at hc1;revert hc1 hnf;cases U[i]with
      |c s n=>intro _ ⟨b,_,_,_,y,_⟩;cases y
      |m a b c d=>intro _ ⟨b,_,y,_⟩;cases y
      |f a b c d=>intro hnf;exact absurd rfl (hnf _ _ _ _)
      |i a b c d=>intro _ ⟨b,_,_,y,_⟩;cases y
      |z=>intro _ h;exact h.elim
     have hbs:∀b,hd.base=some b->(S1 k[i] hd).base=some b:=by
      intro b y;have:∀k1 n1 k2 n2,k[i]≠ .f k1 n1 k2 n2:=by
       intro k1 n1 k2 n2 e;rw[e]at a4f;revert hcm a4f;cases G9 m r<;>try exact fun _ h=>h.elim
       intro hcm _;rw[hcm.1]at y;cases y
      rw[zM this];exact y
     left;by_cases hfn:∃k1 n1 k2 n2,U[i]=.f k1 n1 k2 n2
     .obtain⟨k1,n1,k2,n2,hfn⟩:=hfn;have hq:Eu U[i] (G9 m r)=true:=by rw[hfn];rfl
      rw[aj hq,a4e]at B;simp only[ae,aq]at B;obtain⟨rfl,rfl⟩:=B;have a4h:∃a b c d,l0[i]=.f a b c d:=by
       rw[hfn]at V;revert V;cases l0[i]<;>first|exact fun h=>h.elim|(intro _;exact⟨_,_,_,_,rfl⟩)
      obtain⟨a1,a2,a3,a4,a4h⟩:=a4h;have RC:(S1 k[i] hd).base=none:=by rw[a4h]at hc0;exact hc0.1
      have hdf:∃a b c d,G9 m r=.f a b c d:=by
       revert hcm a4f;cases G9 m r with
       |c s n=>
        intro ⟨b,_,_,_,y,_⟩ _;have:=hbs b y;rw[RC]at this;cases this
       |m a b c d=>
        intro ⟨b,_,y,_⟩ _;have:=hbs b y;rw[RC]at this;cases this
       |f a b c d=>intro _ _;exact⟨_,_,_,_,rfl⟩
       |i a b c d=>
        intro ⟨b,_,_,y,_⟩ _;have:=hbs b y;rw[RC]at this;cases this
       |z=>intro h;exact h.elim
      obtain⟨y1,y2,y3,y4,hdf⟩:=hdf;refine⟨rfl,?_,i,_,_,S,a4c,hbs,?_,a63⟩
      .rw[hdf]at hcm ⊢;exact hcm
      .rw[hdf];intro h;cases h
     .have hnf:∀k1 n1 k2 n2,U[i]≠ .f k1 n1 k2 n2:=fun k1 n1 k2 n2 e=>hfn ⟨k1,n1,k2,n2,e⟩
      have b0k:=a64 hnf;rw[zM hnf,zM b0k]at hc1;have I:c=.z5 U[i]/\f=.own:=by
       split at B
       .rename_i hq;rw[a4e]at B;simp only[ae,aq]at B;rcases TP hq hc1 with e|⟨k1,n1,k2,n2,e⟩
        .exact⟨by rw[<-B.1,e],B.2.symm⟩
        .exact absurd e (hnf _ _ _ _)
       .simp only[ae,aq]at B;exact⟨B.1.symm,B.2.symm⟩
      obtain⟨rfl,rfl⟩:=I;refine⟨rfl,hc1,i,_,_,S,a4c,hbs,?_,a63⟩;revert V;cases l0[i]<;>cases U[i]<;>first|exact fun h=>h.elim|(intro _ hc;exact hc)
    .right;rw[s1 Z]at B;refine⟨?_,G⟩;unfold kill;rw[ai Z];exact B
  have hnb:∀i o J b,l0[i]? =some o->HR i=some J->J.base=some b->¬Fc b:=fun i o J b S L e3=>(hmR.own i _ J b (kW S) L e3).1
  have b3R:∀i j r,lk Lb i r->lk Lb j r->(∀q,q<nn->nx+q ∉ hs)->i=j:=by
   intro i j r A E Vb;rw[hLb]at A E;rcases zL A with A|⟨p1,p2,p3⟩<;>rcases zL E with E|⟨p4,p5,p6⟩
   .exact FM PB A E
   .exact absurd (bn.2 ⟨i,p6▸A⟩) (Vb _ (by omega))
   .exact absurd (bn.2 ⟨j,p3▸E⟩) (Vb _ (by omega))
   .omega
  refine⟨x,K',H',rfl,hle,a4a,K8,a61,?_,EI,a4b,EP⟩;refine⟨?_,?_,?_,?_⟩
  .intro r c f hd B G q3;rcases look r c f hd B q3 with⟨_,A,_⟩|⟨A,E⟩
   .exact A
   .exact(ZH.cont r c f hd A G E).mono (.refl K') a4a (fun _ _=>rfl)
  .intro r c hd b B G q3;rcases look r c _ hd B G with⟨_,A,i,o,J,S,L,e3,e4,_⟩|⟨A,E⟩
   .obtain⟨g1,g2,g3,g4⟩:=hmR.own i _ J b (kW S) L (e3 b q3);exact⟨fun y=>g1 (hFc b y),g2,g3,fun hc=>g4 (e4 hc)⟩
   .exact ZH.own r c hd b A E q3
  .intro r c hd b B G q3;rcases look r c _ hd B G with⟨h0,_⟩|⟨A,E⟩
   .cases h0
   .exact ZH.X9 r c hd b A E q3
  .intro r1 r2 c1' c2' bN kB b B G q3 q4 q5 q6;rcases look r1 c1' _ bN B q3 with⟨_,_,i,o,J,S,L,e3,_,e5⟩|⟨A,E⟩
   .rcases look r2 c2' _ kB G q4 with⟨_,_,j,o',hdj,f1,f2,f3,_,f5⟩|⟨h1',h2'⟩
    .have e:=hmR.inj i j _ _ J hdj b (kW S) (kW f1) L f2 (e3 b q5) (f3 b q6);subst e;unfold lk at e5 f5;rw[e5]at f5;exact cz f5
    .exact absurd (RK r2 c2' _ kB b h1' (by simp) h2' q6) (hnb i o J b S L (e3 b q5))
   .rcases look r2 c2' _ kB G q4 with⟨_,_,j,o',hdj,f1,f2,f3,_,f5⟩|⟨h1',h2'⟩
    .exact absurd (RK r1 c1' _ bN b A (by simp) E q5) (hnb j o' hdj b f1 f2 (f3 b q6))
    .exact ZH.inj r1 r2 c1' c2' bN kB b A h1' E h2' q5 q6
end
end Go.Abs
end
section
namespace Go.Abs
section
variable {P:Program} {F:Nat->Prop} {K:b8} {H:Nat->Option Hd} {w:World} {m:Mm} {nx:Nat} {v:BV} {new:List HO} {set:List (Nat×HO)} {rd:List Nat} {ev:Operand->BV} {ρ:Operand->Value}
theorem mQ(ev:Operand->BV):∀ (l:List Operand) (a:List BV),gO ev l a=l.map ev++a
 |[],_=>rfl
 |o::l,a=>by show ev o::gO ev l a=_;rw[mQ ev l];rfl
def TQ(k n:Nat):List BV:=(List.range k).map fun i=>BV.c (P3 n i)
theorem jR:∀ (k n:Nat) (a:List BV),aJ k n a=TQ k n++a
 |0,n,a=>rfl
 |k+1,n,a=>by
  show BV.c (n % cB)::aJ k (n/cB) a=_;rw[jR k];unfold TQ;rw[List.range_succ_eq_map,az,fm,gy];congr 1
  .rw[U1,je,jh]
  .congr 1;apply jn;intro i _;simp only[Function.comp,sY]
theorem dB.append{a b:List BV}{x y:List Value}(d:dB K H a x)(h:dB K H b y):dB K H (a++b) (x++y):=by
 refine⟨by rw[bu,bu,d.1,h.1],fun i c z f g=>?_⟩
 rcases bh i a.length with e|e
 .rw[bc e]at f;rw[bc (by rw[d.1];exact e)]at g
  exact d.2 i c z f g
 .rw[bd e]at f;rw[bd (by rw[d.1];exact e),d.1]at g
  exact h.2 _ c z f g
theorem dB.map(n6:∀x,u6 K H (ev x) (ρ x))(l:List Operand):dB K H (l.map ev) (l.map ρ):=by
 refine⟨by simp,fun i c z a b=>?_⟩
 have d:i<l.length:=by simpa using O8 a
 simp only[bo,ag d,da,ae]at a b;subst a;subst b;exact n6 _
theorem FN{k n:Nat}{vs:Array Value}(b:vs.size=k)(h:∀ (i:Nat) (y:Value),vs[i]? =some y->j6 H (P3 n i) y):dB K H (TQ k n) vs.toList:=by
 refine⟨by simp[TQ,b],fun i c z a d=>?_⟩
 have e:i<k:=by simpa [TQ]using O8 a
 simp only[TQ,bo,fy e,da,ae]at a;subst a;exact .inr (.inr (h i z (by simpa using d)))
theorem TR(hm:l5 F K H w m){β:Type}{o:Nat}{g:Value}(D:u6 K H (.c o) g){args:List Operand}(n6:∀x,u6 K H (ev x) (ρ x)){e:Nat->β}{k:FuncId->List BV->List Nat->β}{z:β}(h:Ev (G9 m) o (gO ev args) e k=z):
  (∃n,e n=z)\/∃f p q l E,g=.func (.func f) p q/\k f l E=z/\dB K H l (p.toList++args.map ρ++q.toList):=by
 unfold Ev at h;rw[a9]at h;split at h
 .rename_i s;have s:o % 8=7:=ab s;rcases(D.cell (by omega)).a0k s with⟨t,u⟩|⟨r,hd,p,q,t,G,L,q3,q4,q5,q6,q7,u⟩
  .rw[t]at h;right;refine⟨fF o,#[],#[],_,_,u,h,?_⟩;rw[mQ,bf];simpa using dB.map n6 args
  .rw[t]at h;have h:=(show(@HO.rec (fun _=>β) (fun _ _=>e 190) (fun _ _ _ _=>e 191) (fun y A B C=>k (fF o) (aJ y A (gO ev args (aJ B C []))) [r]) (fun _ _ _ _=>e 192) (e 193) (G9 m r))=z from h)
   cases j:G9 m r with
   |f y A B C=>
    rw[j]at h;obtain⟨M,g2,N,I,J⟩:=hm.cont r _ .own hd (S0 j (by simp)) (by simp) G
    right;refine⟨fF o,p,q,_,_,u,h,?_⟩;rw[jR,mQ,jR,bf,<-bk];rw[g2]at q3;refine dB.append (dB.append (FN (by omega) ?_) (dB.map n6 args)) (FN (by omega) ?_)
    .rw[<-I];exact q6
    .rw[<-J];exact q7
   |c a b=>rw[j]at h;exact .inl ⟨_,h⟩
   |m a b c d=>rw[j]at h;exact .inl ⟨_,h⟩
   |i a b c d=>rw[j]at h;exact .inl ⟨_,h⟩
   |z=>rw[j]at h;exact .inl ⟨_,h⟩
 .exact .inl ⟨_,h⟩
variable (l8:L4 F K w) (hm:l5 F K H w m) (n6:∀x,u6 K H (ev x) (ρ x)) (G2:∀i,i<new.length->H (nx+i)=none)
include l8 hm n6 G2
omit l8 hm n6 G2 in
theorem MA{q:List Nat}{z:l6}(h:Ew q z=.ok v new set rd):∃rd',z=.ok v new set rd'/\rd=q++rd':=by
 cases z with
 |er c x=>cases h
 |ok v' a b rd'=>
  obtain⟨rfl,rfl,rfl,d⟩:=l6.ok.inj (show l6.ok v' a b (q++rd')=_ from h);exact⟨rd',rfl,d.symm⟩
theorem a4i{R:z0}(p:F7 P R)(o:Oper){c:Call}{g:Operand}(q:o.op=.call c)(r:c.callee=.value g)(h:qS R (G9 m) (ev g) c ev nx=.ok v new set rd):z8 P F K H w m nx v new set ((execOp ρ o).run P w):=by
 obtain⟨y,s,h⟩:=x8 h;rcases TR hm (s▸n6 g) n6 h with⟨n,h⟩|⟨f,j,k,l,z,t,h,e⟩
 .cases h
 .rw[B6]at h;obtain⟨u,h,_⟩:=MA h;have e:dB K H l (j++c.args.map ρ++k).toList:=by simpa using e
  obtain⟨b,a⟩:=a0O l8 hm G2 p e h;have d:(execOp ρ o).run P w=.ok (.enter f (j++c.args.map ρ++k)) w:=by
   simp only[execOp,q,resolve,r,t,Deferred.ofValue,au,bg,ak,invoke];exact b _ _
  rw[d];exact⟨rfl,a⟩
omit l8 hm n6 G2 in
theorem fX{c:Call}{n:Nat}(h:R1 c n=true):c.args.size=n/\c.argTypes.size=n:=by
 simp only[R1,ah,ig]at h;exact h
omit l8 hm n6 G2 in
theorem FO{α:Type}{a:Array α}{d:α}(h:a.size=1):a.toList=[a.getD 0 d]:=by
 obtain⟨l⟩:=a
 match l,h with
 |[x],_=>rfl
omit l8 hm n6 G2 in
theorem FP{α:Type}{a:Array α}{d:α}(h:a.size=2):a.toList=[a.getD 0 d,a.getD 1 d]:=by
 obtain⟨l⟩:=a
 match l,h with
 |[x,y],_=>rfl
variable (hn:nx<1048575)
include hn
theorem MB{R:z0}(o:Oper){c:Call}{b:Builtin}(e:o.op=.call c)(f:c.callee=.builtin b)(h:lX c b P R ev nx (G9 m)=.ok v new set rd):z8 P F K H w m nx v new set ((execOp ρ o).run P w):=by
 cases b with
 |append=>
  obtain⟨a,h⟩:=a8 (show nB (R1 c 2) 201 (gV P (y0 c) (y1 c) (ev (a0 c)) (ev (a1 c)) nx (G9 m))=_ from h);obtain⟨a,d⟩:=fX a;exact WQ l8 hm G2 hn n6 o e f (FP a) (FP d) h
 |cap=>
  obtain⟨a,h⟩:=a8 (show nB (R1 c 1) 202 (O' P (y0 c) (ev (a0 c)))=_ from h);obtain⟨a,d⟩:=fX a;exact a6N l8 hm n6 o e f (FO a) (FO d) h
 |clear=>
  obtain⟨a,h⟩:=a8 (show nB (R1 c 1) 203 (nV P (y0 c) (ev (a0 c)) (G9 m))=_ from h);obtain⟨a,d⟩:=fX a;exact a0G l8 hm n6 o e f (FO a) (FO d) h
 |copy=>
  obtain⟨a,h⟩:=a8 (show nB (R1 c 2) 204 (xP P (y0 c) (y1 c) (ev (a0 c)) (ev (a1 c)) (G9 m))=_ from h);obtain⟨a,d⟩:=fX a;exact a3Y l8 hm n6 o e f (FP a) (FP d) h
 |delete=>
  obtain⟨a,h⟩:=a8 (show nB (R1 c 2) 205 (kL P (y0 c) (ev (a0 c)) (ev (a1 c)) (G9 m))=_ from h);obtain⟨a,d⟩:=fX a;exact WY l8 hm n6 o e f (FP a) (FP d) h
 |len=>
  obtain⟨a,h⟩:=a8 (show nB (R1 c 1) 206 (L' P (y0 c) (ev (a0 c)))=_ from h);obtain⟨a,d⟩:=fX a;exact a6K l8 hm n6 o e f (FO a) (FO d) h
 |max=>exact a6L l8 hm n6 o e f h
 |min=>exact a6M l8 hm n6 o e f h
 |_=>exact l6.noConfusion h
theorem TU{R:z0}(p:F7 P R)(o:Oper)(h:HW o.op P R ev nx (G9 m)=.ok v new set rd):z8 P F K H w m nx v new set ((execOp ρ o).run P w):=by
 cases j:o.op with
 |move x=>rw[j]at h;exact Wk l8 hm n6 o (.inl j) h
 |assign x=>rw[j]at h;exact Wk l8 hm n6 o (.inr j) h
 |pick c a b=>rw[j]at h;exact a3K l8 hm n6 o j h
 |alloc e=>rw[j]at h;exact a0C l8 hm n6 G2 hn o j h
 |box e x=>rw[j]at h;exact a6J l8 hm n6 G2 hn o j h
 |build t ps=>rw[j]at h;exact a0F l8 hm n6 o j h
 |buildSlice t n ps=>rw[j]at h;exact JZ l8 hm n6 G2 hn o j h
 |insert t x i y=>rw[j]at h;exact Cy l8 hm n6 o (.inr j) h
 |load t x=>rw[j]at h;exact a3V l8 hm n6 o j h
 |store t a x=>rw[j]at h;exact a0B l8 hm n6 o j h
 |nilCheck x=>rw[j]at h;exact OO l8 hm n6 o j h
 |binOp op t x y u=>rw[j]at h;exact a0x l8 hm n6 o j h
 |unOp op t x=>rw[j]at h;exact a3L l8 hm n6 o j h
 |convert s d x=>rw[j]at h;exact Tk l8 hm n6 o j h
 |makeFunc f a b=>rw[j]at h;exact Pv l8 hm n6 G2 hn o j h
 |makeMap t r=>
  rw[j]at h;cases r with
  |none=>exact TD l8 hm G2 hn o j h
  |some r=>exact l6.noConfusion (show l6.er 210 0=_ from h)
 |makeSlice t l c=>rw[j]at h;exact Ms (R:=R) l8 hm n6 G2 hn o j h
 |slice t x lo q mx=>rw[j]at h;exact a0E l8 hm n6 o j h
 |fieldAddr t x f=>rw[j]at h;exact Mn l8 hm n6 o j h
 |field t x f=>rw[j]at h;exact a0A l8 hm n6 o j h
 |indexAddr t x i=>rw[j]at h;exact Mr l8 hm n6 o j h
 |index t x i=>rw[j]at h;exact a0D l8 hm n6 o j h
 |range t x=>rw[j]at h;exact a0I l8 hm n6 G2 hn o j h
 |entry i=>rw[j]at h;exact a0J l8 hm n6 o j h
 |lookup t x i z=>rw[j]at h;exact WX l8 hm n6 o j h
 |mapUpdate t x i y=>rw[j]at h;exact Cy l8 hm n6 o (.inl j) h
 |mapEntry t x i=>rw[j]at h;exact Pu l8 hm n6 o j h
 |entryStore t x s y=>rw[j]at h;exact Kc l8 hm n6 o j h
 |extract x i=>rw[j]at h;exact Tw l8 hm n6 o j h
 |call c=>
  rw[j]at h;have h:xQ c P R ev nx (G9 m)=.ok v new set rd:=h;unfold xQ at h;cases k:c.callee with
  |value g=>rw[k]at h;exact a4i l8 hm n6 G2 p o j k h
  |invoke r n=>rw[k]at h;exact l6.noConfusion h
  |builtin b=>rw[k]at h;exact MB l8 hm n6 G2 hn o j k h
 |_=>rw[j]at h;exact l6.noConfusion h
end
end Go.Abs
end
section
namespace Go.Abs
section
variable {P:Program} {nx:Nat} {v:BV} {new:List HO} {set:List (Nat×HO)} {rd:List Nat} {ev ev':Operand->BV} {D D':Hp} {R:z0}
theorem HC{c:Nat}{k:l6}:nB true c k=k:=rfl
theorem a4j{n:Nat}{k:Nat->l6}:vC (.c n) k=k n:=rfl
theorem a2y{x:BV}{k k':Nat->l6}(h:vI x k=.ok v new set rd)(a:∀j,k j=.ok v new set rd->k' j=.ok v new set rd):vI x k'=.ok v new set rd:=by
 obtain⟨c,e,b,d,f⟩:=Ck h;rw[e];show nB (pK c) 97 (nB (Nat.ble cZ (n8 c)) 98 (k' (Nat.sub (n8 c) cZ)))=_;rw[b,dk d];exact a _ f
theorem PC{a c:Nat}{k k':Nat->Nat->List Nat->l6}(h:J' D a c k=.ok v new set rd)(j:∀l n q,k l n q=.ok v new set rd->(∀r∈q,r∈rd)/\((∀r∈rd,D' r=D r)->k' l n q=.ok v new set rd))(b:∀r∈rd,D' r=D r):J' D' a c k'=.ok v new set rd:=by
 rcases FC h with⟨rfl,d⟩|⟨f,s,n,hd,g,d⟩
 .exact(j _ _ _ d).2 b
 .obtain⟨m,o⟩:=j _ _ _ d;have e:=b (sR c) (m _ (cb.2 rfl));have i:¬(Nat.beq c 25=true):=by
   intro g;rw[ab g]at f;exact absurd f (by decide)
  unfold J';rw[a9,ai i,f,e,hd];show nB (Nat.ble (sO c+sL c*a) s) 132 (k' (sL c) (Df n (sO c) (sL c*a)) [sR c])=_;rw[dk g];exact o b
theorem a0R{t:TypeId}{x:BV}(h:uV P t x D=.ok v new set rd)(f:∀r∈rd,D' r=D r):uV P t x D'=.ok v new set rd:=by
 obtain⟨c,g,b⟩:=x8 h;subst g;clear h;have h:=b;clear b;have i:=h;obtain⟨k,h⟩:=a8 h;cases d:vU P t with
 |zero=>rw[d]at h;exact l6.noConfusion (show l6.er 74 0=_ from h)
 |succ a=>
  rw[d]at h;obtain⟨s,n,j,h⟩:=jN (show hC (D (pR c)) (fun s n=>nB (Nat.ble (Nat.add (pO c) (bA (Nat.succ a))) s) 75 (.ok (uK a (Df n (pO c) (bA (Nat.succ a)))) [] [] [pR c]))=_ from h)
  obtain⟨l,h⟩:=a8 h;have e:=f (pR c) (by cases h;simp)
  unfold uV;show nB (sV c) 73 (@Nat.rec (fun _=>l6) (.er 74 0) (fun a _=>hC (D' (pR c)) fun s n=>
   nB (Nat.ble (Nat.add (pO c) (bA (Nat.succ a))) s) 75 (.ok (uK a (Df n (pO c) (bA (Nat.succ a)))) [] [] [pR c])) (vU P t))=_
  rw[e];exact i
theorem Xl{t:TypeId}{a x:BV}(h:iT P t a x D=.ok v new set rd)(f:∀r∈rd,D' r=D r):iT P t a x D'=.ok v new set rd:=by
 obtain⟨c,g,d⟩:=x8 h;subst g;clear h;have h:=d;clear d;have i:=h;obtain⟨k,h⟩:=a8 h;obtain⟨s,n,j,h⟩:=jN h;obtain⟨b,y,l,h⟩:=dV h;obtain⟨m,h⟩:=a8 h;obtain⟨o,h⟩:=a8 h;obtain⟨p,h⟩:=a8 h;have e:=f (pR c) (by cases h;simp)
 unfold iT;show nB (sV c) 76 (hC (D' (pR c)) fun s n=>vR x fun b y=>
  nB (Nat.beq b (j9 P t)) 77 (nB (Nat.ble 1 b) 78 (nB (Nat.ble (Nat.add (pO c) b) s) 79 (.ok (.c 1) [] [(pR c,.c s (W2 n (pO c) b y))] [pR c]))))=_
 rw[e];exact i
theorem Xm{t:TypeId}{x:BV}{lo j mx:Option Operand}(h:iW P t x lo j mx ev D=.ok v new set rd)(p:∀r∈rd,D' r=D r):iW P t x lo j mx ev D'=.ok v new set rd:=by
 obtain⟨c,q,l⟩:=x8 h;subst q;clear h;have h:=l;clear l;unfold iW;rw[a9]at h;show iB (sV c) _ _=_;rw[a9];split at h
 .rename_i g;rw[aj g];have f:∀ {o:Option Operand} {d:Nat} {k k':Nat->l6},oI ev o d k=.ok v new set rd->(∀a,k a=.ok v new set rd->k' a=.ok v new set rd)->oI ev o d k'=.ok v new set rd:=by
   intro o d k k' h m;cases o with
   |none=>exact m _ h
   |some z=>exact a2y h m
  refine f h (fun a u=>f u (fun b i=>?_))
  cases mx with
  |some z=>exact l6.noConfusion (show l6.er 124 0=_ from i)
  |none=>
   have w:=i;obtain⟨_,h⟩:=a8 i;obtain⟨_,h⟩:=a8 h;obtain⟨_,h⟩:=a8 h;obtain⟨_,h⟩:=a8 h;obtain⟨_,h⟩:=a8 h;obtain⟨_,h⟩:=a8 h;obtain⟨s,n,y,h⟩:=jN h;obtain⟨_,h⟩:=a8 h;have e:=p (pR c) (by cases h;simp)
   rw[e];exact w
 .rename_i g;rw[ai g];exact h
theorem RL{t:TypeId}{c m ys:Nat}{q:List Nat}(h:Lt P t c nx D m ys q=.ok v new set rd):(∀r∈q,r∈rd)/\((∀r∈rd,D' r=D r)->Lt P t c nx D' m ys q=.ok v new set rd):=by
 unfold Lt at h ⊢;rw[a9]at h ⊢;split at h
 .rename_i e;rw[aj e];refine⟨fun r b=>?_,fun _=>h⟩
  obtain⟨_,h⟩:=a8 h;cases h;exact b
 .rename_i e;rw[ai e];have key:∀ (l xs:Nat) (d:List Nat),nB (Nat.ble (Nat.add l m) 1048575) 133 (nB (Nat.ble (J2 P t) 255) 134 (nB (Nat.ble 1 (J2 P t)) 135
    (iB (iB (Nat.beq c 25) true (Nat.beq (sF c) 1))
     (.ok (.c (pJ nx 0 (Nat.add l m) (J2 P t) 0)) [.c (Nat.mul (Nat.add l m) (J2 P t)) (bH (Nat.add xs (Nat.mul ys (Nat.pow cB (Nat.mul l (J2 P t))))))] [] (List.append d q))
     (nB (Nat.beq (sE c) (J2 P t)) 137 (nB (iB (@List.rec Nat (fun _=>Bool) false (fun a _ _=>Nat.beq a (sR c)) q) false true) 138
      (.ok (.c (pJ nx 0 (Nat.add l m) (J2 P t) 0)) [.c (Nat.mul (Nat.add l m) (J2 P t)) (bH (Nat.add xs (Nat.mul ys (Nat.pow cB (Nat.mul l (J2 P t))))))] [(sR c,.z)] (List.append d q)))))))=l6.ok v new set rd->rd=d++q:=by
   intro l xs d h;obtain⟨_,h⟩:=a8 h;obtain⟨_,h⟩:=a8 h;obtain⟨_,h⟩:=a8 h;rw[a9]at h;split at h
   .exact(l6.ok.inj h).2.2.2.symm
   .obtain⟨_,h⟩:=a8 h;obtain⟨_,h⟩:=a8 h;exact(l6.ok.inj h).2.2.2.symm
  refine⟨fun r b=>?_,fun i=>PC h (fun l n d g=>⟨fun r b=>?_,fun _=>g⟩) i⟩
  .rcases FC h with⟨_,f⟩|⟨_,_,_,_,_,f⟩
   .rw[key _ _ _ f];exact dz _ b
   .rw[key _ _ _ f];exact dz _ b
  .rw[key _ _ _ g];exact ej _ b
theorem TW{t u:TypeId}{x y:BV}(h:gV P t u x y nx D=.ok v new set rd)(e:∀r∈rd,D' r=D r):gV P t u x y nx D'=.ok v new set rd:=by
 obtain⟨f,g⟩:=a8 h;obtain⟨i,k⟩:=a8 g;obtain⟨c,rfl,a⟩:=x8 k;unfold gV;rw[f,i];show iB (Nat.beq (kdT P u) 4) _ _=_;rw[a9]at a ⊢;split at a
 .rename_i b;rw[aj b];refine a2y a (fun j k3=>?_)
  obtain⟨o,k4⟩:=a8 k3;rw[o,HC];exact(RL k4).2 e
 .rename_i b;rw[ai b];obtain⟨p,k3⟩:=a8 a;obtain⟨d,rfl,k4⟩:=x8 k3;rw[p];show J' D' (J2 P t) d (fun m ys rd=>Lt P t c nx D' m ys rd)=_
  exact PC k4 (fun l n q s=>RL s) e
theorem MC{c:Nat}{k k':Nat->l6}(h:iV c k=.ok v new set rd)(a:∀l,k l=.ok v new set rd->k' l=.ok v new set rd):iV c k'=.ok v new set rd:=by
 unfold iV at h ⊢;rw[a9]at h ⊢;split at h
 .rename_i e;rw[aj e];exact a _ h
 .rename_i e;rw[ai e];obtain⟨b,h⟩:=a8 h;rw[b];exact a _ h
theorem Xn{t:TypeId}{x:BV}(h:nV P t x D=.ok v new set rd)(g:∀r∈rd,D' r=D r):nV P t x D'=.ok v new set rd:=by
 obtain⟨c,i,d⟩:=x8 h;subst i;clear h;have h:=d;clear d;unfold nV;show @Option.rec TypeId (fun _=>l6) (.er 145 0) (fun e=>nB (eG P e) 146 (nB (Nat.ble 1 (J2 P t)) 135 (iV c fun l=>iB (Nat.beq l 0) (lN 1) (hC (D' (sR c)) fun s n=>
  nB (Nat.ble (Nat.add (sO c) (Nat.mul l (J2 P t))) s) 147 (.ok (.c 1) [] [(sR c,.c s (W2 n (sO c) (Nat.mul l (J2 P t)) (Lr (lU P e) (J2 P t) l)))] [sR c]))))) (Hq P t)=_
 cases f:Hq P t with
 |none=>rw[f]at h;exact l6.noConfusion (show l6.er 145 0=_ from h)
 |some e=>
  rw[f]at h;obtain⟨j,h⟩:=a8 h;obtain⟨k,h⟩:=a8 h;show nB (eG P e) 146 (nB (Nat.ble 1 (J2 P t)) 135 (iV c _))=_;rw[j,k,HC,HC];refine MC h (fun l a=>?_)
  rw[a9]at a ⊢;split at a
  .rename_i b;rw[aj b];exact a
  .rename_i b;rw[ai b];have m:=a;obtain⟨s,n,o,a⟩:=jN a;obtain⟨_,a⟩:=a8 a;have p:=g (sR c) (by cases a;simp)
   rw[p];exact m
theorem a0S{t u:TypeId}{x y:BV}(h:xP P t u x y D=.ok v new set rd)(j:∀r∈rd,D' r=D r):xP P t u x y D'=.ok v new set rd:=by
 obtain⟨o,p⟩:=a8 h;obtain⟨w,z⟩:=a8 p;obtain⟨c,rfl,A⟩:=x8 z;obtain⟨d,rfl,k3⟩:=x8 A;unfold xP;rw[o,w,HC,HC,a4j,a4j];refine PC k3 (fun m ys q k=>?_) j
 have e:(∀r∈q,r∈rd)/\∀l,fN (iB (Nat.ble m l) m l) (fun a=>iB (Nat.beq a 0) (.ok (.c (G5 0)) [] [] q) (hC (D (sR c)) fun s n=>nB (Nat.ble (Nat.add (sO c) (Nat.mul a (J2 P t))) s) 144
   (.ok (.c (G5 a)) [] [(sR c,.c s (W2 n (sO c) (Nat.mul a (J2 P t)) (iS ys 0 (Nat.mul a (J2 P t)))))] (sR c::q))))=.ok v new set rd->
   fN (iB (Nat.ble m l) m l) (fun a=>iB (Nat.beq a 0) (.ok (.c (G5 0)) [] [] q) (hC (D' (sR c)) fun s n=>nB (Nat.ble (Nat.add (sO c) (Nat.mul a (J2 P t))) s) 144
   (.ok (.c (G5 a)) [] [(sR c,.c s (W2 n (sO c) (Nat.mul a (J2 P t)) (iS ys 0 (Nat.mul a (J2 P t)))))] (sR c::q))))=.ok v new set rd:=by
  have one:∀l,fN (iB (Nat.ble m l) m l) (fun a=>iB (Nat.beq a 0) (.ok (.c (G5 0)) [] [] q) (hC (D (sR c)) fun s n=>nB (Nat.ble (Nat.add (sO c) (Nat.mul a (J2 P t))) s) 144
   (.ok (.c (G5 a)) [] [(sR c,.c s (W2 n (sO c) (Nat.mul a (J2 P t)) (iS ys 0 (Nat.mul a (J2 P t)))))] (sR c::q))))=.ok v new set rd->(∀r∈q,r∈rd)/\fN (iB (Nat.ble m l) m l) (fun a=>iB (Nat.beq a 0) (.ok (.c (G5 0)) [] [] q) (hC (D' (sR c)) fun s n=>nB (Nat.ble (Nat.add (sO c) (Nat.mul a (J2 P t))) s) 144
   (.ok (.c (G5 a)) [] [(sR c,.c s (W2 n (sO c) (Nat.mul a (J2 P t)) (iS ys 0 (Nat.mul a (J2 P t)))))] (sR c::q))))=.ok v new set rd:=by
   intro l b;rw[B6,a9 (Nat.beq _ 0)]at b ⊢;split at b
   .rename_i f;rw[aj f];exact⟨fun r g=>by cases b;exact g,b⟩
   .rename_i f;rw[ai f];have B:=b;obtain⟨s,n,C,b⟩:=jN b;obtain⟨_,b⟩:=a8 b;have E:=j (sR c) (by cases b;simp)
    rw[E];exact⟨fun r g=>by cases b;exact al _ g,B⟩
  refine⟨?_,fun l b=>(one l b).2⟩
  rcases mO k with⟨_,i⟩|⟨_,i⟩
  .exact(one _ i).1
  .exact(one _ i).1
 exact⟨e.1,fun _=>MC k e.2⟩
theorem zN{t:TypeId}{x i:BV}{k:Nat->Nat->Nat->Nat->ME->Nat->l6}(h:qQ P t x i D k=.ok v new set rd)(b:∀r key ks vs l clk,k r key ks vs l clk=.ok v new set rd->r∈rd)(d:∀r∈rd,D' r=D r):qQ P t x i D' k=.ok v new set rd:=by
 obtain⟨c,f,a⟩:=x8 h;subst f;clear h;have h:=a;clear a;have g:=h;obtain⟨m,h⟩:=a8 h;obtain⟨ks,vs,l,clk,n,h⟩:=rP h;obtain⟨o,h⟩:=a8 h;obtain⟨p,h⟩:=a8 h;obtain⟨q,h⟩:=a8 h;obtain⟨s,key,j,h⟩:=dV h;obtain⟨u,h⟩:=a8 h;have e:=d (mR c) (b _ _ _ _ _ _ h);unfold qQ;show nB (vV c) 162 (hM (D' (mR c)) _)=_;rw[e];exact g
theorem Xo{t:TypeId}{x:BV}(a:AV P t x nx D=.ok v new set rd)(b:∀r∈rd,D' r=D r):AV P t x nx D'=.ok v new set rd:=by
 obtain⟨c,rfl,h⟩:=x8 a;have d:=h;obtain⟨f,h⟩:=a8 h;obtain⟨ks,vs,l,clk,g,h⟩:=rP h;obtain⟨i,h⟩:=a8 h;obtain⟨j,h⟩:=a8 h;cases h;have e:=b (mR c) (by simp)
 show nB (vV c) 224 (hM (D' (mR c)) _)=_;rw[e];exact d
theorem Xp{x:BV}(k:vX x D=.ok v new set rd)(d:∀r∈rd,D' r=D r):vX x D'=.ok v new set rd:=by
 obtain⟨c,rfl,h⟩:=x8 k;have e:=h;obtain⟨o,h⟩:=a8 h;obtain⟨q,h⟩:=a8 h;obtain⟨a,b,seen,f,g,h⟩:=WZ h;obtain⟨ks,vs,l,clk,u,h⟩:=rP h;obtain⟨w,h⟩:=a8 h;obtain⟨y,h⟩:=a8 h;cases seen with
 |nil=>cases h
 |cons s seen=>
  obtain⟨_,h⟩:=a8 (show nB (Nat.ble s 1048576) 241 (SY s l (fun p=>.ok (.t [(ks,p.2.1),(vs,p.2.2)]) [] [] [pR c,a]) (.er 231 0))=_ from h)
  obtain⟨j,p,z,m,h⟩:=DI h;cases h;have i:=d (pR c) (by simp)
  have n:=d a (by simp)
  rw[g]at i;rw[g]at e;show nB (sV c) 226 (nB (Nat.beq (pO c) 0) 227 (hI (D' (pR c)) _))=_;rw[i];show nB (sV c) 226 (nB (Nat.beq (pO c) 0) 227 (hM (D' a) _))=_;rw[n];exact e
theorem TX{t:TypeId}{x i:BV}{b:Bool}(h:eZ P t x i b D=.ok v new set rd)(c:∀r∈rd,D' r=D r):eZ P t x i b D'=.ok v new set rd:=by
 refine zN h (fun r key ks vs l clk a=>?_) c
 rw[aD]at a;cases b<;>(split at a<;>first|(cases a;simp)|(split at a<;>cases a<;>simp))
theorem zO{t:TypeId}{x i y:BV}(h:W5 P t x i y D=.ok v new set rd)(b:∀r∈rd,D' r=D r):W5 P t x i y D'=.ok v new set rd:=by
 refine zN h (fun r key ks vs l clk a=>?_) b
 obtain⟨_,a⟩:=a8 a;obtain⟨s,n,_,a⟩:=dV a;rw[aD]at a;simp only[rN,FE]at a
 repeat' split at a
 all_goals (cases a;simp)
theorem MD{t:TypeId}{x i:BV}(h:cU P t x i D=.ok v new set rd)(b:∀r∈rd,D' r=D r):cU P t x i D'=.ok v new set rd:=by
 refine zN h (fun r key ks vs l clk a=>?_) b
 obtain⟨_,a⟩:=a8 a;rw[aD]at a;simp only[rN]at a
 repeat' split at a
 all_goals first|(cases a;simp;done)|(obtain⟨_,a⟩:=a8 a;cases a;simp)
theorem TY{t:TypeId}{x i:BV}(h:kL P t x i D=.ok v new set rd)(b:∀r∈rd,D' r=D r):kL P t x i D'=.ok v new set rd:=by
 refine zN h (fun r key ks vs l clk a=>?_) b
 rw[FF]at a;split at a<;>(cases a;simp)
theorem HD{x i y:BV}(h:R6 x i y D=.ok v new set rd)(d:∀r∈rd,D' r=D r):R6 x i y D'=.ok v new set rd:=by
 obtain⟨c,f,b⟩:=x8 h;subst f;clear h;have h:=b;clear b;obtain⟨g,h⟩:=a8 h;obtain⟨c',j,k,m,h⟩:=Ck h;obtain⟨a,h⟩:=a8 h;have o:=h;obtain⟨ks,vs,l,clk,p,h⟩:=rP h;obtain⟨q,h⟩:=a8 h;obtain⟨s,n,_,h⟩:=dV h;rw[zC]at h;have e:D' (mR c)=D (mR c):=d _ (by
  split at h
  .cases h
  .split at h<;>cases h
   simp)
 unfold R6;show nB (vV c) 167 (vI i _)=_;rw[g,j];show nB (pK c') 97 (nB (Nat.ble cZ (n8 c')) 98 (nB (Nat.ble (n8 c'- cZ) 1048576) 240 (hM (D' (mR c)) _)))=_;rw[k,dk m,a,e];exact o
theorem FQ(i:∀r∈rd,D' r=D r):∀ (fuel:Nat) (q a:List Nat) (L:Lk) (m:Nat) (d:List HO) (k k':List HO->Lk->Nat->l6),(∀r∈q,r∈L.map (·.1))->(∀r∈a,r∈L.map (·.1))->
  (∀d L m,k d L m=.ok v new set rd->(∀r∈L.map (·.1),r∈rd)/\k' d L m=.ok v new set rd)->qR D fuel q a L m d k=.ok v new set rd->(∀r∈L.map (·.1),r∈rd)/\qR D' fuel q a L m d k'=.ok v new set rd
 |0,q,a,L,m,d,k,k',_,_,_,h=>l6.noConfusion (show l6.er 185 0=_ from h)
 |fuel+1,[],[],L,m,d,k,k',_,_,f,h=>f _ _ _ h
 |fuel+1,[],b::s,L,m,d,k,k',j,l,f,h=>by
  have h:qR D fuel (Lw (b::s)) [] L m d k=.ok v new set rd:=h;show _/\qR D' fuel (Lw (b::s)) [] L m d k'=.ok v new set rd;rw[zH]at h ⊢;exact FQ i fuel _ [] L m d k k' (fun r n=>l r (jw.1 n)) (fun r n=>by cases n) f h
 |fuel+1,r::p,a,L,m,d,k,k',j,l,f,h=>by
  have h:Et (D r) L a m (fun o L a m=>qR D fuel p a L m (o::d) k)=.ok v new set rd:=h
  show _/\Et (D' r) L a m (fun o L a m=>qR D' fuel p a L m (o::d) k')=.ok v new set rd
  rcases FK (Q:=fun _=>True) (L:=L) (q:=a) (m:=m) (DL (D r))with⟨c,x,y⟩|⟨t,o,B,_,_,u⟩
  .rw[y]at h;cases h
  .rw[u]at h;have e:∀x,x∈(ad m t++L).map (·.1)↔x∈t\/x∈L.map (·.1):=by
    intro x;rw[nv,cj,PA]
   obtain⟨z,g2⟩:=FQ i fuel p (t++a) _ _ (o::d) k k' (fun x g=>(e x).2 (.inr (j x (al _ g)))) (fun x g=>(e x).2 ((cj.1 g).elim .inl (fun A=>.inr (l x A)))) f h
   have w:∀x∈L.map (·.1),x∈rd:=fun x g=>z x ((e x).2 (.inr g))
   refine⟨w,?_⟩;rw[i r (w r (j r (ar ..))),u];exact g2
theorem FR{L:Lk}:∀ (l:List HO) (c:List Nat) (k:List (Nat×HO)->List HO->l6),(∀r∈c,D' r=D r)->Z7 D' l c L k=Z7 D l c L k
 |[],c,k,_=>rfl
 |o::l,c,k,g=>by
  show Et o L [] 0 (fun o' _ q _=>nB (Nat.beq (B8 q) 0) 186 (@List.rec Nat (fun _=>l6) (Z7 D' l c L fun s n=>k s (o'::n)) (fun r d _=>Z7 D' l d L fun s n=>iB (Eu o' (D' r)) (k s n) (k ((r,o')::s) n)) c))=_
  have e:(fun(o':HO) (_:Lk) (q:List Nat) (_:Nat)=>nB (Nat.beq (B8 q) 0) 186 (@List.rec Nat (fun _=>l6) (Z7 D' l c L fun s n=>k s (o'::n)) (fun r d _=>Z7 D' l d L fun s n=>iB (Eu o' (D' r)) (k s n) (k ((r,o')::s) n)) c))=
    fun o' _ q _=>nB (Nat.beq (B8 q) 0) 186 (@List.rec Nat (fun _=>l6) (Z7 D l c L fun s n=>k s (o'::n)) (fun r d _=>Z7 D l d L fun s n=>iB (Eu o' (D r)) (k s n) (k ((r,o')::s) n)) c):=by
   funext o' a q b;cases c with
   |nil=>
    show nB _ 186 (Z7 D' l [] L _)=nB _ 186 (Z7 D l [] L _);rw[FR l [] _ (fun r f=>by cases f)]
   |cons r c=>
    show nB _ 186 (Z7 D' l c L _)=nB _ 186 (Z7 D l c L _);rw[g r (ar ..),FR l c _ (fun h f=>g h (al _ f))]
  rw[e];rfl
theorem FT{L:Lk}{v':BV}{olds:List Nat}:∀ (l:List HO) (a:List Nat) (k:List (Nat×HO)->List HO->l6),(∀s n,k s n=.ok v new set rd->rd=olds)->Z7 D l a L k=.ok v new set rd->rd=olds
 |[],a,k,d,h=>d _ _ h
 |o::l,a,k,d,h=>by
  have h:Et o L [] 0 (fun o' _ q _=>nB (Nat.beq (B8 q) 0) 186 (@List.rec Nat (fun _=>l6) (Z7 D l a L fun s n=>k s (o'::n)) (fun r e _=>Z7 D l e L fun s n=>iB (Eu o' (D r)) (k s n) (k ((r,o')::s) n)) a))=.ok v new set rd:=h
  rcases FK (Q:=fun _=>True) (L:=L) (q:=[]) (m:=0) (DL o)with⟨c,x,f⟩|⟨t,o',i,_,_,g⟩
  .rw[f]at h;cases h
  .rw[g]at h;obtain⟨_,h⟩:=a8 h;cases a with
   |nil=>exact FT (v':=v') l [] _ (fun s n b=>d _ _ b) h
   |cons r a=>
    refine FT (v':=v') l a _ (fun s n b=>?_) h
    rw[a9]at b;split at b
    .exact d _ _ b
    .exact d _ _ b
theorem TZ{f:FuncId}{args:List BV}(h:iY R D f args nx=.ok v new set rd)(z:∀r∈rd,D' r=D r):iY R D' f args nx=.ok v new set rd:=by
 unfold iY at h ⊢;rcases Br (Q:=fun _=>True) args (L:=[]) (q:=[]) (m:=0) (fun b _=>by
  cases b with
  |c n=>exact fun _ _=>trivial
  |a s n=>exact fun _ _ _ _=>trivial
  |t l=>exact fun _ _ _ _ _ _=>trivial
  |u=>trivial)with⟨c,x,w⟩|⟨t,g,J,_,_,B⟩
 .rw[w]at h;cases h
 .rw[B]at h ⊢;simp only at h ⊢;have C:∀r∈Lw (t++ []),r∈(ad 0 t++([]:Lk)).map (·.1):=by
   intro r e;rw[zH,jw,bf]at e;rw[bf,PA];exact e
  refine(FQ z 2000 _ [] _ _ [] _ _ C (fun r e=>by cases e) (fun y L m d=>?_) h).2
  cases A:R f g (VR y)with
  |er c x=>rw[A]at d;cases d
  |ok p j=>
   rw[A]at d;have d:fN (Nat.sub (B8 j) m) (fun i=>nB (Nat.ble (Nat.add m (Nat.add nx i)) 1048574) 198 (nB (AU (W6 L)) 197 (Lv p (lW i m nx (eL (W6 L) 0 [])) [] 0 fun v' _ q _=>nB (Nat.beq (B8 q) 0) 187
    (Z7 D j (W6 L) (lW i m nx (eL (W6 L) 0 [])) fun s n=>.ok v' n s (W6 L)))))=.ok v new set rd:=d
   show _/\fN (Nat.sub (B8 j) m) (fun i=>nB (Nat.ble (Nat.add m (Nat.add nx i)) 1048574) 198 (nB (AU (W6 L)) 197 (Lv p (lW i m nx (eL (W6 L) 0 [])) [] 0 fun v' _ q _=>nB (Nat.beq (B8 q) 0) 187
    (Z7 D' j (W6 L) (lW i m nx (eL (W6 L) 0 [])) fun s n=>.ok v' n s (W6 L)))))=.ok v new set rd
   rw[B6]at d ⊢;obtain⟨E,d⟩:=a8 d;obtain⟨F,d⟩:=a8 d;rw[E,F,HC,HC];rcases FJ (Q:=fun _=>True) (x:=p) (L:=lW (Nat.sub (B8 j) m) m nx (eL (W6 L) 0 [])) (q:=[]) (m:=0) (by
    cases p with
    |c n=>exact fun _ _=>trivial
    |a s n=>exact fun _ _ _ _=>trivial
    |t l=>exact fun _ _ _ _ _ _=>trivial
    |u=>trivial)with⟨c,x,w⟩|⟨K,v',_,_,_,G⟩
   .rw[w]at d;cases d
   .rw[G]at d ⊢;obtain⟨H,d⟩:=a8 d;have k:=FT (v':=v') j _ _ (fun s n I=>((l6.ok.inj I).2.2.2).symm) d
    have o:∀r∈L.map (·.1),r∈rd:=by
     intro r e;rw[k,Im,jw];exact e
    refine⟨o,?_⟩;rw[H,HC];rw[FR (D:=D) (D':=D') _ _ _ (fun r e=>z r (by rw[k];exact e))]
    exact d
theorem a0T{g:BV}{c:Call}(h:qS R D g c ev nx=.ok v new set rd)(x:∀r∈rd,D' r=D r):qS R D' g c ev nx=.ok v new set rd:=by
 obtain⟨k,A,B⟩:=x8 h;subst A;clear h;unfold qS;rw[a4j];have h:Ev D k (gO ev c.args.toList) (fun n=>.er n 0) (fun f l q=>fN f fun f=>Ew q (iY R D f l nx))=.ok v new set rd:=B
 have j:∀ (f:FuncId) (l:List BV) (q:List Nat),fN f (fun f=>Ew q (iY R D f l nx))=.ok v new set rd->(∀r∈q,r∈rd)/\fN f (fun f=>Ew q (iY R D' f l nx))=.ok v new set rd:=by
  intro f l q h;rw[B6]at h ⊢;obtain⟨C,E,u⟩:=MA h;refine⟨fun r w=>by rw[u];exact ej _ w,?_⟩
  rw[TZ E (fun r w=>x r (by rw[u];exact dz _ w)),u]
  rfl
 unfold Ev at h ⊢;rw[a9]at h ⊢;split at h
 .rename_i F;rw[aj F];cases y:fR k with
  |zero=>
   rw[y]at h;exact(j _ _ _ h).2
  |succ r=>
   rw[y]at h;have h: @HO.rec (fun _=>l6) (fun _ _=>.er 190 0) (fun _ _ _ _=>.er 191 0) (fun o p s t=>fN (fF k) fun f=>Ew [r] (iY R D f (aJ o p (gO ev c.args.toList (aJ s t []))) nx)) (fun _ _ _ _=>.er 192 0) (.er 193 0) (D r)=.ok v new set rd:=h
   show @HO.rec (fun _=>l6) (fun _ _=>.er 190 0) (fun _ _ _ _=>.er 191 0) (fun o p s t=>fN (fF k) fun f=>Ew [r] (iY R D' f (aJ o p (gO ev c.args.toList (aJ s t []))) nx)) (fun _ _ _ _=>.er 192 0) (.er 193 0) (D' r)=_
   cases e:D r with
   |f o p s t=>
    rw[e]at h;obtain⟨G,g2⟩:=j _ _ _ h;rw[x r (G r (cb.2 rfl)),e];exact g2
   |c a b=>rw[e]at h;cases h
   |m a b c d=>rw[e]at h;cases h
   |i a b c d=>rw[e]at h;cases h
   |z=>rw[e]at h;cases h
 .cases h
end
end Go.Abs
end
section
namespace Go.Abs
section
variable {P:Program} {nx:Nat} {v:BV} {new:List HO} {set:List (Nat×HO)} {rd:List Nat} {ev ev':Operand->BV} {D D':Hp} {R:z0}
theorem zP{t:TypeId}:∀ (ps:List (Nat×Operand)) (n:Nat) (k:Nat->l6),(∀p∈ps,ev p.2=ev' p.2)->dN P t ev ps n k=dN P t ev' ps n k
 |[],_,_,_=>rfl
 |p::ps,n,k,h=>by
  show @Nat.rec (fun _=>l6) (.er 62 0) (fun o _=>vR (ev p.2) fun s x=>nB (Nat.beq s (bA (OD P t p.1))) 63 (nB (Nat.ble (Nat.add o s) (j9 P t)) 157 (fN (vT n o s x) fun a=>dN P t ev ps a k))) (HV P t p.1)=
   @Nat.rec (fun _=>l6) (.er 62 0) (fun o _=>vR (ev' p.2) fun s x=>nB (Nat.beq s (bA (OD P t p.1))) 63 (nB (Nat.ble (Nat.add o s) (j9 P t)) 157 (fN (vT n o s x) fun a=>dN P t ev' ps a k))) (HV P t p.1)
  rw[h p (ar ..)];have e:∀a,dN P t ev ps a k=dN P t ev' ps a k:=fun a=>zP ps a k (fun q b=>h q (al _ b))
  simp only[e]
theorem zQ{a:Nat}:∀ (ps:List (Nat×Operand)) (i:Nat) (k:Nat->l6),(∀p∈ps,ev p.2=ev' p.2)->nS ev a ps i k=nS ev' a ps i k
 |[],_,_,_=>rfl
 |p::ps,i,k,h=>by
  show nB (Nat.beq p.1 i) 66 (vR (ev p.2) fun s x=>nB (Nat.beq s a) 67 (nS ev a ps (Nat.succ i) fun n=>k (Nat.add x (Nat.mul (Nat.pow cB a) n))))=
   nB (Nat.beq p.1 i) 66 (vR (ev' p.2) fun s x=>nB (Nat.beq s a) 67 (nS ev' a ps (Nat.succ i) fun n=>k (Nat.add x (Nat.mul (Nat.pow cB a) n))))
  rw[h p (ar ..)];have e:∀k,nS ev a ps (Nat.succ i) k=nS ev' a ps (Nat.succ i) k:=fun k=>zQ ps _ k (fun q b=>h q (al _ b))
  simp only[e]
theorem wM:∀ (l:List Operand) (k:Nat->l6),(∀x∈l,ev x=ev' x)->Ep ev l k=Ep ev' l k
 |[],_,_=>rfl
 |o::l,k,h=>by
  show Ep ev l (fun m=>vC (ev o) fun c=>nB (Nat.ble 3 c) 170 (k (Nat.add c (Nat.mul cB m))))=Ep ev' l (fun m=>vC (ev' o) fun c=>nB (Nat.ble 3 c) 170 (k (Nat.add c (Nat.mul cB m))))
  rw[h o (ar ..),wM l _ (fun q a=>h q (al _ a))]
theorem MF(l:List Operand)(tl:List BV)(h:∀x∈l,ev x=ev' x):gO ev l tl=gO ev' l tl:=by
 rw[mQ,mQ,jn h]
theorem CB{b:Nat->Nat->Bool}:∀ (l:List Operand) (a:Nat),(∀x∈l,ev x=ev' x)->iX b ev l a=iX b ev' l a
 |[],_,_=>rfl
 |o::l,a,h=>by
  show(vC (ev o) fun c=>nB (Nat.beq (Nat.mod a 128) (Nat.mod c 128)) 152 (iB (b c a) (iX b ev l c) (iX b ev l a)))=vC (ev' o) fun c=>nB (Nat.beq (Nat.mod a 128) (Nat.mod c 128)) 152 (iB (b c a) (iX b ev' l c) (iX b ev' l a))
  rw[h o (ar ..)];have e:∀a,iX b ev l a=iX b ev' l a:=fun a=>CB l a (fun q d=>h q (al _ d))
  simp only[e]
theorem CC{b:Nat->Nat->Bool}(l:List Operand)(h:∀x∈l,ev x=ev' x):Cd b ev l=Cd b ev' l:=by
 cases l with
 |nil=>rfl
 |cons o l=>
  show(vC (ev o) fun c=>nB (pK c) 154 (iX b ev l c))=vC (ev' o) fun c=>nB (pK c) 154 (iX b ev' l c)
  rw[h o (ar ..)];have e:∀a,iX b ev l a=iX b ev' l a:=fun a=>CB l a (fun q d=>h q (al _ d))
  simp only[e]
theorem FU{o:Option Operand}{d:Nat}{k:Nat->l6}(h:∀x,o=some x->ev x=ev' x):oI ev o d k=oI ev' o d k:=by
 cases o with
 |none=>rfl
 |some x=>show vI (ev x) k=vI (ev' x) k;rw[h x rfl]
theorem Kg{t:TypeId}{x:BV}{lo b mx:Option Operand}(h:∀y,lo=some y\/b=some y\/mx=some y->ev y=ev' y):iW P t x lo b mx ev D=iW P t x lo b mx ev' D:=by
 unfold iW;simp only[FU (o:=lo) (fun y a=>h y (.inl a)),FU (o:=b) (fun y a=>h y (.inr (.inl a))),FU (o:=mx) (fun y a=>h y (.inr (.inr a)))]
theorem FV{c:Call}{b:Builtin}(h:∀x∈c.args.toList,ev x=ev' x):lX c b P R ev nx D=lX c b P R ev' nx D:=by
 have f:R1 c 2=true->ev (a0 c)=ev' (a0 c)/\ev (a1 c)=ev' (a1 c):=fun hh=>by
  have i:=FP (d:=default) (fX hh).1;constructor
  .exact h _ (by rw[i];exact ar ..)
  .exact h _ (by rw[i];exact al _ (ar ..))
 have g:R1 c 1=true->ev (a0 c)=ev' (a0 c):=fun hh=>by
  have i:=FO (d:=default) (fX hh).1;exact h _ (by rw[i];exact ar ..)
 have a:∀ (k:BV->BV->l6) (n:Nat),nB (R1 c 2) n (k (ev (a0 c)) (ev (a1 c)))=nB (R1 c 2) n (k (ev' (a0 c)) (ev' (a1 c))):=by
  intro k n;cases hh:R1 c 2 with
  |false=>rfl
  |true=>rw[(f hh).1,(f hh).2]
 have e:∀ (k:BV->l6) (n:Nat),nB (R1 c 1) n (k (ev (a0 c)))=nB (R1 c 1) n (k (ev' (a0 c))):=by
  intro k n;cases hh:R1 c 1 with
  |false=>rfl
  |true=>rw[g hh]
 cases b with
 |append=>exact a (fun x y=>gV P (y0 c) (y1 c) x y nx D) 201
 |cap=>exact e (fun x=>O' P (y0 c) x) 202
 |clear=>exact e (fun x=>nV P (y0 c) x D) 203
 |copy=>exact a (fun x y=>xP P (y0 c) (y1 c) x y D) 204
 |delete=>exact a (fun x y=>kL P (y0 c) x y D) 205
 |len=>exact e (fun x=>L' P (y0 c) x) 206
 |max=>exact CC _ h
 |min=>exact CC _ h
 |_=>rfl
theorem Ua{op:Op}(h:∀x∈op.operands.toList,ev x=ev' x):HW op P R ev nx D=HW op P R ev' nx D:=by
 cases op with
 |move x=>show xI (ev x)=xI (ev' x);rw[h x (by simp[Op.operands])]
 |assign x=>show xI (ev x)=xI (ev' x);rw[h x (by simp[Op.operands])]
 |pick c a b=>show Ri (ev c) (ev a) (ev b)=Ri (ev' c) (ev' a) (ev' b);rw[h c (by simp[Op.operands]),h a (by simp[Op.operands]),h b (by simp[Op.operands])]
 |alloc e=>rfl
 |box e x=>show C' (ev x) nx=C' (ev' x) nx;rw[h x (by simp[Op.operands])]
 |build t ps=>
  show En P t ps.toList ev=En P t ps.toList ev';unfold En;rw[zP ps.toList _ _ (fun p o=>h p.2 (by simp only[Op.operands];exact cd.2 ⟨p,o,rfl⟩))]
 |buildSlice t n ps=>
  show qN P t n ps.toList ev nx=qN P t n ps.toList ev' nx;unfold qN;rw[zQ ps.toList _ _ (fun p o=>h p.2 (by simp only[Op.operands];exact cd.2 ⟨p,o,rfl⟩))]
 |insert t m k y=>show W5 P t (ev m) (ev k) (ev y) D=W5 P t (ev' m) (ev' k) (ev' y) D;rw[h m (by simp[Op.operands]),h k (by simp[Op.operands]),h y (by simp[Op.operands])]
 |load t x=>show uV P t (ev x) D=uV P t (ev' x) D;rw[h x (by simp[Op.operands])]
 |store t a x=>show iT P t (ev a) (ev x) D=iT P t (ev' a) (ev' x) D;rw[h a (by simp[Op.operands]),h x (by simp[Op.operands])]
 |nilCheck x=>show sW (ev x)=sW (ev' x);rw[h x (by simp[Op.operands])]
 |binOp op t x y u=>show VN P op t (ev x) (ev y)=VN P op t (ev' x) (ev' y);rw[h x (by simp[Op.operands]),h y (by simp[Op.operands])]
 |unOp op t x=>show xUn op (ev x)=xUn op (ev' x);rw[h x (by simp[Op.operands])]
 |convert s d x=>show Rj P s d (ev x)=Rj P s d (ev' x);rw[h x (by simp[Op.operands])]
 |makeFunc f a b=>
  show iE f a.toList b.toList ev nx=iE f a.toList b.toList ev' nx;unfold iE;have A:∀k,Ep ev a.toList k=Ep ev' a.toList k:=fun k=>wM _ k (fun x j=>h x (by simp only[Op.operands,fj];exact ej _ j))
  have B:∀k,Ep ev b.toList k=Ep ev' b.toList k:=fun k=>wM _ k (fun x j=>h x (by simp only[Op.operands,fj];exact dz _ j))
  simp only[A,B]
 |makeMap t r=>rfl
 |makeSlice t l c=>
  show sX t l c P R ev nx D=sX t l c P R ev' nx D;unfold sX;rw[h l (by simp[Op.operands]),h c (by simp[Op.operands])]
 |slice t x lo q mx=>
  show iW P t (ev x) lo q mx ev D=iW P t (ev' x) lo q mx ev' D;rw[h x (by simp[Op.operands])]
  refine Kg (fun y C=>h y ?_)
  simp only[Op.operands,fj];rcases C with rfl|rfl|rfl<;>simp
 |fieldAddr t x f=>show nT P t (ev x) f=nT P t (ev' x) f;rw[h x (by simp[Op.operands])]
 |field t x f=>show iU P t (ev x) f=iU P t (ev' x) f;rw[h x (by simp[Op.operands])]
 |indexAddr t x i=>show nU P t (ev x) (ev i)=nU P t (ev' x) (ev' i);rw[h x (by simp[Op.operands]),h i (by simp[Op.operands])]
 |index t x i=>show qO P t (ev x) (ev i)=qO P t (ev' x) (ev' i);rw[h x (by simp[Op.operands]),h i (by simp[Op.operands])]
 |lookup t x i w=>show eZ P t (ev x) (ev i) w D=eZ P t (ev' x) (ev' i) w D;rw[h x (by simp[Op.operands]),h i (by simp[Op.operands])]
 |mapUpdate t m k y=>show W5 P t (ev m) (ev k) (ev y) D=W5 P t (ev' m) (ev' k) (ev' y) D;rw[h m (by simp[Op.operands]),h k (by simp[Op.operands]),h y (by simp[Op.operands])]
 |mapEntry t m k=>show cU P t (ev m) (ev k) D=cU P t (ev' m) (ev' k) D;rw[h m (by simp[Op.operands]),h k (by simp[Op.operands])]
 |entryStore t m s y=>show R6 (ev m) (ev s) (ev y) D=R6 (ev' m) (ev' s) (ev' y) D;rw[h m (by simp[Op.operands]),h s (by simp[Op.operands]),h y (by simp[Op.operands])]
 |extract x i=>show dO (ev x) i=dO (ev' x) i;rw[h x (by simp[Op.operands])]
 |range t x=>show AV P t (ev x) nx D=AV P t (ev' x) nx D;rw[h x (by simp[Op.operands])]
 |entry i=>show vX (ev i) D=vX (ev' i) D;rw[h i (by simp[Op.operands])]
 |call c=>
  show xQ c P R ev nx D=xQ c P R ev' nx D;have z:∀x∈c.args.toList,ev x=ev' x:=fun x j=>h x (by simp only[Op.operands,Call.operands,fj];exact dz _ j)
  unfold xQ;cases E:c.callee with
  |value g=>
   show qS R D (ev g) c ev nx=qS R D (ev' g) c ev' nx;rw[h g (by simp only[Op.operands,Call.operands,E,fj];simp)]
   unfold qS;have e:∀tl,gO ev c.args.toList tl=gO ev' c.args.toList tl:=fun tl=>MF _ tl z
   have F:gO ev c.args.toList=gO ev' c.args.toList:=funext e;rw[F]
  |invoke r n=>rfl
  |builtin b=>exact FV z
 |_=>rfl
theorem PD{op:Op}(h:HW op P R ev nx D=.ok v new set rd)(d:∀r∈rd,D' r=D r):HW op P R ev nx D'=.ok v new set rd:=by
 cases op with
 |insert t m k y=>exact zO h d
 |load t x=>exact a0R h d
 |store t a x=>exact Xl h d
 |slice t x lo j mx=>exact Xm h d
 |lookup t x i l=>exact TX h d
 |range t x=>exact Xo h d
 |entry i=>exact Xp h d
 |mapUpdate t m k y=>exact zO h d
 |mapEntry t m k=>exact MD h d
 |entryStore t m s y=>exact HD h d
 |call c=>
  have h:xQ c P R ev nx D=.ok v new set rd:=h;show xQ c P R ev nx D'=.ok v new set rd;unfold xQ at h ⊢;cases f:c.callee with
  |value g=>rw[f]at h;exact a0T h d
  |invoke r n=>rw[f]at h;exact l6.noConfusion h
  |builtin b=>
   rw[f]at h;have h:lX c b P R ev nx D=.ok v new set rd:=h;show lX c b P R ev nx D'=.ok v new set rd;cases b with
   |append=>
    obtain⟨e,h⟩:=a8 (show nB (R1 c 2) 201 (gV P (y0 c) (y1 c) (ev (a0 c)) (ev (a1 c)) nx D)=_ from h);show nB (R1 c 2) 201 (gV P (y0 c) (y1 c) (ev (a0 c)) (ev (a1 c)) nx D')=_;rw[e];exact TW h d
   |clear=>
    obtain⟨e,h⟩:=a8 (show nB (R1 c 1) 203 (nV P (y0 c) (ev (a0 c)) D)=_ from h);show nB (R1 c 1) 203 (nV P (y0 c) (ev (a0 c)) D')=_;rw[e];exact Xn h d
   |copy=>
    obtain⟨e,h⟩:=a8 (show nB (R1 c 2) 204 (xP P (y0 c) (y1 c) (ev (a0 c)) (ev (a1 c)) D)=_ from h);show nB (R1 c 2) 204 (xP P (y0 c) (y1 c) (ev (a0 c)) (ev (a1 c)) D')=_;rw[e];exact a0S h d
   |delete=>
    obtain⟨e,h⟩:=a8 (show nB (R1 c 2) 205 (kL P (y0 c) (ev (a0 c)) (ev (a1 c)) D)=_ from h);show nB (R1 c 2) 205 (kL P (y0 c) (ev (a0 c)) (ev (a1 c)) D')=_;rw[e];exact TY h d
   |_=>exact h
 |_=>exact h
theorem zR(J:F7 P R){o:Oper}{E:Nat}{A:z7}{T:Nat->a7}{m:Mm}(L:∀t,T t=I1 (o8 E A t))(M:G9 m=D)(N:nx<1048575)(h:HW o.op P R (J0 E A) nx D=.ok v new set rd):Pc P o T nx m (I1 v) new set rd:=by
 refine⟨fun c e=>by rw[e]at h;exact l6.noConfusion h,fun V k l n F K H w a p q j s=>?_⟩
 classical
 let ev':Operand->BV:=fun x=>match x with
  |.tmp t=>if Operand.tmp t∈o.op.operands.toList then o8 E A t else .u
  |x=>J0 E A x
 have z:HW o.op P R ev' nx D=.ok v new set rd:=by
  rw[<-h];refine Ua (fun x B=>?_)
  cases x with
  |tmp t=>show(if Operand.tmp t∈o.op.operands.toList then o8 E A t else .u)=o8 E A t;rw[aj B]
  |_=>rfl
 have C:HW o.op P R ev' nx (G9 k)=.ok v new set rd:=by
  refine PD z (fun r O=>?_)
  rw[<-M];unfold G9;rw[n r O]
 have G:∀x,u6 K H (ev' x) (a.eval x):=by
  intro x;cases x with
  |tmp t=>
   show u6 K H (if Operand.tmp t∈o.op.operands.toList then o8 E A t else .u) (a.tmps.getD t undef)
   split
   .rename_i B;have:=j t;rw[l t B,L]at this;exact aR this
   .trivial
  |const y=>exact Fw y
  |global g=>trivial
  |func f=>
   show u6 K H (iB (Nat.ble f 65535) (.c (xH f 0)) .u) (.func (.func f) #[] #[]);rw[a9];split
   .rename_i I;have I:f<=65535:=af I;exact .inr (.inr (.Jm f (Nat.lt_succ_of_le I)))
   .trivial
 have d:=TU p q G s N J o C;generalize (execOp a.eval o).run P w=S at d ⊢;have i:∀ {x w' K' H'},W8 F K H w k nx v new set x w' K' H'->Bh F K H w k nx (I1 v) new set x w' K' H':=fun b=>⟨b.le,b.hle,b.K8,b.rep.I1,b.mem,b.ok,b.kept,b.fix⟩
 cases S with
 |ok x w'=>
  cases x<;>simp only[z8]at d<;>simp only[Fa]<;>try exact d.elim
  .obtain⟨K',H',b⟩:=d;exact⟨K',H',i b⟩
  .obtain⟨K',H',b⟩:=d;exact⟨K',H',i b⟩
  .exact⟨d.1,d.2.mono fun e U ⟨x,K',H',z,C⟩=>⟨x,K',H',z,i C⟩⟩
 |halt x w'=>exact d.elim
end
end Go.Abs
end
section
namespace Go.Abs
theorem Kh{β:Type}{m:Nat}(a b c d:β):Er m a b c d=if m=0 then a else if m=1 then b else if m=2 then c else d:=by
 match m with
 |0=>rfl
 |1=>rfl
 |2=>rfl
 |m+3=>rfl
noncomputable def ch(t:Tr HO)(m:Nat):Tr HO:=match t with
 |.n a b c d=>Er m a b c d
 |_=>.e
noncomputable def sch(t:Tr HO)(m:Nat)(y:Tr HO):Tr HO:=Er m (.n y (ch t 1) (ch t 2) (ch t 3)) (.n (ch t 0) y (ch t 2) (ch t 3)) (.n (ch t 0) (ch t 1) y (ch t 3)) (.n (ch t 0) (ch t 1) (ch t 2) y)
theorem Xq:∀ (k r:Nat),uL k .e r=.z
 |0,_=>rfl
 |_+1,_=>rfl
theorem tU(k:Nat)(t:Tr HO)(r:Nat):uL (k+1) t r=uL k (ch t (r/4^k % 4)) r:=by
 cases t with
 |e=>exact(Xq k r).symm
 |v a=>exact(Xq k r).symm
 |n a b c d=>
  show Er (r/4^k % 4) (uL k a r) (uL k b r) (uL k c r) (uL k d r)=uL k (Er (r/4^k % 4) a b c d) r;rw[Kh,Kh];split
  .rfl
  .split
   .rfl
   .split<;>rfl
theorem Ub{β:Type}(x:HO)(k:Nat)(t:Tr HO)(i:Nat)(kk:Tr HO->β):JG x (k+1) t i kk=JG x k (ch t (i/4^k % 4)) i (fun y=>kk (sch t (i/4^k % 4) y)):=by
 have e:JG x (k+1) t i kk=Er (i/4^k % 4) (JG x k (ch t 0) i fun a=>kk (.n a (ch t 1) (ch t 2) (ch t 3))) (JG x k (ch t 1) i fun b=>kk (.n (ch t 0) b (ch t 2) (ch t 3)))
  (JG x k (ch t 2) i fun c'=>kk (.n (ch t 0) (ch t 1) c' (ch t 3))) (JG x k (ch t 3) i fun c=>kk (.n (ch t 0) (ch t 1) (ch t 2) c)):=by cases t<;>rfl
 rw[e,Kh];have d:i/4^k % 4<4:=fk _ (by decide)
 generalize i/4^k % 4=m at*
 match m,d with
 |0,_=>rfl
 |1,_=>rfl
 |2,_=>rfl
 |3,_=>rfl
theorem a4k(t:Tr HO)(m m':Nat)(y:Tr HO)(h:m<4)(a:m'<4):ch (sch t m y) m'=if m'=m then y else ch t m':=by
 match m,h,m',a with
 |0,_,0,_=>rfl
 |0,_,1,_=>rfl
 |0,_,2,_=>rfl
 |0,_,3,_=>rfl
 |1,_,0,_=>rfl
 |1,_,1,_=>rfl
 |1,_,2,_=>rfl
 |1,_,3,_=>rfl
 |2,_,0,_=>rfl
 |2,_,1,_=>rfl
 |2,_,2,_=>rfl
 |2,_,3,_=>rfl
 |3,_,0,_=>rfl
 |3,_,1,_=>rfl
 |3,_,2,_=>rfl
 |3,_,3,_=>rfl
theorem Io{β:Type}(x:HO):∀ (k:Nat) (t:Tr HO) (i:Nat) (kk:Tr HO->β),∃f,JG x k t i kk=kk f/\∀j,uL k f j=if j % 4^k=i % 4^k then x else uL k t j
 |0,t,i,kk=>⟨.v x,rfl,fun j=>by rw[je,Nat.mod_one,Nat.mod_one,aj rfl];rfl⟩
 |k+1,t,i,kk=>by
  rw[Ub];obtain⟨f,b,g⟩:=Io x k (ch t (i/4^k % 4)) i (fun y=>kk (sch t (i/4^k % 4) y))
  refine⟨_,b,fun j=>?_⟩
  rw[tU,a4k _ _ _ _ (fk _ (by decide)) (fk _ (by decide))]
  have c:∀a:Nat,a % 4^ (k+1)=a % 4^k+4^k*(a/4^k % 4):=fun a=>by rw[qa,Nat.mod_mul]
  have d:0<4^k:=oa (by decide)
  by_cases hd:j/4^k % 4=i/4^k % 4
  .rw[aj hd,g j,tU,hd];have:(j % 4^ (k+1)=i % 4^ (k+1))↔(j % 4^k=i % 4^k):=by
    rw[c,c,hd];constructor
    .intro h;exact Nat.add_right_cancel h
    .intro h;rw[h]
   by_cases e:j % 4^k=i % 4^k
   .rw[aj e,aj (this.2 e)]
   .rw[ai e,ai (fun h=>e (this.1 h))]
  .rw[ai hd,ai,tU];intro h;apply hd;have b:j % 4^ (k+1) /4^k=i % 4^ (k+1) /4^k:=by rw[h]
   rw[c,c,jg _ _ d,jg _ _ d,fl (fk _ d),fl (fk _ d),bz,bz]at b;exact b
theorem RN(nx:Nat):nx<4^fK nx:=by
 have a:nx<2^ (nx.log2+1):=Nat.lt_log2_self;have b:(4:Nat) ^fK nx=2^ (2*fK nx):=by rw[Nat.pow_mul]
 have c:fK nx=nx.log2/2+1:=rfl;rw[b];refine cc a (mz (by decide) ?_)
 rw[c];omega
theorem Uc(nx:Nat):fK (nx+1)=fK nx\/fK (nx+1)=fK nx+1:=by
 have a:∀n:Nat,fK n=n.log2/2+1:=fun _=>rfl
 rw[a,a];have e:nx.log2<=(nx+1).log2/\(nx+1).log2<=nx.log2+1:=by
  rcases jd nx with b|b
  .subst b;decide
  .have c:nx≠0:=by omega
   constructor
   .rw[Nat.le_log2 (by omega)]
    have:=(Nat.le_log2 c).1 (aw nx.log2);omega
   .have d:(nx+1).log2<nx.log2+2:=by
     rw[Nat.log2_lt (by omega)]
     have f:nx<2^ (nx.log2+1):=Nat.lt_log2_self;rw[qa];omega
    omega
 omega
theorem T5(nx:Nat)(d:m8)(r:Nat):m6 nx d r=if r<nx then uL (fK nx) d r else .z:=by
 unfold m6;rw[a9];by_cases h:r<nx
 .rw[aj h,aj (dk h)]
 .rw[ai h,ai (fun hh=>h (af hh))]
theorem mS{β:Type}{nx:Nat}{d:m8}{i:Nat}{o:HO}{k:m8->β}(f:i<=nx):∃a,aK nx d i o k=k a/\∀r,r<=nx->uL (fK nx) a r=if r=i then o else uL (fK nx) d r:=by
 obtain⟨b,c,e⟩:=Io o (fK nx) d i k;refine⟨b,c,fun r g=>?_⟩
 have h:=RN nx;rw[e r,jc (by omega),jc (by omega)]
theorem Ud{β:Type}{nx:Nat}{d:m8}{o:HO}{k:Nat->m8->β}:∃b,K8 nx d o k=k (nx+1) b/\∀r,m6 (nx+1) b r=if r=nx then o else m6 nx d r:=by
 obtain⟨c,q,s⟩:=mS (β:=β) (nx:=nx) (d:=d) (i:=nx) (o:=o) (k:=fun b=>fN (Nat.succ nx) fun a=>iB (Nat.beq (fK a) (fK nx)) (k a b) (k a (.n b .e .e .e))) (aw _)
 have e:K8 nx d o k=fN (Nat.succ nx) fun a=>iB (Nat.beq (fK a) (fK nx)) (k a c) (k a (.n c .e .e .e)):=q
 rw[B6,a9]at e;have f:∀b,(∀r,r<nx+1->uL (fK (nx+1)) b r=uL (fK nx) c r)->∀r,m6 (nx+1) b r=if r=nx then o else m6 nx d r:=by
  intro b h r;rw[T5,T5];by_cases m:r<nx+1
  .rw[aj m,h r m,s r (by omega)]
   by_cases g:r=nx
   .rw[aj g,aj g]
   .rw[ai g,ai g,aj (by omega)]
  .rw[ai m,ai (by omega),ai (by omega)]
 by_cases j:fK (nx+1)=fK nx
 .rw[aj (by rw[ig];exact j)]at e
  exact⟨c,e,f c (fun r _=>by rw[j])⟩
 .rw[ai (fun h=>j (ab h))]at e
  refine⟨_,e,f _ (fun r g=>?_)⟩
  have t:=(Uc nx).resolve_left j;rw[t,tU];have p:r<4^fK nx:=by have:=RN nx;omega
  rw[fl p];rfl
theorem a2z{β:Type}(o:HO)(k:HO->β):fO o k=k o:=by
 cases o<;>simp only[fO,B6]
def Ue(f:Hp):List (Nat×HO)->Hp
 |[]=>f
 |(r,o)::b=>Ue (fun a=>if a=r then o else f a) b
section
variable {z:BV} {l:List HO}
theorem Ki{nx:Nat}:∀ (set:List (Nat×HO)) (D:m8) (k:m8->Rn),OG nx set D k=.ok z l->∃D',k D'=.ok z l/\m6 nx D'=Ue (m6 nx D) set/\∀p∈set,p.1<nx
 |[],D,k,h=>⟨D,h,rfl,fun p b=>by cases b⟩
 |(r,o)::c,D,k,h=>by
  have h:fN r (fun r=>fO o fun o=>iB (Nat.ble (Nat.succ r) nx) (aK nx D r o fun D'=>OG nx c D' k) (.er 507 r))=.ok z l:=h
  rw[B6,a2z,a9]at h;split at h
  .rename_i f;have f:r<nx:=af f;obtain⟨g,j,m⟩:=mS (nx:=nx) (d:=D) (i:=r) (o:=o) (k:=fun D'=>OG nx c D' k) (gw f)
   rw[j]at h;obtain⟨D',n,q,s⟩:=Ki c g k h;refine⟨D',n,?_,fun p b=>?_⟩
   .rw[q];show Ue _ c=Ue (fun e=>if e=r then o else m6 nx D e) c
    congr 1;funext e;rw[T5,T5];by_cases a:e<nx
    .rw[aj a,aj a,m e (gw a)]
    .rw[ai a,ai a,ai (by omega)]
   .rcases av.1 b with rfl|b
    .exact f
    .exact s p b
  .cases h
theorem mT{β:Type}:∀ (new:List HO) (nx:Nat) (D:m8) (k:Nat->m8->β),∃D',news new nx D k=k (nx+new.length) D'/\∀r,m6 (nx+new.length) D' r=if nx<=r then new[r- nx]?.getD .z else m6 nx D r
 |[],nx,D,k=>⟨D,rfl,fun r=>by
  show m6 nx D r=_;by_cases h:nx<=r
  .rw[aj h,T5,ai (by omega)];rfl
  .rw[ai h]⟩
 |o::new,nx,D,k=>by
  obtain⟨g,i,j⟩:=Ud (nx:=nx) (d:=D) (o:=o) (k:=fun b D'=>news new b D' k)
  have e:news (o::new) nx D k=fO o fun o=>K8 nx D o fun b D'=>news new b D' k:=rfl
  rw[a2z,i]at e;obtain⟨D',m,g2⟩:=mT new (nx+1) g k;have a:nx+(o::new).length=nx+1+new.length:=by simp;omega
  refine⟨D',by rw[e,m,a],fun r=>?_⟩
  rw[a,g2 r];by_cases c:nx+1<=r
  .rw[aj c,aj (by omega),show r- nx=(r- (nx+1))+1 by omega,cx]
  .rw[ai c,j r];by_cases f:r=nx
   .subst f;simp
   .rw[ai f,ai (by omega)]
theorem Xr(m:Mm)(r:Nat):G9 (dI m (r,.dead))=fun r'=>if r'=r then .z else G9 m r':=by
 funext r';unfold G9;rw[Y1];by_cases e:r'=r
 .subst e;rw[aj rfl,aj rfl];cases h:m r' with
  |none=>rfl
  |some x=>obtain⟨c,f⟩:=x;cases c<;>rfl
 .rw[ai e,ai e]
theorem RO(m:Mm)(r:Nat)(o:HO):G9 (N9 m r (.z5 o,.own))=fun r'=>if r'=r then o else G9 m r':=by
 funext r';unfold G9;by_cases e:r'=r
 .subst e;rw[j8,aj rfl]
 .rw[m7 _ _ _ _ e,ai e]
theorem zS:∀ (set:List (Nat×HO)) (m:Mm),G9 (bF m set)=Ue (G9 m) set
 |[],_=>rfl
 |(r,o)::a,m=>by
  by_cases b:o=.z
  .subst b;show G9 (bF (dI m (r,.dead)) a)=Ue (fun c=>if c=r then .z else G9 m c) a
   rw[zS a,Xr]
  .rw[tO b,zS a,RO];rfl
theorem MG(m:Mm)(nx:Nat)(new:List HO)(r:Nat):G9 (G4 m nx (new.map .z5)) r=if nx<=r/\r<nx+new.length then new[r- nx]?.getD .z else G9 m r:=by
 unfold G9;rw[s9];by_cases h:nx<=r/\r<nx+new.length
 .rw[ic (by simpa using h),aj h]
  have a:r- nx<new.length:=by omega
  simp[a]
 .rw[ll (by simpa using h),ai h]
noncomputable def p8(nx:Nat)(D:m8):Mem:=(List.range nx).filterMap fun r=>match m6 nx D r with
 |.z=>none
 |o=>some (r,(.z5 o,.own))
theorem M0(nx:Nat)(D:m8)(r:Nat):l9 (p8 nx D) r=match m6 nx D r with
  |.z=>none
  |o=>some (.z5 o,.own):=by
 have e:∀ (l:List Nat),l9 (l.filterMap fun r=>match m6 nx D r with
   |.z=>none
   |o=>some (r,(c7.z5 o,p0.own))) r=if r∈l then(match m6 nx D r with
    |.z=>none
    |o=>some (.z5 o,.own))else none:=by
  intro l
  induction l with
  |nil=>rfl
  |cons a l c=>
   rw[sn];by_cases d:a=r
   .subst d;rw[aj (ar ..)];cases f:m6 nx D a<;>simp only[f,l9,di]at c ⊢;rw[c];split<;>rfl
   .have b:r∈a::l↔r∈l:=by
     rw[av];constructor
     .rintro(h|h)
      .exact absurd h.symm d
      .exact h
     .exact .inr
    cases g:m6 nx D a<;>simp only[l9,ai d,b]<;>exact c
 unfold p8;rw[e];split
 .rfl
 .rename_i h;rw[ld]at h;rw[T5,ai h]
theorem oY(nx:Nat)(D:m8):Ej (p8 nx D)=true:=by
 unfold p8;generalize List.range nx=l
 induction l with
 |nil=>rfl
 |cons a l b=>
  rw[sn];cases m6 nx D a<;>first|exact b|(simp only[Ej,c7.AL,km];exact b)
theorem mU{m:Mm}{nx:Nat}{D:m8}(h:G9 m=m6 nx D)(r:Nat)(x:c7×p0)(e:l9 (p8 nx D) r=some x):m r=some x:=by
 rw[M0,<-h]at e;cases g:G9 m r with
 |z=>rw[g]at e;cases e
 |c a b=>rw[g]at e;cases e;exact S0 g (by simp)
 |m a b c d=>rw[g]at e;cases e;exact S0 g (by simp)
 |f a b c d=>rw[g]at e;cases e;exact S0 g (by simp)
 |i a b c d=>rw[g]at e;cases e;exact S0 g (by simp)
theorem tV(nx:Nat)(D:m8):G9 (l9 (p8 nx D))=m6 nx D:=by
 funext r;unfold G9;rw[M0];cases m6 nx D r<;>rfl
theorem zT(E t:Nat):vY E t=E/cB^ (t+1) % cB:=rfl
theorem rR{E t n t':Nat}(a:n<cB)(f:E % cB+1<cB):vY (X5 E t n) t'=if t'=t then n else vY E t':=by
 have b:n<cB^1:=by rw[fg];exact a
 have e:X5 E t n=(E- (E/cB^ (t+1) % cB^1)*cB^ (t+1)+n*cB^ (t+1))+1:=by rw[fg];rfl
 have c:=Ba (n:=E) (i:=t+1) (k:=1) (x:=n) (j:=0) R4 b;rw[ai (by omega),je,jh,jh]at c
 have g:=Ba (n:=E) (i:=t+1) (k:=1) (x:=n) (j:=t'+1) R4 b;rw[zT,e];generalize E- (E/cB^ (t+1) % cB^1)*cB^ (t+1)+n*cB^ (t+1)=X at*
 have hd:(X+1) /cB=X/cB:=by
  have h:=jm X cB;rw[c]at h;have:X+1=cB*(X/cB)+(E % cB+1):=by omega
  rw[this,rn R4,fl f,jr]
 have m:(X+1) /cB^ (t'+1)=X/cB^ (t'+1):=by
  rw[jt,<-fc,<-fc,hd]
 rw[m,g];by_cases d:t'=t
 .subst d;rw[aj (by omega),aj rfl,pz,je,jh,jc a]
 .rw[ai (by omega),ai d];rfl
theorem iH(p:Nat×BV)(A:z7)(t:Nat):Ht (p::A) t=if p.1=t then p.2 else Ht A t:=by
 show iB (Nat.beq p.1 t) p.2 (Ht A t)=_;rw[a9];by_cases h:p.1=t
 .rw[aj h,aj (by rw[ig];exact h)]
 .rw[ai h,ai (fun hh=>h (ab hh))]
theorem iI{β:Type}(v:BV):∀ (A:z7) (t:Nat) (k:z7->β),∃c,AW v A t k=k c/\∀b,Ht c b=if b=t then v else Ht A b
 |[],t,k=>⟨[(t,v)],rfl,fun b=>by
  rw[iH];by_cases h:t=b
  .rw[aj h,aj h.symm]
  .rw[ai h,ai (fun e=>h e.symm)]⟩
 |p::A,t,k=>by
  have e:AW v (p::A) t k=iB (Nat.beq p.1 t) (k ((t,v)::A)) (AW v A t fun d=>k (p::d)):=rfl
  rw[a9]at e;by_cases h:p.1=t
  .rw[aj (by rw[ig];exact h)]at e
   refine⟨_,e,fun b=>?_⟩
   rw[iH,iH];by_cases a:t=b
   .rw[aj a,aj a.symm]
   .rw[ai a,ai (fun e=>a e.symm),ai (fun e=>a (h.symm.trans e))]
  .rw[ai (fun hh=>h (ab hh))]at e
   obtain⟨c,f,g⟩:=iI v A t (fun d=>k (p::d))
   refine⟨p::c,by rw[e,f],fun b=>?_⟩
   rw[iH,iH,g b];by_cases a:p.1=b
   .rw[aj a,aj a,ai (fun e=>h (a.trans e))]
   .rw[ai a,ai a]
theorem MH{β:Type}:∀ (l:List (Nat×Nat)) (k:List (Nat×Nat)->β),fP l k=k l
 |[],_=>rfl
 |p::l,k=>by
  show(fN p.1 fun a=>fN p.2 fun b=>fP l fun l=>k ((a,b)::l))=_
  rw[B6,B6,MH l]
theorem a4l(n:Nat)(a:BV):a6i n a=if n=0 then a else .c n:=by
 cases n with
 |zero=>rfl
 |succ n=>rfl
theorem T6(E:Nat)(A:z7)(t:Nat):o8 E A t=if vY E t=0 then Ht A t else .c (vY E t):=a4l (vY E t) _
theorem Kj{x:Nat}(h:x<=604462909807314587353088):x+1<cB:=lr (Nat.succ_le_succ h) (by decide)
theorem a0U{n:Nat}(h:n<=1208925819614629174706175):n<cB:=lr h (by decide)
theorem M6{t:Nat}{v:BV}{E:Nat}{A:z7}{k:Nat->z7->Rn}(h:G3 t v E A k=.ok z l):∃d b,k d b=.ok z l/\∀t',o8 d b t'=if t'=t then v else o8 E A t':=by
 unfold G3 at h;rw[a9]at h;split at h
 .rename_i j;have j:E % cB+1<cB:=Kj (af j);have e:∀ (w:BV),(∃d b,fN (X5 E t 0) (fun d=>AW w A t fun b=>k d b)=k d b/\(∀t',o8 d b t'=if t'=t then w else o8 E A t')):=by
   intro w;rw[B6];obtain⟨b,f,g⟩:=iI w A t (fun b=>k (X5 E t 0) b)
   refine⟨_,b,f,fun t'=>?_⟩
   rw[T6,T6,rR R4 j,g t'];by_cases i:t'=t
   .simp only[i,di]
   .simp only[i,dw]
  cases v with
  |c n=>
   have h:iB (Nat.ble 1 n) (iB (Nat.ble n 1208925819614629174706175) (fN (X5 E t n) fun d=>k d A) (.er 508 n)) (.er 509 n)=.ok z l:=h
   rw[a9]at h;split at h
   .rename_i f;have f:1<=n:=af f;rw[a9]at h;split at h
    .rename_i g;have g:n<cB:=a0U (af g);rw[B6]at h;refine⟨_,A,h,fun t'=>?_⟩
     rw[T6,T6,rR g j];by_cases i:t'=t
     .rw[aj i,ai (by omega),aj i]
     .rw[ai i,ai i]
    .cases h
   .cases h
  |a s n=>
   have h:fN (X5 E t 0) (fun d=>fN s fun s=>fN n fun n=>AW (.a s n) A t fun b=>k d b)=.ok z l:=h
   simp only[B6]at h;obtain⟨d,b,f,g⟩:=e (.a s n);rw[B6]at f;exact⟨d,b,f▸h,g⟩
  |t q=>
   have h:fN (X5 E t 0) (fun d=>fP q fun l=>AW (.t l) A t fun b=>k d b)=.ok z l:=h
   simp only[B6,MH]at h;obtain⟨d,b,f,g⟩:=e (.t q);rw[B6]at f;exact⟨d,b,f▸h,g⟩
  |u=>
   have h:fN (X5 E t 0) (fun d=>AW .u A t fun b=>k d b)=.ok z l:=h
   obtain⟨d,b,f,g⟩:=e .u;exact⟨d,b,f▸h,g⟩
 .cases h
theorem zU{o:Option Tmp}{v:BV}{E:Nat}{A:z7}{k:Nat->z7->Rn}(h:lY o v E A k=.ok z l):∃a b,k a b=.ok z l/\(fun t=>I1 (o8 a b t))=O7 (fun t=>I1 (o8 E A t)) o (I1 v):=by
 cases o with
 |none=>exact⟨E,A,h,rfl⟩
 |some t=>
  obtain⟨a,b,e,f⟩:=M6 (show G3 t v E A k=_ from h);refine⟨a,b,e,?_⟩;funext c;rw[f c];by_cases d:c=t
  .simp only[O7,d,di]
  .simp only[O7,d,dw]
end
end Go.Abs
end
section
namespace Go.Abs
theorem C0{x v:BV}{new:List HO}{set:List (Nat×HO)}{rd:List Nat}(h:xI x=.ok v new set rd):new=[]/\set=[]/\rd=[]:=by cases h;exact⟨rfl,rfl,rfl⟩
section
variable {P:Program} {nx:Nat} {v:BV} {new:List HO} {set:List (Nat×HO)} {rd:List Nat} {ev:Operand->BV} {D:Hp} {R:z0} {z:BV} {l:List HO}
theorem w9{c:Nat}(h:lN c=.ok v new set rd):new=[]/\set=[]/\rd=[]:=by cases h;exact⟨rfl,rfl,rfl⟩
theorem P7{k n:Nat}(h:Em k n=.ok v new set rd):new=[]/\set=[]/\rd=[]:=by
 obtain⟨_,h⟩:=a8 h;obtain⟨_,h⟩:=a8 h;exact w9 h
theorem wO{f:Nat->Nat->Nat}{a b:Nat}(h:VM f a b=.ok v new set rd):new=[]/\set=[]/\rd=[]:=by
 obtain⟨_,h⟩:=a8 h;exact P7 h
theorem PE{op:BinOp}{a b:Nat}(h:SV op a b=.ok v new set rd):new=[]/\set=[]/\rd=[]:=by
 cases op with
 |add=>obtain⟨_,h⟩:=a8 (show nB _ 13 (Em _ _)=_ from h);exact P7 h
 |sub=>obtain⟨_,h⟩:=a8 (show nB _ 14 (Em _ _)=_ from h);exact P7 h
 |mul=>obtain⟨_,h⟩:=a8 (show nB _ 15 (Em _ _)=_ from h);exact P7 h
 |quo=>obtain⟨_,h⟩:=a8 (show nB _ 16 (nB _ 17 (Em _ _))=_ from h);obtain⟨_,h⟩:=a8 h;exact P7 h
 |rem=>obtain⟨_,h⟩:=a8 (show nB _ 18 (nB _ 19 (Em _ _))=_ from h);obtain⟨_,h⟩:=a8 h;exact P7 h
 |and=>exact wO (f:=Nat.land) h
 |or=>exact wO (f:=Nat.lor) h
 |xor=>exact wO (f:=Nat.xor) h
 |lss=>exact w9 h
 |leq=>exact w9 h
 |gtr=>exact w9 h
 |geq=>exact w9 h
 |_=>cases h
theorem CD{b:Bool}{x y:Nat}(h:kK b x y=.ok v new set rd):new=[]/\set=[]/\rd=[]:=by
 obtain⟨_,h⟩:=a8 h;obtain⟨_,h⟩:=a8 h;obtain⟨_,h⟩:=a8 h;obtain⟨_,h⟩:=a8 h;exact P7 h
theorem wP{a b c d:Nat}{k:Bool->l6}(h:Ls a b c d k=.ok v new set rd):∃e,k e=.ok v new set rd:=by
 obtain⟨_,h⟩:=a8 h;obtain⟨_,h⟩:=a8 h;exact⟨_,h⟩
theorem Uf{t:TypeId}{a b:Nat}{k:Bool->l6}(h:eqC P t a b k=.ok v new set rd):∃e,k e=.ok v new set rd:=by
 unfold eqC at h;rw[a9]at h;split at h
 .obtain⟨_,h⟩:=a8 h;exact⟨_,h⟩
 .simp only[a9]at h;split at h
  .obtain⟨_,h⟩:=a8 h;obtain⟨_,h⟩:=a8 h;exact⟨_,h⟩
  .split at h
   .exact wP h
   .split at h
    .exact wP h
    .split at h
     .exact wP h
     .cases h
theorem Bt{op:BinOp}{t:TypeId}{x y:BV}(h:VN P op t x y=.ok v new set rd):new=[]/\set=[]/\rd=[]:=by
 cases x with
 |c a=>
  obtain⟨b,rfl,d⟩:=x8 (show vC y (fun b=>(fun m=>iB (Nat.beq m 0) (nB (pK a) 32 (nB (Nat.beq (Nat.mod a 128) (Nat.mod b 128)) 33 (SV op a b)))
   (iB (Nat.beq m 1) (nB (pK a) 34 (nB (pK b) 35 (kK true a b))) (iB (Nat.beq m 2) (nB (pK a) 36 (nB (pK b) 37 (kK false a b)))
    (eqC P t a b fun e=>lN (I3 (iB (Nat.beq m 3) e (Bool.not e))))))) (Q3 op))=_ from h)
  simp only[a9]at d;split at d
  .obtain⟨_,d⟩:=a8 d;obtain⟨_,d⟩:=a8 d;exact PE d
  .split at d
   .obtain⟨_,d⟩:=a8 d;obtain⟨_,d⟩:=a8 d;exact CD d
   .split at d
    .obtain⟨_,d⟩:=a8 d;obtain⟨_,d⟩:=a8 d;exact CD d
    .obtain⟨e,d⟩:=Uf d;exact w9 d
 |a s a=>
  cases y with
  |a f b=>
   obtain⟨_,h⟩:=a8 (show nB (Nat.beq s f) 39 (nB (JB P t s) 40 (nB (lV s a) 58 (nB (lV s b) 59 ((fun m=>iB (Nat.beq m 3) (lN (I3 (Nat.beq a b))) (iB (Nat.beq m 4) (lN (I3 (Bool.not (Nat.beq a b)))) (.er 41 0))) (Q3 op)))))=_ from h)
   obtain⟨_,h⟩:=a8 h;obtain⟨_,h⟩:=a8 h;obtain⟨_,h⟩:=a8 h;simp only[a9]at h;split at h
   .exact w9 h
   .split at h
    .exact w9 h
    .cases h
  |_=>cases h
 |_=>cases h
theorem oZ{t:TypeId}{k:Nat->l6}:∀ (ps:List (Nat×Operand)) (n:Nat),dN P t ev ps n k=.ok v new set rd->∃a,k a=.ok v new set rd
 |[],n,h=>⟨n,h⟩
 |p::ps,n,h=>by
  have h: @Nat.rec (fun _=>l6) (.er 62 0) (fun o _=>vR (ev p.2) fun s x=>nB (Nat.beq s (bA (OD P t p.1))) 63 (nB (Nat.ble (Nat.add o s) (j9 P t)) 157 (fN (vT n o s x) fun a=>dN P t ev ps a k))) (HV P t p.1)=.ok v new set rd:=h
  cases b:HV P t p.1 with
  |zero=>rw[b]at h;cases h
  |succ o=>
   rw[b]at h;obtain⟨_,_,_,h⟩:=dV h;obtain⟨_,h⟩:=a8 h;obtain⟨_,h⟩:=a8 h;rw[B6]at h;exact oZ ps _ h
theorem pA:∀ (q:List (Nat×Nat)) (i:Nat),a3v q i (fun s n=>xI (uK s n))=.ok v new set rd->new=[]/\set=[]/\rd=[]
 |[],i,h=>by cases h
 |p::q,0,h=>C0 (show xI (uK p.1 p.2)=_ from h)
 |p::q,i+1,h=>pA q i h
theorem MI{t:TypeId}{x i:BV}{k:Nat->Nat->Nat->Nat->ME->Nat->l6}(h:qQ P t x i D k=.ok v new set rd):∃r key ks vs l clk,k r key ks vs l clk=.ok v new set rd:=by
 obtain⟨c,_,h⟩:=x8 h;obtain⟨_,h⟩:=a8 h;obtain⟨ks,vs,l,clk,_,h⟩:=rP h;obtain⟨_,h⟩:=a8 h;obtain⟨_,h⟩:=a8 h;obtain⟨_,h⟩:=a8 h;obtain⟨_,_,_,h⟩:=dV h;obtain⟨_,h⟩:=a8 h;exact⟨_,_,_,_,_,_,h⟩
theorem Ip{op:Op}(h:OH op=false):Lx op=false:=by
 cases op<;>first|rfl|exact h
theorem RP{op:Op}(h:HW op P R ev nx D=.ok v new set rd)(H:Lx op=false):new=[]/\set=[]:=by
 cases op with
 |move x=>exact⟨(C0 h).1,(C0 h).2.1⟩
 |assign x=>exact⟨(C0 h).1,(C0 h).2.1⟩
 |pick c a b=>
  obtain⟨n,_,h⟩:=x8 h;rw[a9]at h;split at h
  .exact⟨(C0 h).1,(C0 h).2.1⟩
  .obtain⟨_,h⟩:=a8 h;exact⟨(C0 h).1,(C0 h).2.1⟩
 |build t ps=>
  obtain⟨_,h⟩:=a8 (show nB (eG P t) 64 (nB (JD P t) 65 (dN P t ev ps.toList (lU P t) fun n=>xI (.a (j9 P t) n)))=_ from h)
  obtain⟨_,h⟩:=a8 h;obtain⟨_,h⟩:=oZ _ _ h;exact⟨(C0 h).1,(C0 h).2.1⟩
 |load t x=>
  obtain⟨c,_,h⟩:=x8 h;obtain⟨_,h⟩:=a8 h;cases A:vU P t with
  |zero=>rw[A]at h;cases h
  |succ B=>
   rw[A]at h;obtain⟨s,n,_,h⟩:=jN (show hC (D (pR c)) (fun s n=>nB (Nat.ble (Nat.add (pO c) (bA (Nat.succ B))) s) 75 (.ok (uK B (Df n (pO c) (bA (Nat.succ B)))) [] [] [pR c]))=_ from h)
   obtain⟨_,h⟩:=a8 h;cases h;exact⟨rfl,rfl⟩
 |nilCheck x=>
  obtain⟨c,_,h⟩:=x8 h;obtain⟨_,h⟩:=a8 h;exact⟨(w9 h).1,(w9 h).2.1⟩
 |binOp op t x y u=>exact⟨(Bt h).1,(Bt h).2.1⟩
 |unOp op t x=>
  cases op with
  |neg=>
   obtain⟨c,_,h⟩:=x8 (show I' (ev x)=_ from h);obtain⟨_,h⟩:=a8 h;obtain⟨_,h⟩:=a8 h;exact⟨(P7 h).1,(P7 h).2.1⟩
  |not=>
   obtain⟨c,_,h⟩:=x8 (show G' (ev x)=_ from h);rw[a9]at h;split at h
   .exact⟨(w9 h).1,(w9 h).2.1⟩
   .obtain⟨_,h⟩:=a8 h;exact⟨(w9 h).1,(w9 h).2.1⟩
  |_=>cases h
 |convert s d x=>
  obtain⟨c,_,h⟩:=x8 h;obtain⟨_,h⟩:=a8 h;obtain⟨_,h⟩:=a8 h;exact⟨(P7 h).1,(P7 h).2.1⟩
 |slice t x lo I mx=>
  have e:∀ {o:Option Operand} {d:Nat} {k:Nat->l6},oI ev o d k=.ok v new set rd->∃a,k a=.ok v new set rd:=by
   intro o d k h;cases o with
   |none=>exact⟨_,h⟩
   |some y=>obtain⟨c,_,_,_,h⟩:=Ck h;exact⟨_,h⟩
  obtain⟨c,_,h⟩:=x8 (show iW P t (ev x) lo I mx ev D=_ from h);rw[a9]at h;split at h
  .obtain⟨a,h⟩:=e h;obtain⟨b,h⟩:=e h;cases mx with
   |some y=>cases h
   |none=>
    obtain⟨_,h⟩:=a8 h;obtain⟨_,h⟩:=a8 h;obtain⟨_,h⟩:=a8 h;obtain⟨_,h⟩:=a8 h;obtain⟨_,h⟩:=a8 h;obtain⟨_,h⟩:=a8 h;obtain⟨_,_,_,h⟩:=jN h;obtain⟨_,h⟩:=a8 h;cases h;exact⟨rfl,rfl⟩
  .obtain⟨_,h⟩:=a8 h;have J:∀ {c:Nat} {k:Nat->l6},iV c k=.ok v new set rd->∃a,k a=.ok v new set rd:=by
    intro c k h;rcases mO h with⟨_,h⟩|⟨_,h⟩<;>exact⟨_,h⟩
   obtain⟨q,h⟩:=J h;obtain⟨a,h⟩:=e h;obtain⟨b,h⟩:=e h;obtain⟨m,h⟩:=e h;obtain⟨_,h⟩:=a8 h;obtain⟨_,h⟩:=a8 h;obtain⟨_,h⟩:=a8 h;obtain⟨_,h⟩:=a8 h;rw[a9]at h;split at h
   .exact⟨(w9 h).1,(w9 h).2.1⟩
   .obtain⟨_,h⟩:=a8 h;obtain⟨_,h⟩:=a8 h;exact⟨(w9 h).1,(w9 h).2.1⟩
 |fieldAddr t x f=>
  obtain⟨c,_,h⟩:=x8 h;obtain⟨_,h⟩:=a8 h;cases A:HV P t f with
  |zero=>rw[A]at h;cases h
  |succ o=>
   rw[A]at h;obtain⟨_,h⟩:=a8 (show nB _ 90 (lN _)=_ from h);exact⟨(w9 h).1,(w9 h).2.1⟩
 |field t x f=>
  have h:iU P t (ev x) f=.ok v new set rd:=h;unfold iU at h;cases g:ev x with
  |a k n=>
   rw[g]at h;cases C:HV P t f with
   |zero=>rw[C]at h;cases h
   |succ o=>
    cases w:OD P t f with
    |zero=>rw[C,w]at h;cases h
    |succ B=>
     rw[C,w]at h;obtain⟨_,h⟩:=a8 (show nB _ 94 (xI _)=_ from h);exact⟨(C0 h).1,(C0 h).2.1⟩
  |_=>rw[g]at h;cases h
 |indexAddr t x i=>
  obtain⟨c,_,h⟩:=x8 h;obtain⟨_,_,_,_,h⟩:=Ck h;rw[a9]at h;split at h
  .obtain⟨_,h⟩:=a8 h;obtain⟨_,h⟩:=a8 h;obtain⟨_,h⟩:=a8 h;exact⟨(w9 h).1,(w9 h).2.1⟩
  .obtain⟨_,h⟩:=a8 h;obtain⟨_,h⟩:=a8 h;obtain⟨_,h⟩:=a8 h;obtain⟨_,h⟩:=a8 h;exact⟨(w9 h).1,(w9 h).2.1⟩
 |index t x i=>
  have h:qO P t (ev x) (ev i)=.ok v new set rd:=h;unfold qO at h;cases g:ev x with
  |a k n=>
   rw[g]at h;obtain⟨_,_,_,_,h⟩:=Ck h;cases w:B' P t with
   |zero=>rw[w]at h;cases h
   |succ B=>
    rw[w]at h;obtain⟨_,h⟩:=a8 (show nB _ 108 (nB _ 109 (nB _ 110 (xI _)))=_ from h);obtain⟨_,h⟩:=a8 h;obtain⟨_,h⟩:=a8 h;exact⟨(C0 h).1,(C0 h).2.1⟩
  |_=>rw[g]at h;cases h
 |lookup t x i E=>
  obtain⟨_,_,_,_,_,_,h⟩:=MI (show qQ P t (ev x) (ev i) D (fun r key _ vs l _=>qP key l (fun _ v=>iB E (.ok (.t [(vs,v),(0,17)]) [] [] [r]) (.ok (uK vs v) [] [] [r])) (iB E (.ok (.t [(vs,JA P t),(0,9)]) [] [] [r]) (.ok (uK vs (JA P t)) [] [] [r])))=.ok v new set rd from h)
  rw[aD]at h;cases E<;>(split at h<;>first|(cases h;exact⟨rfl,rfl⟩)|(split at h<;>cases h<;>exact⟨rfl,rfl⟩))
 |entry i=>
  obtain⟨c,_,h⟩:=x8 (show vX (ev i) D=_ from h);obtain⟨C,h⟩:=a8 h;obtain⟨w,h⟩:=a8 h;obtain⟨K,F,seen,G,M,h⟩:=WZ h;obtain⟨ks,vs,l,clk,N,h⟩:=rP h;obtain⟨O,h⟩:=a8 h;obtain⟨S,h⟩:=a8 h;cases seen with
  |nil=>cases h
  |cons s seen=>
   obtain⟨_,h⟩:=a8 (show nB (Nat.ble s 1048576) 241 (SY s l (fun p=>.ok (.t [(ks,p.2.1),(vs,p.2.2)]) [] [] [pR c,K]) (.er 231 0))=_ from h)
   obtain⟨j,p,T,L,h⟩:=DI h;cases h;exact⟨rfl,rfl⟩
 |extract x i=>
  have h:dO (ev x) i=.ok v new set rd:=h;unfold dO at h;cases g:ev x with
  |t q=>rw[g]at h;exact⟨(pA q i h).1,(pA q i h).2.1⟩
  |_=>rw[g]at h;cases h
 |_=>first|(cases H;done)|(cases h;done)
theorem RQ{op:Op}(h:HW op P R ev nx D=.ok v new set rd)(p:OH op=false):rd=[]:=by
 cases op with
 |move x=>exact(C0 h).2.2
 |assign x=>exact(C0 h).2.2
 |pick c a b=>
  obtain⟨n,_,h⟩:=x8 h;rw[a9]at h;split at h
  .exact(C0 h).2.2
  .obtain⟨_,h⟩:=a8 h;exact(C0 h).2.2
 |build t ps=>
  obtain⟨_,h⟩:=a8 (show nB (eG P t) 64 (nB (JD P t) 65 (dN P t ev ps.toList (lU P t) fun n=>xI (.a (j9 P t) n)))=_ from h)
  obtain⟨_,h⟩:=a8 h;obtain⟨_,h⟩:=oZ _ _ h;exact(C0 h).2.2
 |nilCheck x=>
  obtain⟨c,_,h⟩:=x8 h;obtain⟨_,h⟩:=a8 h;exact(w9 h).2.2
 |binOp op t x y u=>exact(Bt h).2.2
 |unOp op t x=>
  cases op with
  |neg=>
   obtain⟨c,_,h⟩:=x8 (show I' (ev x)=_ from h);obtain⟨_,h⟩:=a8 h;obtain⟨_,h⟩:=a8 h;exact(P7 h).2.2
  |not=>
   obtain⟨c,_,h⟩:=x8 (show G' (ev x)=_ from h);rw[a9]at h;split at h
   .exact(w9 h).2.2
   .obtain⟨_,h⟩:=a8 h;exact(w9 h).2.2
  |_=>cases h
 |convert s d x=>
  obtain⟨c,_,h⟩:=x8 h;obtain⟨_,h⟩:=a8 h;obtain⟨_,h⟩:=a8 h;exact(P7 h).2.2
 |fieldAddr t x f=>
  obtain⟨c,_,h⟩:=x8 h;obtain⟨_,h⟩:=a8 h;cases m:HV P t f with
  |zero=>rw[m]at h;cases h
  |succ o=>
   rw[m]at h;obtain⟨_,h⟩:=a8 (show nB _ 90 (lN _)=_ from h);exact(w9 h).2.2
 |field t x f=>
  have h:iU P t (ev x) f=.ok v new set rd:=h;unfold iU at h;cases e:ev x with
  |a k n=>
   rw[e]at h;cases j:HV P t f with
   |zero=>rw[j]at h;cases h
   |succ o=>
    cases g:OD P t f with
    |zero=>rw[j,g]at h;cases h
    |succ r=>
     rw[j,g]at h;obtain⟨_,h⟩:=a8 (show nB _ 94 (xI _)=_ from h);exact(C0 h).2.2
  |_=>rw[e]at h;cases h
 |indexAddr t x i=>
  obtain⟨c,_,h⟩:=x8 h;obtain⟨_,_,_,_,h⟩:=Ck h;rw[a9]at h;split at h
  .obtain⟨_,h⟩:=a8 h;obtain⟨_,h⟩:=a8 h;obtain⟨_,h⟩:=a8 h;exact(w9 h).2.2
  .obtain⟨_,h⟩:=a8 h;obtain⟨_,h⟩:=a8 h;obtain⟨_,h⟩:=a8 h;obtain⟨_,h⟩:=a8 h;exact(w9 h).2.2
 |index t x i=>
  have h:qO P t (ev x) (ev i)=.ok v new set rd:=h;unfold qO at h;cases e:ev x with
  |a k n=>
   rw[e]at h;obtain⟨_,_,_,_,h⟩:=Ck h;cases g:B' P t with
   |zero=>rw[g]at h;cases h
   |succ r=>
    rw[g]at h;obtain⟨_,h⟩:=a8 (show nB _ 108 (nB _ 109 (nB _ 110 (xI _)))=_ from h);obtain⟨_,h⟩:=a8 h;obtain⟨_,h⟩:=a8 h;exact(C0 h).2.2
  |_=>rw[e]at h;cases h
 |extract x i=>
  have h:dO (ev x) i=.ok v new set rd:=h;unfold dO at h;cases e:ev x with
  |t q=>rw[e]at h;exact(pA q i h).2.2
  |_=>rw[e]at h;cases h
 |_=>first|(cases p;done)|(cases h;done)
end
end Go.Abs
end
section
namespace Go.Abs
def Γ0:Env:=fun _=>none
theorem MJ(P:Program):Good P Γ0:=⟨(fun _ _ h=>by cases h),(fun _ _ h=>by cases h),(fun _ _ h=>by cases h)⟩
noncomputable def TE(E:Nat)(A:z7):Nat->a7:=fun t=>I1 (o8 E A t)
section
variable {P:Program} {R:z0} {z:BV} {l:List HO} {n:Nat} {all:Array Oper}
theorem ML(b:Bool):I1 (.c (I3 b))=.bool b:=by cases b<;>rfl
theorem RS{E:Nat}{A:z7}{d:Nat}{b:Bool}(h:vY E d=I3 b):TE E A d=.bool b:=by
 unfold TE;rw[T6,h,ai (by cases b<;>decide),ML]
theorem wQ{E:Nat}{A:z7}{o:Oper}{b i:Rn}(h:kM all E o b i=.ok z l):(z9 all o (TE E A) true/\b=.ok z l)\/(z9 all o (TE E A) false/\i=.ok z l):=by
 unfold kM at h;cases e:o.guard with
 |none=>rw[e]at h;exact .inl ⟨by simp[z9,e],h⟩
 |some g=>
  rw[e]at h;obtain⟨j,a⟩:=g;have h: @Option.rec Nat (fun _=>Rn) (.er 501 0) (fun d=>iB (Nat.beq (vY E d) (I3 a)) b (iB (Nat.beq (vY E d) (I3 (Bool.not a))) i (iB (Nat.beq (vY E d) 1) i (.er 502 0)))) (a3x all j)=.ok z l:=h
  cases hd:a3x all j with
  |none=>rw[hd]at h;cases h
  |some d=>
   rw[hd]at h;have c:(all[j]?).bind (·.dst)=some d:=hd
   simp only[a9]at h;split at h
   .rename_i f;refine .inl ⟨?_,h⟩;simp only[z9,e];exact⟨d,c,.inl (RS (ab f))⟩
   .split at h
    .rename_i f;refine .inr ⟨?_,h⟩;simp only[z9,e];exact⟨d,c,.inl (by have:=RS (A:=A) (ab f);simpa using this)⟩
    .split at h
     .rename_i f;refine .inr ⟨?_,h⟩;simp only[z9,e];refine⟨d,c,.inr ⟨trivial,?_⟩⟩;unfold TE;rw[T6,ab f];rfl
     .cases h
theorem MM{o:Oper}{E:Nat}{A:z7}{nx:Nat}{D:m8}{k:Nat->z7->Nat->m8->List Nat->List (Nat×HO)->List HO->Rn}{m:Mm}(h:iZ o P R E A nx D k=.ok z l)(s:G9 m=m6 nx D)(y:nx<1048575):
  ∃v new set rd b d a D',HW o.op P R (J0 E A) nx (m6 nx D)=.ok v new set rd/\a=nx+new.length/\a<1048575/\TE b d=O7 (TE E A) o.dst (I1 v)/\G9 (G4 (bF m set) nx (new.map .z5))=m6 a D'/\k b d a D' rd set new=.ok z l:=by
 unfold iZ at h;cases B:HW o.op P R (J0 E A) nx (m6 nx D)with
 |er c x=>rw[B]at h;cases h
 |ok v new set rd=>
  rw[B]at h;cases new with
  |nil=>
   cases set with
   |nil=>
    obtain⟨b,d,f,i⟩:=zU (show lY o.dst v E A (fun b d=>k b d nx D rd [] [])=_ from h)
    exact⟨v,[],[],rd,b,d,nx,D,rfl,rfl,y,i,s,f⟩
   |cons u j=>
    obtain⟨D',f,i,F⟩:=Ki (u::j) D _ (show OG nx (u::j) D (fun D'=>lY o.dst v E A fun b d=>k b d nx D' rd (u::j) [])=_ from h)
    obtain⟨b,d,t,w⟩:=zU f;refine⟨v,[],u::j,rd,b,d,nx,D',rfl,rfl,y,w,?_,t⟩;show G9 (bF m (u::j))=_;rw[zS,s,i]
  |cons g new=>
   obtain⟨D',f,i,F⟩:=Ki set D _ (show OG nx set D (fun D'=>news (g::new) nx D' fun a e=>iB (Nat.ble a 1048574) (lY o.dst v E A fun b d=>k b d a e rd set (g::new)) (.er 500 nx))=_ from h)
   obtain⟨e,G,H⟩:=mT (g::new) nx D' (fun a e=>iB (Nat.ble a 1048574) (lY o.dst v E A fun b d=>k b d a e rd set (g::new)) (.er 500 nx))
   rw[G,a9]at f;split at f
   .rename_i C;have C:nx+(g::new).length<=1048574:=af C;obtain⟨b,d,t,w⟩:=zU f;refine⟨v,g::new,set,rd,b,d,_,e,rfl,rfl,by omega,w,?_,t⟩
    funext r;rw[MG,zS,s,<-i,H r];by_cases q:nx<=r
    .rw[aj q];by_cases p:r<nx+(g::new).length
     .rw[aj ⟨q,p⟩]
     .rw[ai (fun h=>p h.2),T5,ai (by omega),an (by omega)];rfl
    .rw[ai q,ai (fun h=>q h.1)]
   .cases f
theorem Ug(g:F7 P R){o:Oper}{E:Nat}{A:z7}{nx:Nat}{D:m8}{k:Nat->z7->Nat->m8->List Nat->List (Nat×HO)->List HO->Rn}{m:Mm}(h:iZ o P R E A nx D k=.ok z l)(e:G9 m=m6 nx D)(f:nx<1048575)(hd:S7 n o.dst=true)(i:z9 all o (TE E A) true):
  ∃v new set rd b c a D',U2 Γ0 P all n o ⟨TE E A,nx,m⟩ (.Y5 nx (I1 v) new set rd) ⟨TE b c,a,G4 (bF m set) nx (new.map .z5)⟩/\a<1048575/\G9 (G4 (bF m set) nx (new.map .z5))=m6 a D'/\
   (Lx o.op=false->new=[]/\set=[])/\(OH o.op=false->rd=[])/\k b c a D' rd set new=.ok z l:=by
 obtain⟨v,new,set,rd,b,c,a,D',d,j,p,q,r,s⟩:=MM h e f;exact⟨v,new,set,rd,b,c,a,D',⟨hd,q,j,rfl,i,rfl,zR g (fun _=>rfl) e f d⟩,p,r,RP d,RQ d,s⟩
theorem PF(g:F7 P R){o:Oper}{E:Nat}{A:z7}{nx:Nat}{D:m8}{k:Nat->z7->Nat->m8->List Nat->List (Nat×HO)->List HO->Rn}{m:Mm}(h:iZ o P R E A nx D k=.ok z l)(e:G9 m=m6 nx D)(f:nx<1048575)(hd:S7 n o.dst=true)(i:z9 all o (TE E A) true):
  ∃v new set rd b c a D',U2 Γ0 P all n o ⟨TE E A,nx,m⟩ (.Y5 nx (I1 v) new set rd) ⟨TE b c,a,G4 (bF m set) nx (new.map .z5)⟩/\a<1048575/\G9 (G4 (bF m set) nx (new.map .z5))=m6 a D'/\
   (Lx o.op=false->new=[]/\set=[])/\(OH o.op=false->rd=[])/\HW o.op P R (J0 E A) nx (m6 nx D)=.ok v new set rd/\k b c a D' rd set new=.ok z l:=by
 obtain⟨v,new,set,rd,b,c,a,D',d,j,p,q,r,s⟩:=MM h e f;exact⟨v,new,set,rd,b,c,a,D',⟨hd,q,j,rfl,i,rfl,zR g (fun _=>rfl) e f d⟩,p,r,RP d,RQ d,d,s⟩
theorem step_skip{o:Oper}{E:Nat}{A:z7}{nx:Nat}{k:Nat->z7->Rn}{m:Mm}(h:lY o.dst (.c 1) E A k=.ok z l)(hd:S7 n o.dst=true)(d:z9 all o (TE E A) false):
  ∃a b,U2 Γ0 P all n o ⟨TE E A,nx,m⟩ .skip ⟨TE a b,nx,m⟩/\k a b=.ok z l:=by
 obtain⟨a,b,e,f⟩:=zU h;exact⟨a,b,⟨hd,f,rfl,rfl,d⟩,e⟩
theorem Xs:∀ (k i:Nat),SZ k i=qK i k
 |0,_=>rfl
 |k+1,i=>by show i::SZ k (i+1)=_;rw[Xs k];rfl
theorem RT(a b:List Nat):JI a b=a++b:=by
 induction a with
 |nil=>rfl
 |cons x a c=>show x::JI a b=_;rw[c];rfl
theorem a0V(a:List (Nat×HO)):U' a=a.map (·.1):=by
 induction a with
 |nil=>rfl
 |cons x a b=>show x.1::U' a=_;rw[b];rfl
theorem Kk(l:Ex):pW l=l.reverse:=by
 have:∀ (l a:Ex),(@List.rec (List Nat×List Nat) (fun _=>Ex->Ex) (fun a=>a) (fun x _ b a=>b (x::a)) l) a=l.reverse++a:=by
  intro l
  induction l with
  |nil=>intro a;rfl
  |cons x l b=>intro a;show(@List.rec (List Nat×List Nat) (fun _=>Ex->Ex) (fun a=>a) (fun x _ b a=>b (x::a)) l) (x::a)=_;rw[b];simp
 exact(this l []).trans (bf _)
def aS(d:L7):List Nat×List Nat:=(d.rd,d.wr)
def zV(o:Oper)(d:L7):Prop:=(Lx o.op=false->d.wr=[])/\(OH o.op=false->d.rd=[])
def Iq(P:Program)(R:z0)(o:Oper)(s:SS):L7->Prop
 |.Y5 nx v new set rd=>∃ (E:Nat) (A:z7) (u:BV),s.T=TE E A/\s.nx=nx/\nx<1048575/\v=I1 u/\HW o.op P R (J0 E A) nx (G9 s.m)=.ok u new set rd
 |.skip=>True
 |_=>False
theorem tW(L:F7 P R):∀ (ops:List Oper) (E:Nat) (A:z7) (nx:Nat) (D:m8) (p:Nat) (j:Ex) (k:KT) (m:Mm),dP ops P R all k E A nx D p j=.ok z l->w7 n ops=true->nx<1048575->G9 m=m6 nx D->
  ∃S q f g a D',S 0=⟨TE E A,nx,m⟩/\O2 Γ0 P all n ops S q/\(S ops.length).T=TE f g/\(S ops.length).nx=a/\G9 (S ops.length).m=m6 a D'/\a<1048575/\
   (∀ (i:Nat) (o:Oper) (d:L7),ops[i]? =some o->q[i]? =some d->zV o d/\Iq P R o (S i) d)/\k f g a D' p ((q.map aS).reverse++j)=.ok z l
 |[],E,A,nx,D,p,j,k,m,h,_,G,H=>⟨fun _=>⟨TE E A,nx,m⟩,[],E,A,nx,D,rfl,⟨rfl,fun i o d u=>by simp at u⟩,rfl,rfl,H,G,(fun i o d u=>by simp at u),h⟩
 |o::ops,E,A,nx,D,p,j,k,m,h,hd,G,H=>by
  simp only[w7,ah]at hd;have h:kM all E o (iZ o P R E A nx D fun f g a D' rd set new=>dP ops P R all k f g a D' p ((rd,JI (U' set) (SZ (B8 new) nx))::j))
   (lY o.dst (.c 1) E A fun f g=>dP ops P R all k f g nx D p (([],[])::j))=.ok z l:=h
  have M:∀ (d:L7) (B:SS) (r:Nat) (t:z7) (b:Nat) (C:m8),U2 Γ0 P all n o ⟨TE E A,nx,m⟩ d B->B=⟨TE r t,b,B.m⟩->b<1048575->G9 B.m=m6 b C->zV o d/\Iq P R o ⟨TE E A,nx,m⟩ d->dP ops P R all k r t b C p (aS d::j)=.ok z l->
    ∃S q f g a D',S 0=⟨TE E A,nx,m⟩/\O2 Γ0 P all n (o::ops) S q/\(S (o::ops).length).T=TE f g/\(S (o::ops).length).nx=a/\G9 (S (o::ops).length).m=m6 a D'/\a<1048575/\
     (∀ (i:Nat) (o':Oper) (d:L7),(o::ops)[i]? =some o'->q[i]? =some d->zV o' d/\Iq P R o' (S i) d)/\k f g a D' p ((q.map aS).reverse++j)=.ok z l:=by
   intro d B r t b C I e w x J F;obtain⟨S,q,f,g,a,D',O,U,V,q3,q4,q5,q6,q7⟩:=tW L ops r t b C p (aS d::j) k B.m F hd.2 w x;refine⟨_,d::q,f,g,a,D',rfl,U.cons (s:=⟨TE E A,nx,m⟩) (d:=d) (by rw[O,<-e];exact I),V,q3,q4,q5,fun i o' X u y=>?_,?_⟩
   .cases i with
    |zero=>simp at u y;subst u;subst y;exact J
    |succ i=>exact q6 i o' X (by simpa using u) (by simpa using y)
   .rw[<-q7];congr 1;simp
  rcases wQ (A:=A) h with⟨K,h⟩|⟨K,h⟩
  .obtain⟨v,new,set,rd,r,t,b,C,I,w,x,Y,Z,N,F⟩:=PF L h H G hd.1 K;refine M _ _ r t b C I rfl w x ⟨⟨fun h=>?_,fun h=>Z h⟩,E,A,v,rfl,rfl,G,rfl,by rw[<-H]at N;exact N⟩ ?_
   .obtain⟨rfl,rfl⟩:=Y h;rfl
   .rw[RT,a0V,Xs,zI]at F;exact F
  .obtain⟨r,t,I,F⟩:=step_skip h hd.1 K;exact M _ _ r t nx D I rfl G H ⟨⟨fun _=>rfl,fun _=>rfl⟩,trivial⟩ F
theorem X7{s:Nat}:∀ {l:List Nat},O0 s l=true↔s∈l
 |[]=>by simp[O0]
 |a::l=>by
  show iB (Nat.beq a s) true (O0 s l)=true↔_;rw[a9,av];by_cases h:a=s
  .rw[aj (by rw[ig];exact h)];simp[h]
  .rw[ai (fun hh=>h (ab hh)),X7]
   constructor
   .exact .inr
   .rintro(b|b)
    .exact absurd b.symm h
    .exact b
theorem pB{b:List Nat}:∀ {l:List Nat},Ce b l=true->∀a∈l,a ∉ b
 |[],_,a,c=>by cases c
 |x::l,h,a,c=>by
  have h:iB (O0 x b) false (Ce b l)=true:=h;rw[a9]at h;split at h
  .cases h
  .rename_i d;rcases av.1 c with rfl|c
   .exact fun e=>d (X7.2 e)
   .exact pB h a c
theorem Kl{a b:List Nat}(h:∀x∈b,x ∉ a):Dd a b=true:=by
 unfold Dd;rw[fu];intro x c;simp only[dx,gn,gi];exact fun d=>h x d c
theorem Uh{a b:L7}(h:Ta (aS a) (aS b)=true):pU a b=true:=by
 have h:iB (Ce a.wr b.wr) (iB (Ce a.wr b.rd) (Ce a.rd b.wr) false) false=true:=h;simp only[a9]at h;split at h
 .rename_i c;split at h
  .rename_i d;simp only[pU,ah];exact⟨⟨Kl (pB d),Kl (pB c)⟩,Kl (pB h)⟩
  .cases h
 .cases h
theorem Xt{b c:L7}(d:b.wr=[]\/(c.rd=[]/\c.wr=[]))(e:c.wr=[]\/(b.rd=[]/\b.wr=[])):pU b c=true:=by
 have h:∀a,Dd [] a=true:=fun a=>rfl
 simp only[pU,ah];rcases d with d|⟨d,f⟩<;>rcases e with e|⟨e,g⟩<;>simp_all [Ma]
theorem Km:∀ (a:Ex) (i:Nat),Dg a i=a[i]?.getD ([],[])
 |[],_=>rfl
 |p::a,0=>rfl
 |p::a,i+1=>by show Dg a i=_;rw[Km a i];simp
theorem MN{a:Ex}:∀ {ps:List (Nat×Nat)},eM a ps=true->∀p∈ps,Ta (Dg a p.1) (Dg a p.2)=true
 |[],_,p,b=>by cases b
 |x::ps,h,p,b=>by
  have h:iB (Ta (Dg a x.1) (Dg a x.2)) (eM a ps) false=true:=h;rw[a9]at h;split at h
  .rename_i c;rcases av.1 b with rfl|b
   .exact c
   .exact MN h p b
  .cases h
theorem zW{k:List L7}{i:Nat}{u:Oper}{m:L7}(x:k[i]? =some m)(e:zV u m):∀ (q:List Oper) (r:List L7) (f:List Nat) (j:Nat),(∀b,r[b]? =k[j+b]?)->(∀ (b:Nat) (o:Oper) (d:L7),q[b]? =some o->r[b]? =some d->zV o d)->
  (∀p∈xR i u j q f,Ta (Dg (k.map aS) p.1) (Dg (k.map aS) p.2)=true)->gG (fun _ m _ d2=>pU m d2) i u m q r f=true
 |[],_,_,_,_,_,_=>rfl
 |_::_,[],_,_,_,_,_=>rfl
 |_::_,_::_,[],_,_,_,_=>rfl
 |o2::q,d2::r,a::f,j,hd,y,s=>by
  have c:=zW x e q r f (j+1) (fun b=>by have:=hd (b+1);simp only[cx]at this;rw[this];congr 1;omega) (fun b o d h A=>y (b+1) o d (by simpa using h) (by simpa using A))
  have g:=y 0 o2 d2 rfl rfl;have B:k[j]? =some d2:=by have:=hd 0;simpa using this.symm
  unfold xR at s;simp only[gG,ah,gp];split at s
  .rename_i t;refine⟨?_,c s⟩;simp only[gp,dx,mw,Bool.and_eq_false_iff]at t;rcases t with t|⟨v,w⟩
   .exact .inl t
   .refine .inr (Xt ?_ ?_)
    .rcases v with h|h
     .exact .inl (e.1 h)
     .exact .inr ⟨g.2 h,g.1 (Ip h)⟩
    .rcases w with h|h
     .exact .inr ⟨e.2 h,e.1 (Ip h)⟩
     .exact .inl (g.1 h)
  .refine⟨.inr ?_,c (fun p h=>s p (al _ h))⟩
   have:=s (i,j) (ar ..);rw[Km,Km,bo,bo,x,B]at this;exact Uh this
theorem vD{g:List L7}:∀ (f:List Oper) (e:List L7) (c:List Nat) (i:Nat),(∀b,e[b]? =g[i+b]?)->(∀ (b:Nat) (o:Oper) (d:L7),f[b]? =some o->e[b]? =some d->zV o d)->
  (∀p∈xS i f c,Ta (Dg (g.map aS) p.1) (Dg (g.map aS) p.2)=true)->aI (fun _ r _ s=>pU r s) i f e c=true
 |[],_,_,_,_,_,_=>rfl
 |_::_,[],_,_,_,_,_=>rfl
 |_::_,_::_,[],_,_,_,_=>rfl
 |o::f,d::e,a::c,i,hd,q,m=>by
  have j:∀b,e[b]? =g[i+1+b]? :=fun b=>by have:=hd (b+1);simp only[cx]at this;rw[this];congr 1;omega
  have k:∀ (b:Nat) (o:Oper) (d:L7),f[b]? =some o->e[b]? =some d->zV o d:=fun b o d h t=>q (b+1) o d (by simpa using h) (by simpa using t)
  have u:g[i]? =some d:=by have:=hd 0;simpa using this.symm
  unfold xS at m;simp only[aI,ah];exact⟨zW u (q 0 o d rfl rfl) f e c (i+1) j k (fun p h=>m p (ej _ h)),vD f e c (i+1) j k (fun p h=>m p (dz _ h))⟩
theorem Bu{ops:Array Oper}{a:List L7}(c:∀ (b:Nat) (o:Oper) (d:L7),ops.toList[b]? =some o->a[b]? =some d->zV o d)(h:eM (pW ((a.map aS).reverse++ [])) (Y0 ops)=true):cH ops a=true:=by
 rw[Kk,bf,na]at h;unfold cH;split
 .rfl
 .exact vD ops.toList a _ 0 (fun b=>by rw[bz]) c (MN h)
theorem FW(j:F7 P R){ops:Array Oper}{k:KS}{E:Nat}{A:z7}{nx:Nat}{D:m8}{p:Nat}{m:Mm}(h:xT ops P R k E A nx D p=.ok z l)(hd:w7 n ops.toList=true)(q:nx<1048575)(r:G9 m=m6 nx D):
  ∃S e b c a D',S 0=⟨TE E A,nx,m⟩/\O2 Γ0 P ops n ops.toList S e/\(S ops.toList.length).T=TE b c/\(S ops.toList.length).nx=a/\G9 (S ops.toList.length).m=m6 a D'/\a<1048575/\cH ops e=true/\(∀ (i:Nat) (o:Oper) (d:L7),ops.toList[i]? =some o->e[i]? =some d->Iq P R o (S i) d)/\k b c a D' p=.ok z l:=by
 obtain⟨S,e,b,c,a,D',s,t,u,q3,q4,q5,q6,q7⟩:=tW j ops.toList E A nx D p [] _ m (show dP ops.toList P R ops (fun b c a D' v w=>iB (eM (pW w) (Y0 ops)) (k b c a D' v) (.er 504 0)) E A nx D p []=_ from h) hd q r
 rw[a9]at q7;split at q7
 .rename_i x;exact⟨S,e,b,c,a,D',s,t,u,q3,q4,q5,Bu (fun i o d f g=>(q6 i o d f g).1) x,fun i o d f g=>(q6 i o d f g).2,q7⟩
 .cases q7
end
end Go.Abs
end
section
namespace Go.Abs
theorem eS{A B:Type}{x:Option A}{f:A->Option B}{b:B}(h:VS.De x f=some b):∃a,x=some a/\f a=some b:=by
 cases x with
 |none=>cases h
 |some a=>exact⟨a,rfl,h⟩
theorem MO{v l:List a7}(h:VS.Jy v=some l):v=[.G7 l]:=by
 unfold VS.Jy at h;split at h
 .cases h;rfl
 .cases h
theorem PG{v l:List a7}(h:VS.Re v=some l):v=[.agg l]:=by
 unfold VS.Re at h;split at h
 .cases h;rfl
 .cases h
theorem PH{v l:List a7}(h:VS.Rf v=some l):v=[.M1 l]:=by
 unfold VS.Rf at h;split at h
 .cases h;rfl
 .cases h
theorem Ui{f:FuncId}{v:List a7}{l:List a7×List a7}(h:VS.ZZ f v=some l):v=[.fn (.func f) l.1 l.2]:=by
 unfold VS.ZZ at h;split at h
 .split at h
  .rename_i e;subst e;cases h;rfl
  .cases h
 .cases h
theorem MP{v:List a7}{l:a7×List a7}(h:VS.Jz v=some l):v=l.1::l.2:=by
 unfold VS.Jz at h;split at h
 .cases h;rfl
 .cases h
theorem PI{R:Type}(k:IntKind){v:List a7}{r:R}{x:Int×R}(h:VS.Vx k v r=some x):(([.int k x.1],x.2):List a7×R)=(v,r):=by
 unfold VS.Vx at h;split at h
 .split at h
  .rename_i e;subst e;cases h;rfl
  .cases h
 .cases h
theorem MQ{R:Type}{v:List a7}{r:R}{x:Bool×R}(h:VS.Ot v r=some x):(([.bool x.1],x.2):List a7×R)=(v,r):=by
 unfold VS.Ot at h;split at h
 .cases h;rfl
 .cases h
theorem MR{R:Type}(t:Ty){v:List a7}{r:R}{x:List t.den×R}(h:VS.Ou t v r=some x):(([.S3 t x.1],x.2):List a7×R)=(v,r):=by
 unfold VS.Ou at h;split at h
 .split at h
  .rename_i e;subst e;cases h;rfl
  .cases h
 .cases h
theorem PJ{R:Type}(i:Nat)(f:Bool){v:List a7}{r:R}{x:R}(h:VS.Vy i f v r=some x):(([.O1 i f],x):List a7×R)=(v,r):=by
 unfold VS.Vy at h;split at h
 .split at h
  .rename_i e;obtain⟨rfl,rfl⟩:=e;cases h;rfl
  .cases h
 .cases h
theorem PK{R:Type}(i:Nat)(f:Bool){v:List a7}{r:R}{x:Nat×Nat×R}(h:VS.Vz i f v r=some x):(([.sub i x.1 x.2.1 f],x.2.2):List a7×R)=(v,r):=by
 unfold VS.Vz at h;split at h
 .split at h
  .rename_i e;obtain⟨rfl,rfl⟩:=e;cases h;rfl
  .cases h
 .cases h
theorem PL{R:Type}(i o:Nat){v:List a7}{r:R}{x:R}(h:VS.VA i o v r=some x):(([.ptr i o],x):List a7×R)=(v,r):=by
 unfold VS.VA at h;split at h
 .split at h
  .rename_i e;obtain⟨rfl,rfl⟩:=e;cases h;rfl
  .cases h
 .cases h
theorem MS{R:Type}(i o:Nat){v:List a7}{r:R}{x:Nat×R}(h:VS.Ov i o v r=some x):(([.P5 i x.1 o],x.2):List a7×R)=(v,r):=by
 unfold VS.Ov at h;split at h
 .split at h
  .rename_i e;obtain⟨rfl,rfl⟩:=e;cases h;rfl
  .cases h
 .cases h
theorem MT{R:Type}(i:Nat){v:List a7}{r:R}{x:R}(h:VS.Ow i v r=some x):(([.P6 i],x):List a7×R)=(v,r):=by
 unfold VS.Ow at h;split at h
 .split at h
  .rename_i e;subst e;cases h;rfl
  .cases h
 .cases h
theorem MU{R:Type}(i:Nat){v:List a7}{r:R}{x:R}(h:VS.Ox i v r=some x):(([.B9 i],x):List a7×R)=(v,r):=by
 unfold VS.Ox at h;split at h
 .split at h
  .rename_i e;subst e;cases h;rfl
  .cases h
 .cases h
theorem MV{R:Type}{v:List a7}{r:R}{x:R}(h:VS.Oy v r=some x):(([.Y4],x):List a7×R)=(v,r):=by
 unfold VS.Oy at h;split at h
 .cases h;rfl
 .cases h
theorem MW{R:Type}(t:Ty){v:List a7}{r:R}{x:R}(h:VS.Oz t v r=some x):(([.R2 t],x):List a7×R)=(v,r):=by
 unfold VS.Oz at h;split at h
 .split at h
  .rename_i e;subst e;cases h;rfl
  .cases h
 .cases h
theorem Ko{R:Type}{v:List a7}{r:R}{x:R}(h:VS.Jx v r=some x):(([.V6],x):List a7×R)=(v,r):=by
 unfold VS.Jx at h;split at h
 .cases h;rfl
 .cases h
theorem HE{R:Type}{v:List a7}{r:R}{x:R}(h:VS.Eh v r=some x):(([.J7],x):List a7×R)=(v,r):=by
 unfold VS.Eh at h;split at h
 .cases h;rfl
 .cases h
theorem PM{R:Type}{v:List a7}{r:R}{x:Lh×R}(h:VS.VB v r=some x):(([.s6 x.1],x.2):List a7×R)=(v,r):=by
 unfold VS.VB at h;split at h
 .cases h;rfl
 .cases h
theorem PN{R:Type}{v:List a7}{r:R}{x:R}(h:VS.VC v r=some x):(([.S6],x):List a7×R)=(v,r):=by
 unfold VS.VC at h;split at h
 .cases h;rfl
 .cases h
theorem Uj{R:Type}{v:List a7}{r:R}{x:R}(h:VS.a3s v r=some x):(([],x):List a7×R)=(v,r):=by
 unfold VS.a3s at h;split at h
 .cases h;rfl
 .cases h
theorem PO{R:Type}(t:Ty)(f:Bool){v:List a7}{r:R}{x:List t.den×R}(h:VS.VD t f v r=some x):(([.imm t x.1 f],x.2):List a7×R)=(v,r):=by
 unfold VS.VD at h;split at h
 .split at h
  .rename_i e;split at h
   .rename_i a;subst e;subst a;cases h;rfl
   .cases h
  .cases h
 .cases h
theorem VS.X2(s:VS):∀ (v:List a7) (R:Type) (r:R) (x:s.den R),s.dec v R r=some x->s.enc R x=(v,r):=by
 induction s with
 |int k=>exact fun v R r x h=>PI k h
 |bool=>exact fun v R r x h=>MQ h
 |S3 t=>exact fun v R r x h=>MR t h
 |O1 i f=>exact fun v R r x h=>PJ i f h
 |sub i f=>exact fun v R r x h=>PK i f h
 |ptr i o=>exact fun v R r x h=>PL i o h
 |P5 i o=>exact fun v R r x h=>MS i o h
 |P6 i=>exact fun v R r x h=>MT i h
 |B9 i=>exact fun v R r x h=>MU i h
 |Y4=>exact fun v R r x h=>MV h
 |R2 t=>exact fun v R r x h=>MW t h
 |V6=>exact fun v R r x h=>Ko h
 |J7=>exact fun v R r x h=>HE h
 |s6=>exact fun v R r x h=>PM h
 |S6=>exact fun v R r x h=>PN h
 |nl=>exact fun v R r x h=>Uj h
 |imm t f=>exact fun v R r x h=>PO t f h
 |G7 l p=>
  intro v R r x h;obtain⟨c,d,e⟩:=eS (x:=VS.Jy v) (f:=fun c=>l.dec c R r) h
  have g:l.enc R x=(c,r):=p c R r x e;have j:=MO d;subst j;show([a7.G7 (l.enc R x).1],(l.enc R x).2)=_;rw[g]
 |agg l p=>
  intro v R r x h;obtain⟨c,d,e⟩:=eS (x:=VS.Re v) (f:=fun c=>l.dec c R r) h
  have g:l.enc R x=(c,r):=p c R r x e;have j:=PG d;subst j;show([a7.agg (l.enc R x).1],(l.enc R x).2)=_;rw[g]
 |M1 l p=>
  intro v R r x h;obtain⟨c,d,e⟩:=eS (x:=VS.Rf v) (f:=fun c=>l.dec c R r) h
  have g:l.enc R x=(c,r):=p c R r x e;have j:=PH d;subst j;show([a7.M1 (l.enc R x).1],(l.enc R x).2)=_;rw[g]
 |fn f a b m n=>
  intro v R r x h;obtain⟨c,d,e⟩:=eS (x:=VS.ZZ f v) (f:=fun c=>VS.De (b.dec c.2 R r) fun y=>a.dec c.1 (b.den R) y) h
  obtain⟨y,g,j⟩:=eS e;have q:a.enc (b.den R) x=(c.1,y):=m _ _ _ x j;have u:b.enc R y=(c.2,r):=n _ _ _ y g;have w:=Ui d;subst w;show([a7.fn (.func f) (a.enc (b.den R) x).1 (b.enc R (a.enc (b.den R) x).2).1],(b.enc R (a.enc (b.den R) x).2).2)=_;rw[q];simp only;rw[u]
 |cs a l m n=>
  intro v R r x h;obtain⟨c,d,e⟩:=eS (x:=VS.Jz v) (f:=fun c=>VS.De (l.dec c.2 R r) fun y=>a.dec [c.1] (l.den R) y) h
  obtain⟨y,g,j⟩:=eS e;have q:a.enc (l.den R) x=([c.1],y):=m _ _ _ x j;have u:l.enc R y=(c.2,r):=n _ _ _ y g;have w:=MP d;subst w;show((a.enc (l.den R) x).1++(l.enc R (a.enc (l.den R) x).2).1,(l.enc R (a.enc (l.den R) x).2).2)=_;rw[q];simp only;rw[u];rfl
theorem CS.X2(c:CS)(v:c7)(R:Type)(r:R)(x:c.den R)(h:c.dec v R r=some x):c.enc R x=(v,r):=by
 cases c with
 |box l=>
  cases v with
  |z5 o=>cases h
  |any=>cases h
  |box f=>
   have z:l.enc R x=(f,r):=VS.X2 l _ R r x h;show(c7.box (l.enc R x).1,(l.enc R x).2)=_;rw[z]
  |sl t f=>cases h
  |mp mk f c=>cases h
  |it m a b c=>cases h
  |bx a b c d e=>cases h
 |sl t=>
  cases v with
  |z5 o=>cases h
  |any=>cases h
  |box f=>cases h
  |sl i f=>
   have g:(if h:i=t then some ((Eg h f,r):List t.den×R)else none)=some x:=h
   split at g
   .rename_i e;subst e;cases g;rfl
   .cases g
  |mp mk f c=>cases h
  |it m a b c=>cases h
  |bx a b c d e=>cases h
 |mp mk=>
  cases v with
  |z5 o=>cases h
  |any=>cases h
  |box f=>cases h
  |sl i f=>cases h
  |mp j f clk=>
   have g:(if h:j=mk then some ((a2f h f,clk,r):I2 mk.kt×Nat×R)else none)=some x:=h
   split at g
   .rename_i e;subst e;cases g;rfl
   .cases g
  |it m a b c=>cases h
  |bx a b c d e=>cases h
 |bx p t n q=>
  cases v with
  |z5 o=>cases h
  |any=>cases h
  |box f=>cases h
  |sl i f=>cases h
  |mp mk f c=>cases h
  |it m a b c=>cases h
  |bx s i u f w=>
   have g:(if h:i=t then(if u=n then VS.De (q.dec w (List t.den×R) (Eg h f,r)) fun y=>p.dec s (q.den (List t.den×R)) y else none)else none)=some x:=h
   split at g
   .rename_i A;subst A;split at g
    .rename_i B;subst B;cases k:q.dec w (List i.den×R) (Eg rfl f,r)with
     |none=>rw[k]at g;cases g
     |some y=>
      rw[k]at g;have C:p.dec s (q.den (List i.den×R)) y=some x:=g;have a1:=VS.X2 p _ _ y x C;have D:=VS.X2 q _ _ _ y k;show(c7.bx (p.enc (q.den (List i.den×R)) x).1 i u (q.enc (List i.den×R) (p.enc (q.den (List i.den×R)) x).2).2.1 (q.enc (List i.den×R) (p.enc (q.den (List i.den×R)) x).2).1,(q.enc (List i.den×R) (p.enc (q.den (List i.den×R)) x).2).2.2)=_;rw[a1];simp only;rw[D];rfl
    .cases g
   .cases g
 |it m=>
  cases v with
  |z5 o=>cases h
  |any=>cases h
  |box f=>cases h
  |bx a b c d e=>cases h
  |sl i f=>cases h
  |mp j f clk=>cases h
  |it E a b c=>
   have g:(if E=m then some ((a,b,c,r):Nat×List Nat×Nat×R)else none)=some x:=h
   split at g
   .rename_i e;subst e;cases g;rfl
   .cases g
theorem MX:∀ (l:List (Nat×(CS×p0))) (vs:Mem) (R:Type) (r:R) (x:gT l R),u' l vs R r=some x->OA l R x=(vs,r)
 |[],vs,R,r,x,h=>by
  cases vs with
  |nil=>
   have a:some r=some x:=h;cases a;rfl
  |cons v vs=>cases h
 |u::l,vs,R,r,x,h=>by
  cases vs with
  |nil=>cases h
  |cons v vs=>
   have a:(if v.1=u.1/\v.2.2=u.2.2 then(match u' l vs R r with
    |some y=>u.2.1.dec v.2.1 (gT l R) y
    |none=>none)else none)=some x:=h
   split at a
   .rename_i e;split at a
    .rename_i y b;have c:u.2.1.enc (gT l R) x=(v.2.1,y):=CS.X2 u.2.1 v.2.1 (gT l R) y x a;have d:OA l R y=(vs,r):=MX l vs R r y b;show((u.1,((u.2.1.enc (gT l R) x).1,u.2.2))::(OA l R (u.2.1.enc (gT l R) x).2).1,(OA l R (u.2.1.enc (gT l R) x).2).2)=_;rw[c];simp only;rw[d,<-e.1,<-e.2]
    .cases a
   .cases a
theorem zip_unzip:∀ (l:List (Nat×a7)),kE (l.map (·.1)) (l.map (·.2))=l
 |[]=>rfl
 |u::l=>by simp[kE,zip_unzip l]
theorem Shape.X2{S:Shape}{st:j7}{x:S.den}(h:S.dec st=some x):S.enc x=st:=by
 unfold Shape.dec at h;split at h
 .rename_i e;split at h
  .rename_i y a;split at h
   .rename_i z b;have c:=MX S.M st.M Unit () y a;have d:=VS.X2 S.gh _ (gT S.M Unit) y z b;have f:=VS.X2 S.vs _ (S.gh.den (gT S.M Unit)) z x h;unfold Shape.enc;rw[f];simp only[d,c];rw[<-e.1,<-e.2.1,<-e.2.2.1,zip_unzip,<-e.2.2.2]
   .cases h
  .cases h
 .cases h
end Go.Abs
end
section
namespace Go.Abs
mutual
theorem Kq{K:b8}{H:Nat->Option Hd}(y:Option Nat):∀ (a:a7) (v:Value),a.AL=true->b9 K H a v->b9 (K.cG y) H a v
 |.S6,_,_,_=>by simp[b9]
 |.bool _,_,_,h=>by simpa [b9]using h
 |.int _ _,_,_,h=>by simpa [b9]using h
 |.Y4,_,_,h=>by simpa [b9]using h
 |.R2 _,_,_,h=>by simpa [b9]using h
 |.imm t l g,v,_,h=>by
  simp only[b9]at h ⊢;have o:∀ (t:Ty) (x:t.den) (cs:List Value),r9 K t x cs->r9 (K.cG y) t x cs:=cN y;obtain⟨base,cap,d,e,j,k⟩:=h;exact⟨base,cap,d,e,j,by
   rcases k with k|⟨b,off,arr,q,g2,s⟩
   .exact .inl k
   .exact .inr ⟨b,off,arr,q,g2,fun i m=>o _ _ _ (s i m)⟩⟩
 |.O1 r g,v,_,h=>by simp only[b9]at h ⊢;exact h
 |.sub r lo len g,v,_,h=>by simp only[b9]at h ⊢;exact h
 |.ptr r off,v,_,h=>by simp only[b9]at h ⊢;exact h
 |.P5 r i off,v,_,h=>by simp only[b9]at h ⊢;exact h
 |.P6 r,v,_,h=>by simp only[b9]at h ⊢;exact h
 |.B9 r,v,_,h=>by simp only[b9]at h ⊢;exact h
 |.G7 cells,v,c,h=>by
  simp only[b9]at h ⊢;simp only[a7.AL]at c;obtain⟨b,off,arr,d,e,j⟩:=h;exact⟨b,off,arr,d,e,U5 y cells _ c j⟩
 |.agg cells,v,c,h=>by
  simp only[b9]at h ⊢;simp only[a7.AL]at c;obtain⟨cs,d,e⟩:=h;exact⟨cs,d,U5 y cells _ c e⟩
 |.S3 t l,v,_,h=>by
  simp only[b9]at h ⊢;obtain⟨cs,d,e,j⟩:=h;exact⟨cs,d,e,fun i m=>cN y _ _ _ (j i m)⟩
 |.M1 vs,v,c,h=>by
  simp only[b9]at h ⊢;simp only[a7.AL]at c;obtain⟨cs,d,e⟩:=h;exact⟨cs,d,U5 y vs _ c e⟩
 |.fn f first cap,v,c,h=>by
  simp only[b9]at h ⊢;simp only[a7.AL,ah]at c;obtain⟨u,w,d,e,j⟩:=h;exact⟨u,w,d,U5 y first _ c.1 e,U5 y cap _ c.2 j⟩
 |.V6,_,_,h=>by simpa [b9]using h
 |.J7,_,c,_=>by simp[a7.AL]at c
 |.s6 p,v,_,h=>by
  simp only[b9]at h ⊢;exact p.mono K _ _ ⟨fun _ _ h=>h,fun _ _ h=>h⟩ h
 |.Dc z n,v,_,h=>by
  simp only[b9]at h ⊢;exact h
theorem U5{K:b8}{H:Nat->Option Hd}(y:Option Nat):∀ (b:List a7) (cs:List Value),gH b=true->c6 K H b cs->c6 (K.cG y) H b cs
 |[],_,_,h=>by simpa [c6]using h
 |a::b,cs,d,h=>by
  simp only[gH,ah]at d;obtain⟨c,e,rfl,f,g⟩:=h.inv;exact .cons (Kq y a c d.1 f) (U5 y b e d.2 g)
theorem cN{K:b8}(y:Option Nat):∀ (t:Ty) (x:t.den) (cs:List Value),r9 K t x cs->r9 (K.cG y) t x cs
 |.int _,_,_,h=>h
 |.bool,_,_,h=>h
 |.slice e,l,cs,h=>by
  obtain⟨base,cap,c,d,f⟩:=h;refine⟨base,cap,c,d,?_⟩;rcases f with g|⟨b,off,arr,j,g2,k⟩
  .exact .inl g
  .exact .inr ⟨b,off,arr,j,g2,fun i m=>cN y e _ _ (k i m)⟩
 |.pair a b,x,cs,h=>by
  obtain⟨n,o,c,d,f⟩:=h;exact⟨n,o,c,cN y a _ _ d,cN y b _ _ f⟩
end
theorem L4.cG{F:Nat->Prop}{K:b8}{w:World}(y:Option Nat)(h:L4 F K w):L4 F (K.cG y) w:=⟨⟨h.w8.1,h.w8.2⟩,h.lt,h.inv,h.apart⟩
theorem rS:∀ {M:Mem} {r:Nat} {c:c7} {f:p0},Ej M=true->l9 M r=some (c,f)->c.AL=true
 |[],r,c,f,_,h=>by simp[l9]at h
 |(i,x)::M,r,c,f,a,h=>by
  simp only[Ej,ah]at a;simp only[l9]at h;split at h
  .cases h;exact a.1
  .exact rS a.2 h
theorem MY{K:b8}{H:Nat->Option Hd}{w:World}{hd:Hd}{c:c7}(y:Option Nat)(r:c.AL=true)(h:n9 K H w hd c):n9 (K.cG y) H w hd c:=by
 cases c with
 |box cells=>
  obtain⟨b,cs,e,d,f,g,j⟩:=h;exact⟨b,cs,e,d,f,g,U5 y _ _ (by simpa [c7.AL]using r) j⟩
 |bx p t n l q=>
  obtain⟨s,g2,b,cs,e,d,x,z,A,f,g,j,k,v,B⟩:=h;simp only[c7.AL,ah]at r;exact⟨s,g2,b,cs,e,d,x,z,A,f,g,j,U5 y _ _ r.1 k,⟨v.1,fun i u=>cN y _ _ _ (v.2 i u)⟩,U5 y _ _ r.2 B⟩
 |sl t l=>
  obtain⟨f,g,j,k⟩:=h;refine⟨f,g,j,?_⟩;rcases k with k|⟨b,cs,e,d,s,g2,C,D⟩
  .exact .inl k
  .exact .inr ⟨b,cs,e,d,s,g2,C,fun i u=>cN y _ _ _ (D i u)⟩
 |mp mk l clk=>exact h
 |it m a b c=>exact h
 |z5 o=>cases o<;>exact h
 |any=>exact h
theorem l5.cG{F:Nat->Prop}{K:b8}{H:Nat->Option Hd}{w:World}{m:Mm}(y:Option Nat)(hn:∀r c f,m r=some (c,f)->c.AL=true)(h:l5 F K H w m):l5 F (K.cG y) H w m where
 cont:=fun r c f hd h1 h2 h3=>MY y (hn r c f h1) (h.cont r c f hd h1 h2 h3)
 own:=h.own
 X9:=h.X9
 inj:=h.inj
theorem Kept.less{F G:Nat->Prop}{w w':World}(h:Kept F w w')(a:∀b,G b->F b):Kept G w w':=h.mono a
theorem L4.less{F G:Nat->Prop}{K:b8}{w:World}(h:L4 F K w)(c:∀b,G b->F b):L4 G K w:=⟨h.w8,fun b a=>h.lt b (c b a),fun b p d a=>h.inv b p d (c b a),h.apart⟩
theorem l5.less{F G:Nat->Prop}{K:b8}{H:Nat->Option Hd}{w:World}{m:Mm}(h:l5 F K H w m)(hg:∀b,G b->F b):l5 G K H w m where
 cont:=h.cont
 own:=fun r c hd b h1 h2 h3=>by
  obtain⟨g1,g2⟩:=h.own r c hd b h1 h2 h3;exact⟨fun hb=>g1 (hg b hb),g2⟩
 X9:=h.X9
 inj:=h.inj
theorem Fix.less{F G:Nat->Prop}{A B:b8}(h:Fix F A B)(a:∀b,G b->F b):Fix G A B:=fun b c=>h b (a b c)
theorem DM{F:Nat->Prop}{K:b8}{H:Nat->Option Hd}{w:World}{m:Mm}{l:Nat}{o o':Obj}(A:l5 F K H w m)(h:w.heap[l]? =some o)(u:∀cs e v,o≠ .cells cs e v)(k:∀es c,o≠ .map es c)(s:∀a b c d,o≠ .mapIter a b c d):l5 F K H (w.putObj l o') m:=by
 refine A.world (fun r c f hd b B C D j=>?_)
 rw[I0 h,ai];intro E;subst E;have:=A.cont r c f hd B C D;cases c with
 |box cells=>
  obtain⟨y,cs,e,v,i,g2,_⟩:=this;rw[j]at i;cases i;rw[h]at g2;exact u _ _ _ (cz g2)
 |bx p t n l q=>
  obtain⟨_,_,y,cs,e,v,_,_,_,i,g2,_⟩:=this;rw[j]at i;cases i;rw[h]at g2;exact u _ _ _ (cz g2)
 |sl t x=>
  obtain⟨_,_,_,g⟩:=this;rcases g with⟨g,_⟩|⟨y,cs,e,v,i,g2,_⟩
  .rw[j]at g;cases g
  .rw[j]at i;cases i;rw[h]at g2;exact u _ _ _ (cz g2)
 |mp mk l clk=>
  obtain⟨_,_,_,y,i,g2⟩:=this;rw[j]at i;cases i;rw[h]at g2;exact k _ _ (cz g2)
 |it x a b c=>
  obtain⟨_,_,_,y,I,i,g2,_⟩:=this;rw[j]at i;cases i;rw[h]at g2;exact s _ _ _ _ (cz g2)
 |any=>
  obtain⟨G,g2,z⟩:=this _ j;rw[h]at g2;cases g2;cases o with
  |cells a b c=>exact u _ _ _ rfl
  |map a b=>exact k _ _ rfl
  |mapIter a b c d=>exact s _ _ _ _ rfl
  |_=>cases z
 |z5 J=>
  obtain⟨G,g2,z⟩:=Dr (K':=K) (H':=H) this _ j;rw[h]at g2;cases g2;cases o with
  |cells a b c=>exact u _ _ _ rfl
  |map a b=>exact k _ _ rfl
  |mapIter a b c d=>exact s _ _ _ _ rfl
  |_=>cases z
theorem Xu{F i:Nat->Prop}{K:b8}{w w2:World}(a:L4 F K w)(f:Kept (fun b=>b<w.heap.size) w w2)(j:∀b,i b->F b\/w.heap.size<=b/\b<w2.heap.size):L4 i K w2:=by
 refine⟨⟨fun b cs k=>?_,fun b p d=>?_⟩,fun b g=>?_,fun b p d g=>?_,a.apart⟩
 .obtain⟨e,l,c⟩:=a.w8.1 b cs k;exact⟨e,l,by rw[f.block b (s8 c)];exact c⟩
 .obtain⟨o,c,m⟩:=a.w8.2 b p d;exact⟨o,by rw[f.block b (s8 c)];exact c,m⟩
 .rcases j b g with h|h
  .exact cc (a.lt b h) f.size
  .exact h.2
 .rcases j b g with h|h
  .exact a.inv b p d h
  .obtain⟨o,c,_⟩:=a.w8.2 b p d;have:=s8 c;omega
theorem Uk{F g:Nat->Prop}{K:b8}{H:Nat->Option Hd}{w d:World}{m:Mm}(e:l5 F K H w m)(k:Kept (fun b=>b<w.heap.size) w d)(l:∀b,g b->F b\/w.heap.size<=b/\b<d.heap.size):l5 g K H d m:=by
 have a:l5 F K H d m:=e.world (fun r c f hd b a n o p=>k.block b (W1 e a n o p))
 refine⟨a.cont,fun r c hd b i g2 j=>?_,a.X9,a.inj⟩
 obtain⟨q,s⟩:=a.own r c hd b i g2 j;refine⟨fun t=>?_,s⟩
 rcases l b t with h|h
 .exact q h
 .have:=W1 e i (by simp) g2 j
  omega
theorem zX{K:b8}{H:Nat->Option Hd}(f:Nat->Value):∀ (O5:List Nat) (vs:List a7),c6 K H vs (O5.map f)->∀t,b9 K H (u9 (kE O5 vs) t) (f t)
 |[],vs,_,t=>by simp[kE,u9,b9]
 |i::O5,[],h,t=>by simp[c6]at h
 |i::O5,v::vs,h,t=>by
  obtain⟨a,b⟩:=c6.Vh.1 h;simp only[kE,u9];split
  .rename_i e;subst e;exact a
  .exact zX f O5 vs b t
theorem Kt{K:b8}{H:Nat->Option Hd}(f:Nat->Value)(g:Nat->a7)(h:∀t,b9 K H (g t) (f t)):∀ (O5:List Nat),c6 K H (O5.map g) (O5.map f)
 |[]=>.nil
 |i::O5=>.cons (h i) (Kt f g h O5)
theorem FX{n:Nat}:∀ {l:List Nat},HU n l=true->∀a∈l,a<n
 |[],_,a,c=>by simp at c
 |b::l,h,a,c=>by
  simp only[HU,ah,bt]at h;rcases av.1 c with rfl|c
  .exact h.1
  .exact FX h.2 a c
theorem CE{K:b8}{H:Nat->Option Hd}:∀ (ps:List Nat) (args:List a7) (vs:List Value) (a:List (Nat×a7)) (arr:Array Value),args.length=ps.length->c6 K H args vs->(∀p∈ps,p<arr.size)->
  (∀t,b9 K H (u9 a t) (arr.getD t undef))->∀t,b9 K H (u9 (setArgs ps args a) t) (((ps.zip vs).foldl (fun b (x:Nat×Value)=>b.setIfInBounds x.1 x.2) arr).getD t undef)
 |[],args,vs,a,arr,_,_,_,h=>by simpa [setArgs]using h
 |p::ps,[],vs,a,arr,d,_,_,h=>by simp at d
 |p::ps,v::args,vs,a,arr,d,i,g,h=>by
  obtain⟨c,cs,rfl,j,k⟩:=i.inv;simp only[setArgs,jy,lz];refine CE ps args cs ((p,v)::a) (arr.setIfInBounds p c) (by simpa using d) k (fun q l=>by simpa using g q (al _ l)) (fun t=>?_)
  have f:=g p (by simp)
  simp only[u9];by_cases e:p=t
  .subst e;rw[aj rfl];simpa [f]using j
  .rw[ai e];have:=h t;simpa [gj e]using this
theorem zY:∀ (l:List (Nat×Value)) (arr:Array Value),(l.foldl (fun a (x:Nat×Value)=>a.setIfInBounds x.1 x.2) arr).size=arr.size
 |[],_=>rfl
 |x::l,arr=>by simp[zY l]
end Go.Abs
end
section
namespace Go.Abs
theorem vE{c:Nat}:∀ {a:List Oper},qL c a=true->∀ (i:Nat) (o:Oper),a[i]? =some o->∀j w,o.guard=some (j,w)->j<c
 |[],_,i,o,h,_,_,_=>by simp at h
 |o0::a,h,i,o,b,j,w,d=>by
  simp only[qL,ah]at h;cases i with
  |zero=>
   simp only[dh,ae]at b;subst b;have:=h.1;rw[d]at this;simpa using this
  |succ i=>exact vE h.2 i o (by simpa using b) j w d
theorem rT:∀ {i:Nat} {b:List Nat},lT i b=true->∀ (a m:Nat),b[a]? =some m->∀j,j<i+a->m.testBit j=true
 |_,[],_,a,m,h,_,_=>by simp at h
 |i,m0::b,h,a,m,c,j,d=>by
  simp only[lT,ah]at h;cases a with
  |zero=>
   simp only[dh,ae]at c;subst c;have e:m0 &&& (2^i- 1)=2^i- 1:=ab h.1;have:(m0 &&& (2^i- 1)).testBit j=true:=by
    rw[e,Nat.testBit_two_pow_sub_one];simpa using d
   rw[nu,ah]at this;exact this.1
  |succ a=>exact rT h.2 a m (by simpa using c) j (by omega)
structure RU(ops:Array Oper)(c:Nat):Prop where
 le:c<=ops.size
 guards:∀ (i:Nat) (o:Oper),i<c->ops[i]? =some o->∀j w,o.guard=some (j,w)->j<c
 chain:∀ (L:Nat->Prop),Bi ops.toList L->∀ (i:Nat) (o:Oper),c<=i->ops[i]? =some o->(∀e∈o.after,Region.binds .any e=true->L e.on)->∀j,j<i->L j
theorem PQ{ops:Array Oper}{c:Nat}{o:Oper}{T:Array Value}(a:∀j w,o.guard=some (j,w)->j<c):Region.wanted o (yielded (V8 ops c) T)=Region.wanted o (yielded ops T):=by
 unfold Region.wanted;cases e:o.guard with
 |none=>rfl
 |some b=>
  obtain⟨j,w⟩:=b;have:=a j w e;have d:(V8 ops c)[j]? =ops[j]? :=by
   unfold V8;rw[ov,ny,aj this,jb]
  simp only[yielded,d]
section
variable {F:Fence} {n:Nat} {P:Program} {ops:Array Oper} {Q:Exit->Act->World->Prop}
def zZ(F:Fence)(n:Nat)(P:Program)(ops:Array Oper)(Q:Exit->Act->World->Prop)(rest:List Oper):Exit->Act->World->Prop
 |.normal,a,w=>wpListIn F n P ops Q rest a w
 |e,a,w=>Q e a w
theorem vF{o:Oper}{a:Act}{w:World}{rest:List Oper}{K K':Act->World->Prop}(h:∀a w,K a w->K' a w)
  (hh:o.wpIn F n P a w K (zZ F n P ops Q rest)):o.wpIn F n P a w K' Q:=by
 unfold Oper.wpIn at*
 refine⟨hh.1,?_⟩;have hh:=hh.2;generalize (o.semAt F.round a.eval).run P w=r at*
 cases r with
 |ok x w'=>
  cases x<;>simp only[Oper.uponIn]at hh ⊢ <;>
   first
    |exact h _ _ hh
    |exact⟨hh.1,CallsIn.mono hh.2 (fun e c b=>by cases e<;>first|exact h _ _ b|exact b)⟩
    |exact⟨hh.1,RowsIn.mono hh.2 (fun _ _ b=>h _ _ b)⟩
    |exact⟨hh.1,RoundIn.mono hh.2 (fun e c b=>by cases e<;>first|exact h _ _ b|exact b)⟩
 |halt x w'=>cases x<;>simp only[Oper.uponIn]at hh ⊢ <;>exact hh
theorem PS{c:Nat}(T:RU ops c)(v:nP ops.toList 0=true):∀ (d i:Nat) (L:Array Bool) (a:Act) (w:World),ops.size- i<=d->c<=i->i<=ops.size->L.size=ops.size->(∀j,j<ops.size->(L.getD j false=true↔j<i))->
  wpListIn F n P ops Q (ops.toList.drop i) a w->wpAnyIn F n P .any ops Q d L a w:=by
 have b:∀ (L:Array Bool),L.size=ops.size->(∀j,j<ops.size->(L.getD j false=true↔j<ops.size))->Region.ready .any ops L=[]:=by
  intro L s l;rw[pf];intro i H;rw[mf]at H;obtain⟨q,o,I,_⟩:=H;have f:=(eu.1 I).1;have m:=(l i f).2 f;simp only[dg]at q m;rw[ba (by omega)]at q m
  simp only[ec]at q m;rw[q]at m;cases m
 intro d
 induction d with
 |zero=>
  intro i L a w U J H s l h;have e:i=ops.size:=by omega
  subst e;refine⟨b L s l,?_⟩;rw[lu (by simp)]at h
  exact h
 |succ d V=>
  intro i L a w U J H s l h;rcases bh i ops.size with f|Y
  .have I:ops[i]? =some ops[i]:=ba f;have K:ops.toList[i]? =some ops[i]:=by simp
   have g:∀e∈ops[i].after,Region.binds .any e=true->e.on<i:=fun e t p=>by
    have:=dZ ops.toList 0 v i _ K e t p;omega
   have M:L.getD i true=false:=by
    have:=(l i f);cases p:L.getD i false with
    |true=>exact absurd (this.1 p) (pn _)
    |false=>
     simp only[dg]at p ⊢;rw[ba (by omega)]at p ⊢
     simpa using p
   have r:i∈Region.ready .any ops L:=mf.2 ⟨M,_,I,fun e t p=>(l _ (by have:=g e t p;omega)).2 (g e t p)⟩
   refine⟨fun Z=>(by rw[Z]at r;cases r),fun j x=>?_⟩
   have y:j=i:=by
    rw[mf]at x;obtain⟨q,o,z,A⟩:=x;have C:=(eu.1 z).1;have y:i<=j:=by
     rcases bh j i with u|u
     .have m:=(l j C).2 u;simp only[dg]at q m;rw[ba (by omega)]at q m
      simp only[ec]at q m;rw[q]at m;cases m
     .exact u
    rcases bh i j with u|u
    .have N:Bi ops.toList (fun k=>L.getD k false=true):=by
      intro k ok O E e t p;have G:k<ops.size:=by simpa using aO E
      have h3:=(l k G).1 O;have h4:=dZ ops.toList 0 v k _ E e t p;exact(l _ (by omega)).2 (by omega)
     have:=T.chain _ N j o (by omega) z A i u
     exact absurd ((l i f).1 this) (pn _)
    .omega
   subst y;rw[ia (by simpa using f)]at h
   simp only[wpListIn,sa]at h;unfold wpOpIn;rw[I];have next:∀a w,wpListIn F n P ops Q (ops.toList.drop (j+1)) a w->wpAnyIn F n P .any ops Q d (L.setIfInBounds j true) a w:=fun a w h=>by
    refine V (j+1) _ a w (by omega) (by omega) (by omega) (by simpa using s) (fun k O=>?_) h
    by_cases e:j=k
    .subst e;constructor
     .intro _;omega
     .intro _;simp[s,f]
    .rw[oc false e];have:=l k O;constructor
     .intro h;have:=this.1 h;omega
     .intro h;exact this.2 (by omega)
   simp only;split
   .rename_i R;rw[aj R]at h;exact Oper.wpIn_mono next h
   .rename_i R;rw[ai R]at h;exact⟨h.1,next _ _ h.2⟩
  .have e:i=ops.size:=by omega
   subst e;rw[lu (by simp)]at h
   refine⟨fun _=>h,fun j x=>?_⟩
   rw[b L s l]at x;cases x
theorem RV{c i:Nat}(h:i<c):(V8 ops c)[i]? =ops[i]? :=by
 unfold V8;rw[ov,ny,aj h,jb]
theorem Aa{c:Nat}(h:c<=ops.size):(V8 ops c).size=c:=by
 simp[V8,lv h]
theorem Ul{c:Nat}(s:RU ops c)(H:nP ops.toList 0=true)(U:R3 (V8 ops c)=true):∀ (b:Nat) (d L:Array Bool) (a:Act) (w:World),d.size=c->L.size=ops.size->(∀j,j<c->L.getD j false=d.getD j false)->(∀j,c<=j->L.getD j false=false)->
  Bi ops.toList (fun j=>L.getD j false=true)->
  wpAnyIn F n P .any (V8 ops c) (zZ F n P ops Q (ops.toList.drop c)) b d a w->wpAnyIn F n P .any ops Q (b+(ops.size- c)) L a w:=by
 have done:∀ (b:Nat) (d L:Array Bool) (a:Act) (w:World),ops.size- c<=b->d.size=c->L.size=ops.size->(∀j,j<c->L.getD j false=d.getD j false)->(∀j,c<=j->L.getD j false=false)->Region.ready .any (V8 ops c) d=[]->
   wpListIn F n P ops Q (ops.toList.drop c) a w->wpAnyIn F n P .any ops Q b L a w:=by
  intro b d L a w hf f g t E I h;have y:=Fi U (L:=d) (by rw[f,Aa s.le]) I
  rw[Aa s.le]at y;refine PS s H b c L a w hf (aw _) s.le g (fun j u=>⟨fun h=>?_,fun h=>?_⟩) h
  .rcases bh j c with A|A
   .exact A
   .rw[E j A]at h;cases h
  .rw[t j h];exact y j h
 intro b
 induction b with
 |zero=>
  intro d L a w f g t E _ h;exact done _ d L a w (by omega) f g t E h.1 h.2
 |succ b ih=>
  intro d L a w f g t E J h;by_cases I:Region.ready .any (V8 ops c) d=[]
  .exact done _ d L a w (by omega) f g t E I (h.1 I)
  .have e:b+1+(ops.size- c)=(b+(ops.size- c))+1:=by omega
   rw[e];obtain⟨R,K⟩:=List.exists_mem_of_ne_nil _ I;have m:∀ (i:Nat) (o:Oper),ops[i]? =some o->∀e∈o.after,Region.binds .any e=true->e.on<i:=fun i o l e q r=>by
    have:=dZ ops.toList 0 H i o (by simpa using l) e q r
    omega
   have un:∀j,j<c->(d.getD j true=false↔L.getD j true=false):=fun j u=>by
    have:=t j u;have V:=s.le;simp only[dg]at this ⊢;rw[ba (by omega),ba (by omega)]at this ⊢
    simp only[ec]at this ⊢;rw[this]
   have M:=mf.1 K;obtain⟨Y,o0,Z,_⟩:=M;have z:R<c:=by
    have:=(eu.1 Z).1;rwa [Aa s.le]at this
   have N:∀j,j<c->(j∈Region.ready .any (V8 ops c) d↔j∈Region.ready .any ops L):=fun j u=>by
    rw[mf,mf,un j u,RV u];constructor
    .rintro⟨g1,o,l,g2⟩;refine⟨g1,o,l,fun e q r=>?_⟩
     rw[t e.on (by have:=m j o l e q r;omega)]
     exact g2 e q r
    .rintro⟨g1,o,l,g2⟩;refine⟨g1,o,l,fun e q r=>?_⟩
     rw[<-t e.on (by have:=m j o l e q r;omega)]
     exact g2 e q r
   refine⟨fun hr2=>?_,fun j u=>?_⟩
   .have:=(N R z).1 K;rw[hr2]at this;cases this
   .have v:j<c:=by
     rcases bh j c with A|A
     .exact A
     .exfalso;obtain⟨_,o,l,p⟩:=mf.1 u;have:=s.chain _ J j o A l p R (by omega)
      have T:=(un R z).1 Y;have V:=s.le;simp only[dg]at this T;rw[ba (by omega)]at this T
      simp only[ec]at this T;rw[T]at this;cases this
    have hjr:=(N j v).2 u;have x:=h.2 j hjr;obtain⟨_,o,l,p⟩:=mf.1 u;have hjs:=(eu.1 l).1;have next:∀a w,wpAnyIn F n P .any (V8 ops c) (zZ F n P ops Q (ops.toList.drop c)) b (d.setIfInBounds j true) a w->wpAnyIn F n P .any ops Q (b+(ops.size- c)) (L.setIfInBounds j true) a w:=fun a w h=>by
     refine ih _ _ a w (by simpa using f) (by simpa using g) (fun k G=>?_) (fun k G=>?_) ?_ h
     .by_cases e:j=k
      .subst e;simp[f,g,v,hjs]
      .rw[oc false e,oc false e];exact t k G
     .rw[oc false (by omega)];exact E k G
     .intro k ok G O e q r;by_cases ek:j=k
      .subst ek;have:ok=o:=by
        have h3:ops[j]? =some ok:=by simpa using O
        rw[l]at h3;exact(cz h3).symm
       subst this;exact getD_set_true (p e q r)
      .simp only[oc false ek]at G;exact getD_set_true (J k ok G O e q r)
    unfold wpOpIn at x ⊢;rw[RV v,l]at x;rw[l];simp only at x ⊢;rw[PQ (s.guards j o v l)]at x;split
    .rename_i C;rw[aj C]at x;exact vF next x
    .rename_i C;rw[ai C]at x;exact⟨x.1,next _ _ x.2⟩
end
section
variable {X:fW} {B:Option Nat} {ro:Option Nat} {Γ:Env} {P:Program} {ops:Array Oper} {n:Nat} {S:Nat->SS} {D:List L7}
theorem a4m{F:Nat->Prop}{K:b8}{H:Nat->Option Hd}{Q:Exit->Act->World->Prop}{id c:Nat}{a:Act}{w:World}(I:X.Ok)(J:P.follows .mixedOrders=true)(L:Good P Γ)(z:RU ops c)(s:R3 ops=true)(A:O2 Γ P (V8 ops c) n (V8 ops c).toList S D)(e:R3 (V8 ops c)=true)(l:cH (V8 ops c) D=true)
  (C:St X B F n K H (S 0).T (S 0).m a w)(M:∀r,(S 0).nx<=r->H r=none)(N:∀x w',LU X B F n K w (S (V8 ops c).toList.length) x w'->wpListIn (Wd ro) 0 P ops Q (ops.toList.drop c) x w'):(Code.region id ops true).wpIn (Wd ro) 0 P Q a w:=by
 refine wpIn_region_any J ?_;have b:∀ (k j:Nat),(Array.replicate k false).getD j false=false:=fun k j=>by
  simp only[dg];rcases bh j k with p|p
  .rw[ba (by simpa using p)];simp
  .rw[fb (by simpa using p)];rfl
 have u:nP ops.toList 0=true:=by
  simp only[R3,ah]at s;exact s.1
 have E:ops.size=c+(ops.size- c):=by have:=z.le;omega
 have f:wpAnyIn (Wd ro) 0 P .any ops Q (c+(ops.size- c)) (Array.replicate ops.size false) a {w with drawn:=w.drawn+1}:=by
  refine Ul z u e c (Array.replicate c false) _ a _ (by simp) (by simp) (fun j _=>by rw[b,b]) (fun j _=>b _ j) (fun i o h=>by simp only[b]at h;cases h) ?_
  have q:=Aa (ops:=ops) z.le;have O:(V8 ops c).toList.length=c:=by rw[bp,q]
  refine Cp I L A e l c (List.range c) _ K H (S 0).T (S 0).m a _ (by simp[q]) (by simp) (fun j y _=>by rw[q]at y;simpa using y) ⟨?_,?_,?_,?_⟩ (C.drawn I _ (lf _)) ?_
  .intro i t R v g;have:=A.yR (t:=t) i 0 (by omega) (fun j o _ y U hd=>by
    have:=v j o (by omega) U hd
    rw[b]at this
    cases this)
   rw[bz]at this;exact this.symm
  .intro i r R v g;have:=A.yS (r:=r) i 0 (by omega) (fun j d _ y hd G=>by
    have:=v j d (by omega) hd G
    rw[b]at this
    cases this)
   rw[bz]at this;exact this.symm
  .intro i o h;simp only[b]at h;cases h
  .intro r G;rcases bh r (S 0).nx with p|p
   .exact .inl p
   .exact absurd (M r p) G
  .intro x w' h;refine N x w' ?_;obtain⟨v,g⟩:=h;exact⟨v,⟨g.os,g.tape,g.output,g.size,g.block,ew (lf _) g.drawn⟩⟩
 rw[<-E]at f;exact f
end
end Go.Abs
end
section
namespace Go.Abs
theorem RW:∀ (l:List Nat) (r k:Nat),r∈l->∃i,idx l r k=some i
 |[],_,_,h=>by simp at h
 |a::l,r,k,h=>by
  simp only[idx];split
  .exact⟨_,rfl⟩
  .rename_i b;exact RW l r (k+1) ((av.1 h).resolve_left (qy b))
theorem Xv{L:List Nat}{r i nx:Nat}(h:idx L r 0=some i):K7 L nx i=r:=by
 obtain⟨_,a⟩:=Fj L r 0 i h;rw[kl]at a;obtain⟨b,e⟩:=ja.1 a;unfold K7;rw[aj b,cw,a];rfl
theorem Ab:∀ (l b:List Nat) (x:Nat),x∈b->x∈uniq l b
 |[],_,_,h=>h
 |a::l,b,x,h=>by
  unfold uniq;split
  .exact Ab l b x h
  .exact Ab l _ x (ej _ h)
theorem FY(M:Mm):∀ (d:Nat) (l:List Nat) (x:Nat),x∈l->x∈bE M d l
 |0,_,_,h=>h
 |d+1,l,x,h=>FY M d _ x (Ab _ l x h)
theorem Ac{M a:Mm}:∀ (d:Nat) (l:List Nat),(∀r∈bE M d l,a r=M r)->bE a d l=bE M d l
 |0,_,_=>rfl
 |d+1,l,h=>by
  unfold bE at h ⊢;have e:l.map (nO a)=l.map (nO M):=by
   refine jn fun r b=>?_
   unfold nO;rw[h r (FY M d _ r (Ab _ l r b))]
  rw[e];exact Ac d _ h
theorem Ku{M a:Mm}{vs:List a7}(h:∀r∈Q2 M vs,a r=M r):Q2 a vs=Q2 M vs:=Ac 6 _ h
theorem rU{M b:Mm}{L:List Nat}:∀ (a:List Nat),(∀r∈a,b r=M r)->M8 b L a=M8 M L a
 |[],_=>rfl
 |r::a,h=>by
  simp only[M8];rw[h r (ar ..),rU a fun x c=>h x (al _ c)]
theorem vG{M b:Mm}:∀ (a:List Nat),(∀r∈a,b r=M r)->T4 b a=T4 M a
 |[],_=>rfl
 |r::a,h=>by
  simp only[T4];rw[h r (ar ..),vG a fun x c=>h x (al _ c)]
theorem Ad{M:Mm}{L:List Nat}:∀ (b:List Nat) (cs:List c7),M8 M L b=some cs->∀r∈b,∃c,M r=some (c,.own)
 |[],_,_,r,h=>by simp at h
 |a::b,cs,h,r,d=>by
  simp only[M8]at h;split at h
  .rename_i c g;split at h
   .rename_i e f;rcases av.1 d with rfl|d
    .exact⟨c,g⟩
    .exact Ad b e f r d
   .cases h
  .cases h
theorem Ir:∀ (L:List Nat) (m m0:Mm),(∀r,m r=m0 r)->(∀r∈L,∃c,m0 r=some (c,.own))->iN m (iO (uH L (T4 m0 L)))=m0
 |[],m,m0,h,_=>funext h
 |r::L,m,m0,h,a=>by
  obtain⟨c,b⟩:=a r (ar ..);have e:T4 m0 (r::L)=c::T4 m0 L:=by simp only[T4,b]
  rw[e];simp only[uH,iO,iN];refine Ir L _ m0 (fun x=>?_) (fun x d=>a x (al _ d))
  unfold N9;split
  .rename_i e;subst e;exact b.symm
  .exact h x
section
variable {P:Program} {Γ:Env}
theorem PT{L:List Nat}{nx:Nat}{v:a7}(h:Vs L v=true):(v.eF L).V4 (K7 L nx)=v:=by
 cases v
 case bool=>rfl
 case int=>rfl
 case sub r lo len f=>
  have b:r∈L:=by simpa [Vs]using h
  obtain⟨i,a⟩:=RW L r 0 b;simp only[a7.eF,a,a7.V4];rw[Xv a]
 all_goals exact absurd h Bool.false_ne_true
theorem CF{L:List Nat}{nx:Nat}:∀ {vs:List a7},Ju L vs=true->fH (K7 L nx) (L5 L vs)=vs
 |[],_=>rfl
 |v::vs,h=>by
  simp only[Ju,ah]at h;simp only[L5,fH];rw[PT h.1,CF h.2]
theorem PU{L:List Nat}{nx:Nat}{c:c7}(h:Vt L c=true):(c.eF L).V4 (K7 L nx)=c:=by
 cases c
 case box cells=>
  show c7.box (fH (K7 L nx) (L5 L cells))=_;rw[CF (by simpa [Vt]using h)]
 case sl=>rfl
 case mp=>rfl
 all_goals exact absurd h Bool.false_ne_true
theorem Is{m:Mm}{L:List Nat}{nx:Nat}:∀ (a:List Nat) (cs:List c7),M8 m L a=some cs->Jv L (T4 m a)=true->cR (K7 L nx) cs=T4 m a
 |[],cs,h,_=>by simp only[M8,ae]at h;subst h;rfl
 |r::a,cs,h,d=>by
  simp only[M8]at h;split at h
  .rename_i c f;split at h
   .rename_i b e;simp only[ae]at h;subst h;simp only[T4,f,Jv,ah]at d ⊢;show(c.eF L).V4 (K7 L nx)::cR (K7 L nx) b=_;rw[PU d.1,Is a b e d.2]
   .cases h
  .cases h
theorem Bv(X:Good P Γ):tN Γ P:=by
 intro o T nx m v rd h;unfold HT at h;split at h
 rotate_left
 .exact h.elim
 rename_i c C;split at h
 rotate_left
 .exact h.elim
 rename_i g Y;split at h
 rotate_left
 .exact h.elim
 rename_i f first cap E
 unfold Ec at h;split at h
 rotate_left
 .exact h.elim
 rename_i G p;split at h
 rotate_left
 .exact h.elim
 rename_i cs I d;split at h
 rotate_left
 .exact h.elim
 rename_i s;refine⟨fun c' e=>(by rw[C]at e;cases e),fun D m' hT j F K H w a J hm u G2=>?_⟩
 have y:∀x∈o.op.operands.toList,Dk D x=Dk T x:=by
  intro x M;cases x with
  |tmp t=>exact hT t M
  |_=>rfl
 have N:g∈o.op.operands.toList:=by rw[C];simp[Op.operands,Call.operands,Y]
 have O:c.args.toList.map (Dk D)=c.args.toList.map (Dk T):=by
  refine jn fun x M=>y x ?_
  rw[C];simp only[Op.operands,Call.operands];rw[fj];exact dz _ M
 have R:Dk D g=.fn (.func f) first cap:=by rw[y g N,E]
 generalize Z:Q2 m (first++I7 P c.argTypes.toList (c.args.toList.map (Dk T))++cap)=L at h d s
 obtain⟨k,l⟩:=h;have z:=Ad L cs d;have A:rd=L:=by
  obtain⟨v0,n,hd⟩:=(G.res (L5 L (first++I7 P c.argTypes.toList (c.args.toList.map (Dk T))++cap)) cs).det
  exact((hd _).1 l).2.symm
 subst A;have S:Q2 m' (first++I7 P c.argTypes.toList (c.args.toList.map (Dk T))++cap)=rd:=by
  rw[Ku (by rw[Z];exact j),Z]
 have key:bJ P F K H w m' nx (fun q=>q=⟨v,uH rd (T4 m' rd),[],[]⟩) ((execOp a.eval o).run P w):=by
  have U:∀x,b9 K H (Dk D x) (a.eval x):=by
   intro x;cases x with
   |tmp t=>exact u t
   |const v=>exact EF v
   |global g=>simp[Dk,b9]
   |func f=>simp[Dk,b9,Act.eval,c6]
  refine Ct J hm U (fun q e i hi=>by subst e;simp at hi) X o C Y R ?_
  unfold sT;rw[p];simp only;rw[O,S,rU rd j,d];refine⟨k,?_⟩;obtain⟨v0,n,hd⟩:=(G.res (L5 rd (first++I7 P c.argTypes.toList (c.args.toList.map (Dk T))++cap)) cs).det
  refine(hd _).2 ?_;have h1:=(hd _).1 (X.pure f G p I _ cs k);obtain⟨h3,-⟩:=(hd _).1 l;subst h1;have h2:=Is (nx:=nx) rd _ d s;have B:n.length=rd.length:=(bV _ _ d).1;rw[h2,h3,vG rd j];rw[<-B,qu];rfl
 have hq:(⟨v,uH rd (T4 m' rd),[],[]⟩:XQ).mm nx m'=m':=by
  unfold XQ.mm;show iN m' (iO (uH rd (T4 m' rd)))=m';exact Ir rd m' m' (fun _=>rfl) (fun r hr=>by rw[j r hr];exact z r hr)
 have conv:∀x w' K' H',eR F K H w m' nx ⟨v,uH rd (T4 m' rd),[],[]⟩ x w' K' H'->Bh F K H w m' nx v [] [] x w' K' H':=fun x w' K' H' b=>
  ⟨b.le,b.hle,b.K8,b.rep,by have:=b.mem;rw[hq]at this;exact this,b.ok,b.kept,b.fix⟩
 generalize (execOp a.eval o).run P w=r at key ⊢;cases r with
 |ok x w'=>
  cases x<;>simp only[bJ]at key<;>simp only[Fa]<;>try exact key.elim
  case value x=>
   obtain⟨q,K',H',e,b⟩:=key;subst e;exact⟨K',H',conv _ _ _ _ b⟩
  case enter f' args=>
   obtain⟨rfl,V⟩:=key;refine⟨rfl,V.mono fun e w'' he=>?_⟩
   obtain⟨x,q,K',H',rfl,e',b⟩:=he;subst e';exact⟨x,K',H',rfl,conv _ _ _ _ b⟩
 |halt x w'=>simp only[bJ]at key
end
end Go.Abs
end
section
namespace Go.Abs
def E8.out:E8->Exit
 |.normal=>.normal
 |.exit id=>.exit id
 |.ret=>.ret
def E8.code:E8->Code
 |.normal=>.skip
 |.exit id=>.exit id
 |.ret=>.ret
structure gD(X:Ctx)(B:Option Nat)(F0 F:Nat->Prop)(n:Nat)(K:b8)(w:World)(st:j7)(a':Act)(w':World):Prop where
 st:∃F' K' H',(∀b,F b->F' b)/\St (X.O4 st.gh st.o7) B F' n K' H' st.s6.T st.s6.m a' w'/\K.le K'/\(∀r,st.nx<=r->H' r=none)/\Fix F0 K K'
 kept:Kept F0 w w'
theorem gD.trans{X:Ctx}{B:Option Nat}{F0 F f:Nat->Prop}{n:Nat}{K K1:b8}{w i w2:World}{j:j7}{k:Act}(h:gD X B F0 f n K1 i j k w2)(l:∀b,F b->f b)(m:K.le K1)(o:Fix F0 K K1)(p:Kept F0 w i):gD X B F0 F n K w j k w2:=by
 obtain⟨⟨q,K',H',g,a,b,c,d⟩,e⟩:=h;exact⟨⟨q,K',H',fun b r=>g b (l b r),a,m.trans b,c,o.trans d⟩,p.trans e⟩
theorem gD.a0X{X:Ctx}{B:Option Nat}{F0 F:Nat->Prop}{n:Nat}{K:b8}{w w':World}{g f:j7}{i:Act}(h:LU (X.O4 g.gh g.o7) B F n K w f.s6 i w')(k:f.gh=g.gh)(l:f.o7=g.o7)(j:∀b,F0 b->F b):gD X B F0 F n K w f i w':=by
 obtain⟨⟨K',H',a,b,c,d⟩,e⟩:=h;exact⟨⟨F,K',H',fun _ m=>m,by rw[k,l];exact a,b,c,d.less j⟩,e.less j⟩
theorem bW{X:Ctx}{B:Option Nat}{F0 F:Nat->Prop}{n:Nat}{K:b8}{H:Nat->Option Hd}{w:World}{b:j7}{a:Act}(h:St (X.O4 b.gh b.o7) B F n K H b.s6.T b.s6.m a w)(c:∀r,b.nx<=r->H r=none):gD X B F0 F n K w b a w:=
 ⟨⟨F,K,H,fun _ h=>h,h,.refl K,c,.refl F0 K⟩,.refl F0 w⟩
def Kv(P:Program)(X:Ctx)(F0:Nat->Prop)(l:Nat)(h:Hand):Prop:=
 ∀ (n:Nat) (args:List a7) (i:j7) (kk:Bool->j7->Prop) (F:Nat->Prop) (K:b8) (H:Nat->Option Hd) (a:Act) (w:World) (vs:List Value),h args i kk->i.n=n->(∀b,F0 b->F b)->K.y=some l->
  St (X.O4 i.gh i.o7) none F n K H i.s6.T i.s6.m a w->(∀r,i.nx<=r->H r=none)->c6 K H args vs->
  ∃f d c g,(Instr.yield l vs.toArray).run P w=.ok (.round l f d c g) w/\
   RoundIn (Wd none) 0 P l f d c g w (fun e w'=>∃b j,e=.returned (.bool b)/\kk b j/\j.n=n/\gD X none F0 F n K w j a w')
def YOk(P:Program)(X:Ctx)(B:Option Nat)(F0:Nat->Prop)(ro yl:Option Nat):Option Hand->Prop
 |none=>True
 |some h=>B=none/\ro=none/\∃l,yl=some l/\Kv P X F0 l h
def a69(P:Program)(X:Ctx)(B:Option Nat)(F0:Nat->Prop)(ro yl:Option Nat)(Y:Ca):Prop:=
 YOk P X B F0 ro yl Y.hand/\(Y.flat=true->ro=none)
def Sound(P:Program)(X:Ctx)(B:Option Nat)(F0:Nat->Prop)(ro yl:Option Nat)(n:Nat)(J:j7->(E8->j7->Prop)->Prop)(c:Code):Prop:=
 ∀ (d:j7) (k:E8->j7->Prop) (F:Nat->Prop) (K:b8) (H:Nat->Option Hd) (a:Act) (w:World) (Q:Exit->Act->World->Prop),J d k->d.n=n->(∀b,F0 b->F b)->(∀l,yl=some l->K.y=some l)->
  St (X.O4 d.gh d.o7) B F n K H d.s6.T d.s6.m a w->(∀r,d.nx<=r->H r=none)->
  (∀e f g w',k e f->f.n=n->gD X B F0 F n K w f g w'->Q e.out g w')->c.wpIn (Wd ro) 0 P Q a w
def eT(X:Ctx)(ro:Option Nat):Prop:=∀l,ro=some l->∀F K H a p w,X F K H a p w->∃r,w.heap[l]? =some (.loop r)
section
variable {Γ:Env} {P:Program}
theorem FZ{op:Op}{ev:Operand->a7}{args:List a7}(h:lS P op ev=some args):∃c g,op=.call c/\c.callee=.value g/\ev g=.J7/\args=I7 P c.argTypes.toList (c.args.toList.map ev):=by
 unfold lS at h;split at h
 .rename_i c;split at h
  .rename_i g a;split at h
   .rename_i b;exact⟨c,g,rfl,a,b,(cz h).symm⟩
   .cases h
  .cases h
 .cases h
theorem Ga{ρ:Operand->Value}{o:Oper}{c:Call}{g:Operand}{l:Nat}{w:World}(a:o.op=.call c)(b:c.callee=.value g)(d:ρ g=.func (.yield l) #[] #[]):
  (execOp ρ o).run P w=(Instr.yield l (c.args.map ρ)).run P w:=by
 simp[execOp,a,resolve,b,d,go_sem]
theorem N1{n:Nat}:∀ {ops:List Oper},w7 n ops=true->∀ (j:Nat) (d:Tmp),(ops[j]?).bind (·.dst)=some d->d<n
 |[],_,j,d,h=>by simp at h
 |o::b,h,j,d,a=>by
  simp only[w7,ah]at h;cases j with
  |zero=>
   simp only[dh,gx]at a;have:=h.1;rw[a]at this;simpa [S7]using this
  |succ j=>exact N1 h.2 j d (by simpa using a)
variable {X:Ctx} {B:Option Nat} {F0:Nat->Prop} {ro yl:Option Nat} {n:Nat} {Y:Option Hand}
theorem Xw(q:XQ)(n:Nat)(M:Mem):l9 (q.ml n M)=q.mm n (l9 M):=by
 rw[XQ.ml,XQ.mm,Bf,Bg,kQ]
theorem tX{all:Array Oper}{xm:Nat}{Q:Exit->Act->World->Prop}(hX:X.Ok)(hG:Good P Γ)(hY:YOk P X B F0 ro yl Y)(G:∀ (j:Nat) (d:Tmp),(all[j]?).bind (·.dst)=some d->d<n):
  ∀ (ops:List Oper) (s:j7) (tr:List L7) (k:j7->List L7->Prop) (F:Nat->Prop) (K:b8) (H:Nat->Option Hd) (a:Act) (w:World),dM Γ Y xm P all ops s tr k->s.n=n->(∀b,F0 b->F b)->(∀l,yl=some l->K.y=some l)->
   St (X.O4 s.gh s.o7) B F n K H s.s6.T s.s6.m a w->(∀r,s.nx<=r->H r=none)->
   (∀A tr' a' w',k A tr'->A.n=n->gD X B F0 F n K w A a' w'->Q .normal a' w')->wpListIn (Wd ro) 0 P all Q ops a w
 |[],s,tr,k,F,K,H,a,w,h,hn,hF,hy,I,J,hQ=>hQ s tr a w h hn (bW I J)
 |o::ops,s,tr,k,F,K,H,a,w,h,hn,hF,hy,I,J,hQ=>by
  have vH:∀ (j:Nat) (d:Tmp),(all[j]?).bind (·.dst)=some d->d<a.tmps.size:=fun j d h=>cc (G j d h) I.size
  have go:∀ (u:j7) (d:L7) (z:List L7),U2 Γ P all n o s.s6 d u.s6->u.n=n->u.gh=s.gh->u.o7=s.o7->dM Γ Y xm P all ops u z k->wpListIn (Wd ro) 0 P all Q (o::ops) a w:=by
   intro u d z hs MZ hg1 hp1 E;refine Wx (ro:=ro) (hX.grow s.gh s.o7) hG I hs G (fun i _=>J _ (by show s.nx<=_;exact Nat.le_add_right _ _)) (fun a' w' hD=>?_)
   obtain⟨⟨K',H',D,hK,hH,K8,Q7⟩,L⟩:=hD;rw[<-hs.T,<-hs.m,<-hg1,<-hp1]at D;refine tX hX hG hY G ops u z k F K' H' a' w' E MZ hF (fun l e=>hK.y l (hy l e)) D (fun r hr=>?_) (fun kC tr2 a2 w2 jS Xx kX=>hQ kC tr2 a2 w2 jS Xx (kX.trans (fun _ h=>h) hK (Q7.less hF) (L.less hF)))
   have e:u.nx=s.nx+d.size:=hs.nx;cases hH':H' r with
   |none=>rfl
   |some x=>
    have E:=J r (by omega)
    have U:=K8 r E (by rw[hH'];simp)
    have Z:s.s6.nx=s.nx:=rfl;omega
  have yi:∀ (p:j7) (args:List a7) (C:Hand) (z:List L7),p.n=n->p.nx=s.nx->St (X.O4 p.gh p.o7) B F n K H p.s6.T p.s6.m a w->z9 all o (u9 p.tmps) true->S7 p.n o.dst=true->lS P o.op (Hg p.tmps)=some args->Y=some C->
    C args p (fun b A=>dM Γ Y xm P all ops {A with tmps:=gF o.dst (.bool b) A.tmps} z k)->wpListIn (Wd ro) 0 P all Q (o::ops) a w:=by
   intro p args C z ZI ZK t hg hd ha hYe hh;have hY0:=hY;rw[hYe]at hY;obtain⟨hB,lO,l,hl,Xy⟩:=hY;have hKy:=hy l hl;obtain⟨c,g,ho,hc,hgv,rfl⟩:=FZ ha;have n6:=t.ev;have hg':=n6 g;rw[<-show Hg p.tmps=Dk p.s6.T from qZ _,hgv]at hg';simp only[b9]at hg';obtain⟨l',e1,e2⟩:=hg';rw[hKy]at e1;cases e1;have yJ:c6 K H (I7 P c.argTypes.toList (c.args.toList.map (Hg p.tmps))) (c.args.toList.map a.eval):=
    cK P c.argTypes.toList _ _ (fQ (fun x=>by rw[qZ];exact n6 x) c.args.toList)
   have R:=t;rw[hB]at R;obtain⟨f,tmps,assign,body,gI,Gb⟩:=Xy n _ p _ F K H a w _ hh ZI hF hKy R (fun r hr=>J r (by omega)) yJ
   simp only[wpListIn];rw[M5 t vH hg,aj rfl];refine⟨fun f _=>bU ro f,?_⟩
   have Ae:(execOp a.eval o).run P w=.ok (.round l f tmps assign body) w:=by
    rw[Ga ho hc e2,<-gI];congr 2;apply ln;simp
   have C:∀c,o.op≠ .defer c:=fun c e=>by rw[ho]at e;cases e
   rw[gu _ _ _ C,Ae];refine⟨mI ro,?_⟩;rw[lO];refine Gb.mono (fun e w' he=>?_)
   obtain⟨b,A,rfl,hk,hn',ht⟩:=he;show wpListIn (Wd none) 0 P all Q ops (a.put o.dst (.bool b)) w';obtain⟨⟨F',K',H',jT,D,hK,wR,Q7⟩,L⟩:=ht;have aT:St (X.O4 A.gh A.o7) none F' n K' H' (u9 (gF o.dst (.bool b) A.tmps)) A.s6.m (a.put o.dst (.bool b)) w':=by
    rw[dX];exact D.put (by rw[<-ZI];exact hd) (hX.grow _ _) (.refl K') (.refl H') (.refl F' w') D.ok D.mem (by simp[b9])
   rw[<-hB]at aT;rw[<-lO];exact tX hX hG hY0 G ops _ z k F' K' H' (a.put o.dst (.bool b)) w' hk hn' (fun b hb=>jT b (hF b hb)) (fun l e=>hK.y l (hy l e)) aT wR
    (fun kC tr2 a2 w2 jS Xx kX=>hQ kC tr2 a2 w2 jS Xx (kX.trans jT hK Q7 L))
  have xo:∀ (p:j7) (z:List L7),p.n=n->p.nx=s.nx->St (X.O4 p.gh p.o7) B F n K H p.s6.T p.s6.m a w->z9 all o (u9 p.tmps) true->S7 p.n o.dst=true->isX Γ P xm o.op (Hg p.tmps)=true->
    Vv Γ P o (Hg p.tmps) p.nx (l9 p.M) (fun q=>dM Γ Y xm P all ops {p with tmps:=gF o.dst q.val p.tmps,nx:=p.nx+q.new.length,M:=q.ml p.nx p.M} z k)->wpListIn (Wd ro) 0 P all Q (o::ops) a w:=by
   intro p z ZI ZK t hg hd S hx;have n6:∀x,b9 K H (Hg p.tmps x) (a.eval x):=fun x=>by
    have:=t.ev x;rw[show Dk p.s6.T=Hg p.tmps from(qZ _).symm]at this;exact this
   have V:=Pj (ρ:=a.eval) t.ok t.mem n6 (fun q _ i hi=>J _ (by omega)) hG o hx
   have C:∀c,o.op≠ .defer c:=fun c e=>by
    rw[e]at S;unfold isX at S;split at S<;>simp at S
   simp only[wpListIn];rw[M5 t vH hg,aj rfl];refine⟨fun f _=>bU ro f,?_⟩
   rw[gu _ _ _ C];have fin:∀q v w' K' H',dM Γ Y xm P all ops {p with tmps:=gF o.dst q.val p.tmps,nx:=p.nx+q.new.length,M:=q.ml p.nx p.M} z k->eR F K H w (l9 p.M) p.nx q v w' K' H'->wpListIn (Wd ro) 0 P all Q ops (a.put o.dst v) w':=by
    intro q v w' K' H' hk N;have R:St (X.O4 p.gh p.o7) B F n K' H' (u9 (gF o.dst q.val p.tmps)) (l9 (q.ml p.nx p.M)) (a.put o.dst v) w':=by
     rw[dX,Xw];exact t.put (by rw[<-ZI];exact hd) (hX.grow _ _) N.le N.hle N.kept N.ok N.mem N.rep
    refine tX hX hG hY G ops _ z k F K' H' (a.put o.dst v) w' hk ZI hF (fun l e=>N.le.y l (hy l e)) R (fun r hr=>?_) (fun kC tr2 a2 w2 jS Xx kX=>hQ kC tr2 a2 w2 jS Xx (kX.trans (fun _ h=>h) N.le (N.fix.less hF) (N.kept.less hF)))
    have hr':p.nx+q.new.length<=r:=hr;cases hH':H' r with
    |none=>rfl
    |some x=>
     have E:=J r (by omega)
     have U:=N.K8 r E (by rw[hH'];simp)
     omega
   generalize hr:(execOp a.eval o).run P w=rr at V ⊢;cases rr with
   |ok x w'=>
    cases x<;>simp only[bJ]at V<;>simp only[Oper.uponIn]<;>try exact V.elim
    case value v=>
     obtain⟨q,K',H',hk,N⟩:=V;exact fin q v w' K' H' hk N
    case enter f args=>
     obtain⟨rfl,hc⟩:=V;refine⟨mI ro,wF ro _ (hc.mono fun e w'' he=>?_)⟩
     obtain⟨v,q,K',H',rfl,hk,N⟩:=he;exact fin q v w'' K' H' hk N
   |halt x w'=>simp only[bJ]at V
  subst hn;unfold dM at h;split at h
  .rename_i hg;have O:z9 all o (u9 s.tmps) true:=by simp[z9,hg]
   rcases rA (all:=all) (Bv hG) h O with⟨d,u,E,U,Z,h4,h5⟩|⟨args,C,E,U,Z,h4⟩|⟨E,U,Z⟩
   .exact go u d _ E U Z h4 h5
   .exact yi s args C _ rfl rfl I O E U Z h4
   .exact xo s _ rfl rfl I O E U Z
  .rename_i j want hg;split at h
   .rename_i dd hdd;split at h
    .rename_i b hb;split at h
     .rename_i Kw;rw[DZ]at h;cases hbw:(b==want)with
      |true=>
       have e:b=want:=by simpa using hbw
       subst e;have es:({s with tmps:=(dd,.bool b)::s.tmps}:j7).s6=s.s6:=by
        simp only[j7.s6,tM _ _ _ hb]
       have O:z9 all o (u9 ({s with tmps:=(dd,.bool b)::s.tmps}:j7).tmps) true:=by
        simp only[z9,hg];exact⟨dd,hdd,.inl (by simp[u9])⟩
       rcases rA (all:=all) (Bv hG) (h.1 hbw) O with⟨d,u,E,U,Z,h4,h5⟩|⟨args,C,E,U,Z,h4⟩|⟨E,U,Z⟩
       .rw[es]at E;exact go u d _ E U Z h4 h5
       .exact yi {s with tmps:=(dd,.bool b)::s.tmps} args C _ rfl rfl (by rw[es];exact I) O E U Z h4
       .exact xo {s with tmps:=(dd,.bool b)::s.tmps} _ rfl rfl (by rw[es];exact I) O E U Z
      |false=>
       have e:b= !want:=by revert hbw;cases b<;>cases want<;>simp
       refine go {s with tmps:=gF o.dst (.M1 []) ((dd,.bool (!want))::s.tmps)} .skip _ ⟨Kw,?_,rfl,rfl,?_⟩ rfl rfl rfl (h.2 hbw)
       .show u9 (gF o.dst (.M1 []) ((dd,.bool (!want))::s.tmps))=O7 (u9 s.tmps) o.dst (.M1 []);rw[dX,tM _ _ _ (by rw[hb,e])]
       .simp only[z9,hg];exact⟨dd,hdd,.inl (by
         show u9 s.tmps dd=_
         rw[hb,e];simp)⟩
     .cases h
    .rename_i hb;split at h
     .rename_i Kw;refine go {s with tmps:=gF o.dst (.M1 []) s.tmps} .skip _ ⟨Kw,?_,rfl,rfl,?_⟩ rfl rfl rfl h
      .exact dX _ _ _
      .simp only[z9,hg];exact⟨dd,hdd,.inr ⟨trivial,hb⟩⟩
     .cases h
    .cases h
   .cases h
theorem Kx(x:X.Ok)(m4:P.follows .mixedOrders=true)(p:Good P Γ)(g:Nat->List Nat)(J:Iter){Y:Ca}(L:a69 P X B F0 ro yl Y)(id:Nat)(ops:Array Oper)(b:Bool)(q:Code.j5 (.region id ops b)=true):
  Sound P X B F0 ro yl n (Hi Γ P g J (.region id ops b) Y) (.region id ops b):=by
 intro y k F K H a w Q h s z M c i A;simp only[Hi]at h;split at h
 .rename_i t;have l:∀ (j:Nat) (d:Tmp),(ops[j]?).bind (·.dst)=some d->d<n:=fun j d N=>by
   rw[<-s];exact N1 t j d (by simpa using N)
  cases b with
  |true=>
   simp only[di]at h;obtain⟨S,D,e,C,O,E,R,T,G,f⟩:=Ic (Bv p) ops.toList y [] _ h;rw[s]at G E;rw[<-C]at c;have m:∀r,(S 0).nx<=r->H r=none:=fun r I=>i r (by rw[C]at I;exact I)
   simp only[bf,na]at f;split at f
   .rename_i hd;refine yT (x.grow _ _) m4 p G (by have:=q;simp[Code.j5]at this;exact this.1) hd c m (fun u w' o=>?_)
    rw[O]at o;exact A .normal e u w' f E (gD.a0X o R T z)
   .exact f.elim
  |false=>
   simp only[dq,dw]at h;exact gz (tX x p L.1 l ops.toList y [] _ F K H a w h s z M c i (fun e U u w' f v o=>A .normal e u w' f v o))
 .exact h.elim
end
end Go.Abs
end
