/- Part 2 of the road to this seat's statements: lemmas about a small interpreter over the model's code, and about the functions that it is used on. No condition of its own. -/
import Derived.Test.YtmpngboelipooaaGreatW1
set_option linter.all false
section
namespace Go.Abs
section
variable {P:Program} {F:Nat->Prop} {K:b8} {H:Nat->Option Hd} {w:World} {m:Mm} {nx:Nat} {k:Q->Prop} {ev:Operand->a7} {ρ:Operand->Value}
theorem LF(hm:l5 F K H w m)(n6:∀x,b9 K H (ev x) (ρ x)){A:b8}(p:K.le A){e:TypeId}{ty:Ty}:∀ (ps:List (Nat×Operand)) (i:Nat) (cells:List (List a7)) (B:List (Nat×p0)) (l:List ty.den) (cs:Array Value),
  bD P m ev e i ps=some (cells,B)->AB ty cells=some l->
  (∀r f hd b cs e s,(r,f)∈B->H r=some hd->hd.base=some b->w.heap[b]? =some (.cells cs e s)->A.cells b=some cs)->cs.size=(i+ps.length)*ty.size->
  ∃d rest,Instr.fill (fun i=>some (i*ty.size,ty.size)) cs (ps.map fun u=>(u.1,ρ u.2))=some d/\d.toList=cs.toList.take (i*ty.size)++rest/\B2 A ty l rest/\l.length=ps.length
 |[],i,cells,B,l,cs,c,h,_,C=>by
  simp only[bD,ae,aq]at c;obtain⟨rfl,rfl⟩:=c;simp only[AB,ae]at h;subst h;refine⟨cs,[],rfl,?_,B2.nil,rfl⟩;rw[bf,bj];simp at C ⊢;omega
 |(j,x)::ps,i,cells,B,l,cs,c,h,L,C=>by
  simp only[bD]at c;split at c
  .rename_i D;subst D;split at c
   .rename_i v Y M;split at c
    .rename_i N rest O E n;simp only[ae,aq]at c;obtain⟨rfl,rfl⟩:=c;simp only[AB]at h;split at h
     .rename_i y ys R G;cases h;have S:b9 A H v (ρ x):=(mA hm p H (.refl H) 6).1 _ _ _ _ M (fun r f hd b cs e s z=>L r f hd b cs e s (by simp[z])) (aL (P:=P) (t:=e) (n6 x))
      have I:=eN E S;have g:=lQ R I;have a:=r9.length ty _ _ g;simp only[bp]at a;have J:i*ty.size+(ρ x).cells.toList.length<=cs.size:=by
       rw[bp,a,C];simp only[bq];have:(i+1)*ty.size<=(i+(ps.length+1))*ty.size:=ay _ (by omega)
       rw[bl]at this;omega
      obtain⟨d,o,z,T,U,V⟩:=LF hm n6 p ps (i+1) rest O ys (H8 cs (i*ty.size) (ρ x).cells.toList) n G (fun r f hd b cs e s z=>L r f hd b cs e s (by simp[z]))
       (by rw[M7,C];congr 1;simp;omega)
      refine⟨d,(ρ x).cells.toList++o,?_,?_,B2.cons g U,by simp[V]⟩
      .simp only[az,Instr.fill];rw[ai ?_]
       .rw[gY];exact z
       .simp only[gp,bt,ke];refine⟨by rw[a];simp,by simp at J;omega⟩
      .rw[T,I9 cs _ _ J];have X:(i+1)*ty.size=(cs.toList.take (i*ty.size)++(ρ x).cells.toList).length:=by
        rw[bu,fw,bp,bp,a,bl,lv (by simp at J;omega)]
        omega
       rw[cn (by omega),X,la,bk]
     .cases h
    .cases c
   .cases c
  .cases c
theorem EH(hm:l5 F K H w m)(J:xL K w){t:Ty}{y:a7}{x:Value}{ys:List t.den}{L:List Nat}(h:qG m t y=some (ys,L))(a:b9 K H y x):
  ∃base cap,x=.slice base ys.length cap/\(ys=[]\/∃b off cs e d,base=some ⟨b,off,none⟩/\w.heap[b]? =some (.cells cs e d)/\cQ K t ys cs off):=by
 unfold qG at h;split at h
 .simp only[ae,aq]at h;obtain⟨rfl,rfl⟩:=h;simp only[b9]at a;exact⟨none,0,a,.inl rfl⟩
 .split at h
  .simp only[ae,aq]at h;obtain⟨rfl,rfl⟩:=h;simp only[b9]at a;exact⟨none,0,a,.inl rfl⟩
  .cases h
 .rename_i D l f;split at h
  .rename_i p;subst p;simp only[ae,aq]at h;obtain⟨rfl,rfl⟩:=h;simp only[b9]at a;obtain⟨base,cap,s,E,M,n⟩:=a;refine⟨base,cap,s,?_⟩;rcases n with n|⟨b,off,arr,n,G,c⟩
   .exact .inl n
   .obtain⟨e,d,hh⟩:=J.1 b arr G;exact .inr ⟨b,off,arr,e,d,n,hh,c⟩
  .cases h
 .rename_i r f;split at h
  .rename_i D l g j;split at h
   .rename_i p;subst p;split at h
    .cases h
    .rename_i A;simp only[ae,aq]at h;obtain⟨rfl,rfl⟩:=h;simp only[b9]at a;obtain⟨hd,B,s,E⟩:=a;have v:=hm.cont r _ g hd j A B;refine⟨hd.base.map fun b=>⟨b,0,none⟩,hd.cap,by rw[s,v.2.1],?_⟩
     obtain⟨I,N,O,o⟩:=v;rcases o with⟨o,R⟩|⟨b,cs,e,d,z,g2,S,C⟩
     .exact .inl (bw (by omega))
     .exact .inr ⟨b,0,cs,e,d,by rw[z];rfl,g2,C⟩
   .cases h
  .cases h
 .rename_i r lo len f;split at h
  .rename_i D l g j;split at h
   .rename_i p;subst p;split at h
    .cases h
    .rename_i A;simp only[ae,aq]at h;obtain⟨rfl,rfl⟩:=h;simp only[b9]at a;obtain⟨hd,cap,base,B,s,E,M,n,G,c⟩:=a;have v:=hm.cont r _ g hd j A B;obtain⟨I,N,O,o⟩:=v;have u:((l.drop lo).take len).length=len:=by simp;omega
     refine⟨base,cap,by rw[u];exact s,?_⟩
     rcases c with c|⟨b,c,T⟩
     .exact .inl (bw (by omega))
     .rcases o with⟨o,R⟩|⟨U,cs,e,d,z,g2,S,C⟩
      .rw[o]at c;cases c
      .rw[c]at z;cases z;refine .inr ⟨b,lo*hd.sz,cs,e,d,T,g2,fun i V=>?_⟩
       rw[qh,mh];have:=C (lo+i) (by omega)
       rw[bz,bl]at this;rw[I];exact this
   .cases h
  .cases h
 .cases h
theorem fT{t e ty:TypeId}(d:P.underlying t=some (.slice e)){i:TypeInfo}(f:P.info? e=some i)(b a:Option Addr)(n c c':Nat)(h:n<=c):
  (Builtin.append_ #[t,t] ty #[.slice b n c,.slice a 0 c']).run P w=.ok (.slice b n c) w:=by
 have g:∀w,(Builtin.firstCells i.size 0 (.slice a 0 c')).run P w=.ok #[] w:=by
  intro w;cases a<;>simp[Builtin.firstCells,loadCells,loadCellsFrom]
 simp only[Builtin.append_];cases b<;>simp[u7 d,M9 f,Builtin.lenOf,h,g,storeCells]
theorem LG{t e ty:TypeId}(r:P.underlying t=some (.slice e)){i:TypeInfo}(s:P.info? e=some i)(g n c:Nat)(b:Array Value)(eb:TypeId)(y:w.heap[g]? =some (.cells b eb (0,0)))
  (a:Addr)(h o:Nat)(news:List Value)(z:news.length=h*i.size)(d:∀j u,news[j]? =some u->w.cell? (a.add j)=some u)(A:∀u∈news,u.oneCell'=true)
  (f:n+h<=c)(p:n*i.size+news.length<=b.size):
  ∃w',(Builtin.append_ #[t,t] ty #[.slice (some ⟨g,0,none⟩) n c,.slice (some a) h o]).run P w=.ok (.slice (some ⟨g,0,none⟩) (n+h) c) w'/\Jo w w' g (H8 b (n*i.size) news) eb:=by
 have B:=ko (P:=P) w i.size h a h o news z d;obtain⟨w',C,D⟩:=Abs.J9 P g (n*i.size) eb news w b 0 y (by omega) (fun v E=>Dw (A v E))
 refine⟨w',?_,by simpa using D⟩
 have l:(⟨g,0,none⟩:Addr).add (n*i.size)=⟨g,n*i.size,none⟩:=by rw[H7];simp
 simp only[Builtin.append_];simp[u7 r,M9 s,Builtin.lenOf,f,B,l,C]
variable (l8:L4 F K w) (hm:l5 F K H w m) (n6:∀x,b9 K H (ev x) (ρ x)) (G2:∀q,k q->∀i,i<q.new.length->H (nx+i)=none)
include l8 hm
theorem HY(c:H nx=none)(t:Ty)(a:Bool)(f:List Nat):∃H',cV F K H w m nx (N6 nx t [] a f []) (.slice none 0 0) w K H':=by
 let hd:Hd:=⟨none,t.size,0,0⟩
 refine⟨N9 H nx hd,.refl K,M3 c,?_,?_,?_,l8,.refl F w,.refl F K⟩
 .intro r g d;by_cases e:r=nx
  .subst e;simp[N6]
  .rw[m7 _ _ _ _ e]at d;exact absurd g d
 .simp only[b9,N6];exact⟨hd,j8 _ _ _,rfl,fun _=>rfl⟩
 .exact hm.new nx c (.sl t []) hd ⟨rfl,rfl,⟨aw _,fx _⟩,.inl ⟨rfl,rfl⟩⟩ (fun b h=>by cases h)
omit l8 hm in
theorem yD{t:Ty}{ys:List t.den}{cs:Array Value}{b off:Nat}{e:TypeId}{g:Nat×Nat}(hh:w.heap[b]? =some (.cells cs e g))(f:cQ K t ys cs off)(c:ys≠ []):
  B2 K t ys (s7 cs off (ys.length*t.size))/\∀j u,(s7 cs off (ys.length*t.size))[j]? =some u->w.cell? ((⟨b,off,none⟩:Addr).add j)=some u:=by
 refine⟨f.EG (f.bound c),fun j u a=>?_⟩
 have d:j<ys.length*t.size:=by
  rcases bh j (ys.length*t.size)with h|h
  .exact h
  .rw[an (by simp[s7];omega)]at a;cases a
 rw[P8 d]at a;rw[H7,eI hh];exact a
omit l8 hm in
theorem mD{need old:Nat}{e:TypeId}(h:need<=9223372036854775807):grownCap w need old e<=9223372036854775807:=grownCap_le_maxLen w need old e h
theorem fU(h:H nx=none)(e:TypeId){t:Ty}{l:List t.den}{cs:List Value}(f:B2 K t l cs)(z:Value)(j:z.cells.size=t.size)(cap:Nat)(a:l.length<=cap)(b:cap<=9223372036854775807)(g:List Nat)(arr:Array Value)
  (c:arr=cs.toArray++Builtin.zeroCells z.cells (cap- l.length)):∃H',cV F K H w m nx (N6 nx t l false g []) (.slice (some ⟨w.heap.size,0,none⟩) l.length cap) (w.drew.alloc (.cells arr e)) K H':=by
 have n:arr=(cs++(Builtin.zeroCells z.cells (cap- l.length)).toList).toArray:=by rw[c];simp
 have d:cap*t.size<=(cs++(Builtin.zeroCells z.cells (cap- l.length)).toList).length:=by
  have o:(Builtin.zeroCells z.cells (cap- l.length)).toList.length=(cap- l.length)*t.size:=by rw[bp,size_zeroCells,j]
  rw[bu,f.1,o,<-bl];exact ay _ (by omega)
 obtain⟨H',p⟩:=tG (nx:=nx) (l8.heap (w':=w.drew) rfl) (hm.heap (w':=w.drew) rfl) h e f (rest:=(Builtin.zeroCells z.cells (cap- l.length)).toList) cap a b d false (by simp) g
 rw[n];exact⟨H',cV.drew p⟩
include n6 G2 in
theorem JO(o:Oper){t:TypeId}{n:Nat}{ps:Array (Nat×Operand)}(ho:o.op=.buildSlice t n ps)(h:match P.underlying t with
  |some (.slice e)=>(match Z5 P 8 e with
   |some ty=>if bC P e ty/\ps.size=n/\n*ty.size<=16777216 then(match bD P m ev e 0 ps.toList with
    |some (cells,d)=>(match AB ty cells with
     |some l=>k (N6 nx ty l true (O5 d) (J6 d))
     |none=>False)
    |none=>False)else False
   |none=>False)
  |_=>False):J3 P F K H w m nx k ((execOp ρ o).run P w):=by
 split at h
 .rename_i e hu;split at h
  .rename_i ty J;split at h
   .rename_i hz;obtain⟨L,s,hz3⟩:=hz;split at h
    .rename_i cells d X;split at h
     .rename_i l hl;obtain⟨i,v,M,hv,N⟩:=Z9 L;obtain⟨i',de,y,O,_,_⟩:=cX 8 e ty J;rw[M]at y;cases y;have z:∀r f,(r,f)∈d->f≠ .dead/\∃c,m r=some (c,f)/\c.isCells=true:=by
       have:∀ (ps:List (Nat×Operand)) (i:Nat) cells d,bD P m ev e i ps=some (cells,d)->∀r f,(r,f)∈d->f≠ .dead/\∃c,m r=some (c,f)/\c.isCells=true:=by
        intro ps
        induction ps with
        |nil=>intro i cells d h r f g;simp only[bD,ae,aq]at h;obtain⟨_,rfl⟩:=h;simp at g
        |cons u ps ih=>
         intro i cells d h r f g;obtain⟨j,x⟩:=u;simp only[bD]at h;split at h
         .split at h
          .rename_i v' r1 R;split at h
           .rename_i As rest r2 has p;simp only[ae,aq]at h;obtain⟨_,rfl⟩:=h;rcases cj.1 g with hh|hh
            .exact(cJ m 6).1 _ _ _ R r f hh
            .exact ih _ _ _ p r f hh
           .cases h
          .cases h
         .cases h
       exact this _ _ _ _ X
      obtain⟨S,_⟩:=hm.freeze l8.w8 d z;obtain⟨A,B⟩:=l8.frozen hm d z;have hB:∀r f hd b cs e Y,(r,f)∈d->H r=some hd->hd.base=some b->w.heap[b]? =some (.cells cs e Y)->(K.plus w (Q5 H d)).cells b=some cs:=
       fun r f hd b cs e Y T G I U=>fM (cW T G I) l8.w8 U
      have Rq:v.cells.size=ty.size:=by
       have:=r9.length ty _ _ (G1 (K:=K) ty);rw[<-N]at this;simpa using this
      obtain⟨DV,rest,T,G,I,U⟩:=LF hm n6 (K.M4 w (Q5 H d)) ps.toList 0 cells d l ((Array.range (n*ty.size)).map fun j=>(if n*ty.size=0 then #[]else v.cells)[j % (if n*ty.size=0 then #[]else v.cells).size]!) X hl hB
       (by simp[s])
      have V:l.length=n:=by rw[U];simpa using s
      simp only[lh,List.take_zero,gq]at G;have a:Instr.fill (fun i=>some (i*ty.size,ty.size)) ((Array.range (n*ty.size)).map fun j=>(if n*ty.size=0 then #[]else v.cells)[j % (if n*ty.size=0 then #[]else v.cells).size]!) (ps.map fun(i,x)=>(i,ρ x)).toList=some DV:=by
       rw[<-T];congr 1;simp
      have C:(Instr.buildSlice t n (ps.map fun(i,x)=>(i,ρ x))).run P w=.ok (.slice (some ⟨w.heap.size,0,none⟩) n n) (w.alloc (.cells DV e)):=by
       simp only[Instr.buildSlice,au,u7 hu,ak,M9 M,O];rw[ai (by omega)]
       by_cases D:n*ty.size=0
       .simp only[D,di]at a ⊢;simp only[au,bg,ak,a,mC]
       .simp only[D,dw]at a ⊢;simp only[au,dU M hv,bg,ak,a,mC]
      simp only[execOp,ho];rw[c8 C];refine y7 G2 h (fun hf=>?_) (by simp[N6])
      have E:DV=(rest++ []).toArray:=by
       rw[bf,<-G]
      obtain⟨H',Z⟩:=tG (nx:=nx) A S hf e I (rest:=[]) n (by omega) (by have:=ty.size_pos;have:=Nat.le_mul_of_pos_right n this;omega) (by rw[bf,I.1,V];exact aw _) true (fun _=>V.symm) (O5 d)
      rw[<-E,V]at Z;exact⟨_,H',cV.use (K.M4 w _) B Z⟩
     .cases h
    .cases h
   .cases h
  .cases h
 .cases h
omit l8 hm in
theorem LH{c:Call}{x y:Operand}{t:TypeId}(a:c.args.toList=[x,y])(b:c.argTypes.toList=[t,t]):c.args.map ρ= #[ρ x,ρ y]/\c.argTypes= #[t,t]:=by
 refine⟨?_,?_⟩
 .apply db.1;simp[a]
 .apply db.1;simp[b]
include n6 G2 in
theorem Wh(o:Oper){c:Call}{x y:Operand}{t u:TypeId}(ho:o.op=.call c)(hc:c.callee=.builtin .append)(ha:c.args.toList=[x,y])(ht:c.argTypes.toList=[t,u])
  (h:Y9 P nx m t u (ev x) (ev y) k):J3 P F K H w m nx k ((execOp ρ o).run P w):=by
 have V:=n6 x;have hy:=n6 y;unfold Y9 at h;split at h
 .rename_i e R hu hu';split at h
  .rename_i Wi;subst Wi;split at h
   .rename_i ty hty;split at h
    .rename_i hz;split at h
     .rename_i ys rs hys;obtain⟨i,v,hi,hv,hcz⟩:=Z9 hz.2;obtain⟨i',de,hi',E,_,_⟩:=cX 8 e ty hty;rw[hi]at hi';cases hi';have hby:i.bytes<=64:=by have:=hz.1;rw[hi]at this;simpa using this
      have Rq:v.cells.size=ty.size:=by
       have:=r9.length ty _ _ (G1 (K:=K) ty);rw[<-hcz]at this;simpa using this
      obtain⟨Y,s,ey,B⟩:=EH hm l8.w8 hys hy;obtain⟨e1,e2⟩:=LH (ρ:=ρ) ha ht;have a3G:At=1099511627776:=rfl;rw[D8 o ho hc,e1,e2];simp only[builtin];have S:ρ x=.slice none 0 0->ys.length<=At->k (N6 nx ty ys false rs [])->J3 P F K H w m nx k ((do pure (Next.value (<-Builtin.append_ #[t,t] o.type #[ρ x,ρ y])):Sem Next).run P w):=by
       intro ex C hk;rw[ex,ey];rcases og (ys=[])with J|J
       .subst J;have:=fT (P:=P) (w:=w) (ty:=o.type) hu hi none Y 0 0 s (aw _);rw[eh,c8 this];exact y7 G2 hk (fun L=>⟨K,HY l8 hm L ty false rs⟩) (by simp[N6])
       .rcases B with B|⟨b,off,cs,eb,fz,h1,h2,h3⟩
        .exact absurd B J
        .subst h1;obtain⟨n,d⟩:=yD h2 h3 J;have z:0<ys.length:=by cases ys with|nil=>exact absurd rfl J|cons a l=>simp
         have hmul:ys.length*i.bytes<=1099511627776*64:=gm (by omega) hby
         have:=qd (P:=P) w t o.type e i v hu hi hv ⟨b,off,none⟩ ys.length s _ (by rw[n.1,E]) d z (by omega) (by omega)
         rw[c8 this];exact y7 G2 hk (fun L=>⟨K,fU l8 hm L e n v Rq _ (mv w _ _ _) (mD (by omega)) rs _ rfl⟩) (by simp[N6])
      have G:∀ (l:List ty.den) (base:Option Addr),ρ x=.slice base l.length l.length->(l=[]\/∃b off cs eb fz,base=some ⟨b,off,none⟩/\w.heap[b]? =some (.cells cs eb fz)/\cQ K ty l cs off)->
        l.length+ys.length<=At->0<ys.length->∀rs',k (N6 nx ty (l++ys) false rs' [])->J3 P F K H w m nx k ((do pure (Next.value (<-Builtin.append_ #[t,t] o.type #[ρ x,ρ y])):Sem Next).run P w):=by
       intro l base ex hl C z rs' hk;rw[ex,ey];have J:ys≠ []:=by intro e0;rw[e0]at z;simp at z
       rcases B with B|⟨b,off,cs,eb,fz,h1,h2,h3⟩
       .exact absurd B J
       .subst h1;obtain⟨n,d⟩:=yD h2 h3 J;have hmul:(l.length+ys.length)*i.bytes<=1099511627776*64:=gm (by omega) hby
        have I:=oh (need:=l.length+ys.length) (old:=l.length) (bytes:=i.bytes) (by omega) (by omega)
        have grow:∀ (bx:Addr) (olds:List Value),base=some bx->B2 K ty l olds->(∀j v,olds[j]? =some v->w.cell? (bx.add j)=some v)->J3 P F K H w m nx k ((do pure (Next.value (<-Builtin.append_ #[t,t] o.type #[.slice base l.length l.length,.slice (some ⟨b,off,none⟩) ys.length s])):Sem Next).run P w):=by
           intro bx olds hbx Z hoc;rw[hbx];have:=rk (P:=P) w t o.type e i v hu hi hv bx l.length l.length olds (by rw[Z.1,E]) hoc ⟨b,off,none⟩ ys.length s _ (by rw[n.1,E]) d (by omega) (by omega) I
           rw[c8 this];refine y7 G2 hk (fun L=>?_) (by simp[N6])
           obtain⟨H',hA⟩:=fU (nx:=nx) l8 hm L e (Z.append n) v Rq (grownCap w (l.length+ys.length) l.length e) (by rw[bu];exact mv w _ _ _) (mD (by omega)) rs' _ rfl
           rw[bu]at hA;refine⟨K,H',?_⟩;have e3:(olds++s7 cs off (ys.length*ty.size)).toArray=olds.toArray++(s7 cs off (ys.length*ty.size)).toArray:=by simp
           rw[e3]at hA;exact hA
        rcases hl with hl|⟨M,b46,ZF,eb2,fz2,g1,g2,g3⟩
        .subst hl;cases base with
         |none=>
          have b3E:=z;have a6v:ys.length*i.bytes<=1099511627776*64:=gm (by simp at C;omega) hby
          have:=qd (P:=P) w t o.type e i v hu hi hv ⟨b,off,none⟩ ys.length s _ (by rw[n.1,E]) d z (by simp at C;omega) (by omega)
          simp only[eh];rw[c8 this];exact y7 G2 hk (fun L=>⟨K,fU l8 hm L e n v Rq _ (mv w _ _ _) (mD (by omega)) rs' _ rfl⟩) (by simp[N6])
         |some bx=>exact grow bx [] rfl B2.nil (fun j v hj=>by simp at hj)
        .rcases og (l=[])with hl0|hl0
         .subst hl0;exact grow _ [] g1 B2.nil (fun j v hj=>by simp at hj)
         .obtain⟨a91,a3H⟩:=yD g2 g3 hl0;exact grow _ _ g1 a91 a3H
      split at h
      .rename_i he;rw[he]at V;simp only[b9]at V;exact S V h.1 h.2
      .rename_i N he;split at h
       .rw[he]at V;simp only[b9]at V;exact S V h.1 h.2
       .cases h
      .rename_i N l he;split at h
       .rename_i ht';subst ht';obtain⟨h1,h2,h3⟩:=h;rw[he]at V;simp only[b9]at V;obtain⟨base,cap,g1,g2,g3,g4⟩:=V;have g3:=g3 rfl;subst g3;refine G l base g1 ?_ h1 h2 rs h3;rcases g4 with g4|⟨b,off,arr,g4,g5,g6⟩
        .exact .inl g4
        .obtain⟨eb,fz,hh⟩:=l8.w8.1 b arr g5;exact .inr ⟨b,off,arr,eb,fz,g4,hh,g6⟩
       .cases h
      .rename_i r f he;split at h
       .rename_i N l T;split at h
        .rename_i ht';subst ht';obtain⟨C,h⟩:=h;rw[he]at V;simp only[b9]at V;obtain⟨hd,g1,g2,g3⟩:=V;have hcr:=hm.cont r _ .own hd T (by simp) g1
         obtain⟨c1,c2,c3,c4⟩:=hcr;have hfl:y8 m [(r,p0.dead)]=N9 m r (.sl N l,.dead):=by simp[y8,dI,T]
         have hmd:l5 F K H w (y8 m [(r,p0.dead)]):=by
          rw[hfl];exact hm.flag r _ .own .dead T (by simp) (by simp)
         rcases c4 with⟨c4,c5⟩|⟨b,cs,eb,fz,k1,k2,k3,k4⟩
         ·
           have hl0:l=[]:=bw (by omega)
           subst hl0;have Dx:hd.len=0:=by omega
           rw[g2,c4,c5,Dx,ey];simp only[ns];rcases og (ys=[])with J|J
           .subst J;have:=fT (P:=P) (w:=w) (ty:=o.type) hu hi none Y 0 0 s (aw _);rw[eh,c8 this];refine y7 G2 h (fun L=>?_) (by simp[N6])
            obtain⟨H',hA⟩:=HY (nx:=nx) l8 hmd L N false (r::rs);exact⟨K,H',cV.use (.refl K) (.refl F K) hA⟩
           .rcases B with B|⟨b,off,cs,eb,fz,h1,h2,h3⟩
            .exact absurd B J
            .subst h1;obtain⟨n,d⟩:=yD h2 h3 J;have z:0<ys.length:=by cases ys with|nil=>exact absurd rfl J|cons a l=>simp
             have a6v:ys.length*i.bytes<=1099511627776*64:=gm (by simp at C;omega) hby
             have:=qd (P:=P) w t o.type e i v hu hi hv ⟨b,off,none⟩ ys.length s _ (by rw[n.1,E]) d z (by simp at C;omega) (by omega)
             rw[c8 this];refine y7 G2 h (fun L=>?_) (by simp[N6])
             obtain⟨H',hA⟩:=fU (nx:=nx) l8 hmd L e n v Rq _ (mv w ys.length 0 e) (mD (by simp at C;omega)) (r::rs) _ rfl
             exact⟨K,H',cV.use (.refl K) (.refl F K) hA⟩
         ·
           obtain⟨o1,o2,o3,ocl⟩:=hm.own r _ hd b T g1 k1;obtain⟨cs0,e0,o4⟩:=ocl rfl;rw[k2]at o4;cases o4;rw[g2,k1,ey];simp only[da];have Lf:hd.len=l.length:=c2;rcases og (ys=[])with J|J
           .subst J;have:=fT (P:=P) (w:=w) (ty:=o.type) hu hi (some ⟨b,0,none⟩) Y hd.len hd.cap s c3.1;rw[eh,c8 this];refine y7 G2 h (fun L=>?_) (by simp[N6])
            refine⟨K,N9 H nx hd,.refl K,M3 L,?_,?_,?_,l8,.refl F w,.refl F K⟩
            .intro U D X;by_cases R:U=nx
             .subst R;simp[N6]
             .rw[m7 _ _ _ _ R]at X;exact absurd D X
            .simp only[b9,N6];exact⟨hd,j8 _ _ _,by rw[k1];rfl,by simp⟩
            .simp only[Q.mm,N6,G4];refine hmd.new nx L _ hd ?_ (fun b' ZG=>?_)
             .rw[bf];exact⟨c1,c2,c3,.inr ⟨b,cs,eb,(0,0),k1,k2,k3,k4⟩⟩
             .rw[k1]at ZG;cases ZG;refine⟨o1,o2,o3,fun _=>⟨cs,eb,k2⟩,fun U c' S9 D X q3=>?_⟩
              rw[hfl]at D;by_cases R:U=r
              .subst R;rw[j8]at D;cases D
              .rw[m7 _ _ _ _ R]at D;exact R (hm.inj U r c' _ S9 hd b D T X g1 q3 k1)
           .rcases B with B|⟨by',A,csy,eby,fzy,h1,h2,h3⟩
            .exact absurd B J
            .subst h1;obtain⟨n,d⟩:=yD h2 h3 J;by_cases a2p:hd.len+ys.length<=hd.cap
             .have I:hd.len*i.size+(s7 csy A (ys.length*N.size)).length<=cs.size:=by
               rw[n.1,E,<-bl];exact ew (ay _ a2p) k3
              obtain⟨w',hr,hup⟩:=LG (P:=P) (w:=w) (ty:=o.type) hu hi b hd.len hd.cap cs eb k2 ⟨by',A,none⟩ ys.length s _ (by rw[n.1,E]) d (jA n) a2p I
              rw[c8 hr];refine y7 G2 h (fun L=>?_) (by simp[N6])
              let S9:Hd:=⟨some b,N.size,(l++ys).length,hd.cap⟩
              have R8:=hup.kept (F:=F) o1;have hold:∀U c' f' O M,y8 m [(r,p0.dead)] U=some (c',f')->f'≠ .dead->H U=some O->O.base=some M->M≠b:=by
               intro U c' f' O M D X q3 q4 q5;subst q5;rw[hfl]at D;by_cases R:U=r
               .subst R;rw[j8]at D;cases D;exact X rfl
               .rw[m7 _ _ _ _ R]at D;cases f' with
                |dead=>exact X rfl
                |own=>exact R (hm.inj U r c' _ O hd M D T q3 g1 q4 k1)
                |X9=>
                 obtain⟨DV,g⟩:=hm.X9 U c' O M D q3 q4;rw[o2]at g;cases g
              have Rr:l5 F K H w' (y8 m [(r,p0.dead)]):=hmd.world (fun U c' f' O M D X q3 q4=>hup.other M (hold U c' f' O M D X q3 q4))
              have EI:L4 F K w':=by
               refine⟨⟨fun M ZF Wb=>?_,fun M p hp=>?_⟩,fun M hb2=>by rw[hup.size];exact l8.lt M hb2,l8.inv,l8.apart⟩
               .obtain⟨e2',fz2,q⟩:=l8.w8.1 M ZF Wb;have Dy:M≠b:=by intro R;subst R;rw[o2]at Wb;cases Wb
                exact⟨e2',fz2,by rw[hup.other M Dy];exact q⟩
               .obtain⟨o',q,hp'⟩:=l8.w8.2 M p hp;have Dy:M≠b:=by intro R;subst R;rw[o3]at hp;cases hp
                exact⟨o',by rw[hup.other M Dy];exact q,hp'⟩
              have Z:=k4.EG (by
               rw[bz]
               exact ew (ay _ (by omega)) k3)
              have hsp:(H8 cs (hd.len*i.size) (s7 csy A (ys.length*N.size)))=(s7 cs 0 (l.length*N.size)++s7 csy A (ys.length*N.size)++cs.toList.drop (hd.len*i.size+(s7 csy A (ys.length*N.size)).length)).toArray:=by
               apply db.1;rw[I9 cs _ _ I];simp[s7,Lf,E]
              refine⟨K,N9 H nx S9,.refl K,M3 L,?_,?_,?_,EI,R8,.refl F K⟩
              .intro U D X;by_cases R:U=nx
               .subst R;simp[N6]
               .rw[m7 _ _ _ _ R]at X;exact absurd D X
              .simp only[b9,N6];exact⟨S9,j8 _ _ _,by simp[S9,Lf],by simp⟩
              .simp only[Q.mm,N6,G4];refine Rr.new nx L _ S9 ?_ (fun b' ZG=>?_)
               .refine⟨rfl,rfl,by simp[S9];omega,.inr ⟨b,_,eb,(0,0),rfl,hup.here,?_,?_⟩⟩
                .rw[M7];exact k3
                .rw[hsp];exact(Z.append n).elems
               .cases ZG;exact⟨o1,o2,o3,fun _=>⟨_,eb,hup.here⟩,fun U c' O D X q3=>hold U c' .own O b D (by simp) X q3 rfl⟩
             .have Z:=k4.EG (by
               rw[bz]
               exact ew (ay _ (by omega)) k3)
              have hoc:∀j u,(s7 cs 0 (l.length*N.size))[j]? =some u->w.cell? ((⟨b,0,none⟩:Addr).add j)=some u:=by
               intro j u hj;have yE:j<l.length*N.size:=by
                rcases bh j (l.length*N.size)with hh|hh
                .exact hh
                .rw[an (by simp[s7];omega)]at hj;cases hj
               rw[P8 yE]at hj;rw[H7,eI k2];exact hj
              have hmul:(hd.len+ys.length)*i.bytes<=1099511627776*64:=gm (by omega) hby
              have I:=oh (need:=hd.len+ys.length) (old:=hd.cap) (bytes:=i.bytes) (by omega) (by omega)
              have:=rk (P:=P) w t o.type e i v hu hi hv ⟨b,0,none⟩ hd.len hd.cap _ (by rw[Z.1,E,Lf]) hoc ⟨by',A,none⟩ ys.length s _ (by rw[n.1,E]) d (by omega) (by omega) I
              rw[c8 this];refine y7 G2 h (fun L=>?_) (by simp[N6])
              obtain⟨H',hA⟩:=fU (nx:=nx) l8 hmd L e (Z.append n) v Rq (grownCap w (hd.len+ys.length) hd.cap e) (by rw[bu,<-Lf];exact mv w _ _ _) (mD (by omega)) (r::rs) _ rfl
              refine⟨K,H',cV.use (.refl K) (.refl F K) ?_⟩;have e3:(s7 cs 0 (l.length*N.size)++s7 csy A (ys.length*N.size)).toArray=(s7 cs 0 (l.length*N.size)).toArray++(s7 csy A (ys.length*N.size)).toArray:=by simp
              rw[e3,bu,<-Lf]at hA;rw[<-Lf];exact hA
        .cases h
       .cases h
      .rename_i r lo len he;split at h
       .rename_i N l g T;split at h
        .rename_i ht';subst ht';split at h
         .cases h
         .rename_i hg;obtain⟨h1,h2,h3⟩:=h;rw[he]at V;have Hu:qG m N (.sub r lo len true)=some ((l.drop lo).take len,[r]):=by
           simp[qG,T,hg]
          obtain⟨base,cap,D,X⟩:=EH hm l8.w8 Hu V;simp only[b9]at V;obtain⟨hd,a93,b3G,p1,p2,p3,p4,p5,p6,p7⟩:=V;rw[D]at p2;simp only[oe]at p2;obtain⟨rfl,p2,rfl⟩:=p2;have a6z:cap=len:=p6 (by simp)
          have q1':ρ x=.slice base ((l.drop lo).take len).length ((l.drop lo).take len).length:=by rw[D,p2,a6z]
          refine G ((l.drop lo).take len) base q1' X (by rw[p2];exact h1) h2 (r::rs) ?_
          exact h3
        .cases h
       .cases h
      .cases h
     .cases h
    .cases h
   .cases h
  .cases h
 .cases h
end
end Go.Abs
end
section
namespace Go.Abs
section
variable {H:Nat->Option Hd} {c:Nat} {v:Value}
theorem gZ(k n:Nat):N8 k n=128*n+8*k:=rfl
theorem fA(r o:Nat):bO r o=8*(r*1048576+o)+4:=rfl
theorem lF(r o l e f:Nat):pJ r o l e f=8*(2*(256*(1048576*(r*1048576+o)+l)+e)+f)+5:=rfl
theorem fC(r:Nat):kD r=8*r+6:=rfl
theorem aA(f r:Nat):xH f r=8*(r*65536+f)+7:=rfl
theorem fD(k:IntKind):1<=G0 k/\G0 k<=8:=by cases k<;>decide
theorem mE{k k':IntKind}(h:G0 k=G0 k'):k=k':=by cases k<;>cases k'<;>first|rfl|(exact absurd h (by decide))
theorem j6.lt(h:j6 H c v):3<=c/\c<cB:=by
 cases h with
 |int k n a=>have:=fD k;rw[gZ];simp only[cB];omega
 |ptr r off hd b d a=>rw[fA];simp only[cB];omega
 |sl r off len i e hd b g cap d a j l m=>rw[lF];simp only[cB];omega
 |map r hd b d=>rw[fC];simp only[cB];omega
 |Jm f a=>rw[aA];simp only[cB];omega
 |fn f r hd o p d a=>rw[aA];simp only[cB];omega
 |_=>simp only[cB];omega
theorem yF(c:Nat):AR c=c % 8:=rfl
theorem cD:pK c=true↔c % 8=0:=by simp[pK,yF]
theorem R9:sV c=true↔c % 8=4:=by simp[sV,yF]
theorem Z0:Ln c=true↔c % 8=5:=by simp[Ln,yF]
theorem kP:vV c=true↔c % 8=6:=by simp[vV,yF]
theorem j6.isInt(h:j6 H c v)(a:pK c=true):∃k,AT c=G0 k/\v=.int k ((n8 c:Nat) - (cZ:Int))/\c=N8 (G0 k) (n8 c)/\n8 c<73786976294838206464:=by
 rw[cD]at a;cases h with
 |int k n d=>
  have o:=fD k;have e:n8 (N8 (G0 k) n)=n:=by show(128*n+8*G0 k) /128=n;omega
  have l:AT (N8 (G0 k) n)=G0 k:=by show(128*n+8*G0 k) % 128/8=G0 k;omega
  exact⟨k,l,by rw[e],by rw[e],by rw[e];exact d⟩
 |ptr r off hd b g d=>rw[fA]at a;omega
 |sl r off len m i hd b j cap g d p q s=>rw[lF]at a;omega
 |map r hd b g=>rw[fC]at a;omega
 |Jm f d=>rw[aA]at a;omega
 |fn f r hd t u g d=>rw[aA]at a;omega
 |_=>omega
theorem j6.isBool(h:j6 H c v):(c=17->v=.bool true)/\(c=9->v=.bool false):=by
 constructor<;>intro e<;>cases h with
 |int k n a=>have l:=fD k;rw[gZ]at e;omega
 |ptr r off hd b d a=>rw[fA]at e;omega
 |sl r off len j g hd b i cap d a m o p=>rw[lF]at e;omega
 |map r hd b d=>rw[fC]at e;omega
 |Jm f a=>rw[aA]at e;omega
 |fn f r hd q s d a=>rw[aA]at e;omega
 |_=>first|rfl|(exact absurd e (by decide))
theorem j6.gP(h:j6 H c v)(a:sV c=true):∃hd b,H (pR c)=some hd/\hd.base=some b/\v=.pointer (some ⟨b,pO c+hd.len,none⟩)/\c=bO (pR c) (pO c)/\pR c<1048576/\pO c<1048576:=by
 rw[R9]at a;cases h with
 |ptr r off hd b e d g i=>
  have m:pR (bO r off)=r:=by show(8*(r*1048576+off)+4) /8388608=r;omega
  have o:pO (bO r off)=off:=by show(8*(r*1048576+off)+4) /8 % 1048576=off;omega
  rw[m,o];exact⟨hd,b,g,i,rfl,rfl,e,d⟩
 |int k n d=>rw[gZ]at a;omega
 |sl r off len p j hd b l cap e d g i q=>rw[lF]at a;omega
 |map r hd b e=>rw[fC]at a;omega
 |Jm f d=>rw[aA]at a;omega
 |fn f r hd s t e d=>rw[aA]at a;omega
 |_=>omega
theorem j6.a2q{r off a b:Nat}{hd:Hd}(d:r<1048576)(f:off<1048576)(g:H r=some hd)(h:hd.base=some b)(e:a=off+hd.len):j6 H (bO r off) (.pointer (some ⟨b,a,none⟩)):=by
 subst e;exact .ptr r off hd b d f g h
theorem j6.vQ(h:j6 H c v)(d:Ln c=true):∃hd b a cap,H (sR c)=some hd/\hd.base=some b/\v=.slice (some ⟨b,a,none⟩) (sL c) cap/\sL c<=cap/\(sF c=1->cap=sL c)/\(cap=0\/a=sO c+hd.len)/\sO c+cap*sE c<=hd.sz/\
  c=pJ (sR c) (sO c) (sL c) (sE c) (sF c)/\sR c<1048576/\sO c<1048576/\sL c<1048576/\sE c<256/\sF c<2:=by
 rw[Z0]at d;cases h with
 |sl r off len Ay full hd b a cap g e j l m o p q s t i=>
  have u:sR (pJ r off len Ay full)=r:=by show(8*(2*(256*(1048576*(r*1048576+off)+len)+Ay)+full)+5) /4503599627370496=r;omega
  have w:sO (pJ r off len Ay full)=off:=by show(8*(2*(256*(1048576*(r*1048576+off)+len)+Ay)+full)+5) /4294967296 % 1048576=off;omega
  have x:sL (pJ r off len Ay full)=len:=by show(8*(2*(256*(1048576*(r*1048576+off)+len)+Ay)+full)+5) /4096 % 1048576=len;omega
  have y:sE (pJ r off len Ay full)=Ay:=by show(8*(2*(256*(1048576*(r*1048576+off)+len)+Ay)+full)+5) /16 % 256=Ay;omega
  have z:sF (pJ r off len Ay full)=full:=by show(8*(2*(256*(1048576*(r*1048576+off)+len)+Ay)+full)+5) /8 % 2=full;omega
  rw[u,w,x,y,z];exact⟨hd,b,a,cap,o,p,rfl,q,s,t,i,rfl,g,e,j,l,m⟩
 |int k n e=>rw[gZ]at d;omega
 |ptr r off hd b g e=>rw[fA]at d;omega
 |map r hd b g=>rw[fC]at d;omega
 |Jm f e=>rw[aA]at d;omega
 |fn f r hd A B g e=>rw[aA]at d;omega
 |_=>omega
theorem j6.isMap(h:j6 H c v)(a:vV c=true):∃hd b,H (mR c)=some hd/\hd.base=some b/\v=.map (some b)/\c=kD (mR c)/\mR c<1048576:=by
 rw[kP]at a;cases h with
 |map r hd b e d g=>
  have l:mR (kD r)=r:=by show(8*r+6) /8=r;omega
  rw[l];exact⟨hd,b,d,g,rfl,rfl,e⟩
 |int k n d=>rw[gZ]at a;omega
 |ptr r off hd b e d=>rw[fA]at a;omega
 |sl r off len m i hd b j cap e d g o p=>rw[lF]at a;omega
 |Jm f d=>rw[aA]at a;omega
 |fn f r hd q s e d=>rw[aA]at a;omega
 |_=>omega
theorem j6.isNil(h:j6 H c v):(c=25->v=.slice none 0 0)/\(c=33->v=.pointer none)/\(c=41->v=.map none)/\(c=49->v=.nilFunc):=by
 refine⟨fun e=>?_,fun e=>?_,fun e=>?_,fun e=>?_⟩<;>cases h with
 |int k n a=>have l:=fD k;rw[gZ]at e;omega
 |ptr r off hd b d a=>rw[fA]at e;omega
 |sl r off len j g hd b i cap d a m o p=>rw[lF]at e;omega
 |map r hd b d=>rw[fC]at e;omega
 |Jm f a=>rw[aA]at e;omega
 |fn f r hd q s d a=>rw[aA]at e;omega
 |_=>first|rfl|(exact absurd e (by decide))
theorem j6.a0k(h:j6 H c v)(d:c % 8=7):(fR c=0/\v=.func (.func (fF c)) #[] #[])\/∃r hd a ca,fR c=r+1/\H r=some hd/\hd.base=none/\hd.sz=a.size+4096*ca.size/\a.size<4096/\r<1048575/\
  (∀ (i:Nat) (v:Value),a[i]? =some v->j6 H (P3 hd.len i) v)/\(∀ (i:Nat) (v:Value),ca[i]? =some v->j6 H (P3 hd.cap i) v)/\v=.func (.func (fF c)) a ca:=by
 cases h with
 |Jm f e=>
  have j:fR (xH f 0)=0:=by show(8*(0*65536+f)+7) /524288=0;omega
  have l:fF (xH f 0)=f:=by show(8*(0*65536+f)+7) /8 % 65536=f;omega
  rw[j,l];exact .inl ⟨rfl,rfl⟩
 |fn f r hd a ca g e m o p t u w=>
  have j:fR (xH f (r+1))=r+1:=by show(8*((r+1)*65536+f)+7) /524288=r+1;omega
  have l:fF (xH f (r+1))=f:=by show(8*((r+1)*65536+f)+7) /8 % 65536=f;omega
  rw[j,l];exact .inr ⟨r,hd,a,ca,rfl,m,o,p,t,g,u,w,rfl⟩
 |int k n e=>rw[gZ]at d;omega
 |ptr r off hd b g e=>rw[fA]at d;omega
 |sl r off len x q hd b s cap g e m o p=>rw[lF]at d;omega
 |map r hd b g=>rw[fC]at d;omega
 |_=>omega
theorem j6.one(h:j6 H c v):one v=true:=by cases h<;>rfl
end
def u6(K:b8)(H:Nat->Option Hd):BV->Value->Prop
 |.c n,v=>(n=1/\v=.tuple #[])\/(n=2/\∃l,K.y=some l/\v=.func (.yield l) #[] #[])\/j6 H n v
 |.a k n,v=>y9 H (k+1) n v
 |.t l,v=>∃vs:Array Value,v=.tuple vs/\vs.size=l.length/\∀ (i:Nat) (p:Nat×Nat) (x:Value),l[i]? =some p->vs[i]? =some x->y9 H p.1 p.2 x
 |.u,_=>True
def I1:BV->a7
 |.c n=>if n=1 then .M1 []else if n=2 then .J7 else if n=9 then .bool false else if n=17 then .bool true else .Dc 0 n
 |.a k n=>.Dc (k+1) n
 |.t l=>.M1 (l.map fun p=>.Dc p.1 p.2)
 |.u=>.S6
section
variable {K:b8} {H:Nat->Option Hd}
theorem yG:∀ (l:List (Nat×Nat)) (vs:List Value),(c6 K H (l.map fun p=>.Dc p.1 p.2) vs↔vs.length=l.length/\∀ (i:Nat) (p:Nat×Nat) (x:Value),l[i]? =some p->vs[i]? =some x->y9 H p.1 p.2 x)
 |[],vs=>by
  simp only[lj,c6.J8];constructor
  .rintro rfl;exact⟨rfl,fun i p x h=>by simp at h⟩
  .rintro⟨h,_⟩;exact jl.1 h
 |p::l,vs=>by
  constructor
  .intro h;obtain⟨c,cs,rfl,d,e⟩:=c6.inv (by simpa using h)
   obtain⟨f,g2⟩:=(yG l cs).1 e;refine⟨by simp[f],fun i q x a b=>?_⟩
   cases i with
   |zero=>simp at a b;subst a;subst b;simpa only[b9]using d
   |succ i=>exact g2 i q x (by simpa using a) (by simpa using b)
  .rintro⟨d,e⟩;cases vs with
   |nil=>simp at d
   |cons c cs=>
    refine .cons (by simp only[b9];exact e 0 p c rfl rfl) ((yG l cs).2 ⟨by simpa using d,fun i q x a b=>e (i+1) q x (by simpa using a) (by simpa using b)⟩)
theorem u6.I1{x:BV}{v:Value}(h:u6 K H x v):b9 K H (I1 x) v:=by
 cases x with
 |u=>simp[Abs.I1,b9]
 |a k n=>simp only[Abs.I1,b9];exact h
 |t l=>
  obtain⟨vs,rfl,b,d⟩:=h;simp only[Abs.I1,b9];exact⟨vs,rfl,(yG l _).2 ⟨by simpa using b,fun i p x f g=>d i p x f (by simpa using g)⟩⟩
 |c n=>
  simp only[Abs.I1];rcases h with⟨rfl,rfl⟩|⟨rfl,l,b,rfl⟩|h
  .simp[b9,c6]
  .simp only[Nat.reduceEqDiff,dw,di,b9];exact⟨l,b,rfl⟩
  .have j:=h.lt.1;rw[ai (by omega),ai (by omega)]
   split
   .rename_i e;simp only[b9];exact h.isBool.2 e
   .split
    .rename_i e;simp only[b9];exact h.isBool.1 e
    .simp only[b9];exact h
end
end Go.Abs
end
section
namespace Go.Abs
def G9(m:Mm):Hp:=fun r=>match m r with
 |some (.z5 o,.own)=>o
 |_=>.z
structure W8(F:Nat->Prop)(K:b8)(H:Nat->Option Hd)(w:World)(m:Mm)(nx:Nat)(v:BV)(new:List HO)(set:List (Nat×HO))(x:Value)(w':World)(K':b8)(H':Nat->Option Hd):Prop where
 le:K.le K'
 hle:aY H H'
 K8:∀r,H r=none->H' r≠none->nx<=r/\r<nx+new.length
 rep:u6 K' H' v x
 mem:l5 F K' H' w' (G4 (bF m set) nx (new.map .z5))
 ok:L4 F K' w'
 kept:Kept F w w'
 fix:Fix F K K'
def z8(P:Program)(F:Nat->Prop)(K:b8)(H:Nat->Option Hd)(w:World)(m:Mm)(nx:Nat)(v:BV)(new:List HO)(set:List (Nat×HO)):Result Next->Prop
 |.ok (.value x) w'=>∃K' H',W8 F K H w m nx v new set x w' K' H'
 |.ok .skip w'=>∃K' H',W8 F K H w m nx v new set (.tuple #[]) w' K' H'
 |.ok (.enter f args) w'=>w'=w/\Calls P f args w (fun e a=>∃x K' H',e=.returned x/\W8 F K H w m nx v new set x a K' H')
 |_=>False
theorem B6{α:Type}(n:Nat)(k:Nat->α):fN n k=k n:=by cases n<;>rfl
theorem a9{α:Type}(b:Bool)(t f:α):iB b t f=if b then t else f:=by cases b<;>rfl
section
variable {v:BV} {new:List HO} {set:List (Nat×HO)} {rd:List Nat}
theorem a8{b:Bool}{c:Nat}{k:l6}(h:nB b c k=.ok v new set rd):b=true/\k=.ok v new set rd:=by
 cases b
 .cases h
 .exact⟨rfl,h⟩
theorem x8{x:BV}{k:Nat->l6}(h:vC x k=.ok v new set rd):∃n,x=.c n/\k n=.ok v new set rd:=by
 cases x with
 |c n=>exact⟨n,rfl,h⟩
 |_=>cases h
theorem dV{x:BV}{k:Nat->Nat->l6}(h:vR x k=.ok v new set rd):∃s n,((x=.c n/\s=1/\3<=n)\/x=.a s n)/\k s n=.ok v new set rd:=by
 cases x with
 |c n=>
  obtain⟨b,d⟩:=a8 (show nB (Nat.ble 3 n) 5 (k 1 n)=_ from h);exact⟨1,n,.inl ⟨rfl,rfl,af b⟩,d⟩
 |a s n=>exact⟨s,n,.inr rfl,h⟩
 |_=>cases h
theorem Ck{x:BV}{k:Nat->l6}(h:vI x k=.ok v new set rd):∃c,x=.c c/\pK c=true/\cZ<=n8 c/\k (n8 c- cZ)=.ok v new set rd:=by
 obtain⟨c,e,a⟩:=x8 h;obtain⟨b,d⟩:=a8 a;obtain⟨f,g⟩:=a8 d;exact⟨c,e,b,af f,g⟩
end
section
variable {P:Program} {F:Nat->Prop} {K:b8} {H:Nat->Option Hd} {w:World} {m:Mm} {nx:Nat} {v:BV} {new:List HO} {set:List (Nat×HO)} {rd:List Nat} {ev:Operand->BV} {ρ:Operand->Value}
theorem u6.cell{n:Nat}{x:Value}(h:u6 K H (.c n) x)(a:3<=n):j6 H n x:=by
 rcases h with⟨rfl,_⟩|⟨rfl,_⟩|h
 .omega
 .omega
 .exact h
theorem u6.int{n:Nat}{x:Value}(h:u6 K H (.c n) x)(a:pK n=true):∃k,AT n=G0 k/\x=.int k ((n8 n:Nat) - (cZ:Int))/\n=N8 (G0 k) (n8 n)/\n8 n<73786976294838206464:=by
 rcases h with⟨rfl,_⟩|⟨rfl,_⟩|h
 .cases a
 .cases a
 .exact h.isInt a
theorem u6.bool{n:Nat}{x:Value}(h:u6 K H (.c n) x):(n=17->x=.bool true)/\(n=9->x=.bool false):=by
 constructor<;>intro e<;>subst e
 .exact(h.cell (by omega)).isBool.1 rfl
 .exact(h.cell (by omega)).isBool.2 rfl
theorem u6.row{x:BV}{s n:Nat}{y:Value}(h:u6 K H x y)(g:(x=.c n/\s=1/\3<=n)\/x=.a s n):x7 H s n y.cells.toList:=by
 rcases g with⟨rfl,rfl,j⟩|rfl
 .have b:=h.cell j;have f:=b.lt;refine⟨by rw[fg];exact f.2,?_,?_⟩
  .cases b<;>rfl
  .intro i z d;have e:y.cells.toList=[y]:=by cases b<;>rfl
   rw[e]at d;cases i with
   |zero=>simp at d;subst d;rw[X6 f.2];exact b
   |succ i=>simp at d
 .obtain⟨cs,rfl,k⟩:=h;exact k
theorem aB(b:Bool):u6 K H (.c (I3 b)) (.bool b):=by
 cases b
 .exact .inr (.inr .Ax)
 .exact .inr (.inr .SN)
theorem Wj{k:IntKind}{n:Nat}(a:kLo (G0 k)<=n)(b:n<=kHi (G0 k)):dJ k ((n:Int) - (cZ:Int)):=by
 unfold dJ;cases k<;>simp only[G0,kLo,kHi,cZ]at a b<;>simp only[IntKind.wrap,IntKind.bits,IntKind.signed,cZ]<;>simp<;>omega
theorem JP{k:IntKind}{n:Nat}(h:Em (G0 k) n=.ok v new set rd):dJ k ((n:Int) - (cZ:Int))/\new=[]/\set=[]/\rd=[]/\v=.c (N8 (G0 k) n)/\u6 K H v (.int k ((n:Int) - (cZ:Int))):=by
 obtain⟨b,d⟩:=a8 h;obtain⟨a,e⟩:=a8 d;have b:=af b;have a:=af a;cases e;refine⟨Wj b a,rfl,rfl,rfl,rfl,.inr (.inr (.int k n ?_))⟩;cases k<;>simp only[G0,kHi,cZ]at a<;>omega
theorem r8(l8:L4 F K w)(hm:l5 F K H w m){x:Value}(h:u6 K H v x):z8 P F K H w m nx v [] [] (.ok (.value x) w):=
 ⟨K,H,.refl K,.refl H,fun _ h a=>absurd h a,h,hm,l8,.refl F w,.refl F K⟩
variable (l8:L4 F K w) (hm:l5 F K H w m) (n6:∀x,u6 K H (ev x) (ρ x))
include l8 hm n6
theorem Wk(o:Oper){x:Operand}(a:o.op=.move x\/o.op=.assign x)(h:xI (ev x)=.ok v new set rd):z8 P F K H w m nx v new set ((execOp ρ o).run P w):=by
 cases h;have e:(execOp ρ o).run P w=.ok (.value (ρ x)) w:=by
  rcases a with a|a<;>simp[execOp,a]
 rw[e];exact r8 l8 hm (n6 x)
theorem a3K(o:Oper){c a b:Operand}(g:o.op=.pick c a b)(h:Ri (ev c) (ev a) (ev b)=.ok v new set rd):z8 P F K H w m nx v new set ((execOp ρ o).run P w):=by
 obtain⟨n,e,h⟩:=x8 h;have i:=e▸n6 c;rw[a9]at h;split at h
 .rename_i d;cases h;have f:=i.bool.1 (ab d);simp only[execOp,g,f,asBool,au,bg,ak];exact r8 l8 hm (n6 a)
 .obtain⟨j,h⟩:=a8 h;cases h;have f:=i.bool.2 (ab j);simp only[execOp,g,f,asBool,au,bg,ak];exact r8 l8 hm (n6 b)
theorem OO(o:Oper){x:Operand}(g:o.op=.nilCheck x)(h:sW (ev x)=.ok v new set rd):z8 P F K H w m nx v new set ((execOp ρ o).run P w):=by
 obtain⟨c,e,h⟩:=x8 h;obtain⟨a,h⟩:=a8 h;cases h;have i:=e▸n6 x;have f:(execOp ρ o).run P w=.ok (.value (ρ x)) w:=by
  rw[a9]at a;have d:j6 H c (ρ x):=by
   rcases i with⟨rfl,_⟩|⟨rfl,_⟩|d
   .exact absurd a (by decide)
   .exact absurd a (by decide)
   .exact d
  split at a
  .rename_i j;obtain⟨hd,b,_,_,ev,_⟩:=d.gP j;simp only[execOp,g,ev,bg]
  .have k:c % 8=7:=by simpa [yF]using a
   rcases d.a0k k with⟨_,ev⟩|⟨r,hd,l,n,_,_,_,_,_,_,_,_,ev⟩<;>simp only[execOp,g,ev,bg]
 rw[f];exact r8 l8 hm i
theorem a3L(o:Oper){op:UnOp}{t:TypeId}{x:Operand}(a:o.op=.unOp op t x)(h:xUn op (ev x)=.ok v new set rd):z8 P F K H w m nx v new set ((execOp ρ o).run P w):=by
 cases op with
 |neg=>
  obtain⟨c,e,h⟩:=x8 (show I' (ev x)=_ from h);obtain⟨l,h⟩:=a8 h;obtain⟨b,h⟩:=a8 h;have b:=af b;obtain⟨k,n,p,_⟩:=(e▸n6 x).int l;rw[n]at h;have q:n8 c<=9223372036854775808+9223372036854775808:=b;have r:((Nat.sub (Nat.add cZ cZ) (n8 c):Nat):Int) - (cZ:Int)=0- ((n8 c:Nat) - (cZ:Int)):=by
   show((9223372036854775808+9223372036854775808- n8 c:Nat):Int) - 9223372036854775808=0- ((n8 c:Int) - 9223372036854775808);omega
  obtain⟨g,rfl,rfl,rfl,_,i⟩:=JP (K:=K) (H:=H) h;rw[r]at g i;simp only[execOp,a,p,Op.unary];rw[c8 (x:=.int k (0- ((n8 c:Nat) - (cZ:Int)))) (w':=w) (by
   have s:k.wrap (0- ((n8 c:Nat) - (cZ:Int)))=0- ((n8 c:Nat) - (cZ:Int)):=g
   simp only[Op.intArith,s];simp)]
  exact r8 l8 hm i
 |not=>
  obtain⟨c,e,h⟩:=x8 (show G' (ev x)=_ from h);have j:=e▸n6 x;rw[a9]at h;split at h
  .rename_i d;cases h;have f:=j.bool.1 (ab d);simp only[execOp,a,f,Op.unary];rw[c8 (x:=.bool false) (w':=w) (by simp)]
   exact r8 l8 hm (aB false)
  .obtain⟨u,h⟩:=a8 h;cases h;have f:=j.bool.2 (ab u);simp only[execOp,a,f,Op.unary];rw[c8 (x:=.bool true) (w':=w) (by simp)]
   exact r8 l8 hm (aB true)
 |xor=>cases h
 |plus=>cases h
theorem Tk(o:Oper){s a:TypeId}{x:Operand}(g:o.op=.convert s a x)(h:Rj P s a (ev x)=.ok v new set rd):z8 P F K H w m nx v new set ((execOp ρ o).run P w):=by
 obtain⟨c,e,h⟩:=x8 h;obtain⟨i,h⟩:=a8 h;obtain⟨j,h⟩:=a8 h;obtain⟨u,y,k,_⟩:=(e▸n6 x).int i;obtain⟨z,l⟩:=dv.1 j;unfold kdT at h;split at h
 .rename_i f n;obtain⟨p,rfl,rfl,rfl,_,q⟩:=JP (K:=K) (H:=H) h;have r:f.wrap ((n8 c:Nat) - (cZ:Int))=(n8 c:Nat) - (cZ:Int):=p;simp only[execOp,g,k];rw[c8 (x:=.int f ((n8 c:Nat) - (cZ:Int))) (w':=w) ?_]
  .exact r8 l8 hm q
  .simp only[convert,au,u7 l,u7 n,ak];simp only[Conv.intToInt];rw[r];rfl
 .obtain⟨_,h⟩:=a8 h;obtain⟨b,h⟩:=a8 h;rename_i t;obtain⟨d,_⟩:=a8 (show nB (Nat.ble (kLo 0) (n8 c)) 10 (nB (Nat.ble (n8 c) (kHi 0)) 11 (lN (N8 0 (n8 c))))=_ from by assumption)
  have d:=af d;have b:=af b;simp only[kLo,kHi,cZ]at b d;omega
end
end Go.Abs
end
section
namespace Go.Abs
section
variable {P:Program} {F:Nat->Prop} {K:b8} {H:Nat->Option Hd} {w:World} {m:Mm} {nx:Nat} {v:BV} {new:List HO} {set:List (Nat×HO)} {rd:List Nat} {ev:Operand->BV} {ρ:Operand->Value}
theorem a0l{b:Bool}(h:SU b=.ok v new set rd):v=.c (I3 b)/\new=[]/\set=[]/\rd=[]:=by cases h;exact⟨rfl,rfl,rfl,rfl⟩
theorem Dz{k:IntKind}{a b:Nat}(c:a=N8 (G0 k) (n8 a))(d:b=N8 (G0 k) (n8 b)):(a<b↔n8 a<n8 b)/\(a<=b↔n8 a<=n8 b)/\(a=b↔n8 a=n8 b):=by
 rw[gZ]at c d;refine⟨⟨fun h=>?_,fun h=>?_⟩,⟨fun h=>?_,fun h=>?_⟩,⟨fun h=>?_,fun h=>?_⟩⟩<;>omega
theorem LI{k k':IntKind}{a b:Nat}(c:a=N8 (G0 k) (n8 a))(d:b=N8 (G0 k') (n8 b))(h:Nat.beq (Nat.mod a 128) (Nat.mod b 128)=true):k=k':=by
 have h:=ab h;have h:a % 128=b % 128:=h;have e:=fD k;have f:=fD k';rw[gZ]at c d;exact mE (by omega)
theorem Wl{x y:Nat}(h:Rh x y=true):((mulC x y:Nat):Int) - (cZ:Int)=((x:Int) - (cZ:Int))*((y:Int) - (cZ:Int)):=by
 unfold Rh at h;unfold mulC;generalize cZ=z at h ⊢;simp only[a9,pc]at h ⊢;by_cases d:z<=x
 .rw[aj d]at h ⊢;obtain⟨p,rfl⟩:=ik d;have c:((z+p:Nat):Int) - (z:Int)=p:=by omega
  by_cases a:z<=y
  .rw[aj a];obtain⟨q,rfl⟩:=ik a;have b:((z+q:Nat):Int) - (z:Int)=q:=by omega
   show((z+(z+p- z)*(z+q- z):Nat):Int) - (z:Int)=_;rw[gd,gd,c,b,ma,mc];omega
  .rw[ai a]at h ⊢;obtain⟨q,f⟩:=ik (gw (qn a));have h:(z+p- z)*(z- y)<=z:=af h;show((z- (z+p- z)*(z- y):Nat):Int) - (z:Int)=_;rw[gd]at h ⊢;have e:z- y=q:=by omega
   rw[e]at h ⊢;have b:(y:Int) - (z:Int)= -(q:Int):=by omega
   rw[c,b,Int.mul_neg,<-mc];omega
 .rw[ai d]at h ⊢;obtain⟨p,i⟩:=ik (gw (qn d));have e:z- x=p:=by omega
  have c:(x:Int) - (z:Int)= -(p:Int):=by omega
  by_cases a:z<=y
  .rw[aj a]at h ⊢;obtain⟨q,rfl⟩:=ik a;have h:(z- x)*(z+q- z)<=z:=af h;show((z- (z- x)*(z+q- z):Nat):Int) - (z:Int)=_;rw[gd]at h ⊢;rw[e]at h ⊢;have b:((z+q:Nat):Int) - (z:Int)=q:=by omega
   rw[c,b,Int.neg_mul,<-mc];omega
  .rw[ai a];obtain⟨q,f⟩:=ik (gw (qn a));have g:z- y=q:=by omega
   have b:(y:Int) - (z:Int)= -(q:Int):=by omega
   show((z+(z- x)*(z- y):Nat):Int) - (z:Int)=_;rw[e,g,c,b,Int.neg_mul_neg,ma,mc];omega
theorem EK{f:Nat->Nat->Nat}{k:IntKind}{a b:Nat}(c:AT a=G0 k)(h:VM f a b=.ok v new set rd):k=.i64/\Em (G0 .i64) ((f (VL a) (VL b)+cZ) % 18446744073709551616)=.ok v new set rd:=by
 obtain⟨d,e⟩:=a8 h;rw[c]at d;exact⟨mE (ab d),e⟩
theorem tJ(a:Nat):(BitVec.ofInt 64 (((n8 a:Nat):Int) - (cZ:Int))).toNat=VL a:=by
 rw[BitVec.toNat_ofInt];show((((n8 a:Nat):Int) - 9223372036854775808) % 18446744073709551616).toNat=(n8 a+9223372036854775808) % 18446744073709551616;omega
theorem EL(r:Nat):IntKind.i64.wrap (r:Int)=(((r+cZ) % 18446744073709551616:Nat):Int) - (cZ:Int):=by
 rw[pd];show((r:Int)+9223372036854775808) % 18446744073709551616- 9223372036854775808=(((r+9223372036854775808) % 18446744073709551616:Nat):Int) - 9223372036854775808;omega
theorem Tl{a b:Nat}(_:a=N8 (G0 .i64) (n8 a))(_:b=N8 (G0 .i64) (n8 b)):aZ .and .i64 (((n8 a:Nat):Int) - (cZ:Int)) (((n8 b:Nat):Int) - (cZ:Int))=(((Nat.land (VL a) (VL b)+cZ) % 18446744073709551616:Nat):Int) - (cZ:Int):=by
 show IntKind.i64.wrap ((BitVec.ofInt 64 _ &&& BitVec.ofInt 64 _).toNat:Int)=_;rw[BitVec.toNat_and,tJ,tJ];exact EL _
theorem Wm{a b:Nat}(_:a=N8 (G0 .i64) (n8 a))(_:b=N8 (G0 .i64) (n8 b)):aZ .or .i64 (((n8 a:Nat):Int) - (cZ:Int)) (((n8 b:Nat):Int) - (cZ:Int))=(((Nat.lor (VL a) (VL b)+cZ) % 18446744073709551616:Nat):Int) - (cZ:Int):=by
 show IntKind.i64.wrap ((BitVec.ofInt 64 _|||BitVec.ofInt 64 _).toNat:Int)=_;rw[BitVec.toNat_or,tJ,tJ];exact EL _
theorem Wn{a b:Nat}(_:a=N8 (G0 .i64) (n8 a))(_:b=N8 (G0 .i64) (n8 b)):aZ .xor .i64 (((n8 a:Nat):Int) - (cZ:Int)) (((n8 b:Nat):Int) - (cZ:Int))=(((Nat.xor (VL a) (VL b)+cZ) % 18446744073709551616:Nat):Int) - (cZ:Int):=by
 show IntKind.i64.wrap ((BitVec.ofInt 64 _^^^BitVec.ofInt 64 _).toNat:Int)=_;rw[BitVec.toNat_xor,tJ,tJ];exact EL _
theorem Wo{op:BinOp}{k:IntKind}{a b:Nat}{t:TypeId}{ox oy:Operand}(O:Q3 op=0)(A:a=N8 (G0 k) (n8 a))(o:b=N8 (G0 k) (n8 b))(d:AT a=G0 k)
  (h:SV op a b=.ok v new set rd):new=[]/\set=[]/\rd=[]/\∃z,u6 K H v z/\(do eqGuard op t ox oy (.int k ((n8 a:Nat) - (cZ:Int))) (.int k ((n8 b:Nat) - (cZ:Int)));binOp op t (.int k ((n8 a:Nat) - (cZ:Int))) (.int k ((n8 b:Nat) - (cZ:Int))):Sem Value).run P w=.ok z w:=by
 have G:∀n:Int,b9 K H (.int k n) (.int k n):=fun n=>by simp[b9]
 have I:∀ (kk:a7->Prop) (z:Value),(∀x y,kk x->b9 K H x y->y=z)->V3 P op t (.int k ((n8 a:Nat) - (cZ:Int))) (.int k ((n8 b:Nat) - (cZ:Int))) kk->
   (do eqGuard op t ox oy (.int k ((n8 a:Nat) - (cZ:Int))) (.int k ((n8 b:Nat) - (cZ:Int)));binOp op t (.int k ((n8 a:Nat) - (cZ:Int))) (.int k ((n8 b:Nat) - (cZ:Int))):Sem Value).run P w=.ok z w:=by
  intro kk z i c;obtain⟨x,y,R,g2,J⟩:=dR (w:=w) (ox:=ox) (oy:=oy) (G _) (G _) c;rw[i x y R g2]at J;exact J
 have g:∀ (n:Nat) (z:Int),((n:Nat):Int) - (cZ:Int)=z->Em (G0 k) n=.ok v new set rd->(dJ k z->V3 P op t (.int k ((n8 a:Nat) - (cZ:Int))) (.int k ((n8 b:Nat) - (cZ:Int))) (fun x=>x=.int k z))->
   new=[]/\set=[]/\rd=[]/\∃z,u6 K H v z/\(do eqGuard op t ox oy (.int k ((n8 a:Nat) - (cZ:Int))) (.int k ((n8 b:Nat) - (cZ:Int)));binOp op t (.int k ((n8 a:Nat) - (cZ:Int))) (.int k ((n8 b:Nat) - (cZ:Int))):Sem Value).run P w=.ok z w:=by
  intro n z S B o;obtain⟨s,rfl,rfl,rfl,_,L⟩:=JP (K:=K) (H:=H) B;rw[S]at s L;exact⟨rfl,rfl,rfl,_,L,I _ (.int k z) (fun x y e C=>by subst e;exact R7 C) (o s)⟩
 have r:∀ (p q:Bool),SU p=.ok v new set rd->p=q->V3 P op t (.int k ((n8 a:Nat) - (cZ:Int))) (.int k ((n8 b:Nat) - (cZ:Int))) (fun x=>x=.bool q)->
   new=[]/\set=[]/\rd=[]/\∃z,u6 K H v z/\(do eqGuard op t ox oy (.int k ((n8 a:Nat) - (cZ:Int))) (.int k ((n8 b:Nat) - (cZ:Int)));binOp op t (.int k ((n8 a:Nat) - (cZ:Int))) (.int k ((n8 b:Nat) - (cZ:Int))):Sem Value).run P w=.ok z w:=by
  intro p q B e o;obtain⟨rfl,rfl,rfl,rfl⟩:=a0l B;subst e;exact⟨rfl,rfl,rfl,_,aB p,I _ (.bool p) (fun x y e C=>by subst e;exact Z8 C) o⟩
 obtain⟨T,U,V⟩:=Dz A o;cases op<;>first|(exact absurd O (by decide))|skip
 case add=>
  obtain⟨i,c⟩:=a8 (show nB (Nat.ble cZ (Nat.add (n8 a) (n8 b))) 13 (Em (AT a) (Nat.sub (Nat.add (n8 a) (n8 b)) cZ))=_ from h);have i:cZ<=n8 a+n8 b:=af i;rw[d]at c;refine g _ _ ?_ c (fun u=>by simp only[V3,di];exact⟨u,by first|trivial|rfl⟩)
  show((n8 a+n8 b- cZ:Nat):Int) - (cZ:Int)=_;generalize cZ=z at*
  omega
 case sub=>
  obtain⟨i,c⟩:=a8 (show nB (Nat.ble (n8 b) (Nat.add (n8 a) cZ)) 14 (Em (AT a) (Nat.sub (Nat.add (n8 a) cZ) (n8 b)))=_ from h);have i:n8 b<=n8 a+cZ:=af i;rw[d]at c;refine g _ _ ?_ c (fun u=>by simp only[V3,di];exact⟨u,by first|trivial|rfl⟩)
  show((n8 a+cZ- n8 b:Nat):Int) - (cZ:Int)=_;generalize cZ=z at*
  omega
 case mul=>
  obtain⟨i,c⟩:=a8 (show nB (Rh (n8 a) (n8 b)) 15 (Em (AT a) (mulC (n8 a) (n8 b)))=_ from h);rw[d]at c;exact g _ _ (Wl i) c (fun u=>by simp only[V3,di];exact⟨u,by first|trivial|rfl⟩)
 case quo=>
  obtain⟨i,c⟩:=a8 (show nB (Nat.ble cZ (n8 a)) 16 (nB (Nat.ble (Nat.succ cZ) (n8 b)) 17 (Em (AT a) (Nat.add cZ (Nat.div (Nat.sub (n8 a) cZ) (Nat.sub (n8 b) cZ)))))=_ from h);obtain⟨s,c⟩:=a8 c;have i:cZ<=n8 a:=af i;have s:cZ+1<=n8 b:=af s;rw[d]at c;have j:((n8 a:Nat):Int) - (cZ:Int)=((n8 a- cZ:Nat):Int):=by generalize cZ=z at*;omega
  have l:((n8 b:Nat):Int) - (cZ:Int)=((n8 b- cZ:Nat):Int):=by generalize cZ=z at*;omega
  have D:(0:Int)<=((n8 a- cZ:Nat):Int):=ie _;have E:(0:Int)<((n8 b- cZ:Nat):Int):=by generalize cZ=z at*;omega
  refine g _ ((((n8 a:Nat):Int) - (cZ:Int)) / (((n8 b:Nat):Int) - (cZ:Int))) ?_ c (fun u=>?_)
  .show((cZ+(n8 a- cZ) / (n8 b- cZ):Nat):Int) - (cZ:Int)=_;rw[j,l,ma,Int.natCast_ediv];generalize ((n8 a- cZ:Nat):Int) / ((n8 b- cZ:Nat):Int)=q;generalize cZ=z at*
   omega
  .simp only[V3,di];exact⟨⟨by rw[j];exact D,by rw[l];exact E,u⟩,by first|trivial|rfl⟩
 case rem=>
  obtain⟨i,c⟩:=a8 (show nB (Nat.ble cZ (n8 a)) 18 (nB (Nat.ble (Nat.succ cZ) (n8 b)) 19 (Em (AT a) (Nat.add cZ (Nat.mod (Nat.sub (n8 a) cZ) (Nat.sub (n8 b) cZ)))))=_ from h);obtain⟨s,c⟩:=a8 c;have i:cZ<=n8 a:=af i;have s:cZ+1<=n8 b:=af s;rw[d]at c;have j:((n8 a:Nat):Int) - (cZ:Int)=((n8 a- cZ:Nat):Int):=by generalize cZ=z at*;omega
  have l:((n8 b:Nat):Int) - (cZ:Int)=((n8 b- cZ:Nat):Int):=by generalize cZ=z at*;omega
  have D:(0:Int)<=((n8 a- cZ:Nat):Int):=ie _;have E:(0:Int)<((n8 b- cZ:Nat):Int):=by generalize cZ=z at*;omega
  refine g _ ((((n8 a:Nat):Int) - (cZ:Int)) % (((n8 b:Nat):Int) - (cZ:Int))) ?_ c (fun u=>?_)
  .show((cZ+(n8 a- cZ) % (n8 b- cZ):Nat):Int) - (cZ:Int)=_;rw[j,l,ma,Int.natCast_emod];generalize ((n8 a- cZ:Nat):Int) % ((n8 b- cZ:Nat):Int)=q;generalize cZ=z at*
   omega
  .simp only[V3,di];exact⟨⟨by rw[j];exact D,by rw[l];exact E⟩,by first|trivial|rfl⟩
 case lss=>
  refine r _ (decide (((n8 a:Nat):Int) - (cZ:Int)<((n8 b:Nat):Int) - (cZ:Int))) h ?_ (by simp only[V3,di])
  rw[ff,pc,bt];have:Nat.succ a<=b↔a<b:=se;rw[this,T];generalize cZ=z at*
  omega
 case leq=>
  refine r _ (decide (((n8 a:Nat):Int) - (cZ:Int)<=((n8 b:Nat):Int) - (cZ:Int))) h ?_ (by simp only[V3,di])
  rw[ff,pc,bt,U];generalize cZ=z at*
  omega
 case gtr=>
  obtain⟨M,N,_⟩:=Dz o A;refine r _ (decide (((n8 a:Nat):Int) - (cZ:Int)>((n8 b:Nat):Int) - (cZ:Int))) h ?_ (by simp only[V3,di])
  rw[ff,pc,bt];have:Nat.succ b<=a↔b<a:=se;rw[this,M];generalize cZ=z at*
  omega
 case geq=>
  obtain⟨M,N,_⟩:=Dz o A;refine r _ (decide (((n8 a:Nat):Int) - (cZ:Int)>=((n8 b:Nat):Int) - (cZ:Int))) h ?_ (by simp only[V3,di])
  rw[ff,pc,bt,N];generalize cZ=z at*
  omega
 case and=>
  obtain⟨j,l⟩:=EK (f:=Nat.land) d h;subst j;exact g _ _ rfl l (fun _=>by simp only[V3,di];exact congrArg _ (Tl A o))
 case or=>
  obtain⟨j,l⟩:=EK (f:=Nat.lor) d h;subst j;exact g _ _ rfl l (fun _=>by simp only[V3,di];exact congrArg _ (Wm A o))
 case xor=>
  obtain⟨j,l⟩:=EK (f:=Nat.xor) d h;subst j;exact g _ _ rfl l (fun _=>by simp only[V3,di];exact congrArg _ (Wn A o))
 all_goals cases h
end
end Go.Abs
end
section
namespace Go.Abs
def jE(P:Program)(f:FuncId)(args:List a7)(a:List c7)(k:a7->List c7->Prop):Prop:=
 ∀ (F:Nat->Prop) (K:b8) (H:Nat->Option Hd) (w:World) (vs:List Value),L4 F K w->c6 K H args vs->l5 F K H w (G4 (fun _=>none) 0 a)->(∀r,a.length<=r->H r=none)->(∀r,r<a.length->∃hd,H r=some hd)->
  Calls P f vs.toArray w (fun e w'=>∃v r b K' H',e=.returned v/\k r b/\K.le K'/\b9 K' H' r v/\l5 F K' H' w' (G4 (fun _=>none) 0 b)/\(∀r,b.length<=r->H' r=none)/\
   L4 F K' w'/\Kept F w w'/\Fix F K K'/\a.length<=b.length/\∀r,r<a.length->H' r=H r)
structure Good(P:Program)(Γ:Env):Prop where
 spec:∀f c,Γ f=some c->∀As cs k,c.run As cs k->jE P f As cs k
 call:∀f c,Γ f=some c->∀args w,(callFunc f args).run P w=.ok (.enter f args) w
 pure:∀f c,Γ f=some c->c.pure=true->∀As cs,c.pre As cs->(c.res As cs).run (fun _ new=>new=cs)
theorem s9:∀ (cs:List c7) (m:Mm) (n r:Nat),G4 m n cs r=if h:n<=r/\r<n+cs.length then some (cs[r- n]'(by omega),.own)else m r
 |[],m,n,r=>by
  rw[ll (by simp only[eh];omega)];rfl
 |c::cs,m,n,r=>by
  simp only[G4];rw[s9 cs];by_cases h:n+1<=r/\r<n+1+cs.length
  .rw[ic h,ic (by simp;omega)]
   have e:r- n=(r- (n+1))+1:=by omega
   simp only[e,fv]
  .rw[ll h];by_cases a:r=n
   .subst a;rw[j8,ic (by simp)]
    simp
   .rw[m7 _ _ _ _ a,ll (by simp;omega)]
mutual
theorem EM{K K':b8}{H:Nat->Option Hd}:∀ (a:a7) (v:Value),a.flat=true->b9 K H a v->b9 K' H a v
 |.bool _,_,_,h=>by simpa [b9]using h
 |.int _ _,_,_,h=>by simpa [b9]using h
 |.O1 _ _,_,_,h=>by simp only[b9]at h ⊢;exact h
 |.B9 _,_,_,h=>by simp only[b9]at h ⊢;exact h
 |.agg cs,v,b,h=>by
  simp only[b9]at h ⊢;obtain⟨c,d,e⟩:=h;exact⟨c,d,tK cs _ (by simpa [a7.flat]using b) e⟩
 |.M1 cs,v,b,h=>by
  simp only[b9]at h ⊢;obtain⟨c,d,e⟩:=h;exact⟨c,d,tK cs _ (by simpa [a7.flat]using b) e⟩
 |.S6,_,b,_=>by simp[a7.flat]at b
 |.Y4,_,b,_=>by simp[a7.flat]at b
 |.R2 _,_,b,_=>by simp[a7.flat]at b
 |.imm _ _ _,_,b,_=>by simp[a7.flat]at b
 |.sub _ _ _ _,_,b,_=>by simp[a7.flat]at b
 |.ptr _ _,_,b,_=>by simp[a7.flat]at b
 |.P5 _ _ _,_,b,_=>by simp[a7.flat]at b
 |.P6 _,_,b,_=>by simp[a7.flat]at b
 |.G7 _,_,b,_=>by simp[a7.flat]at b
 |.S3 _ _,_,b,_=>by simp[a7.flat]at b
 |.fn _ _ _,_,b,_=>by simp[a7.flat]at b
 |.V6,_,b,_=>by simp[a7.flat]at b
 |.J7,_,b,_=>by simp[a7.flat]at b
 |.s6 _,_,b,_=>by simp[a7.flat]at b
 |.Dc _ _,_,b,_=>by simp[a7.flat]at b
theorem tK{K K':b8}{H:Nat->Option Hd}:∀ (b:List a7) (vs:List Value),HQ b=true->c6 K H b vs->c6 K' H b vs
 |[],_,_,h=>by simpa [c6]using h
 |a::b,vs,e,h=>by
  simp only[HQ,ah]at e;simp only[c6]at h ⊢;obtain⟨c,d,f,g,i⟩:=h;exact⟨c,d,f,EM a c e.1 g,tK b d e.2 i⟩
end
theorem EO{K K':b8}:∀ (t:Ty) (x:t.den) (cs:List Value),t.flat=true->r9 K t x cs->r9 K' t x cs
 |.int _,_,_,_,h=>h
 |.bool,_,_,_,h=>h
 |.slice _,_,_,c,_=>by simp[Ty.flat]at c
 |.pair a b,_,_,c,h=>by
  simp only[Ty.flat,ah]at c;obtain⟨d,e,f,g,i⟩:=h;exact⟨d,e,f,EO a _ _ c.1 g,EO b _ _ c.2 i⟩
mutual
theorem yH:∀ (ρ:Nat->Nat) (b:List a7),(fH ρ b).length=b.length
 |_,[]=>rfl
 |ρ,a::b=>by simp[fH,yH ρ b]
theorem mF{K:b8}{H H':Nat->Option Hd}{ρ:Nat->Nat}(g:∀r hd,H r=some hd->H' (ρ r)=some hd):∀ (a:a7) (v:Value),b9 K H a v->b9 K H' (a.V4 ρ) v
 |.S6,_,_=>by simp[b9,a7.V4]
 |.bool _,_,h=>by simpa [b9,a7.V4]using h
 |.int _ _,_,h=>by simpa [b9,a7.V4]using h
 |.Y4,_,h=>by simpa [b9,a7.V4]using h
 |.R2 _,_,h=>by simpa [b9,a7.V4]using h
 |.V6,_,h=>by simpa [b9,a7.V4]using h
 |.imm _ _ _,_,h=>by simp only[b9,a7.V4]at h ⊢;exact h
 |.S3 _ _,_,h=>by simp only[b9,a7.V4]at h ⊢;exact h
 |.J7,_,h=>by simp only[b9,a7.V4]at h ⊢;exact h
 |.s6 _,_,h=>by simp only[b9,a7.V4]at h ⊢;exact h
 |.Dc _ _,_,_=>by simp[b9,a7.V4]
 |.O1 r f,v,h=>by
  simp only[b9,a7.V4]at h ⊢;obtain⟨hd,d,e⟩:=h;exact⟨hd,g _ _ d,e⟩
 |.B9 r,v,h=>by
  simp only[b9,a7.V4]at h ⊢;obtain⟨hd,b,d,e⟩:=h;exact⟨hd,b,g _ _ d,e⟩
 |.sub r lo len f,v,h=>by
  simp only[b9,a7.V4]at h ⊢;obtain⟨hd,c,b,d,e⟩:=h;exact⟨hd,c,b,g _ _ d,e⟩
 |.ptr r o,v,h=>by
  simp only[b9,a7.V4]at h ⊢;obtain⟨hd,b,d,e⟩:=h;exact⟨hd,b,g _ _ d,e⟩
 |.P5 r i o,v,h=>by
  simp only[b9,a7.V4]at h ⊢;obtain⟨hd,b,d,e⟩:=h;exact⟨hd,b,g _ _ d,e⟩
 |.P6 r,v,h=>by
  simp only[b9,a7.V4]at h ⊢;obtain⟨hd,b,d,e⟩:=h;exact⟨hd,b,g _ _ d,e⟩
 |.G7 cs,v,h=>by
  simp only[b9,a7.V4]at h ⊢;obtain⟨b,off,arr,d,e,j⟩:=h;refine⟨b,off,arr,d,e,?_⟩;rw[yH];exact aM g cs _ j
 |.agg cs,v,h=>by
  simp only[b9,a7.V4]at h ⊢;obtain⟨c,d,e⟩:=h;exact⟨c,d,aM g cs _ e⟩
 |.M1 cs,v,h=>by
  simp only[b9,a7.V4]at h ⊢;obtain⟨c,d,e⟩:=h;exact⟨c,d,aM g cs _ e⟩
 |.fn f a b,v,h=>by
  simp only[b9,a7.V4]at h ⊢;obtain⟨l,n,d,e,j⟩:=h;exact⟨l,n,d,aM g a _ e,aM g b _ j⟩
theorem aM{K:b8}{H H':Nat->Option Hd}{ρ:Nat->Nat}(e:∀r hd,H r=some hd->H' (ρ r)=some hd):∀ (b:List a7) (vs:List Value),c6 K H b vs->c6 K H' (fH ρ b) vs
 |[],_,h=>by simpa [c6,fH]using h
 |a::b,vs,h=>by
  simp only[c6,fH]at h ⊢;obtain⟨c,d,f,g,i⟩:=h;exact⟨c,d,f,mF e a c g,aM e b d i⟩
end
theorem W9(ρ:Nat->Nat):∀ (cs:List c7),(cR ρ cs).length=cs.length
 |[]=>rfl
 |c::cs=>by simp[cR,W9 ρ cs]
theorem tL(ρ:Nat->Nat):∀ (cs:List c7) (i:Nat) (h:i<cs.length),(cR ρ cs)[i]'(by rw[W9];exact h)=cs[i].V4 ρ
 |[],i,h=>by simp at h
 |c::cs,0,h=>rfl
 |c::cs,i+1,h=>by simp only[cR,fv];exact tL ρ cs i (by simpa using h)
theorem bS(n:Nat)(cs:List c7):(AD n cs).length=cs.length:=W9 _ cs
theorem OP(n:Nat)(cs:List c7)(i:Nat)(h:i<cs.length):(AD n cs)[i]'(by rw[bS];exact h)=cs[i].shift n:=tL _ cs i h
mutual
theorem Rs{K:b8}{H H':Nat->Option Hd}:∀ (a:a7) (v:Value),a.Rb=true->b9 K H a v->b9 K H' a v
 |.S6,_,_,_=>by simp[b9]
 |.bool _,_,_,h=>by simpa [b9]using h
 |.int _ _,_,_,h=>by simpa [b9]using h
 |.Y4,_,_,h=>by simpa [b9]using h
 |.R2 _,_,_,h=>by simpa [b9]using h
 |.V6,_,_,h=>by simpa [b9]using h
 |.imm _ _ _,_,_,h=>by simp only[b9]at h ⊢;exact h
 |.S3 _ _,_,_,h=>by simp only[b9]at h ⊢;exact h
 |.J7,_,_,h=>by simp only[b9]at h ⊢;exact h
 |.s6 _,_,_,h=>by simp only[b9]at h ⊢;exact h
 |.Dc _ _,_,d,_=>by simp[a7.Rb]at d
 |.O1 _ _,_,d,_=>by simp[a7.Rb]at d
 |.B9 _,_,d,_=>by simp[a7.Rb]at d
 |.sub _ _ _ _,_,d,_=>by simp[a7.Rb]at d
 |.ptr _ _,_,d,_=>by simp[a7.Rb]at d
 |.P5 _ _ _,_,d,_=>by simp[a7.Rb]at d
 |.P6 _,_,d,_=>by simp[a7.Rb]at d
 |.G7 cs,v,d,h=>by
  simp only[b9]at h ⊢;obtain⟨b,off,arr,e,g,i⟩:=h;exact⟨b,off,arr,e,g,jF cs _ (by simpa [a7.Rb]using d) i⟩
 |.agg cs,v,d,h=>by
  simp only[b9]at h ⊢;obtain⟨c,e,g⟩:=h;exact⟨c,e,jF cs _ (by simpa [a7.Rb]using d) g⟩
 |.M1 cs,v,d,h=>by
  simp only[b9]at h ⊢;obtain⟨c,e,g⟩:=h;exact⟨c,e,jF cs _ (by simpa [a7.Rb]using d) g⟩
 |.fn f a b,v,d,h=>by
  simp only[a7.Rb,ah]at d;simp only[b9]at h ⊢;obtain⟨j,l,e,g,i⟩:=h;exact⟨j,l,e,jF a _ d.1 g,jF b _ d.2 i⟩
theorem jF{K:b8}{H H':Nat->Option Hd}:∀ (b:List a7) (vs:List Value),Js b=true->c6 K H b vs->c6 K H' b vs
 |[],_,_,h=>by simpa [c6]using h
 |a::b,vs,e,h=>by
  simp only[Js,ah]at e;simp only[c6]at h ⊢;obtain⟨c,d,f,g,i⟩:=h;exact⟨c,d,f,Rs a c e.1 g,jF b d e.2 i⟩
end
theorem mG:∀ (cs:List c7) (i:Nat) (h:i<cs.length),V7 cs=true->V7 [cs[i]]=true
 |[],i,h,_=>by simp at h
 |.sl t l::cs,0,h,d=>by simp only[V7,ah,js]at d ⊢;exact⟨d.1,trivial⟩
 |.box c::cs,0,h,d=>by simp only[V7,ah,js]at d ⊢;exact⟨d.1,trivial⟩
 |.mp mk l clk::cs,0,h,d=>by simp[V7]
 |.it m a b c::cs,_,h,d=>by simp[V7]at d
 |.bx _ _ _ _ _::cs,_,h,d=>by simp[V7]at d
 |.z5 _::cs,_,h,d=>by simp[V7]at d
 |.any::cs,_,h,d=>by simp[V7]at d
 |.sl t l::cs,i+1,h,d=>by
  simp only[V7,ah]at d;simp only[fv];exact mG cs i (by simpa using h) d.2
 |.box c::cs,i+1,h,d=>by
  simp only[V7,ah]at d;simp only[fv];exact mG cs i (by simpa using h) d.2
 |.mp mk l clk::cs,i+1,h,d=>by
  simp only[V7]at d;simp only[fv];exact mG cs i (by simpa using h) d
theorem HZ{K:b8}{H H':Nat->Option Hd}{w:World}{ρ:Nat->Nat}{hd:Hd}{c:c7}(g:∀r hd,H r=some hd->H' (ρ r)=some hd)(h:n9 K H w hd c):n9 K H' w hd (c.V4 ρ):=by
 cases c with
 |box cells=>
  obtain⟨b,cs,e,i,a,d,f⟩:=h;exact⟨b,cs,e,i,a,d,aM g cells _ f⟩
 |bx p t n l q=>
  obtain⟨j,g2,b,cs,e,i,A,B,C,a,d,f,s,u,v⟩:=h;exact⟨j,g2,b,cs,e,i,A,B,C,a,d,f,aM g p _ s,u,aM g q _ v⟩
 |sl t l=>exact h
 |mp mk l clk=>exact h
 |it m x seen y=>
  obtain⟨a,d,f,b,D,s,u,v⟩:=h;refine⟨a,d,f,b,D,s,u,fun r z=>?_⟩
  cases m with
  |none=>cases z
  |some r0=>
   cases z;obtain⟨E,j,g2⟩:=v r0 rfl;exact⟨E,g _ _ j,g2⟩
 |z5 o=>exact Dr h
 |any=>exact h
theorem OS{K:b8}{H H':Nat->Option Hd}{w:World}{n:Nat}{hd:Hd}{c:c7}(a:∀r hd,H r=some hd->H' (r+n)=some hd)(h:n9 K H w hd c):n9 K H' w hd (c.shift n):=HZ a h
theorem yI(c:c7)(ρ:Nat->Nat)(h:(c.V4 ρ).isCells=true):c.isCells=true:=by cases c<;>first|exact h|cases h
theorem Ia{K K':b8}{H:Nat->Option Hd}{w:World}{hd:Hd}{c:c7}(d:V7 [c]=true)(h:n9 K H w hd c):n9 K' H w hd c:=by
 cases c with
 |box cells=>
  obtain⟨b,cs,e,f,g,j,r⟩:=h;exact⟨b,cs,e,f,g,j,tK cells _ (by simpa [V7]using d) r⟩
 |sl t l=>
  obtain⟨g,j,r,s⟩:=h;refine⟨g,j,r,?_⟩;rcases s with s|⟨b,cs,e,f,u,g2,v,x⟩
  .exact .inl s
  .exact .inr ⟨b,cs,e,f,u,g2,v,fun i y=>EO t _ _ (by simpa [V7]using d) (x i y)⟩
 |mp mk l clk=>exact h
 |it m a b c=>simp[V7]at d
 |bx p t n l q=>simp[V7]at d
 |z5 o=>simp[V7]at d
 |any=>simp[V7]at d
def pN(H a:Nat->Option Hd)(n len:Nat):Nat->Option Hd:=fun r=>if n<=r/\r<n+len then a (r- n)else H r
section
variable {P:Program} {F:Nat->Prop} {K:b8} {H:Nat->Option Hd} {w:World} {m:Mm} {nx:Nat}
theorem Cl{a:Nat->Option Hd}{n len:Nat}(c:∀r,len<=r->a r=none):∀r hd,a r=some hd->pN H a n len (r+n)=some hd:=by
 intro r hd h;have d:r<len:=by
  rcases bh r len with b|b
  .exact b
  .rw[c r b]at h;cases h
 simp only[pN];rw[aj (by omega)]
 simpa using h
theorem Bb{a:Nat->Option Hd}{n len:Nat}(b:∀i,i<len->H (n+i)=none):aY H (pN H a n len):=by
 intro r hd h;simp only[pN];by_cases c:n<=r/\r<n+len
 .have:=b (r- n) (by omega)
  rw[show n+(r- n)=r by omega]at this
  rw[this]at h;cases h
 .rw[ai c];exact h
theorem l5.join{u:Nat->Option Hd}{e:List c7}(h:l5 F K H w m)(A:l5 F K u w (G4 (fun _=>none) 0 e))(S:∀r,e.length<=r->u r=none)(T:∀i,i<e.length->H (nx+i)=none)
  {N:Nat}(q:∀r c f hd b,m r=some (c,f)->f≠ .dead->H r=some hd->hd.base=some b->b<N)(K8:∀r c hd b,G4 (fun _=>none) 0 e r=some (c,.own)->u r=some hd->hd.base=some b->N<=b):
  l5 F K (pN H u nx e.length) w (G4 m nx (AD nx e)):=by
 have B:=Cl (H:=H) (n:=nx) S;have C:aY H (pN H u nx e.length):=Bb T;have look:∀ {r c f hd},G4 m nx (AD nx e) r=some (c,f)->pN H u nx e.length r=some hd->
   (∃s,nx<=r/\r<nx+e.length/\G4 (fun _=>none) 0 e (r- nx)=some (s,.own)/\c=s.shift nx/\f=.own/\u (r- nx)=some hd)\/(¬(nx<=r/\r<nx+e.length)/\m r=some (c,f)/\H r=some hd):=by
  intro r c f hd d j;rw[s9]at d;simp only[pN]at j;by_cases l:nx<=r/\r<nx+e.length
  .rw[ic (by rw[bS];exact l)]at d
   rw[aj l]at j;simp only[ae,aq]at d;refine .inl ⟨e[r- nx]'(by omega),l.1,l.2,?_,?_,d.2.symm,j⟩
   .rw[s9,ic (by omega)];simp
   .rw[<-d.1,OP]
  .rw[ll (by rw[bS];exact l)]at d
   rw[ai l]at j;exact .inr ⟨l,d,j⟩
 refine⟨?_,?_,?_,?_⟩
 .intro r c f hd d j t;rcases look d t with⟨s,_,_,a,rfl,_,g2⟩|⟨_,a,g2⟩
  .exact OS B (A.cont _ s .own hd a (by simp) g2)
  .exact(h.cont r c f hd a j g2).mono (.refl K) C (fun _ _=>rfl)
 .intro r c hd b d j t;rcases look d j with⟨s,_,_,a,rfl,_,g2⟩|⟨_,a,g2⟩
  .obtain⟨U,V,k3,k4⟩:=A.own _ s hd b a g2 t;exact⟨U,V,k3,fun l=>k4 (yI s _ l)⟩
  .exact h.own r c hd b a g2 t
 .intro r c hd b d j t;rcases look d j with⟨s,_,_,a,rfl,g,g2⟩|⟨_,a,g2⟩
  .cases g
  .exact h.X9 r c hd b a g2 t
 .intro I J L M o p b d j t O y z;rcases look d t with⟨R,X,Y,a,rfl,_,g2⟩|⟨X,a,g2⟩
  .rcases look j O with⟨D,E,G,v,rfl,_,x⟩|⟨E,v,x⟩
   .have:=A.inj _ _ R D o p b a v g2 x y z;omega
   .have a1:=K8 _ R o b a g2 y;have Z:=q J M .own p b v (by simp) x z
    omega
  .rcases look j O with⟨D,E,G,v,rfl,_,x⟩|⟨E,v,x⟩
   .have a1:=K8 _ D p b v x z;have Z:=q I L .own o b a (by simp) g2 y
    omega
   .exact h.inj I J L M o p b a v g2 x y z
variable {k:Q->Prop} {ev:Operand->a7} {ρ:Operand->Value} {Γ:Env}
theorem cK(P:Program):∀ (d:List TypeId) (b:List a7) (vs:List Value),c6 K H b vs->c6 K H (I7 P d b) vs
 |[],b,vs,h=>by cases b<;>simpa [I7]using h
 |t::d,[],vs,h=>by simpa [I7]using h
 |t::d,a::b,vs,h=>by
  obtain⟨c,cs,rfl,e,f⟩:=h.inv;exact .cons (aL e) (cK P d b cs f)
theorem a3M(hG:Good P Γ)(y:L4 F K w)(hm:l5 F K H w m)(n6:∀x,b9 K H (ev x) (ρ x))(G2:∀q,k q->∀i,i<q.new.length->H (nx+i)=none)
  (o:Oper){c:Call}{g:Operand}{f:FuncId}{first cap:List a7}(ho:o.op=.call c)(hc:c.callee=.value g)(hg:ev g=.fn (.func f) first cap)
  (h:uT Γ nx m f (first++I7 P c.argTypes.toList (c.args.toList.map ev)++cap) k):J3 P F K H w m nx k ((execOp ρ o).run P w):=by
 unfold uT at h;split at h
 .rename_i vs E ct hv hct;split at h
  rotate_left
  .exact h.elim
  rename_i hnm;have hgv:=n6 g;rw[hg]at hgv;simp only[b9]at hgv;obtain⟨fi,ca,e1,T,h2⟩:=hgv;have yJ:c6 K H (first++I7 P c.argTypes.toList (c.args.toList.map ev)++cap) (fi++c.args.map ρ++ca).toList:=by
   have:=c6.append (c6.append T (cK P c.argTypes.toList _ _ (fQ n6 c.args.toList))) h2;simpa using this
  have gI:(execOp ρ o).run P w=.ok (.enter f (fi++c.args.map ρ++ca)) w:=by
   simp only[execOp,ho,resolve,hc,e1,Deferred.ofValue,au,bg,ak,invoke];exact hG.call f ct hct _ _
  rw[gI];refine⟨rfl,?_⟩;have U:∀r f,(r,f)∈E->f≠ .dead/\∃c,m r=some (c,f)/\c.isCells=true:=(cJ m 6).2 _ _ _ hv
  let Kp:=K.plus w (Q5 H E)
  have hB:∀r f hd b cs e fz,(r,f)∈E->H r=some hd->hd.base=some b->w.heap[b]? =some (.cells cs e fz)->Kp.cells b=some cs:=
   fun r f hd b cs e fz T h2 h3 h4=>fM (cW T h2 h3) y.w8 h4
  have Rq:=jF (H':=fun _=>none) _ _ hnm.1 ((mA hm (K.M4 w (Q5 H E)) H (.refl H) 6).2 _ _ _ _ hv hB yJ).1
  obtain⟨Y,Q7⟩:=y.frozen hm E U;obtain⟨hmF,_⟩:=hm.freeze y.w8 E U
  let Z:Nat->Prop:=fun b=>b<w.heap.size/\K.inv b=none
  have G:∀b,F b->Z b:=fun b t=>⟨y.lt b t,by
   cases V:K.inv b with
   |none=>rfl
   |some p=>exact absurd t (y.inv b p V)⟩
  have a6B:∀b p,Kp.inv b=some p->¬Z b:=by
   intro b p hp t;have T:K.inv b=some p:=hp;rw[t.2]at T;cases T
  have OT:L4 Z Kp w:=⟨Y.w8,fun b t=>t.1,a6B,Y.apart⟩
  have JQ:l5 Z Kp (fun _=>none) w (G4 (fun _=>none) 0 []):=by
   refine⟨?_,?_,?_,?_⟩
   .intro r c f hd h;cases h
   .intro r c hd b h;cases h
   .intro r c hd b h;cases h
   .intro r j c c' hd S9 b h;cases h
  have I:=hG.spec f ct hct vs [] _ h Z Kp (fun _=>none) w (fi++c.args.map ρ++ca).toList OT Rq JQ (fun _ _=>rfl) (fun r hr=>absurd hr (rl _))
  rw[show(fi++c.args.map ρ++ca).toList.toArray=fi++c.args.map ρ++ca from rfl]at I;refine sq I ?_;rintro e w' ⟨v,r,J,K',HR,rfl,hk,C,oB,z,hz,A,u,L,_⟩;have hf:∀i,i<J.length->H (nx+i)=none:=fun i V=>G2 _ hk i (by simpa [bS]using V)
  have hsh:=Cl (H:=H) (n:=nx) hz;have d:∀r c f hd b,m r=some (c,f)->f≠ .dead->H r=some hd->hd.base=some b->Z b:=by
   intro r c f hd b a l q3 q4;refine⟨W1 hm a l q3 q4,?_⟩;cases f with
   |dead=>exact absurd rfl l
   |own=>exact(hm.own r c hd b a q3 q4).2.2.1
   |X9=>
    obtain⟨cs,g⟩:=hm.X9 r c hd b a q3 q4;cases V:K.inv b with
    |none=>rfl
    |some p=>have:=y.apart b p V;rw[g]at this;cases this
  have M:∀r c hd b,G4 (fun _=>none) 0 J r=some (c,.own)->HR r=some hd->hd.base=some b->w.heap.size<=b:=by
   intro r c hd b a l q3;obtain⟨g1,g2,g3,g4⟩:=z.own r c hd b a l q3;rcases bh b w.heap.size with h'|h'
   .refine absurd ⟨h',?_⟩ g1;cases V:K.inv b with
    |none=>rfl
    |some p=>
     have:=C.inv b p V;rw[g3]at this;cases this
   .exact h'
  have D:Kept F w w':=u.mono G;have K8:∀j,H j=none->pN H HR nx J.length j≠none->nx<=j/\j<nx+(AD nx J).length:=by
   intro j a l;simp only[pN]at l;by_cases a6C:nx<=j/\j<nx+J.length
   .rw[bS];exact a6C
   .rw[ai a6C]at l;exact absurd a l
  by_cases O:(r.flat && V7 J)=true
  ·
    rw[aj O]at hk;simp only[ah]at O;have R:l5 F K HR w' (G4 (fun _=>none) 0 J):=by
     refine⟨?_,?_,?_,?_⟩
     .intro j c' f' hd a l q3;refine Ia ?_ (z.cont j c' f' hd a l q3);rw[s9]at a;split at a
      .rename_i hcc;simp only[ae,aq]at a;rw[<-a.1];exact mG J _ _ O.2
      .cases a
     .intro j c' hd b a l q3;obtain⟨g1,g2,g3,g4⟩:=z.own j c' hd b a l q3;refine⟨fun t=>g1 (G b t),?_,?_,g4⟩
      .cases hcc:K.cells b with
       |none=>rfl
       |some cs=>
        have:=C.cells b cs ((K.M4 w _).cells b cs hcc);rw[g2]at this;cases this
      .cases V:K.inv b with
       |none=>rfl
       |some p=>have:=C.inv b p V;rw[g3]at this;cases this
     .intro j c' hd b a l q3;rw[s9]at a;split at a
      .cases a
      .cases a
     .exact z.inj
    have S:L4 F K w':=by
     refine⟨⟨fun b cs t=>A.w8.1 b cs (C.cells b cs ((K.M4 w _).cells b cs t)),fun b p t=>A.w8.2 b p (C.inv b p t)⟩,fun b t=>cc (y.lt b t) u.size,y.inv,y.apart⟩
    have X:l5 F K H w' m:=hm.world (fun j c' f' hd b a l q3 q4=>u.block b (d j c' f' hd b a l q3 q4))
    refine⟨v,_,K,pN H HR nx J.length,rfl,hk,.refl K,Bb hf,K8,mF hsh r v (EM r v O.1 oB),?_,S,D,.refl F K⟩;exact X.join R hz hf (fun j c' f' hd b a l q3 q4=>(d j c' f' hd b a l q3 q4).1) M
  .rw[ai O]at hk;have a6D:∀j c' hd b,y8 m (J6 E) j=some (c',.own)->H j=some hd->hd.base=some b->Z b:=by
    intro j c' hd b a l q3;rw[gX]at a;cases s:m j with
    |none=>rw[s]at a;cases a
    |some x=>
     obtain⟨c2,g2⟩:=x;rw[s]at a;simp only[ae,aq]at a;refine d j c2 g2 hd b s ?_ l q3;intro e;subst e;have:=a.2;split at this
     .cases this
     .cases this
   have X:l5 F Kp H w' (y8 m (J6 E)):=hmF.world (fun j c' f' hd b a l q3 q4=>by
    refine u.block b ?_;rw[gX]at a;cases s:m j with
    |none=>rw[s]at a;cases a
    |some x=>
     obtain⟨c2,g2⟩:=x;rw[s]at a;simp only[ae,aq]at a;refine d j c2 g2 hd b s ?_ q3 q4;intro e;subst e;by_cases B:(j,p0.own)∈E
     .obtain⟨_,c3,Wp,_⟩:=U j _ B;rw[s]at Wp;cases Wp
     .rw[ai B]at a
      exact l a.2.symm)
   have ZH:l5 F K' H w' (y8 m (J6 E)):=X.SO C (fun j c' hd b a l q3=>by
    have t:=a6D j c' hd b a l q3;obtain⟨_,g2,g3,_⟩:=X.own j c' hd b a l q3;have:=L b t;rw[g2,g3]at this
    exact this)
   have R:l5 F K' HR w' (G4 (fun _=>none) 0 J):=by
    refine⟨z.cont,?_,z.X9,z.inj⟩;intro j c' hd b a l q3;obtain⟨g1,g2,g3,g4⟩:=z.own j c' hd b a l q3;exact⟨fun t=>g1 (G b t),g2,g3,g4⟩
   have S:L4 F K' w':=by
    refine⟨A.w8,fun b t=>cc (y.lt b t) u.size,fun b p t hF=>A.inv b p t (G b hF),A.apart⟩
   have EP:Fix F K K':=fun b t=>by
    have T:=Q7 b t;have h2:=L b (G b t);exact⟨h2.1.trans T.1,h2.2.trans T.2⟩
   refine⟨v,_,K',pN H HR nx J.length,rfl,hk,(K.M4 w _).trans C,Bb hf,K8,mF hsh r v oB,?_,S,D,EP⟩;refine ZH.join R hz hf (N:=w.heap.size) (fun j c' f' hd b a l q3 q4=>?_) M
   rcases bh b w.heap.size with h'|h'
   .exact h'
   .exfalso;rw[gX]at a;cases s:m j with
    |none=>rw[s]at a;cases a
    |some x=>
     obtain⟨c2,g2⟩:=x;rw[s]at a;simp only[ae,aq]at a;have:Z b:=by
      refine d j c2 g2 hd b s ?_ q3 q4;intro e;subst e;by_cases B:(j,p0.own)∈E
      .obtain⟨_,c3,Wp,_⟩:=U j _ B;rw[s]at Wp;cases Wp
      .rw[ai B]at a;exact l a.2.symm
     have:=this.1;omega
 .cases h
end
end Go.Abs
end
section
namespace Go.Abs
section
variable {P:Program} {w:World}
theorem ER{t:TypeId}(h:uS P t=true):∃kt b f i d,P.underlying t=some (.map kt b)/\P.underlying kt=some (.struct #[f])/\f.offset=0/\f.name≠ "_" /\P.underlying f.type=some (.int d)/\P.info? b=some i/\i.zero=some (.int .i64 0)/\bP P kt 1=true:=by
 unfold uS at h;split at h
 .rename_i kt b k;simp only[ah]at h;obtain⟨⟨m,a⟩,c⟩:=h;split at a
  .rename_i n e;obtain⟨l⟩:=n;unfold Vm at a;split at a
   .rename_i f g;simp only[ah,bt]at a;obtain⟨⟨a1,o⟩,j⟩:=a;split at j
    .rename_i d p;split at c
     .rename_i i q;split at c
      .rename_i r;simp only at g;subst g;exact⟨kt,b,f,i,d,k,e,a1,o,p,q,r,m⟩
      .cases c
     .cases c
    .cases j
   .cases a
  .cases a
 .cases h
theorem ES{kt:TypeId}{f:Field}{d:IntKind}(e:P.underlying kt=some (.struct #[f]))(g:f.offset=0)(h:f.name≠ "_")(b:P.underlying f.type=some (.int d))(em:Bool)(a:Int)(n:Nat):
  (Instr.checkKey em (n+1+1) kt (.agg #[.int .i64 a])).run P w=.ok () w:=by
 have c:R0 P f.type=false:=by simp[R0,b]
 have i:(part f.type #[.int .i64 a] f.offset).run P w=.ok (.int .i64 a) w:=by
  simp only[part,au,W7 b,ak,c,g];simp
 have j:(Instr.checkKey em (n+1) f.type (.int .i64 a)).run P w=.ok () w:=by
  simp[Instr.checkKey,dc b]
 rw[Instr.checkKey];simp[dc e,h,au,i,j]
theorem mH{kt:TypeId}{f:Field}{b:IntKind}(c:P.underlying kt=some (.struct #[f]))(d:f.offset=0)(e:f.name≠ "_")(g:P.underlying f.type=some (.int b))(em:Bool)(a:Int):
 (Instr.checkKey em 10000 kt (.agg #[.int .i64 a])).run P w=.ok () w:=ES c d e g em a 9998
theorem Hv{kt:TypeId}(c:bP P kt 1=true)(a b:Int):(Op.equal kt (.agg #[.int .i64 a]) (.agg #[.int .i64 b])).run P w=.ok (a==b) w:=by
 unfold bP at c;split at c
 .rename_i fs f;simp only[ah,dx,bt]at c;obtain⟨⟨⟨g,g2⟩,i⟩,h⟩:=c;have d:P.fieldsOf kt=fs:=by simp[Program.fieldsOf,f]
  have e:=bR (P:=P) (w:=w) 9998 #[.int .i64 a] #[.int .i64 b] fs.toList 0 [(.i64,a,b)] h (by simpa using g) (by simp) (by simp)
  unfold Op.equal Op.maxDepth;rw[nw w 9999 kt _ _ (by rw[d];exact f) g2,d,e]
  simp
 .cases c
theorem oC{kt:TypeId}(g:bP P kt 1=true){c:Int->Int}(a:Int):∀ (es:List MapEntry) (i:Nat),(∀e∈es,∃a,e.key=.agg #[.int .i64 a]/\e.val=.int .i64 (c a))->
  (Instr.findAsking kt (.agg #[.int .i64 a]) es i).run P w=.ok none w\/∃j e,(Instr.findAsking kt (.agg #[.int .i64 a]) es i).run P w=.ok (some (i+j,.int .i64 (c a))) w/\es[j]? =some e/\e.key=.agg #[.int .i64 a]
 |[],i,_=>.inl (by simp[Instr.findAsking])
 |e::es,i,h=>by
  obtain⟨b,k,l⟩:=h e (by simp)
  unfold Instr.findAsking;rw[k];simp only[au,Hv g,ak];cases d:(a==b)with
  |true=>
   have:a=b:=by simpa using d
   subst this;exact .inr ⟨0,e,by simp[l],rfl,k⟩
  |false=>
   rcases oC g a es (i+1) (fun e m=>h e (al _ m))with f|⟨j,n,f,o,p⟩
   .exact .inl (by simpa using f)
   .exact .inr ⟨j+1,n,by simpa [fe,ez 1 j]using f,by simpa using o,p⟩
theorem pP{kt:TypeId}{f:Field}(a:P.underlying kt=some (.struct #[f]))(x:Value)(es:List MapEntry):(Instr.findKey kt x es).run P w=(Instr.findAsking kt x es).run P w:=
 rz w (by simp[a]) x es
theorem B3{b:Nat}{es:Array MapEntry}{a:Nat}(h:w.heap[b]? =some (.map es a)):(getObj b).run P w=.ok (.map es a) w:=by
 simp[getObj,Sem.run,h]
theorem E7{b:Nat}{es a:Array MapEntry}{c c':Nat}(h:w.heap[b]? =some (.map es c)):(setObj b (.map a c')).run P w=.ok () (w.putObj b (.map a c')):=by
 simp[setObj,Sem.run,h,World.putObj]
theorem JR(a:Int)(w:World):(Instr.keyThatStays (.agg #[.int .i64 a]) (.agg #[.int .i64 a])).run P w=.ok (.agg #[.int .i64 a]) w:=by
 have:Instr.sameBits 10000 (.agg #[.int .i64 a]) (.agg #[.int .i64 a])=true:=by simp[Instr.sameBits]
 simp[Instr.keyThatStays,this]
theorem yK{t:TypeId}(q:uS P t=true){c:Int->Int}{b:Nat}{o:Obj}(l:w.heap[b]? =some o)(r:cC c o)(a:Int):
  ∃o',cC c o'/\(Instr.mapUpdate t (.map (some b)) (.agg #[.int .i64 a]) (.int .i64 (c a))).run P w=.ok () (w.putObj b o'):=by
 obtain⟨kt,D,f,i,E,s,p,u,v,x,F,G,y⟩:=ER q;obtain⟨es,d,rfl,g⟩:=r;unfold Instr.mapUpdate;simp only[au,dc s,ak,B3 l,mH p u v x,pP p];rcases oC (w:=w) y a es.toList 0 g with h|⟨j,e,h,z,A⟩
 .refine⟨.map (es.push {key:=.agg #[.int .i64 a],val:=.int .i64 (c a),born:=d}) (d+1),⟨_,_,rfl,fun e k=>?_⟩,?_⟩
  .simp only[oi,cj,cb]at k;rcases k with k|rfl
   .exact g e k
   .exact⟨a,rfl,rfl⟩
  .rw[h];simp[E7 l]
 .have m:es[j]? =some e:=by simpa using z
  refine⟨.map (es.modify j fun e=> {e with key:=.agg #[.int .i64 a],val:=.int .i64 (c a)}) d,⟨_,_,rfl,fun H k=>?_⟩,?_⟩
  .obtain⟨n,B,rfl⟩:=iw k;have C:n<es.size:=by simpa using B
   rw[sa,Array.getElem_modify];split
   .exact⟨a,rfl,rfl⟩
   .exact g _ (by simp)
  .rw[h];simp[m,A,au,JR,E7 l]
theorem ET{t u ty:TypeId}(n:uS P t=true){d:Int->Int}{b:Nat}{o:Obj}(k:w.heap[b]? =some o)(p:cC d o)(a:Int):
  ∃o',cC d o'/\(Builtin.delete_ #[t,u] ty #[.map (some b),.agg #[.int .i64 a]]).run P w=.ok (.tuple #[]) (w.putObj b o'):=by
 obtain⟨kt,C,f,i,D,q,l,r,s,v,E,F,x⟩:=ER n;obtain⟨es,c,rfl,g⟩:=p;unfold Builtin.delete_;have y:(#[t,u]:Array TypeId)[0]? =some t:=rfl;have z:(#[Value.map (some b),.agg #[.int .i64 a]]:Array Value)[0]? =some (.map (some b)):=rfl;have A:(#[Value.map (some b),.agg #[.int .i64 a]]:Array Value)[1]? =some (.agg #[.int .i64 a]):=rfl;simp only[y,z,A,au,dc q,ak,B3 k,mH l r s v,pP l];rcases oC (w:=w) x a es.toList 0 g with h|⟨j,e,h,G,H⟩
 .refine⟨.map es c,⟨_,_,rfl,g⟩,?_⟩;rw[h];simp[E7 k]
 .refine⟨.map (es.eraseIdxIfInBounds j) c,⟨_,_,rfl,fun B m=>g B ?_⟩,?_⟩
  .simp only[gk]at m;exact List.mem_of_mem_eraseIdx m
  .rw[h];simp[E7 k]
end
end Go.Abs
end
section
namespace Go.Abs
section
variable {P:Program} {w:World}
theorem yL{K:b8}:∀ (t:Ty) (x:t.den) (cs:List Value),t.ints=true->r9 K t x cs->cs=t.qD x
 |.int k,n,cs,_,h=>h
 |.bool,_,_,c,_=>by simp[Ty.ints]at c
 |.slice _,_,_,c,_=>by simp[Ty.ints]at c
 |.pair a b,x,cs,c,h=>by
  simp only[Ty.ints,ah]at c;obtain⟨f,g,rfl,d,e⟩:=h;rw[yL a _ _ c.1 d,yL b _ _ c.2 e];rfl
theorem EU{K:b8}:∀ (t:Ty) (x:t.den),t.ints=true->r9 K t x (t.qD x)
 |.int k,n,_=>rfl
 |.bool,_,c=>by simp[Ty.ints]at c
 |.slice _,_,c=>by simp[Ty.ints]at c
 |.pair a b,x,c=>by
  simp only[Ty.ints,ah]at c;exact⟨_,_,rfl,EU a _ c.1,EU b _ c.2⟩
def Ty.zip:(t:Ty)->t.den->t.den->List (IntKind×Int×Int)
 |.int k,a,b=>[(k,a,b)]
 |.pair s t,a,b=>s.zip a.1 b.1++t.zip a.2 b.2
 |_,_,_=>[]
theorem qW:∀ (t:Ty) (x y:t.den),t.ints=true->t.qD x=(t.zip x y).map (fun u=>Value.int u.1 u.2.1)/\t.qD y=(t.zip x y).map (fun u=>Value.int u.1 u.2.2)/\t.beq x y=(t.zip x y).all (fun u=>u.2.1==u.2.2)/\(t.zip x y).length=t.size
 |.int k,a,b,_=>by
  refine⟨rfl,rfl,?_,rfl⟩;show SP a b=_;simp[Ty.zip,SP]
 |.bool,_,_,c=>by simp[Ty.ints]at c
 |.slice _,_,_,c=>by simp[Ty.ints]at c
 |.pair s t,x,y,c=>by
  simp only[Ty.ints,ah]at c;obtain⟨a1,d,e,f⟩:=qW s x.1 y.1 c.1;obtain⟨g,h,i,j⟩:=qW t x.2 y.2 c.2;refine⟨?_,?_,?_,?_⟩
  .show s.qD x.1++t.qD x.2=_;rw[a1,g];simp[Ty.zip]
  .show s.qD y.1++t.qD y.2=_;rw[d,h];simp[Ty.zip]
  .show(s.beq x.1 y.1 && t.beq x.2 y.2)=_;rw[e,i];simp[Ty.zip]
  .simp[Ty.zip,Ty.size,f,j]
theorem beq_eq:∀ (t:Ty) (x y:t.den),t.ints=true->(t.beq x y=true↔x=y)
 |.int k,a,b,_=>by
  show SP a b=true↔_;exact @qx Int _ _ a b
 |.bool,_,_,c=>by simp[Ty.ints]at c
 |.slice _,_,_,c=>by simp[Ty.ints]at c
 |.pair s t,x,y,c=>by
  simp only[Ty.ints,ah]at c;show(s.beq x.1 y.1 && t.beq x.2 y.2)=true↔_;rw[ah,beq_eq s _ _ c.1,beq_eq t _ _ c.2];constructor
  .exact fun⟨d,e⟩=>tc d e
  .intro h;subst h;exact⟨rfl,rfl⟩
theorem cY{t:TypeId}{mk:MK}(h:pT P t=some mk):∃kt a i,P.underlying t=some (.map kt a)/\mk.kt.ints=true/\P.underlying a=some (.int mk.kv)/\P.info? a=some i/\i.zero=some (.int mk.kv 0)/\
  ((mk.agg=true/\∃e,P.underlying kt=some (.struct e)/\bP P kt mk.kt.size=true)\/(mk.agg=false/\∃k k',P.underlying kt=some (.int k)/\mk.kt=.int k')):=by
 unfold pT at h;split at h
 .rename_i kt a j;split at h
  .rename_i ty r i b l m;split at h
   .rename_i s z n;split at h
    .rename_i g;simp only[ae]at h;subst h;simp only[ah,bt]at g;obtain⟨⟨⟨o,p⟩,q⟩,d⟩:=g;subst p;subst q;refine⟨kt,a,i,j,o,l,m,n,?_⟩;unfold Vn at d;split at d
     .rename_i e c;exact .inl ⟨by simp[R0,c],e,c,d⟩
     .rename_i k f;refine .inr ⟨by simp[R0,f],k,k,f,?_⟩
      simp only[Z5,f]at b;split at b<;>simp_all
     .cases d
    .cases h
   .cases h
  .cases h
 .cases h
theorem DA{K:b8}{H:Nat->Option Hd}{mk:MK}(d:mk.kt.ints=true){a:a7}{v:Value}{x:mk.kt.den}(h:mk.ZD a=some x)(b:b9 K H a v):v=mk.key x:=by
 unfold MK.ZD at h;unfold MK.key;cases e:mk.agg with
 |true=>
  rw[e]at h;simp only at h ⊢;split at h
  .rename_i cs;simp only[b9]at b;obtain⟨c,rfl,f⟩:=b;rw[<-yL _ _ _ d (lQ h f)]
  .cases h
 |false=>
  rw[e]at h;simp only at h ⊢;have:=yL _ _ _ d (lQ (cs:=[v]) h (.cons b .nil));rw[<-this];rfl
theorem Rt{K:b8}{H:Nat->Option Hd}{mk:MK}(d:mk.kt.ints=true)(x:mk.kt.den):b9 K H (mk.I1 x) (mk.key x):=by
 have h:=S4 (H:=H) mk.kt x _ (EU (K:=K) mk.kt x d);unfold MK.I1 MK.key;cases g:mk.agg with
 |true=>simp only[b9];exact⟨_,rfl,h⟩
 |false=>
  simp only;have a:=Ty.R5 mk.kt x;have i:=mk.kt.size_pos;cases b:mk.kt.cells x with
  |nil=>rw[b]at a;simp at a;omega
  |cons c r=>
   rw[b]at h;obtain⟨v,vs,e,f,_⟩:=h.inv;rw[e];exact f
theorem gJ{em:Bool}{n:Nat}{cs:Array Value}:∀ (b:List Field) (i:Nat) (l:List (IntKind×Int)),bP.go P b i=true->b.length=l.length->cs.toList.drop i=l.map (fun u=>Value.int u.1 u.2)->
  (forIn b PUnit.unit (fun f _=>(do
   if f.name≠ "_" then
    Instr.checkKey em (n+1) f.type (<-part f.type cs f.offset)
   pure (ForInStep.yield PUnit.unit):Sem (ForInStep PUnit)))).run P w=.ok PUnit.unit w
 |[],i,l,_,_,_=>by simp
 |f::b,i,l,j,k,g=>by
  cases l with
  |nil=>simp at k
  |cons u l=>
   simp only[bP.go,ah,bt]at j;obtain⟨⟨⟨m,o⟩,d⟩,e⟩:=j;cases c:P.underlying f.type with
   |none=>rw[c]at d;simp at d
   |some p=>
    rw[c]at d;cases p<;>simp at d;rename_i v;have h:R0 P f.type=false:=by simp[R0,c]
    simp only[az]at g;have q:cs[i]? =some (.int u.1 u.2):=by
     have e:(cs.toList.drop i)[0]? =some (.int u.1 u.2):=by rw[g];rfl
     rw[dp]at e;simpa using e
    have nx:cs.toList.drop (i+1)=l.map (fun u=>Value.int u.1 u.2):=by rw[<-dm,g];rfl
    have r:(part f.type cs f.offset).run P w=.ok (.int u.1 u.2) w:=by
     simp only[part,au,W7 c,ak,h,m];simp[q]
    have s:(Instr.checkKey em (n+1) f.type (.int u.1 u.2)).run P w=.ok () w:=by
     simp[Instr.checkKey,dc c]
    have t:=gJ (em:=em) (n:=n) b (i+1) l e (by simpa using k) nx
    rw[List.forIn_cons,au];have a:(do
      if f.name≠ "_" then
       Instr.checkKey em (n+1) f.type (<-part f.type cs f.offset)
      pure (ForInStep.yield PUnit.unit):Sem (ForInStep PUnit)).run P w=.ok (ForInStep.yield PUnit.unit) w:=by
     simp[o,au,r,s]
    rw[a];simp only[ak];exact t
theorem hP{t:TypeId}{n:Nat}(h:bP P t n=true):∃a,P.underlying t=some (.struct a)/\a.size=n/\P.stoodInHeld t=false/\bP.go P a.toList 0=true:=by
 unfold bP at h;split at h
 .rename_i a b;simp only[ah,dx,bt]at h;obtain⟨⟨⟨c,g2⟩,e⟩,d⟩:=h;exact⟨a,b,c,g2,d⟩
 .cases h
theorem gK{mk:MK}{kt:TypeId}(f:mk.kt.ints=true)
  (g:(mk.agg=true/\∃d,P.underlying kt=some (.struct d)/\bP P kt mk.kt.size=true)\/(mk.agg=false/\∃k k',P.underlying kt=some (.int k)/\mk.kt=.int k'))(em:Bool)(x:mk.kt.den):
  (Instr.checkKey em 10000 kt (mk.key x)).run P w=.ok () w:=by
 rcases g with⟨b,d,c,h⟩|⟨b,k,k',c,e⟩
 .obtain⟨i,a,j,r,l⟩:=hP h;rw[c]at a;cases a;obtain⟨m,s,t,o⟩:=qW mk.kt x x f;unfold MK.key;rw[b];rw[Instr.checkKey];simp only[au,dc c,ak];rw[<-Array.forIn_toList];have:=gJ (P:=P) (w:=w) (em:=em) (n:=9998) (cs:=(mk.kt.qD x).toArray) d.toList 0 ((mk.kt.zip x x).map fun u=>(u.1,u.2.1)) l (by simp[o,j]) (by simp[m])
  simp at this ⊢;rw[this];rfl
 .obtain⟨p,q,v⟩:=mk;simp only at b e;subst b;subst e;have:∀n,(Instr.checkKey em (n+1) kt (.int k' x)).run P w=.ok () w:=by
   intro n;simp[Instr.checkKey,dc c]
  exact this 9999
def jG(mk:MK)(x:mk.kt.den):I2 mk.kt->Nat->Option (Nat×Value)
 |[],_=>none
 |e::r,i=>if mk.kt.beq x e.2.1 then some (i,.int mk.kv e.2.2)else jG mk x r (i+1)
theorem jH{mk:MK}{kt:TypeId}(p:mk.kt.ints=true)
  (q:(mk.agg=true/\∃fs,P.underlying kt=some (.struct fs)/\bP P kt mk.kt.size=true)\/(mk.agg=false/\∃k k',P.underlying kt=some (.int k)/\mk.kt=.int k'))(x:mk.kt.den)(l:I2 mk.kt):
  (Instr.findKey kt (mk.key x) (l.map mk.nM)).run P w=.ok (jG mk x l 0) w:=by
 rcases q with⟨d,fs,a,s⟩|⟨d,k,k',a,n⟩
 .rw[rz w (by simp[a])]
  obtain⟨t,b,u,v,z⟩:=hP s;rw[a]at b;cases b;have f:∀y:mk.kt.den,(Op.equal kt (mk.key x) (mk.key y)).run P w=.ok (mk.kt.beq x y) w:=by
   intro y;obtain⟨A,B,C,D⟩:=qW mk.kt x y p;have c:P.fieldsOf kt=fs:=by simp[Program.fieldsOf,a]
   unfold MK.key;rw[d];simp only;unfold Op.equal Op.maxDepth;have g:=bR (P:=P) (w:=w) 9998 (mk.kt.qD x).toArray (mk.kt.qD y).toArray fs.toList 0 (mk.kt.zip x y) z (by simp[D,u]) (by simp[A]) (by simp[B])
   rw[nw w 9999 kt _ _ (by rw[c];exact a) v,c,g,C]
  have h:∀ (l:I2 mk.kt) (i:Nat),(Instr.findAsking kt (mk.key x) (l.map mk.nM) i).run P w=.ok (jG mk x l i) w:=by
   intro l
   induction l with
   |nil=>intro i;simp[Instr.findAsking,jG]
   |cons e r j=>
    intro i;simp only[az,Instr.findAsking,MK.nM,au,f,ak,jG];cases o:mk.kt.beq x e.2.1 with
    |true=>simp
    |false=>simpa using j (i+1)
  exact h l 0
 .obtain⟨E,F,m⟩:=mk;simp only at d n;subst d;subst n;have h:∀ (l:I2 (.int k')) (i:Nat),Instr.findNow (.int k) (.int k' x) (l.map (MK.nM ⟨false,.int k',m⟩)) i=some (jG ⟨false,.int k',m⟩ x l i):=by
   intro l
   induction l with
   |nil=>intro i;rfl
   |cons e r j=>
    intro i;have o:Ty.beq (.int k') x e.2.1=SP x e.2.1:=rfl;simp only[az,Instr.findNow,MK.nM,MK.key,Ty.qD,List.headD_cons,Instr.sameNow,di,jG,o,SP];cases G:(@BEq.beq Int _ x e.2.1)with
    |true=>simp
    |false=>simpa using j (i+1)
  have e:(MK.key ⟨false,.int k',m⟩ x)=.int k' x:=rfl;simp only[Instr.findKey,au,dc a,ak,e,h l 0];simp
theorem oD{mk:MK}{x:mk.kt.den}:∀ {l:I2 mk.kt} {i:Nat},jG mk x l i=none->qH mk.kt l x=false
 |[],_,_=>rfl
 |e::r,i,h=>by
  simp only[jG]at h;split at h
  .cases h
  .rename_i a;have:=oD h;simp only[qH]at this ⊢;simp[a,this]
theorem oF{mk:MK}{x:mk.kt.den}:∀ {l:I2 mk.kt} {i p:Nat} {v:Value},jG mk x l i=some (p,v)->∃j e,p=i+j/\l[j]? =some e/\mk.kt.beq x e.2.1=true/\v=.int mk.kv (lD mk.kt l x)/\qH mk.kt l x=true/\lR mk.kt x l=l.eraseIdx j/\
  ∀n,BY mk.kt x n l=l.set j (e.1,x,n)
 |[],_,_,_,h=>by simp[jG]at h
 |e::r,i,p,v,h=>by
  simp only[jG]at h;split at h
  .rename_i a;simp only[ae,aq]at h;obtain⟨rfl,rfl⟩:=h;exact⟨0,e,rfl,rfl,a,by simp[lD,a],by simp[qH,a],by simp[lR,a],fun n=>by simp[BY,a]⟩
  .rename_i a;obtain⟨j,c,o,d,f,g,b,k,m⟩:=oF h;refine⟨j+1,c,by omega,by simpa using d,f,by simp[lD,a,g],?_,by simp[lR,a,k],fun n=>by simp[BY,a,m]⟩
   simp only[qH,jv]at b ⊢;simp[b]
theorem uX{t:TypeId}{mk:MK}(h:pT P t=some mk){b:Nat}{l:I2 mk.kt}{clk:Nat}(c:w.heap[b]? =some (.map (l.map mk.nM).toArray clk))(x:mk.kt.den)(d:Bool):
  (Instr.lookup t (.map (some b)) (mk.key x) d).run P w=.ok (if d then .tuple #[.int mk.kv (lD mk.kt l x),.bool (qH mk.kt l x)]else .int mk.kv (lD mk.kt l x)) w:=by
 obtain⟨kt,z,i,k,f,A,m,n,g⟩:=cY h;unfold Instr.lookup;simp only[au,dc k,ak,B3 c,bg,gK f g,jH f g];cases a:jG mk x l 0 with
 |none=>
  have hh:=oD a;have o:lD mk.kt l x=0:=by
   clear a c
   induction l with
   |nil=>rfl
   |cons e r q=>
    simp only[qH,jv,mw]at hh;simp only[lD,hh.1,dq,dw];exact q hh.2
  simp[dU m n,hh,o]
 |some u=>
  obtain⟨p,v⟩:=u;obtain⟨j,e,B,g2,C,s,y,_⟩:=oF a;simp[s,y]
theorem uY:∀ (l:List (IntKind×Int×Int)) (n:Nat),l.all (fun u=>u.2.1==u.2.2)=true->((l.map (fun u=>Value.int u.1 u.2.1)).zip (l.map (fun u=>Value.int u.1 u.2.2))).all (fun(x,y)=>Instr.sameBits n x y)=true
 |[],_,_=>rfl
 |u::l,n,h=>by
  simp only[nq,ah]at h;simp only[az,jy,nq,ah];refine⟨?_,uY l n h.2⟩;cases n<;>simp[Instr.sameBits]<;>simpa using h.1
theorem Dj{mk:MK}(a:mk.kt.ints=true)(b:mk.agg=false->∃k',mk.kt=.int k'){x y:mk.kt.den}(h:mk.kt.beq x y=true):(Instr.keyThatStays (mk.key y) (mk.key x)).run P w=.ok (mk.key x) w:=by
 have e:=(beq_eq mk.kt x y a).1 h;subst e;have:Instr.sameBits 10000 (mk.key x) (mk.key x)=true:=by
  unfold MK.key;obtain⟨c,d,f,k⟩:=qW mk.kt x x a;cases g:mk.agg with
  |true=>
   simp only[Instr.sameBits];rw[f]at h;have:=uY (mk.kt.zip x x) 9999 h;rw[<-c,<-d]at this;simpa using this
  |false=>
   obtain⟨k',e⟩:=b g;obtain⟨i,j,l⟩:=mk;simp only at e;subst e;simp only[Ty.qD,Instr.sameBits,List.headD_cons,pe,km];exact @pe Int _ _ x
 simp[Instr.keyThatStays,this]
theorem Bc{t:TypeId}{mk:MK}(s:pT P t=some mk){b:Nat}{l:I2 mk.kt}{clk:Nat}(c:w.heap[b]? =some (.map (l.map mk.nM).toArray clk))(x:mk.kt.den)(n:Int):
  (Instr.mapUpdate t (.map (some b)) (mk.key x) (.int mk.kv n)).run P w=.ok () (w.putObj b (.map ((qI mk.kt l clk x n).map mk.nM).toArray (uG mk.kt l clk x))):=by
 obtain⟨kt,F,i,y,d,G,H,I,f⟩:=cY s;unfold Instr.mapUpdate;simp only[au,dc y,ak,B3 c,gK d f,jH d f];cases o:jG mk x l 0 with
 |none=>
  have hh:=oD o;simp only[qI,uG,hh,dq,dw];rw[E7 c];simp[MK.nM]
 |some u=>
  obtain⟨p,v⟩:=u;obtain⟨j,e,J,g2,z,K,A,L,B⟩:=oF o;have g:p=j:=by omega
  subst g;have C:(l.map mk.nM).toArray[p]? =some (mk.nM e):=by simp[g2]
  have m:=Dj (P:=P) (w:=w) d (fun D=>by
   rcases f with⟨h,_⟩|⟨_,k,k',_,E⟩
   .rw[D]at h;cases h
   .exact⟨k',E⟩) z
  simp only[qI,uG,A,di,C,da,ec,au];rw[show(mk.nM e).key=mk.key e.2.1 from rfl,m];simp only[ak];rw[E7 c,B];congr 3;apply ln;rw[px];simp only[];rw[sr];apply cq;intro q;rw[po,ir];by_cases r:p=q
  .subst r;have a:p<l.length:=by
    rcases bh p l.length with h|h
    .exact h
    .rw[an h]at g2;cases g2
   rw[ag a]at g2;cases g2;simp[a,MK.nM]
  .simp[r]
theorem Be{α β:Type}(f:α->β):∀ (l:List α) (i:Nat),(l.map f).eraseIdx i=(l.eraseIdx i).map f
 |[],_=>rfl
 |_::_,0=>rfl
 |a::l,i+1=>by simp[Be f l i]
theorem Hw{t u ty:TypeId}{mk:MK}(h:pT P t=some mk){b:Nat}{l:I2 mk.kt}{clk:Nat}(a:w.heap[b]? =some (.map (l.map mk.nM).toArray clk))(x:mk.kt.den):
  (Builtin.delete_ #[t,u] ty #[.map (some b),mk.key x]).run P w=.ok (.tuple #[]) (w.putObj b (.map ((lR mk.kt x l).map mk.nM).toArray clk)):=by
 obtain⟨kt,y,i,k,f,z,A,B,g⟩:=cY h;unfold Builtin.delete_;have m:(#[t,u]:Array TypeId)[0]? =some t:=rfl;have n:(#[Value.map (some b),mk.key x]:Array Value)[0]? =some (.map (some b)):=rfl;have o:(#[Value.map (some b),mk.key x]:Array Value)[1]? =some (mk.key x):=rfl;simp only[m,n,o,au,dc k,ak,B3 a,gK f g,jH f g];cases c:jG mk x l 0 with
 |none=>
  have hh:=oD c;have hd:lR mk.kt x l=l:=by
   clear c a
   induction l with
   |nil=>rfl
   |cons e r q=>
    simp only[qH,jv,mw]at hh;simp only[lR,hh.1,dq,dw];rw[q hh.2]
  simp[E7 a,hd]
 |some u=>
  obtain⟨p,v⟩:=u;obtain⟨j,e,C,g2,D,E,F,s,G⟩:=oF c;have d:p=j:=by omega
  subst d;simp[E7 a,s,Be]
end
theorem I0{w:World}{l:Nat}{o o':Obj}(h:w.heap[l]? =some o)(b:Nat):(w.putObj l o').heap[b]? =if b=l then some o' else w.heap[b]? :=by
 by_cases e:b=l
 .subst e;rw[aj rfl];exact World.putObj_heap_same (s8 h)
 .rw[ai e];exact World.putObj_heap_other e
theorem fV{G:Nat->Prop}{w:World}{l:Nat}{o o':Obj}(h:w.heap[l]? =some o)(a:¬G l):Kept G w (w.putObj l o'):=
 ⟨rfl,rfl,rfl,by simp,fun b c=>by
  rw[I0 h,ai (fun(e:b=l)=>a (e▸c))],aw _⟩
theorem EV{F:Nat->Prop}{K:b8}{w:World}{l:Nat}{o o':Obj}(a:L4 F K w)(h:w.heap[l]? =some o)(i:∀cs e d,o≠ .cells cs e d)(j:K.inv l=none):L4 F K (w.putObj l o'):=by
 refine⟨⟨fun b cs k=>?_,fun b p f=>?_⟩,fun b m=>?_,a.inv,a.apart⟩
 .obtain⟨e,d,c⟩:=a.w8.1 b cs k;refine⟨e,d,?_⟩;rw[I0 h,ai]
  .exact c
  .intro g;subst g;rw[h]at c;exact i _ _ _ (cz c)
 .obtain⟨n,c,q⟩:=a.w8.2 b p f;refine⟨n,?_,q⟩;rw[I0 h,ai]
  .exact c
  .intro g;subst g;rw[j]at f;cases f
 .have:=a.lt b m;simpa using this
theorem oG{F:Nat->Prop}{K:b8}{H:Nat->Option Hd}{w:World}{m:Mm}(d:L4 F K w)(i:l5 F K H w m){r:Nat}{c c':c7}{hd:Hd}{b:Nat}{o o':Obj}(a:m r=some (c,.own))(j:H r=some hd)(k:hd.base=some b)
  (hh:w.heap[b]? =some o)(l:∀cs e n,o≠ .cells cs e n)(f:c'.isCells=false)(p:n9 K H (w.putObj b o') hd c'):
  l5 F K H (w.putObj b o') (N9 m r (c',.own))/\L4 F K (w.putObj b o')/\Kept F w (w.putObj b o'):=by
 obtain⟨q,t,s,_⟩:=i.own r c hd b a j k;refine⟨i.ZU r c c' hd b a j k (fun u g=>?_) (fun h=>by rw[f]at h;cases h) p,EV d hh l s,fV hh q⟩
 rw[I0 hh,ai g]
end Go.Abs
end
section
set_option linter.unusedVariables false
namespace Go.Abs
def Still{α:Type}:Sem α->Prop
 |.pure _=>True
 |.load _ _ k=>∀v,Still (k v)
 |.program k=>∀p,Still (k p)
 |.shape _ k=>∀s,Still (k s)
 |.getObj _ k=>∀o,Still (k o)
 |.halt _=>True
 |_=>False
end Go.Abs
end
section
namespace Go.Abs
structure EW(F:Nat->Prop)(K:b8)(H:Nat->Option Hd)(w:World)(m:Mm)(wr:W)(w':World):Prop where
 mem:l5 F K H w' (iN m wr.set)
 ok:L4 F K w'
 kept:Kept F w w'
def wD(F:Nat->Prop)(K:b8)(H:Nat->Option Hd)(w:World)(m:Mm)(k:W->Prop):Result Next->Prop
 |.ok (.value v) w'=>∃a,k a/\EW F K H w m a w'/\b9 K H a.val v
 |.ok .skip w'=>∃a,k a/\EW F K H w m a w'/\a.val=.S6
 |_=>False
section
variable {P:Program} {F:Nat->Prop} {K:b8} {H:Nat->Option Hd} {w:World} {m:Mm} {k:W->Prop} {ev:Operand->a7} {ρ:Operand->Value}
theorem L4.N9(l8:L4 F K w){w':World}{b:Nat}{cs:Array Value}{e:TypeId}(h:Jo w w' b cs e)(r:K.cells b=none)(s:K.inv b=none):L4 F K w':=by
 refine⟨⟨fun a f c=>?_,fun a p g=>?_⟩,fun a i=>by rw[h.size];exact l8.lt a i,l8.inv,l8.apart⟩
 .obtain⟨j,l,q⟩:=l8.w8.1 a f c;have d:a≠b:=by intro n;subst n;rw[r]at c;cases c
  exact⟨j,l,by rw[h.other a d];exact q⟩
 .obtain⟨o',q,o⟩:=l8.w8.2 a p g;have d:a≠b:=by intro n;subst n;rw[s]at g;cases g
  exact⟨o',by rw[h.other a d];exact q,o⟩
theorem V9(l8:L4 F K w)(hm:l5 F K H w m){r:Nat}{c c':c7}{hd:Hd}{b:Nat}(a:m r=some (c,.own))(d:H r=some hd)(f:hd.base=some b){w':World}{cs:Array Value}{e:TypeId}(h:Jo w w' b cs e)
  (g:n9 K H w' hd c')(i:List Nat)(j:a7):EW F K H w m ⟨[(r,(c',.own))],i,j⟩ w':=by
 obtain⟨l,n,o,_⟩:=hm.own r c hd b a d f;exact⟨hm.ZU r c c' hd b a d f h.other (fun _=>⟨cs,e,h.here⟩) g,l8.N9 h n o,h.kept l⟩
theorem dW{cs:Array Value}{o p n:Nat}{vs:List Value}(h:o+vs.length<=cs.size)(hd:p+n<=o\/o+vs.length<=p):s7 (H8 cs o vs) p n=s7 cs p n:=by
 apply cq;intro j;by_cases a:j<n
 .rw[P8 a,P8 a,iJ _ _ _ _ h,ai (by omega)]
 .rw[an (by simp[s7];omega),an (by simp[s7];omega)]
theorem qX{cs:Array Value}{p n j:Nat}{vs:List Value}(h:p+n<=cs.size)(d:j+vs.length<=n):s7 (H8 cs (p+j) vs) p n=(s7 cs p n).take j++vs++(s7 cs p n).drop (j+vs.length):=by
 have b:p+j+vs.length<=cs.size:=by omega
 apply cq;intro i;have e:(s7 cs p n).length=n:=Li h;by_cases a:i<n
 .rw[P8 a,iJ _ _ _ _ b];by_cases c:i<j
  .rw[ai (by omega),bc (by simp;omega),bc (by simp;omega),cy c,P8 a]
  .by_cases f:i<j+vs.length
   .rw[aj (by omega),bc (by simp;omega),bd (by simp;omega)]
    congr 1;simp;omega
   .rw[ai (by omega),bd (by simp;omega),dp,<-P8 (o:=p) a]
    congr 1;simp;omega
 .rw[an (by simp[s7];omega),an (by simp;omega)]
theorem eP{t:TypeId}{v:Value}{b off:Nat}{cs:Array Value}{e:TypeId}(c:v.cells.toList.length=j9 P t)(l:0<v.cells.toList.length)(d:w.heap[b]? =some (.cells cs e (0,0)))(n:off+v.cells.toList.length<=cs.size)
  (f:∀x∈v.cells.toList,one x=true):∃w',(Instr.storeAt t (.pointer (some ⟨b,off,none⟩)) v).run P w=.ok () w'/\Jo w w' b (H8 cs off v.cells.toList) e:=by
 obtain⟨i,g,a⟩:=L9 (P:=P) (t:=t) (by omega)
 obtain⟨w',h,j⟩:=Abs.J9 P b off e v.cells.toList w cs 0 d (by omega) f
 refine⟨w',?_,by simpa using j⟩
 simp only[Instr.storeAt,Instr.sureAddr,au,bg,ak,storeVar,M9 g,a];rw[ai (by simp at c ⊢;omega)]
 exact h
theorem jI{s:Sem Unit}{w':World}(h:s.run P w=.ok () w'):(do s;pure Next.skip:Sem Next).run P w=.ok .skip w':=by
 simp[h]
variable (l8:L4 F K w) (hm:l5 F K H w m) (n6:∀x,b9 K H (ev x) (ρ x))
include l8 hm n6
theorem a0n(o:Oper){t:TypeId}{a x:Operand}(ho:o.op=.store t a x)(h:match ev a with
  |.P6 r=>(match m r,ev x with
   |some (.sl ty' l,.own),.S3 ty X=>if h:ty=ty' then X.length=l.length/\X.length*ty.size=j9 P t/\0<l.length/\k ⟨[(r,(.sl ty' (h▸X),.own))],[r],.S6⟩else False
   |_,_=>False)
  |.ptr r off=>(match m r,(typed P t (ev x)).parts with
   |some (.box cells,.own),some xs=>if xs.length=j9 P t/\0<xs.length/\off+xs.length<=cells.length/\iL xs=true then
    k ⟨[(r,(.box (cells.take off++xs++cells.drop (off+xs.length)),.own))],[r],.S6⟩else False
   |some (.bx p ty n l q,.own),some xs=>if xs.length=j9 P t/\0<xs.length/\iL xs=true then On p ty n l q off xs (fun c=>k ⟨[(r,(c,.own))],[r],.S6⟩)else False
   |_,_=>False)
  |.P5 r i j=>(match m r,(typed P t (ev x)).parts with
   |some (.sl ty l,.own),some xs=>if xs.length=j9 P t/\0<xs.length/\j+xs.length<=ty.size/\iL xs=true then ∃h:i<l.length,
    (match ty.whole ((ty.cells l[i]).take j++xs++(ty.cells l[i]).drop (j+xs.length))with
    |some x'=>k ⟨[(r,(.sl ty (l.set i x'),.own))],[r],.S6⟩
    |none=>False)else False
   |some (.bx p ty n l q,.own),some xs=>if xs.length=j9 P t/\0<xs.length/\(p.length<=j/\j- p.length+xs.length<=ty.size)/\iL xs=true then ∃h:i<l.length,
    (match ty.whole ((ty.cells l[i]).take (j- p.length)++xs++(ty.cells l[i]).drop (j- p.length+xs.length))with
    |some x'=>k ⟨[(r,(.bx p ty n (l.set i x') q,.own))],[r],.S6⟩
    |none=>False)else False
   |_,_=>False)
  |_=>False):wD F K H w m k ((execOp ρ o).run P w):=by
 have Y:=n6 a;have hx:=n6 x;split at h
 .rename_i r he;rw[he]at Y;simp only[b9]at Y;obtain⟨hd,b,E,A,h3,e1⟩:=Y;split at h
  .rename_i ty' l ty X f hex;split at h
   .rename_i hty;subst hty;obtain⟨g1,g2,g3,h⟩:=h;rw[hex]at hx;simp only[b9]at hx;obtain⟨DV,e2,e3,e4⟩:=hx;obtain⟨z,c2,R,c4⟩:=hm.cont r _ .own hd f (by simp) E
    obtain⟨_,_,_,B⟩:=hm.own r _ hd b f E A;obtain⟨cs,e,hh⟩:=B rfl;rcases c4 with⟨c4,_⟩|⟨b',Z,e',fz,J,L,q3,q4⟩
    .rw[A]at c4;cases c4
    .rw[A]at J;cases J;rw[hh]at L;cases L;have a95:∀y∈(ρ x).cells.toList,one y=true:=by
      rw[e2];have hel:=e4.EG (by rw[bz,e3];exact aw _)
      have hs:s7 DV 0 (X.length*ty.size)=DV.toList:=by
       unfold s7;rw[ji,bj];simp;omega
      rw[hs]at hel;exact fun y hy=>Dw (jA hel y hy)
     have u:(ρ x).cells.toList.length=X.length*ty.size:=by rw[e2];simp[Value.cells,e3]
     have a9Y:0<X.length*ty.size:=Nat.mul_pos (by omega) ty.size_pos
     have M:X.length*ty.size<=cs.size:=by
      refine ew ?_ q3;exact ay _ (by omega)
     obtain⟨w',S,g⟩:=eP (P:=P) (t:=t) (v:=ρ x) (off:=0) (by omega) (by omega) hh (by omega) a95
     simp only[execOp,ho,e1];rw[jI S];refine⟨_,h,V9 l8 hm f E A g ?_ [r] _,rfl⟩;refine⟨z,by rw[c2,g1],R,.inr ⟨b,_,_,(0,0),A,g.here,by rw[M7];exact q3,?_⟩⟩
     intro i hi;have:=e4 i hi;have hle:(i+1)*ty.size<=X.length*ty.size:=ay _ hi;rw[bl]at hle;have hsl:s7 (H8 cs 0 (ρ x).cells.toList) (0+i*ty.size) ty.size=s7 DV (0+i*ty.size) ty.size:=by
      apply cq;intro j;by_cases hj:j<ty.size
      .rw[P8 hj,P8 hj,iJ _ _ _ _ (by omega),aj (by omega),e2]
       simp[Value.cells]
      .rw[an (by simp[s7];omega),an (by simp[s7];omega)]
     rw[hsl];exact this
   .cases h
  .cases h
 .rename_i r off he;rw[he]at Y;simp only[b9]at Y;obtain⟨hd,b,E,A,e1⟩:=Y;split at h
  .rename_i cells xs f G;split at h
   .rename_i hc;obtain⟨g1,g2,g3,g4⟩:=hc;have s:=eN G (aL (P:=P) (t:=t) hx);have u:=c6.length s;obtain⟨b',cs,e',fz,J,L,q3⟩:=hm.cont r _ .own hd f (by simp) E
    rw[A]at J;cases J;obtain⟨_,_,_,B⟩:=hm.own r _ hd b f E A;obtain⟨Z,e,hh⟩:=B rfl;rw[hh]at L;cases L;have B:=c6.length q3;simp only[bp]at B;obtain⟨w',S,g⟩:=eP (P:=P) (t:=t) (v:=ρ x) (off:=off) (by omega) (by omega) hh (by omega) (eO g4 s)
    simp only[execOp,ho,e1];rw[jI S];refine⟨_,h,V9 l8 hm f E A g ?_ [r] _,rfl⟩;refine⟨b,_,_,(0,0),A,g.here,?_⟩;rw[I9 _ _ _ (by omega),u]
    exact c6.append (c6.append (c6.take _ q3) s) (c6.drop _ q3)
   .cases h
  .rename_i p ty n l q xs f G;split at h
   .rename_i hc;obtain⟨g1,g2,g4⟩:=hc;have s:=eN G (aL (P:=P) (t:=t) hx);have u:=c6.length s;obtain⟨c0,hn,b',cs,e',fz,z,c2,R,J,L,q3,q4,q5,q6⟩:=hm.cont r _ .own hd f (by simp) E
    rw[A]at J;cases J;obtain⟨_,_,_,B⟩:=hm.own r _ hd b f E A;obtain⟨Z,e,hh⟩:=B rfl;rw[hh]at L;cases L;have l1:=c6.length q4;have l3:=c6.length q6;have hsz:cs.size=z.length+c2.length+R.length:=by
     have:=congrArg List.length q3;simp at this;omega
    unfold On at h;split at h
    .rename_i N;obtain⟨w',S,g⟩:=eP (P:=P) (t:=t) (v:=ρ x) (off:=off) (by omega) (by omega) hh (by omega) (eO g4 s)
     simp only[execOp,ho,e1];rw[jI S];refine⟨_,h,V9 l8 hm f E A g ?_ [r] _,rfl⟩;refine⟨c0,hn,b,_,_,(0,0),z.take off++(ρ x).cells.toList++z.drop (off+(ρ x).cells.toList.length),c2,R,A,g.here,?_,?_,q5,q6⟩
     .rw[I9 _ _ _ (by omega),q3]
      rw[bk z,cn (by omega),du (by omega)]
      simp only[bk]
     .rw[u];exact c6.append (c6.append (c6.take _ q4) s) (c6.drop _ q4)
    .split at h
     .rename_i _ N;have e2:off=z.length+(c2.length+(off- (p.length+n*ty.size))):=by rw[q5.1,hn];omega
      obtain⟨w',S,g⟩:=eP (P:=P) (t:=t) (v:=ρ x) (off:=off) (by omega) (by omega) hh (by omega) (eO g4 s)
      simp only[execOp,ho,e1];rw[jI S];refine⟨_,h,V9 l8 hm f E A g ?_ [r] _,rfl⟩;generalize off- (p.length+n*ty.size)=d at N e2 ⊢;refine⟨c0,hn,b,_,_,(0,0),z,c2,R.take d++(ρ x).cells.toList++R.drop (d+(ρ x).cells.toList.length),A,g.here,?_,q4,q5,?_⟩
      .rw[I9 _ _ _ (by omega),q3,e2,bk z]
       rw[qo,bj (by omega),show z.length+(c2.length+d) - z.length=c2.length+d by omega,qo,bj (l:=c2) (by omega),show c2.length+d- c2.length=d by omega]
       rw[show z.length+(c2.length+d)+(ρ x).cells.toList.length=z.length+(c2.length+(d+(ρ x).cells.toList.length))by omega,<-dm,iq,<-dm,iq]
       simp only[bk]
      .rw[u];exact c6.append (c6.append (c6.take _ q6) s) (c6.drop _ q6)
     .cases h
   .cases h
  .cases h
 .rename_i r i j he;rw[he]at Y;simp only[b9]at Y;obtain⟨hd,b,E,A,e1⟩:=Y;split at h
  .rename_i ty l xs f G;split at h
   .rename_i hc;obtain⟨g1,g2,g3,g4⟩:=hc;obtain⟨hi,h⟩:=h;split at h
    .rename_i x' hw;have s:=eN G (aL (P:=P) (t:=t) hx);have u:=c6.length s;have hcr:=hm.cont r _ .own hd f (by simp) E
     obtain⟨b',cs,e',fz,J,L,q3,q4⟩:=Dv (cont:=hcr) hi;obtain⟨z,c2,R,_⟩:=hcr;rw[A]at J;cases J;obtain⟨_,_,_,B⟩:=hm.own r _ hd b f E A;obtain⟨Z,e,hh⟩:=B rfl;rw[hh]at L;cases L;have hbd:=q4.bound (by intro e0;rw[e0]at hi;simp at hi)
     have T:(i+1)*ty.size<=l.length*ty.size:=ay _ hi;rw[bl]at T;have M:i*hd.sz+j+(ρ x).cells.toList.length<=cs.size:=by rw[z,u];omega
     obtain⟨w',S,g⟩:=eP (P:=P) (t:=t) (v:=ρ x) (off:=i*hd.sz+j) (by omega) (by omega) hh M (eO g4 s)
     simp only[execOp,ho,e1];rw[jI S];refine⟨_,h,V9 l8 hm f E A g ?_ [r] _,rfl⟩;refine⟨z,by rw[c2];simp,R,.inr ⟨b,_,_,(0,0),A,g.here,by rw[M7];exact q3,?_⟩⟩
     intro i' hi';have O:i'<l.length:=by simpa using hi'
     rw[bz,z];rw[z]at M;have I:(i'+1)*ty.size<=l.length*ty.size:=ay _ O;rw[bl]at I;by_cases U:i'=i
     .subst U;rw[ru,qX (by omega) (by omega)]
      have D:=q4 i' O;rw[bz]at D;have C:=S4 (H:=H) ty _ _ D;refine lQ (H:=H) hw ?_;rw[u];exact c6.append (c6.append (c6.take _ C) s) (c6.drop _ C)
     .rw[sf (fun e=>U e.symm)]
      rw[dW M ?_]
      .have:=q4 i' O;rw[bz]at this;exact this
      .rcases bh i' i with yE|hge
       .left;have:(i'+1)*ty.size<=i*ty.size:=ay _ yE;rw[bl]at this;omega
       .right;have hgt:i<i':=by omega
        have:(i+1)*ty.size<=i'*ty.size:=ay _ hgt;rw[bl]at this;omega
    .cases h
   .cases h
  .rename_i p ty n l q xs f G;split at h
   .rename_i hc;obtain⟨g1,g2,g3,g4⟩:=hc;obtain⟨hi,h⟩:=h;split at h
    .rename_i x' hw;have s:=eN G (aL (P:=P) (t:=t) hx);have u:=c6.length s;obtain⟨c0,hn,b',cs,e',fz,z,c2,R,J,L,q3,q4,q5,q6⟩:=hm.cont r _ .own hd f (by simp) E
     rw[A]at J;cases J;obtain⟨_,_,_,B⟩:=hm.own r _ hd b f E A;obtain⟨Z,e,hh⟩:=B rfl;rw[hh]at L;cases L;have l1:=c6.length q4;have hsz:cs.size=z.length+c2.length+R.length:=by
      have:=congrArg List.length q3;simp at this;omega
     have T:(i+1)*ty.size<=l.length*ty.size:=ay _ hi;rw[bl]at T;have hl2:=q5.1;obtain⟨d,kB⟩:∃d,j=p.length+d:=⟨j- p.length,by omega⟩
     subst kB;rw[gd]at g3 hw;have N:i*hd.sz+(p.length+d)=z.length+(i*ty.size+d):=by rw[c0,l1];omega
     obtain⟨w',S,g⟩:=eP (P:=P) (t:=t) (v:=ρ x) (off:=i*hd.sz+(p.length+d)) (by omega) (by omega) hh (by omega) (eO g4 s)
     simp only[execOp,ho,e1];rw[jI S];refine⟨_,h,V9 l8 hm f E A g ?_ [r] _,rfl⟩;have a6E:c2.toArray.toList=c2:=by simp
     have Wa:c2.toArray.size=c2.length:=by simp
     refine⟨c0,by rw[pv];exact hn,b,_,_,(0,0),z,(H8 c2.toArray (i*ty.size+d) (ρ x).cells.toList).toList,R,A,g.here,?_,q4,⟨?_,?_⟩,q6⟩
     .rw[I9 _ _ _ (by omega),I9 _ _ _ (by rw[Wa];omega),q3,N,a6E,bk z]
      rw[qo,bj (by omega),show z.length+(i*ty.size+d) - z.length=i*ty.size+d by omega,cn (l₁:=c2) (by omega)]
      rw[show z.length+(i*ty.size+d)+(ρ x).cells.toList.length=z.length+(i*ty.size+d+(ρ x).cells.toList.length)by omega,<-dm,iq,du (by omega)]
      simp only[bk]
     .rw[pv];simp only[bp];rw[M7,Wa];exact hl2
     .intro i' hi';have O:i'<l.length:=by simpa using hi'
      have I:(i'+1)*ty.size<=l.length*ty.size:=ay _ O;rw[bl]at I;have V:∀ (a:Array Value),((a.toList.drop (i'*ty.size)).take ty.size)=s7 a (i'*ty.size) ty.size:=fun a=>rfl
      have D:=q5.2 i' O;rw[<-a6E,V]at D;rw[V];by_cases U:i'=i
      .subst U;rw[ru,qX (by rw[Wa];omega) (by omega)]
       have C:=S4 (H:=H) ty _ _ D;refine lQ (H:=H) hw ?_;rw[u];exact c6.append (c6.append (c6.take _ C) s) (c6.drop _ C)
      .rw[sf (fun e=>U e.symm)]
       rw[dW (by rw[Wa];omega) ?_]
       .exact D
       .rcases bh i' i with yE|hge
        .left;have:(i'+1)*ty.size<=i*ty.size:=ay _ yE;rw[bl]at this;omega
        .right;have hgt:i<i':=by omega
         have:(i+1)*ty.size<=i'*ty.size:=ay _ hgt;rw[bl]at this;omega
    .cases h
   .cases h
  .cases h
 .cases h
theorem a0o(o:Oper){c:Call}{x:Operand}{t:TypeId}(ho:o.op=.call c)(hc:c.callee=.builtin .clear)(p:c.args.toList=[x])(z:c.argTypes.toList=[t])(h:match P.underlying t,ev x with
    |some (.slice e),.O1 r _=>(match m r with
     |some (.sl ty l,.own)=>if bC P e ty then k ⟨[(r,(.sl ty (List.replicate l.length ty.zero),.own))],[r],.S6⟩else False
     |_=>False)
    |_,_=>False):wD F K H w m k ((execOp ρ o).run P w):=by
 have E:=n6 x;split at h
 .rename_i e r f S he;rw[he]at E;simp only[b9]at E;obtain⟨hd,G,e1,_⟩:=E;split at h
  .rename_i ty l g;split at h
   .rename_i hz;obtain⟨i,v,hi,hv,A⟩:=Z9 hz;have I:=hm.cont r _ .own hd g (by simp) G
    obtain⟨c1,T,U,V⟩:=I;have J:c.args.map ρ= #[ρ x]:=by apply db.1;simp[p]
    have L:c.argTypes= #[t]:=by apply db.1;simp[z]
    rw[D8 o ho hc,J,L,e1];simp only[builtin];have q:v.cells.size=ty.size:=by
     have:=r9.length ty _ _ (G1 (K:=K) ty);rw[<-A]at this;simpa using this
    by_cases M:l.length=0
    .have s:hd.len=0:=by omega
     have a:(Builtin.clear_ #[t] o.type #[.slice (hd.base.map fun b=>⟨b,0,none⟩) hd.len hd.cap]).run P w=.ok (.tuple #[]) w:=by
      rw[s];cases hb:hd.base<;>simp[Builtin.clear_,u7 S]
     rw[c8 a];have hl:l=[]:=bw M;refine⟨_,h,⟨?_,l8,.refl F w⟩,by simp[b9]⟩
     subst hl;have:iN m [(r,(c7.sl ty (List.replicate ([]:List ty.den).length ty.zero),p0.own))]=m:=by
      funext r';simp only[iN,eh,sg];by_cases B:r'=r
      .subst B;rw[j8,g]
      .rw[m7 _ _ _ _ B]
     rw[this];exact hm
    .rcases V with⟨V,c5⟩|⟨b,cs,e',fz,D,X,q3,q4⟩
     .omega
     .obtain⟨_,_,_,N⟩:=hm.own r _ hd b g G D;obtain⟨ZF,e2,hh⟩:=N rfl;rw[hh]at X;cases X;have u:(Builtin.zeroCells v.cells hd.len).toList=(List.replicate hd.len (zeroV ty)).flatten:=by
       have d:=(B2.replicate (G1 (K:=K) ty) hd.len).1;simp only[dt]at d;apply cq;intro j;by_cases Y:j<hd.len*ty.size
       .rw[jB (zeroV ty) ty.size (r9.length ty _ _ (G1 (K:=K) ty)) hd.len j Y,<-A];have O:j % ty.size<v.cells.size:=by rw[q];exact fk _ ty.size_pos
        simp[Builtin.zeroCells,Y,q,py v.cells (j % ty.size) O]
       .rw[an (by simp[Builtin.zeroCells,q];omega),an (by omega)]
      have d:=B2.replicate (G1 (K:=K) ty) hd.len;have R:(Builtin.zeroCells v.cells hd.len).toList.length=hd.len*ty.size:=by
       rw[u];have:=d.1;simpa using this
      have Z:hd.len*ty.size<=cs.size:=ew (ay _ U.1) q3;obtain⟨w',hr,C⟩:=Abs.J9 P b 0 _ (Builtin.zeroCells v.cells hd.len).toList w cs 0 hh (by omega) (fun y hy=>by
       rw[u]at hy
       exact Dw (jA d y hy))
      have a:(Builtin.clear_ #[t] o.type #[.slice (hd.base.map fun b=>⟨b,0,none⟩) hd.len hd.cap]).run P w=.ok (.tuple #[]) w':=by
       rw[D];obtain⟨n,hn⟩:∃n,hd.len=n+1:=⟨hd.len- 1,by omega⟩
       rw[hn]at hr ⊢;simp[Builtin.clear_,u7 S,dU hi hv,hr]
      rw[c8 a];refine⟨_,h,V9 l8 hm g G D (by simpa using C) ?_ [r] _,by simp[b9]⟩
      refine⟨c1,by rw[T];simp,U,.inr ⟨b,_,_,(0,0),D,by simpa using C.here,by rw[M7];exact q3,?_⟩⟩
      rw[<-T];have:(H8 cs 0 (Builtin.zeroCells v.cells hd.len).toList)=((List.replicate hd.len (zeroV ty)).flatten++cs.toList.drop (hd.len*ty.size)).toArray:=by
       apply db.1;rw[I9 _ _ _ (by omega),R,u]
       simp
      rw[this];exact d.elems
   .cases h
  .cases h
 .cases h
end
end Go.Abs
end
section
open Go.RowKit
namespace Go.Abs
section
variable {P:Program} {F:Nat->Prop} {K:b8} {H:Nat->Option Hd} {w:World} {m:Mm} {nx:Nat} {ev:Operand->a7} {ρ:Operand->Value} {Γ:Env}
theorem EX(a:L4 F K w)(t:l5 F K H w m){d:Int->Int}{b:Nat}{o o':Obj}(z:w.heap[b]? =some o)(C:cC d o)(u:cC d o')(s:K.inv b=some (cC d)):EW F K H w m ⟨[],[],.S6⟩ (w.putObj b o'):=by
 have n:∀q,(w.putObj b o').heap[q]? =if q=b then some o' else w.heap[q]? :=by
  intro q;by_cases e:q=b
  .subst e;rw[aj rfl];simp[World.putObj,s8 z]
  .rw[ai e];simp[World.putObj,gj (qy e)]
 have D:∀cs e fz,o≠ .cells cs e fz:=by
  intro cs e fz h;obtain⟨es,c,rfl,_⟩:=C;cases h
 refine⟨?_,⟨⟨fun i cs v=>?_,fun i p k=>?_⟩,fun i l=>?_,a.inv,a.apart⟩,⟨rfl,rfl,rfl,by simp[World.putObj],fun i l=>?_,aw _⟩⟩
 .refine t.world (fun r c f hd i j x A B=>?_)
  rw[n,ai];intro y;subst y;cases f with
  |dead=>exact x rfl
  |own=>have:=(t.own r c hd i j A B).2.2.1;rw[s]at this;cases this
  |X9=>
   obtain⟨cs,g⟩:=t.X9 r c hd i j A B;have:=a.apart _ _ s;rw[g]at this;cases this
 .obtain⟨e,fz,j⟩:=a.w8.1 i cs v;refine⟨e,fz,?_⟩;rw[n,ai]
  .exact j
  .intro y;subst y;rw[z]at j;exact D _ _ _ (cz j)
 .obtain⟨E,j,x⟩:=a.w8.2 i p k;by_cases e:i=b
  .subst e;rw[s]at k;cases k;exact⟨o',by rw[n,aj rfl],u⟩
  .exact⟨E,by rw[n,ai e];exact j,x⟩
 .have:=a.lt i l;simpa [World.putObj]using this
 .rw[n,ai];intro e;subst e;exact a.inv _ _ s l
theorem Tm{k:Q->Prop}(a:L4 F K w)(v:l5 F K H w m)(o:Oper){t:TypeId}{r:Option Operand}(A:o.op=.makeMap t r)(B:r.isNone=true)(d:Int->Int)(h:k (.pure (.s6 (Ea d)))):J3 P F K H w m nx k ((execOp ρ o).run P w):=by
 have x:r=none:=by simpa using B
 subst x;have n:(execOp ρ o).run P w=.ok (.value (.map (some w.heap.size))) (w.alloc (.map #[] 0)):=by
  simp only[execOp,A];refine c8 ?_;simp only[Instr.makeMap,ns,au,lb,ak,bg]
 rw[n]
 let K':b8:= {K with inv:=fun b=>if b=w.heap.size then some (cC d)else K.inv b}
 have K8:K.cells w.heap.size=none/\K.inv w.heap.size=none:=a.w8.new (aw _);have q:∀b p,K.inv b=some p->K'.inv b=some p:=by
  intro b p h;show(if b=w.heap.size then _ else K.inv b)=some p
  rw[ai]
  .exact h
  .intro e;subst e;rw[K8.2]at h;cases h
 have s:K.le K':=⟨fun _ _ h=>h,q,fun _ h=>h⟩
 have old:∀b,b<w.heap.size->(w.alloc (.map #[] 0)).heap[b]? =w.heap[b]? :=fun b j=>Below.heap_alloc _ _ _ j
 refine⟨_,K',H,h,s,.refl H,fun r g u=>absurd g u,⟨w.heap.size,rfl,by simp[K']⟩,?_,?_,?_,fun b j=>⟨rfl,?_⟩⟩
 .show l5 F K' H _ (Q.mm (.pure _) nx m);have g:l5 F K H (w.alloc (.map #[] 0)) m:=v.world (fun r c f hd b g u C D=>old b (W1 v g u C D))
  refine g.SO s (fun r c hd b y g2 z=>?_)
  obtain⟨_,E,G,_⟩:=v.own r c hd b y g2 z;refine⟨E,?_⟩;show(if b=w.heap.size then _ else K.inv b)=none
  rw[ai (by have:=W1 v y (by simp) g2 z;omega)]
  exact G
 .refine⟨⟨fun b cs I=>?_,fun b p i=>?_⟩,fun b j=>?_,fun b p i j=>?_,fun b p i=>?_⟩
  .obtain⟨e,J,g⟩:=a.w8.1 b cs I;exact⟨e,J,by rw[old b (s8 g)];exact g⟩
  .have l:(if b=w.heap.size then some (cC d)else K.inv b)=some p:=i
   by_cases e:b=w.heap.size
   .rw[aj e]at l;have L:=cz l;rw[e,<-L];exact⟨.map #[] 0,my w _,#[],0,rfl,by simp⟩
   .rw[ai e]at l;obtain⟨o,g,u⟩:=a.w8.2 b p l;exact⟨o,by rw[old b (s8 g)];exact g,u⟩
  .have:=a.lt b j;simp;omega
  .have i:(if b=w.heap.size then some (cC d)else K.inv b)=some p:=i
   have:=a.lt b j;rw[ai (by omega)]at i
   exact a.inv b p i j
  .have i:(if b=w.heap.size then some (cC d)else K.inv b)=some p:=i
   split at i
   .rename_i e;subst e;exact K8.1
   .exact a.apart b p i
 .exact⟨rfl,rfl,rfl,by simp,fun b j=>old b (a.lt b j),aw _⟩
 .show(if b=w.heap.size then _ else K.inv b)=K.inv b
  rw[ai (by have:=a.lt b j;omega)]
theorem LJ{k:W->Prop}(j:L4 F K w)(C:l5 F K H w m)(d:∀x,b9 K H (ev x) (ρ x))(o:Oper){t:TypeId}{a x v:Operand}(R:o.op=.mapUpdate t a x v)(h:match ev a,ev x,ev v with
  |.s6 p,.agg [.int .i64 a],.int .i64 n=>if uS P t then(∃f,p=Ea f/\n=f a)/\k ⟨[],[],.S6⟩else False
  |.B9 r,x,.int S n=>(match m r with
   |some (.mp mk l clk,.own)=>if pT P t=some mk/\S=mk.kv then(match mk.ZD x with
    |some key=>k ⟨[(r,(.mp mk (qI mk.kt l clk key n) (uG mk.kt l clk key),.own))],[r],.S6⟩
    |none=>False)else False
   |_=>False)
  |_,_,_=>False):wD F K H w m k ((execOp ρ o).run P w):=by
 split at h
 .rename_i p i n D Y E;split at h
  .rename_i u;obtain⟨⟨f,rfl,rfl⟩,h⟩:=h;have q:=d a;have G:=d x;have s:=d v;rw[D]at q;rw[Y]at G;rw[E]at s;simp only[b9]at q G s;obtain⟨b,I,T⟩:=q;obtain⟨cs,J,L⟩:=G;have M:cs= #[.int .i64 i]:=by
    obtain⟨c,Z,e,U,hr⟩:=c6.inv L;simp only[b9]at U;rw[c6.J8.1 hr]at e;apply ln;rw[e,U]
   subst M;obtain⟨ob,y,z⟩:=j.w8.2 b _ T;obtain⟨o',N,g⟩:=yK u y z i;have:(execOp ρ o).run P w=.ok .skip (w.putObj b o'):=by
    simp[execOp,R,I,J,s,g]
   rw[this];exact⟨_,h,EX j C y z N T,rfl⟩
  .cases h
 .rename_i r S n D E;split at h
  .rename_i mk l clk A;split at h
   .rename_i u;obtain⟨u,rfl⟩:=u;split at h
    .rename_i key B;obtain⟨_,_,_,_,hint,_⟩:=cY u;have q:=d a;have s:=d v;rw[D]at q;rw[E]at s;simp only[b9]at q s;obtain⟨hd,b,V,g2,I⟩:=q;have J:=DA hint B (d x);obtain⟨c1,c2,c3,b',X,O⟩:=C.cont r _ .own hd A (by simp) V
     rw[g2]at X;cases X;have g:=Bc u O key n;have:(execOp ρ o).run P w=.ok .skip (w.putObj b (.map ((qI mk.kt l clk key n).map mk.nM).toArray (uG mk.kt l clk key))):=by
      simp[execOp,R,I,J,s,g]
     rw[this];obtain⟨q1,q2,q3⟩:=oG (c':=.mp mk (qI mk.kt l clk key n) (uG mk.kt l clk key)) (o':=.map ((qI mk.kt l clk key n).map mk.nM).toArray (uG mk.kt l clk key)) j C A V g2 O (fun _ _ _ h=>by cases h) rfl
      ⟨c1,c2,c3,b,g2,by rw[I0 O,aj rfl]⟩
     exact⟨_,h,⟨q1,q2,q3⟩,rfl⟩
    .cases h
   .cases h
  .cases h
 .cases h
theorem Wq{k:W->Prop}(f:L4 F K w)(D:l5 F K H w m)(g:∀x,b9 K H (ev x) (ρ x))(o:Oper){c:Call}{x y:Operand}{t u:TypeId}(E:o.op=.call c)(r:c.callee=.builtin .delete)(d:c.args.toList=[x,y])(j:c.argTypes.toList=[t,u])
  (h:match ev x,ev y with
  |.s6 p,.agg [.int .i64 _]=>if uS P t then(∃a,p=Ea a)/\k ⟨[],[],.S6⟩else False
  |_,_=>False):wD F K H w m k ((execOp ρ o).run P w):=by
 split at h
 .rename_i p i G I;split at h
  .rename_i J;obtain⟨⟨a,rfl⟩,h⟩:=h;have s:=g x;have v:=g y;rw[G]at s;rw[I]at v;simp only[b9]at s v;obtain⟨b,L,C⟩:=s;obtain⟨cs,M,z⟩:=v;have A:cs= #[.int .i64 i]:=by
    obtain⟨c,N,e,r,O⟩:=c6.inv z;simp only[b9]at r;rw[c6.J8.1 O]at e;apply ln;rw[e,r]
   subst A;obtain⟨T,l,n⟩:=f.w8.2 b _ C;obtain⟨o',B,q⟩:=ET (u:=u) (ty:=o.type) J l n i;have R:c.args= #[x,y]:=by apply ln;simpa using d
   have S:c.argTypes= #[t,u]:=by apply ln;simpa using j
   have:(execOp ρ o).run P w=.ok (.value (.tuple #[])) (w.putObj b o'):=by
    simp[execOp,E,resolve,r,R,S,L,M,invoke,builtin,q,go_sem]
   rw[this];exact⟨_,h,EX f D l n B C,by simp[b9]⟩
  .cases h
 .cases h
theorem yM{r:Nat}{v:Value}{mk:MK}{l:I2 mk.kt}{clk:Nat}{f:p0}(e:l5 F K H w m)(a:m r=some (.mp mk l clk,f))(g:f≠ .dead)(h:b9 K H (.B9 r) v):
  ∃hd b,H r=some hd/\hd.base=some b/\v=.map (some b)/\w.heap[b]? =some (.map (l.map mk.nM).toArray clk)/\hd.sz=0/\hd.len=0/\hd.cap=0:=by
 simp only[b9]at h;obtain⟨hd,b,c,g2,i⟩:=h;obtain⟨j,k,n,p,d,o⟩:=e.cont r _ f hd a g c;rw[g2]at d;cases d;exact⟨hd,b,c,g2,i,o,j,k,n⟩
theorem Tn{k:Q->Prop}(a:L4 F K w)(j:l5 F K H w m)(l:∀q,k q->∀i,i<q.new.length->H (nx+i)=none)(o:Oper){t:TypeId}{mk:MK}(x:o.op=.makeMap t none)(h:k ⟨.B9 nx,[.mp mk [] 0],[],[]⟩):J3 P F K H w m nx k ((execOp ρ o).run P w):=by
 have e:(execOp ρ o).run P w=.ok (.value (.map (some w.heap.size))) (w.alloc (.map #[] 0)):=by
  simp only[execOp,x];refine c8 ?_;simp only[Instr.makeMap,ns,au,lb,ak,bg]
 rw[e];have s:H nx=none:=by simpa using l _ h 0 (by simp)
 refine⟨_,K,N9 H nx ⟨some w.heap.size,0,0,0⟩,h,.refl K,M3 s,fun r g d=>?_,?_,?_,a.alloc _,wA a _,.refl F K⟩
 .by_cases u:r=nx
  .subst u;simp
  .rw[m7 _ _ _ _ u]at d;exact absurd g d
 .simp only[b9];exact⟨_,_,j8 _ _ _,rfl,rfl⟩
 .have y:l5 F K H (w.alloc (.map #[] 0)) m:=j.world (fun r c f hd b g d n z=>jk w _ b (W1 j g d n z))
  refine y.new nx s (.mp mk [] 0) _ ⟨rfl,rfl,rfl,_,rfl,L0 w _⟩ (fun b p=>?_)
  cases p;have v:=a.w8.new (aw w.heap.size);refine⟨fun A=>?_,v.1,v.2,(fun h=>by cases h),fun C c' B g d n=>?_⟩
  .have:=a.lt _ A;omega
  .have:=W1 j g (by simp) d n;omega
theorem Wr{k:Q->Prop}(j:L4 F K w)(p:l5 F K H w m)(a:∀x,b9 K H (ev x) (ρ x))(o:Oper){t:TypeId}{x i:Operand}{c:Bool}(s:o.op=.lookup t x i c)(h:match ev x with
  |.B9 r=>(match m r with
   |some (.mp mk l _,f)=>if pT P t=some mk/\f≠ .dead then(match mk.ZD (ev i)with
    |some key=>k (.read (BZ mk l key c) r)
    |none=>False)else False
   |_=>False)
  |_=>False):J3 P F K H w m nx k ((execOp ρ o).run P w):=by
 split at h
 .rename_i r u;split at h
  .rename_i mk l clk f n;split at h
   .rename_i g;obtain⟨g,v⟩:=g;split at h
    .rename_i key d;obtain⟨_,_,_,_,hint,_⟩:=cY g;have q:=a x;rw[u]at q;obtain⟨hd,b,B,g2,y,z,_⟩:=yM p n v q;have A:=DA hint d (a i);have e:=uX g z key c;have:(execOp ρ o).run P w=.ok (.value (if c then .tuple #[.int mk.kv (lD mk.kt l key),.bool (qH mk.kt l key)]else .int mk.kv (lD mk.kt l key))) w:=by
      simp only[execOp,s,y,A];exact c8 e
     rw[this];refine H9 j p r ?_ h;cases c
     .simp[BZ,b9]
     .simp only[BZ,b9,di];exact⟨_,rfl,.cons (by simp[b9]) (.cons (by simp[b9]) .nil)⟩
    .cases h
   .cases h
  .cases h
 .cases h
theorem OU{k:Q->Prop}(I:Good P Γ)(j:L4 F K w)(z:l5 F K H w m)(p:∀x,b9 K H (ev x) (ρ x))(A:∀q,k q->∀i,i<q.new.length->H (nx+i)=none)(o:Oper)
  (h:Q0 Γ P o ev nx m k):J3 P F K H w m nx k ((execOp ρ o).run P w):=by
 unfold Q0 at h;split at h
 .rename_i x v;exact Wf j z p A o (.inl v) h
 .rename_i x v;exact Wf j z p A o (.inr v) h
 .rename_i c a b v;exact a3B j z p o v h
 .rename_i e v;exact a0i j z A o v h
 .rename_i e x v;exact a6s j z p A o v h
 .rename_i t ps v;exact a0j j z p o v h
 .rename_i t n ps v;exact JO j z p A o v h
 .rename_i t a v;exact a3D j z p o v h
 .rename_i x v;exact OM j z p o v h
 .rename_i op t x y u v;exact a0e j z p o v h
 .rename_i op t x v;exact a3C j z p o h v
 .rename_i s d x v;exact Tf j z p o v h
 .rename_i t r v;split at h
  .rename_i G;obtain⟨C,h⟩:=h;exact Tm j z o v (by simp only[ah]at G;exact G.2) C h
  .split at h
   .exact Tn j z A o v h
   .cases h
 .rename_i t x i M v;exact Wr j z p o v h
 .rename_i N first cap v;exact ON j z p o v h
 .rename_i t l c v;exact LD j z p A o v h
 .rename_i t x lo O mx v;exact a0h j z p o v h
 .rename_i s x f v;exact LA j z p o v h
 .rename_i s x f v;exact a0f j z p o v h
 .rename_i t x i v;exact LB j z p o v h
 .rename_i t x i v;exact a0g j z p o v h
 .rename_i x i v;exact Tg j z p o v h
 .rename_i c v;split at h
  .rename_i B;split at h
   .rename_i x t D E;split at h
    .rename_i e J;exact a6p j z p o v B D E J h
    .cases h
   .cases h
  .rename_i B;split at h
   .rename_i x y t u D E;exact Wh j z p A o v B D E h
   .cases h
  .rename_i B;exact a6q j z p o v B h
  .rename_i B;exact a6r j z p o v B h
  .rename_i g B;split at h
   .rename_i f first cap L;exact a3M I j z p A o v B L h
   .cases h
  .cases h
 .cases h
theorem OV{k:W->Prop}(b:L4 F K w)(f:l5 F K H w m)(d:∀x,b9 K H (ev x) (ρ x))(o:Oper)(h:nN P o ev m k):wD F K H w m k ((execOp ρ o).run P w):=by
 unfold nN at h;split at h
 .rename_i t a x e;exact a0n b f d o e h
 .rename_i c e;split at h
  .rename_i g;split at h
   .rename_i x t i j;exact a0o b f d o e g i j h
   .cases h
  .rename_i l _ g;unfold ZY at h;split at h
   .split at h
    .rename_i x y t u i j;exact Wq b f d o e g i j h
    .cases h
   .cases h
  .cases h
 .rename_i t a x v e;simp only[AF]at h;exact LJ b f d o e h
 .cases h
end
end Go.Abs
end
section
namespace Go.Abs
section
variable {P:Program} {m m':Mm} {nx:Nat} {ev ev':Operand->a7} {Γ:Env}
theorem Cm{t:TypeId}:∀ (ps:List (Nat×Operand)) (cells:List a7),(∀u∈ps,ev u.2=ev' u.2)->gN P ev t cells ps=gN P ev' t cells ps
 |[],_,_=>rfl
 |(i,x)::ps,cells,h=>by
  have a:ev x=ev' x:=h (i,x) (by simp)
  simp only[gN,a];split
  .split
   .split
    .exact Cm ps _ (fun u b=>h u (by simp[b]))
    .rfl
   .rfl
  .rfl
theorem yN{e:TypeId}:∀ (ps:List (Nat×Operand)) (i:Nat),(∀u∈ps,ev u.2=ev' u.2)->bD P m ev e i ps=bD P m ev' e i ps
 |[],_,_=>rfl
 |(j,x)::ps,i,h=>by
  have a:ev x=ev' x:=h (j,x) (by simp)
  have b:=yN (e:=e) ps (i+1) (fun u c=>h u (by simp[c]))
  simp only[bD,a,b]
theorem wE{l:List Operand}(h:∀x∈l,ev x=ev' x):l.map ev=l.map ev':=jn h
theorem oH{x:Option Operand}(h:∀y∈x.toList,ev y=ev' y):x.map ev=x.map ev':=by
 cases x with
 |none=>rfl
 |some y=>simp[h y (by simp)]
theorem OW{k:Q->Prop}(o:Oper)(h:∀x∈o.op.operands.toList,ev x=ev' x):Q0 Γ P o ev nx m k=Q0 Γ P o ev' nx m k:=by
 obtain⟨F,op,D,G,w,guard⟩:=o;cases op<;>simp only[Op.operands]at h
 case move x=>simp only[Q0,Q0.HS,h x (by simp)]
 case assign x=>simp only[Q0,Q0.HS,h x (by simp)]
 case pick c a b=>simp only[Q0,h c (by simp),h a (by simp),h b (by simp)]
 case box e x=>simp only[Q0,h x (by simp)]
 case build t ps=>
  have z:=fun cells=>Cm (P:=P) (t:=t) ps.toList cells (fun u A=>h u.2 (by simp only[cd];exact⟨u,A,rfl⟩))
  simp only[Q0,vP,z]
 case buildSlice t n ps=>
  have z:=fun e i=>yN (P:=P) (m:=m) (ev:=ev) (ev':=ev') (e:=e) ps.toList i (fun u A=>h u.2 (by simp only[cd];exact⟨u,A,rfl⟩))
  simp only[Q0,z]
 case load t x=>simp only[Q0,h x (by simp)]
 case nilCheck x=>simp only[Q0,h x (by simp)]
 case binOp op t x y u=>simp only[Q0,h x (by simp),h y (by simp)]
 case unOp op t x=>simp only[Q0,h x (by simp)]
 case convert s d x=>simp only[Q0,h x (by simp)]
 case makeFunc N a b=>
  have q:=wE (l:=a.toList) (ev:=ev) (ev':=ev') (fun x j=>h x (by simp at j ⊢;exact .inl j))
  have B:=wE (l:=b.toList) (ev:=ev) (ev':=ev') (fun x j=>h x (by simp at j ⊢;exact .inr j))
  simp only[Q0,q,B]
 case makeSlice t l c=>simp only[Q0,h l (by simp),h c (by simp)]
 case slice t x lo v mx=>
  have q:=oH (x:=lo) (ev:=ev) (ev':=ev') (fun y E=>h y (by cases lo<;>simp_all))
  have B:=oH (x:=v) (ev:=ev) (ev':=ev') (fun y E=>h y (by cases lo<;>cases v<;>simp_all))
  have H:=oH (x:=mx) (ev:=ev) (ev':=ev') (fun y E=>h y (by cases lo<;>cases v<;>cases mx<;>simp_all))
  simp only[Q0,h x (by cases lo<;>cases v<;>cases mx<;>simp),q,B,H]
 case fieldAddr s x f=>simp only[Q0,h x (by simp)]
 case field s x f=>simp only[Q0,h x (by simp)]
 case indexAddr t x i=>simp only[Q0,h x (by simp),h i (by simp)]
 case index t x i=>simp only[Q0,h x (by simp),h i (by simp)]
 case lookup t x i O=>simp only[Q0,h x (by simp),h i (by simp)]
 case extract x i=>simp only[Q0,h x (by simp)]
 case call c=>
  obtain⟨p,args,I⟩:=c;have q:=wE (l:=args.toList) (ev:=ev) (ev':=ev') (fun x j=>h x (by simp only[Call.operands,fj,cj];exact .inr j))
  cases p with
  |value g=>
   have J:=h g (by simp[Call.operands])
   simp only[Q0,q,J]
  |invoke r n=>simp only[Q0]
  |builtin b=>
   have C:∀x∈args.toList,ev x=ev' x:=fun x j=>h x (by simp only[Call.operands,fj,cj];exact .inr j)
   cases b<;>simp only[Q0,q]
   case len=>
    split
    .rename_i x t j K;have:=C x (by rw[j];simp)
     simp only[this]
    .rfl
   case append=>
    split
    .rename_i x y t u j K;have L:=C x (by rw[j];simp)
     have M:=C y (by rw[j];simp)
     simp only[L,M]
    .rfl
 all_goals simp only[Q0]
theorem OY{k:W->Prop}(o:Oper)(h:∀x∈o.op.operands.toList,ev x=ev' x):nN P o ev m k=nN P o ev' m k:=by
 obtain⟨p,op,l,q,f,guard⟩:=o;cases op<;>simp only[Op.operands]at h
 case store t a x=>simp only[nN,h a (by simp),h x (by simp)]
 case mapUpdate t a x v=>simp only[nN,h a (by simp),h x (by simp),h v (by simp)]
 case call c=>
  obtain⟨d,args,s⟩:=c;have i:∀x∈args.toList,ev x=ev' x:=fun x e=>h x (by simp only[Call.operands,fj,cj];exact .inr e)
  cases d with
  |value g=>simp only[nN]
  |invoke r n=>simp only[nN]
  |builtin b=>
   cases b<;>simp only[nN]
   case clear=>
    split
    .rename_i x t e w;have j:=i x (by rw[e];simp)
     simp only[j]
    .rfl
   case delete=>
    simp only[ZY];split
    .rename_i x y t u e w;have j:=i x (by rw[e];simp)
     have z:=i y (by rw[e];simp)
     simp only[j,z]
    .rfl
   all_goals rfl
 all_goals simp only[nN]
theorem qY:∀ (d:Nat),(∀ (v v':a7) (rs:List (Nat×p0)),view m d v=some (v',rs)->(∀r∈O5 rs,m' r=m r)->view m' d v=some (v',rs))/\
  (∀ (vs c:List a7) (rs:List (Nat×p0)),Z6 (view m d) vs=some (c,rs)->(∀r∈O5 rs,m' r=m r)->Z6 (view m' d) vs=some (c,rs)):=by
 have s:∀ (a b:List (Nat×p0)),O5 (a++b)=O5 a++O5 b:=by
  intro a
  induction a with
  |nil=>intro b;rfl
  |cons u a o=>intro b;obtain⟨r,f⟩:=u;simp[O5,o]
 have C:∀d,(∀ (v v':a7) (rs:List (Nat×p0)),view m d v=some (v',rs)->(∀r∈O5 rs,m' r=m r)->view m' d v=some (v',rs))->
   (∀ (vs c:List a7) (rs:List (Nat×p0)),Z6 (view m d) vs=some (c,rs)->(∀r∈O5 rs,m' r=m r)->Z6 (view m' d) vs=some (c,rs)):=by
  intro d A vs
  induction vs with
  |nil=>intro c rs h _;simpa [Z6]using h
  |cons v vs o=>
   intro c rs h k;simp only[Z6]at h ⊢;split at h
   .rename_i v' E w;split at h
    .rename_i F G x;simp only[ae,aq]at h;obtain⟨rfl,rfl⟩:=h;rw[s]at k;rw[A _ _ _ w (fun r q=>k r (by simp[q])),o _ _ x (fun r q=>k r (by simp[q]))]
    .cases h
   .cases h
 intro d
 induction d with
 |zero=>exact⟨fun v v' rs h _=>by simp[view]at h,C 0 (fun v v' rs h _=>by simp[view]at h)⟩
 |succ d o=>
  have A:∀ (v v':a7) (rs:List (Nat×p0)),view m (d+1) v=some (v',rs)->(∀r∈O5 rs,m' r=m r)->view m' (d+1) v=some (v',rs):=by
   intro v v' rs h k;cases v with
   |S6=>simpa [view]using h
   |Y4=>simp[view]at h
   |P5 r i j=>simp[view]at h
   |Dc I n=>simp[view]at h
   |P6 r=>simp[view]at h
   |bool b=>simpa [view]using h
   |int J n=>simpa [view]using h
   |R2 t=>simpa [view]using h
   |imm t l f=>simpa [view]using h
   |S3 t l=>simpa [view]using h
   |J7=>simp[view]at h
   |V6=>simpa [view]using h
   |s6 p=>simpa [view]using h
   |B9 r=>simpa [view]using h
   |O1 r0 D=>
    simp only[view]at h ⊢;have key:r0∈O5 rs:=by
     split at h
     .split at h
      .cases h
      .simp only[ae,aq]at h;obtain⟨_,rfl⟩:=h;simp[O5]
     .cases h
    rw[k r0 key];exact h
   |sub r0 lo len D=>
    simp only[view]at h ⊢;have key:r0∈O5 rs:=by
     split at h
     .split at h
      .cases h
      .simp only[ae,aq]at h;obtain⟨_,rfl⟩:=h;simp[O5]
     .cases h
    rw[k r0 key];exact h
   |ptr r0 off=>
    simp only[view]at h ⊢;split at h
    .rename_i cells g H;split at h
     .cases h
     .rename_i B;split at h
      .rename_i y z e;simp only[ae,aq]at h;obtain⟨rfl,rfl⟩:=h;rw[k r0 (by simp[O5]),H]
       try simp only
       rw[ai B,o.2 _ _ _ e (fun r q=>k r (by simp[O5,q]))]
      .cases h
    .cases h
   |G7 cells=>
    simp only[view]at h ⊢;split at h
    .rename_i y z e;simp only[ae,aq]at h;obtain⟨rfl,rfl⟩:=h;rw[o.2 _ _ _ e k]
    .cases h
   |agg cells=>
    simp only[view]at h ⊢;split at h
    .rename_i y z e;simp only[ae,aq]at h;obtain⟨rfl,rfl⟩:=h;rw[o.2 _ _ _ e k]
    .cases h
   |M1 cells=>
    simp only[view]at h ⊢;split at h
    .rename_i y z e;simp only[ae,aq]at h;obtain⟨rfl,rfl⟩:=h;rw[o.2 _ _ _ e k]
    .cases h
   |fn D a b=>
    simp only[view]at h ⊢;split at h
    .rename_i K E w;split at h
     .rename_i L G x;simp only[ae,aq]at h;obtain⟨rfl,rfl⟩:=h;rw[s]at k;rw[o.2 _ _ _ w (fun r q=>k r (by simp[q])),o.2 _ _ _ x (fun r q=>k r (by simp[q]))]
     .cases h
    .cases h
  exact⟨A,C (d+1) A⟩
theorem uZ{e:TypeId}:∀ (ps:List (Nat×Operand)) (i:Nat) (cells:List (List a7)) (g:List (Nat×p0)),bD P m ev e i ps=some (cells,g)->(∀r∈O5 g,m' r=m r)->bD P m' ev e i ps=some (cells,g)
 |[],_,_,_,h,_=>by simpa [bD]using h
 |(j,x)::ps,i,cells,g,h,k=>by
  have d:∀ (a b:List (Nat×p0)),O5 (a++b)=O5 a++O5 b:=by
   intro a
   induction a with
   |nil=>intro b;rfl
   |cons u a p=>intro b;obtain⟨r,f⟩:=u;simp[O5,p]
  simp only[bD]at h ⊢;split at h
  .rename_i l;rw[aj l];split at h
   .rename_i v t q;split at h
    .rename_i s rest w n c;simp only[ae,aq]at h;obtain⟨rfl,rfl⟩:=h;rw[d]at k;rw[(qY 6).1 _ _ _ q (fun r o=>k r (by simp[o]))]
     try simp only
     rw[n,uZ ps (i+1) _ _ c (fun r o=>k r (by simp[o]))]
    .cases h
   .cases h
  .cases h
theorem bT{t:Ty}{v:a7}{ys:List t.den}{rs:List Nat}(h:qG m t v=some (ys,rs))(a:∀r∈rs,m' r=m r):qG m' t v=some (ys,rs):=by
 unfold qG at h ⊢;cases v<;>try exact h
 case O1 r f=>
  simp only at h ⊢;have key:r∈rs:=by
   split at h
   .split at h
    .split at h
     .cases h
     .simp only[ae,aq]at h;obtain⟨_,rfl⟩:=h;simp
    .cases h
   .cases h
  rw[a r key];exact h
 case sub r lo len f=>
  simp only at h ⊢;have key:r∈rs:=by
   split at h
   .split at h
    .split at h
     .cases h
     .simp only[ae,aq]at h;obtain⟨_,rfl⟩:=h;simp
    .cases h
   .cases h
  rw[a r key];exact h
theorem LM{q:Q}{x:a7}(h:Hn m x (fun a=>a=q))(c:∀r∈q.reads,m' r=m r):Hn m' x (fun a=>a=q):=by
 unfold Hn at h ⊢;cases x<;>try exact h
 case O1 r f=>
  simp only at h ⊢;split at h
  .rename_i ty l g b;split at h
   .cases h
   .rename_i d;rw[c r (by rw[<-h];simp[Q.read]),b]
    simp only[d,dw];exact h
  .cases h
theorem yO{q:Q}{r:Nat}{v:a7}(h:iM m r v (fun a=>a=q))(c:∀r∈q.reads,m' r=m r):iM m' r v (fun a=>a=q):=by
 unfold iM at h ⊢;split at h
 .split at h
  .rename_i b;split at h
   .rename_i v' f d;simp only[b,di];rw[(qY 6).1 _ _ _ d (fun r e=>c r (by rw[<-h];simp[e]))]
    exact h
   .cases h
  .rename_i b;simp only[b];exact h
 .exact h
theorem JS{q:Q}{t:TypeId}{x:a7}(h:gM P m t x (fun k=>k=q))(c:∀r∈q.reads,m' r=m r):gM P m' t x (fun k=>k=q):=by
 unfold gM at h ⊢;cases x<;>try exact h
 case ptr r off=>
  simp only at h ⊢;split at h
  .rename_i cells f a;split at h
   .cases h
   .rename_i b;split at h
    .rename_i v d;have e:r∈q.reads:=by
      unfold iM at h;split at h
      .split at h
       .split at h
        .rw[<-h];simp
        .cases h
       .rw[<-h];simp[Q.read]
      .rw[<-h];simp[Q.read]
     rw[c r e,a];simp only[b,dw,d];exact yO h c
    .cases h
  .rename_i p ty n l s f a;split at h
   .cases h
   .rename_i b;split at h
    .rename_i v d;have e:r∈q.reads:=by
      unfold iM at h;split at h
      .split at h
       .split at h
        .rw[<-h];simp
        .cases h
       .rw[<-h];simp[Q.read]
      .rw[<-h];simp[Q.read]
     rw[c r e,a];simp only[b,dw,d];exact yO h c
    .cases h
  .cases h
 case P5 r i j=>
  simp only at h ⊢;split at h
  .rename_i ty l f a;split at h
   .cases h
   .rename_i b;split at h
    .rename_i w g;rw[c r (by rw[<-h.2.2];simp[Q.read]),a]
     simp only[b,dw,g];exact h
    rename_i g;obtain⟨o,h⟩:=h;split at h
    .rename_i v d;rw[c r (by rw[<-h];simp[Q.read]),a]
     simp only[b,dw,g];refine⟨o,?_⟩;simp only[d];exact h
    .cases h
  .rename_i p ty n l s f a;split at h
   .cases h
   .rename_i b;obtain⟨o,h⟩:=h;split at h
    .rename_i v d;rw[c r (by rw[<-h];simp[Q.read]),a]
     simp only[b,dw];refine⟨o,?_⟩;simp only[d];exact h
    .cases h
  .cases h
 case P6 r=>
  simp only at h ⊢;split at h
  .rename_i ty l f n y a u;split at h
   .cases h
   .rename_i b;rw[c r (by rw[<-h.2];simp[Q.read]),a,u]
    simp only[b,dw];exact h
  .cases h
theorem EY{q:Q}{t u:TypeId}{x y:a7}(h:Y9 P nx m t u x y (fun g=>g=q))(c:∀r∈q.reads,m' r=m r):Y9 P nx m' t u x y (fun g=>g=q):=by
 unfold Y9 at h ⊢;split at h
 .split at h
  .rename_i i;rw[aj i];split at h
   .split at h
    .rename_i j;rw[aj j];split at h
     .rename_i ys o a;split at h
      .rw[bT a (fun r b=>c r (by rw[<-h.2];exact b))]
       exact h
      .split at h
       .rename_i d;rw[bT a (fun r b=>c r (by rw[<-h.2];exact b))]
        try simp only
        rw[aj d];exact h
       .cases h
      .split at h
       .rename_i d;rw[bT a (fun r b=>c r (by rw[<-h.2.2];exact b))]
        try simp only
        rw[ic d];exact h
       .cases h
      .rename_i r f;split at h
       .rename_i k l e;split at h
        .rename_i d;rw[bT a (fun r b=>c r (by rw[<-h.2];exact al _ b))]
         try simp only
         rw[c r (by rw[<-h.2];exact ar),e]
         try simp only
         rw[ic d];exact h
        .cases h
       .cases h
      .rename_i r lo len;split at h
       .rename_i k l f e;split at h
        .rename_i d;split at h
         .cases h
         .rename_i n;rw[bT a (fun r b=>c r (by rw[<-h.2.2];exact al _ b))]
          try simp only
          rw[c r (by rw[<-h.2.2];exact ar),e]
          try simp only
          rw[ic d,ai n];exact h
        .cases h
       .cases h
      .cases h
     .cases h
    .cases h
   .cases h
  .cases h
 .cases h
theorem Hx{q:Q}{t:TypeId}{x:a7}{lo i mx:Option a7}(h:eJ P m t x lo i mx (fun b=>b=q))(c:∀r∈q.reads,m' r=m r):eJ P m' t x lo i mx (fun b=>b=q):=by
 unfold eJ at h ⊢;split at h
 .split at h
  .rename_i n e r j;split at h
   .rename_i ty l f a;split at h
    .cases h
    .rename_i d;rw[c r (by rw[<-h.2];simp[Q.read]),a]
     try simp only
     rw[ai d];exact h
   .cases h
  .rename_i n e r o p j;split at h
   .rename_i ty l f a;split at h
    .cases h
    .rename_i d;rw[c r (by rw[<-h.2];simp[Q.read]),a]
     try simp only
     rw[ai d];exact h
   .cases h
  .cases h
 all_goals (try exact absurd h id)
 all_goals
  split at h
  .exact h
  .rename_i e r f j;split at h
   .rename_i ty l g a;split at h
    .rename_i k;rw[c r (by rw[<-h.2];simp[Q.read]),a]
     try simp only
     rw[aj k];exact h
    .cases h
   .cases h
  .cases h
theorem yP{q:Q}{t:TypeId}{x i:a7}(h:I6 P m t x i (fun d=>d=q))(c:∀r∈q.reads,m' r=m r):I6 P m' t x i (fun d=>d=q):=by
 unfold I6 at h ⊢;split at h
 .split at h
  .split at h
   .exact h
   .rename_i r f;split at h
    .rename_i ty l g a;split at h
     .rename_i b;rw[c r (by rw[<-h.2];simp[Q.read]),a]
      try simp only
      rw[aj b];exact h
     .cases h
    .cases h
   .rename_i r lo len f;split at h
    .rename_i ty l g a;split at h
     .rename_i b;rw[c r (by rw[<-h.2];simp[Q.read]),a]
      try simp only
      rw[aj b];exact h
     .rename_i e;split at h
      .rename_i o s k;split at h
       .rename_i b;rw[c r (by rw[<-h.2];simp[Q.read]),a]
        try simp only
        rw[ai e]
        first|rw[aj b]|(rw[k];simp only;rw[aj b])
        exact h
       .cases h
      .cases h
    .cases h
   .cases h
  .split at h
   .rename_i r i j;split at h
    .rename_i ty l g a;split at h
     .rename_i b;rw[c r (by rw[<-h.2];simp[Q.read]),a]
      try simp only
      rw[aj b];exact h
     .cases h
    .cases h
   .rename_i r;split at h
    .rename_i ty l g a;split at h
     .rename_i b;rw[c r (by rw[<-h.2];simp[Q.read]),a]
      try simp only
      rw[aj b];exact h
     .cases h
    .cases h
   .rename_i r off;split at h
    .rename_i p ty n l u g a;split at h
     .rename_i b;rw[c r (by rw[<-h.2];simp[Q.read]),a]
      try simp only
      rw[aj b];exact h
     .cases h
    .cases h
   .cases h
  .cases h
 .cases h
theorem JT{q:Q}{f:FuncId}{args:List a7}(h:uT Γ nx m f args (fun a=>a=q))(d:∀r∈q.reads,m' r=m r):uT Γ nx m' f args (fun a=>a=q):=by
 unfold uT at h ⊢;split at h
 .rename_i vs e c g i;split at h
  rotate_left
  .exact h.elim
  rename_i b;obtain⟨n,j,hd⟩:=(c.res vs []).det;have k:=(hd _).1 h.2;have:Ra m' args=some (vs,e):=(qY 6).2 _ _ _ g (fun r l=>d r (by rw[<-k];exact l))
  rw[this,i];simp only;rw[aj b];exact h
 .cases h
theorem LN{q:Q}(o:Oper)(h:Q0 Γ P o ev nx m (fun k=>k=q))(e:∀r∈q.reads,m' r=m r):Q0 Γ P o ev nx m' (fun k=>k=q):=by
 obtain⟨w,op,v,y,p,guard⟩:=o;cases op<;>simp only[Q0]at h ⊢ <;>(try exact h)
 case buildSlice t n ps=>
  split at h
  .split at h
   .split at h
    .rename_i s;rw[aj s];split at h
     .rename_i cells z A;split at h
      .rename_i l B;rw[uZ ps.toList 0 cells z A (fun r C=>e r (by rw[<-h];exact C))]
       simp only[B];exact h
      .cases h
     .cases h
    .cases h
   .cases h
  .cases h
 case load t a=>exact JS h e
 case slice t x lo E mx=>exact Hx h e
 case indexAddr t x i=>exact yP h e
 case lookup t x i F=>
  split at h
  .rename_i r G;split at h
   .rename_i mk l clk f u;split at h
    .rename_i s;split at h
     .rename_i key j;rw[e r (by rw[<-h];simp[Q.read]),u]
      try simp only
      rw[aj s,j];exact h
     .cases h
    .cases h
   .cases h
  .cases h
 case call c=>
  obtain⟨d,args,D⟩:=c;cases d with
  |invoke r n=>exact h
  |value g=>
   simp only at h ⊢;split at h
   .exact JT h e
   .cases h
  |builtin b=>
   cases b<;>simp only at h ⊢ <;>(try exact h)
   case len=>
    split at h
    .split at h
     .exact LM h e
     .cases h
    .cases h
   case append=>
    split at h
    .exact EY h e
    .cases h
theorem LO{A:W}(o:Oper)(h:nN P o ev m (fun x=>x=A))(u:∀r∈A.reads,m' r=m r):nN P o ev m' (fun x=>x=A):=by
 obtain⟨H,op,G,I,B,guard⟩:=o;cases op<;>simp only[nN,AF]at h ⊢ <;>(try exact h)
 case store t a x=>
  split at h
  .rename_i r C;split at h
   .rename_i J l ty N d k;split at h
    .rename_i K;rw[u r (by rw[<-h.2.2.2];simp),d,k]
     try simp only
     rw[ic K];exact h
    .cases h
   .cases h
  .rename_i r off C;split at h
   .rename_i cells xs d k;split at h
    .rename_i w;rw[u r (by rw[<-h];simp),d,k]
     try simp only
     rw[aj w];exact h
    .cases h
   .rename_i p ty n l q xs d k;split at h
    .rename_i w;have D:r∈A.reads:=by
      unfold On at h;split at h
      .rw[<-h];simp
      .split at h
       .rw[<-h];simp
       .cases h
     rw[u r D,d,k]
     try simp only
     rw[aj w];exact h
    .cases h
   .cases h
  .rename_i r i j C;split at h
   .rename_i ty l xs d k;split at h
    .rename_i w;obtain⟨E,h⟩:=h;split at h
     .rename_i L F;rw[u r (by rw[<-h];simp),d,k]
      try simp only
      rw[aj w];refine⟨E,?_⟩;rw[F];exact h
     .cases h
    .cases h
   .rename_i p ty n l q xs d k;split at h
    .rename_i w;obtain⟨E,h⟩:=h;split at h
     .rename_i L F;rw[u r (by rw[<-h];simp),d,k]
      try simp only
      rw[aj w];refine⟨E,?_⟩;rw[F];exact h
     .cases h
    .cases h
   .cases h
  .cases h
 case mapUpdate t a x v=>
  split at h
  .split at h
   .rename_i y;rw[aj y];exact h
   .cases h
  .rename_i r O n R S;split at h
   .rename_i mk l clk d;split at h
    .rename_i y;split at h
     .rename_i key z;rw[u r (by rw[<-h];simp),d]
      try simp only
      rw[aj y,z];exact h
     .cases h
    .cases h
   .cases h
  .cases h
 case call c=>
  obtain⟨s,args,M⟩:=c;cases s with
  |invoke r n=>exact h
  |value g=>exact h
  |builtin b=>
   cases b<;>simp only at h ⊢ <;>(try exact h)
   case clear=>
    split at h
    .split at h
     .rename_i e r f T C;split at h
      .rename_i ty l d;split at h
       .rename_i y;rw[u r (by rw[<-h];simp),d]
        try simp only
        rw[aj y];exact h
       .cases h
      .cases h
     .cases h
    .cases h
end
end Go.Abs
end
section
namespace Go.Abs
section
variable {P:Program} {m:Mm} {nx:Nat} {ev:Operand->a7} {Γ:Env} {k:Q->Prop}
theorem Ws{x:a7}(h:Hn m x k):∃q,Hn m x (fun b=>b=q)/\k q:=by
 unfold Hn at h;cases x<;>try exact absurd h id
 case Y4=>exact⟨_,rfl,h⟩
 case R2=>exact⟨_,rfl,h⟩
 case imm=>exact⟨_,rfl,h⟩
 case sub=>exact⟨_,rfl,h⟩
 case O1 r f=>
  simp only at h;split at h
  .rename_i ty l g a;split at h
   .cases h
   .rename_i c;refine⟨_,?_,h⟩;simp[Hn,a,c]
  .cases h
theorem Ib{r:Nat}{v:a7}(h:iM m r v k):∃q,iM m r v (fun b=>b=q)/\k q:=by
 unfold iM at h;split at h
 .rename_i cs;split at h
  .rename_i a;split at h
   .rename_i v' e c;refine⟨_,?_,h⟩;simp[iM,a,c]
   .cases h
  .rename_i a;refine⟨_,?_,h⟩;simp[iM,a]
 .rename_i d;refine⟨_,?_,h⟩;unfold iM;split
  .rename_i cs;exact absurd rfl (d cs)
  .rfl
theorem To{t:TypeId}{x:a7}(h:gM P m t x k):∃q,gM P m t x (fun s=>s=q)/\k q:=by
 unfold gM at h;cases x<;>try exact absurd h id
 case ptr r off=>
  simp only at h;split at h
  .rename_i cells f a;split at h
   .cases h
   .rename_i b;split at h
    .rename_i v c;obtain⟨q,e,g⟩:=Ib h;refine⟨q,?_,g⟩;simp only[gM,a,b,dw,c];exact e
    .cases h
  .rename_i p ty n l u f a;split at h
   .cases h
   .rename_i b;split at h
    .rename_i v c;obtain⟨q,e,g⟩:=Ib h;refine⟨q,?_,g⟩;simp only[gM,a,b,dw,c];exact e
    .cases h
  .cases h
 case G7 cells=>
  simp only at h;split at h
  .rename_i v c;refine⟨_,?_,h⟩;simp[gM,c]
  .cases h
 case P5 r i j=>
  simp only at h;split at h
  .rename_i ty l f a;split at h
   .cases h
   .rename_i b;split at h
    .rename_i y d;refine⟨_,?_,h.2.2⟩;simp only[gM,a,b,dw,d];exact⟨h.1,h.2.1,by first|rfl|trivial⟩
    rename_i d;obtain⟨o,h⟩:=h;split at h
    .rename_i v c;refine⟨_,?_,h⟩;simp only[gM,a,b,dw,d];exact⟨o,by simp only[c]⟩
    .cases h
  .rename_i p ty n l u f a;split at h
   .cases h
   .rename_i b;obtain⟨o,h⟩:=h;split at h
    .rename_i v c;refine⟨_,?_,h⟩;simp only[gM,a,b,dw];exact⟨o,by simp only[c]⟩
    .cases h
  .cases h
 case P6 r=>
  simp only at h;split at h
  .rename_i ty l f n z a w;split at h
   .cases h
   .rename_i b;refine⟨_,?_,h.2⟩;simp only[gM,a,w,b,dw];exact⟨h.1,by first|rfl|trivial⟩
  .cases h
theorem Wt{op:BinOp}{t:TypeId}{x y:a7}{kk:a7->Prop}(h:V3 P op t x y kk):∃v,V3 P op t x y (fun v'=>v'=v)/\kk v:=by
 unfold V3 at h;split at h
 .rename_i o a kb b;split at h
  .exact⟨_,by simp only[V3];exact⟨h.1,by first|rfl|trivial⟩,h.2⟩
  .exact⟨_,by simp only[V3];exact⟨h.1,by first|rfl|trivial⟩,h.2⟩
  .rename_i p q;split at h
   .rename_i f;subst f;cases op<;>simp only at h<;>(try exact absurd h id)<;>first
     |exact⟨_,by simp only[V3,di],h⟩
     |exact⟨_,by simp only[V3,di];exact⟨h.1,by first|rfl|trivial⟩,h.2⟩
   .cases h
 .rename_i a b;split at h
  .rename_i g;cases op<;>simp only at h<;>(try exact absurd h id)<;>exact⟨_,by simp only[V3,g],h⟩
  .cases h
 .rename_i xs ys;split at h
  .rename_i c;split at h
   .rename_i e i;cases op<;>simp only at h<;>(try exact absurd h id)<;>exact⟨_,by simp only[V3,c,i,di],h⟩
   .cases h
  .cases h
 .rename_i r s ty u;split at h
  .rename_i c;split at h
   .rename_i l w j d;obtain⟨n,g2,h⟩:=h;cases op<;>simp only at h<;>(try exact absurd h id)<;>refine⟨_,?_,h⟩<;>simp only[V3]<;>rw[aj c,j,d]<;>exact⟨n,g2,by first|rfl|trivial⟩
   .cases h
  .cases h
 .cases h
theorem LQ{t u:TypeId}{x y:a7}(h:Y9 P nx m t u x y k):∃q,Y9 P nx m t u x y (fun p=>p=q)/\k q:=by
 unfold Y9 at h;split at h
 .rename_i e v j a;split at h
  .rename_i b;split at h
   .rename_i ty c;split at h
    .rename_i n;split at h
     .rename_i ys w d;split at h
      .refine⟨_,?_,h.2⟩;simp only[Y9];rw[j,a];simp only;rw[aj b,c];simp only;rw[aj n,d];exact⟨h.1,by first|rfl|trivial⟩
      .rename_i o;split at h
       .rename_i g;refine⟨_,?_,h.2⟩;simp only[Y9];rw[j,a];simp only;rw[aj b,c];simp only;rw[aj n,d];simp only;rw[aj g];exact⟨h.1,by first|rfl|trivial⟩
       .cases h
      .split at h
       .rename_i g;refine⟨_,?_,h.2.2⟩;simp only[Y9];rw[j,a];simp only;rw[aj b,c];simp only;rw[aj n,d];simp only;rw[ic g];exact⟨h.1,h.2.1,by first|rfl|trivial⟩
       .cases h
      .rename_i r f;split at h
       .rename_i o l i;split at h
        .rename_i g;refine⟨_,?_,h.2⟩;simp only[Y9];rw[j,a];simp only;rw[aj b,c];simp only;rw[aj n,d];simp only;rw[i];simp only;rw[ic g];exact⟨h.1,by first|rfl|trivial⟩
        .cases h
       .cases h
      .rename_i r lo len;split at h
       .rename_i o l f i;split at h
        .rename_i g;split at h
         .cases h
         .rename_i s;refine⟨_,?_,h.2.2⟩;simp only[Y9];rw[j,a];simp only;rw[aj b,c];simp only;rw[aj n,d];simp only;rw[i];simp only;rw[ic g,ai s];exact⟨h.1,h.2.1,by first|rfl|trivial⟩
        .cases h
       .cases h
      .cases h
     .cases h
    .cases h
   .cases h
  .cases h
 .cases h
theorem OZ{t:TypeId}{x:a7}{lo d mx:Option a7}(h:eJ P m t x lo d mx k):∃q,eJ P m t x lo d mx (fun i=>i=q)/\k q:=by
 unfold eJ at h;split at h
 .split at h
  .rename_i n e r b;split at h
   .rename_i ty l f a;split at h
    .cases h
    .rename_i c;refine⟨_,?_,h.2⟩;simp only[eJ];rw[b];simp only;rw[a];simp only;rw[ai c];exact⟨h.1,by first|rfl|trivial⟩
   .cases h
  .rename_i n e r p s b;split at h
   .rename_i ty l f a;split at h
    .cases h
    .rename_i c;refine⟨_,?_,h.2⟩;simp only[eJ];rw[b];simp only;rw[a];simp only;rw[ai c];exact⟨h.1,by first|rfl|trivial⟩
   .cases h
  .cases h
 all_goals (try exact absurd h id)
 all_goals
  split at h
  .rename_i e ty l f b;split at h
   .rename_i j;refine⟨_,?_,h.2⟩;simp only[eJ];rw[b];simp only;rw[aj j];exact⟨h.1,by first|rfl|trivial⟩
   .cases h
  .rename_i e r f b;split at h
   .rename_i ty l g a;split at h
    .rename_i o;refine⟨_,?_,h.2⟩;simp only[eJ];rw[b];simp only;rw[a];simp only;rw[aj o];exact⟨h.1,by first|rfl|trivial⟩
    .cases h
   .cases h
  .cases h
theorem EZ{t:TypeId}{x i:a7}(h:I6 P m t x i k):∃q,I6 P m t x i (fun u=>u=q)/\k q:=by
 unfold I6 at h;split at h
 .rename_i ki a;split at h
  .rename_i e d;split at h
   .rename_i ty l f;split at h
    .rename_i v;obtain⟨w,h⟩:=h;refine⟨_,?_,h⟩;simp only[I6];rw[d];simp only;rw[aj v];exact⟨w,by first|rfl|trivial⟩
    .cases h
   .rename_i r f;split at h
    .rename_i ty l g b;split at h
     .rename_i c;refine⟨_,?_,h.2⟩;simp only[I6];rw[d];simp only;rw[b];simp only;rw[aj c];exact⟨h.1,by first|rfl|trivial⟩
     .cases h
    .cases h
   .rename_i r lo len f;split at h
    .rename_i ty l g b;split at h
     .rename_i c;refine⟨_,?_,h.2⟩;simp only[I6];rw[d];simp only;rw[b];simp only;rw[aj c];exact⟨h.1,by first|rfl|trivial⟩
     .rename_i o;split at h
      .rename_i y z s;split at h
       .rename_i c;refine⟨_,?_,h.2⟩;simp only[I6];rw[d];simp only;rw[b];simp only;rw[ai o,s];simp only;rw[aj c];exact⟨h.1,by first|rfl|trivial⟩
       .cases h
      .cases h
    .cases h
   .cases h
  .rename_i n e d;split at h
   .rename_i r i j;split at h
    .rename_i ty l g b;split at h
     .rename_i c;refine⟨_,?_,h.2⟩;simp only[I6];rw[d];simp only;rw[b];simp only;rw[aj c];exact⟨h.1,by first|rfl|trivial⟩
     .cases h
    .cases h
   .rename_i r;split at h
    .rename_i ty l g b;split at h
     .rename_i c;refine⟨_,?_,h.2⟩;simp only[I6];rw[d];simp only;rw[b];simp only;rw[aj c];exact⟨h.1,by first|rfl|trivial⟩
     .cases h
    .cases h
   .rename_i r off;split at h
    .rename_i p ty n l A g b;split at h
     .rename_i c;refine⟨_,?_,h.2⟩;simp only[I6];rw[d];simp only;rw[b];simp only;rw[aj c];exact⟨h.1,by first|rfl|trivial⟩
     .cases h
    .cases h
   .cases h
  .cases h
 .cases h
theorem Tp{f:FuncId}{args:List a7}(h:uT Γ nx m f args k):∃q,uT Γ nx m f args (fun b=>b=q)/\k q:=by
 unfold uT at h;split at h
 .rename_i vs i c d e;split at h
  rotate_left
  .exact h.elim
  rename_i a;obtain⟨j,g,hd⟩:=(c.res vs []).det;refine⟨_,?_,(hd _).1 h.2⟩;simp only[uT];rw[d,e];simp only;rw[aj a];exact⟨h.1,(hd _).2 rfl⟩
 .cases h
end
end Go.Abs
end
section
namespace Go.Abs
section
variable {P:Program} {m:Mm} {nx:Nat} {ev:Operand->a7} {Γ:Env} {k:Q->Prop}
theorem Wu(o:Oper)(h:Q0 Γ P o ev nx m k):∃q,Q0 Γ P o ev nx m (fun U=>U=q)/\k q:=by
 obtain⟨V,op,R,X,J,guard⟩:=o;cases op<;>simp only[Q0]at h ⊢ <;>(try exact absurd h id)
 case move x=>
  unfold Q0.HS at h ⊢;split at h
  .rename_i w;split at h
   .rename_i t B;exact⟨_,by first|rfl|trivial,h⟩
   .rename_i B;exact⟨_,by first|rfl|trivial,h⟩
  .rename_i v w;refine⟨_,?_,h⟩
   first|rfl|trivial
 case assign x=>
  unfold Q0.HS at h ⊢;split at h
  .rename_i w;split at h
   .rename_i t B;exact⟨_,by first|rfl|trivial,h⟩
   .rename_i B;exact⟨_,by first|rfl|trivial,h⟩
  .rename_i v w;refine⟨_,?_,h⟩
   first|rfl|trivial
 case pick c a b=>
  split at h
  .rename_i t B;cases t with
   |true=>exact⟨Q.pure (ev a),rfl,h⟩
   |false=>exact⟨Q.pure (ev b),rfl,h⟩
  .cases h
 case alloc e=>
  split at h
  .rename_i n a D;split at h
   .rename_i t B;split at h
    .rename_i p;refine⟨_,?_,h⟩;rw[aj p]
    .cases h
   .cases h
  .rename_i K;split at h
   .rename_i t B;split at h
    .rename_i p;refine⟨_,?_,h⟩;rw[aj p]
    .cases h
   .split at h
    .rename_i p;refine⟨_,?_,h⟩;rw[aj p]
    .cases h
 case box e x=>
  split at h
  .rename_i cells G;exact⟨_,by first|rfl|trivial,h⟩
  .split at h
   .exact⟨_,⟨h.1,by first|rfl|trivial⟩,h.2⟩
   .cases h
 case build t ps=>
  split at h
  .rename_i n e D;split at h
   .rename_i ty z;split at h
    .rename_i p;refine⟨_,?_,h⟩;rw[aj p]
    .cases h
   .cases h
  .rename_i K;split at h
   .rename_i ty z;split at h
    .rename_i p;split at h
     .rename_i cells G;refine⟨_,?_,h⟩;rw[aj p]
     .cases h
    .cases h
   .unfold vP at h;split at h
    .rename_i i fs S hd;split at h
     .rename_i v C;split at h
      .rename_i E;split at h
       .rename_i cells G;refine⟨_,?_,h⟩;simp only[vP,S,hd,C];rw[aj E,G]
       .cases h
      .cases h
     .cases h
    .cases h
 case buildSlice t n ps=>
  split at h
  .rename_i e D;split at h
   .rename_i ty z;split at h
    .rename_i p;split at h
     .rename_i cells rs hp;split at h
      .rename_i l L;refine⟨_,?_,h⟩;rw[aj p]
      .cases h
     .cases h
    .cases h
   .cases h
  .cases h
 case load t a=>exact To h
 case nilCheck x=>
  split at h
  .rename_i r i w;exact⟨_,by first|rfl|trivial,h⟩
  .rename_i cs w;exact⟨_,by first|rfl|trivial,h⟩
  .rename_i r w;exact⟨_,by first|rfl|trivial,h⟩
  .rename_i f a b w;exact⟨_,by first|rfl|trivial,h⟩
  .cases h
 case binOp op t x y u=>
  obtain⟨v,H,I⟩:=Wt h;refine⟨_,?_,I⟩;have:(fun v'=>Q.pure v'=Q.pure v)=(fun v'=>v'=v):=by
   funext v';apply propext;constructor
   .intro e;exact congrArg Q.val e
   .intro e;rw[e]
  rw[this];exact H
 case unOp op t x=>
  split at h
  .rename_i b w;exact⟨_,by first|rfl|trivial,h⟩
  .rename_i M n w;exact⟨_,⟨h.1,by first|rfl|trivial⟩,h.2⟩
  .cases h
 case convert s d x=>
  split at h
  .rename_i ds M ki n H I h3;exact⟨_,⟨h.1,by first|rfl|trivial⟩,h.2⟩
  .cases h
 case makeMap t r=>
  split at h
  .rename_i p;obtain⟨F,h⟩:=h;refine⟨_,?_,h⟩;rw[aj p];exact⟨F,rfl⟩
  .rename_i p;split at h
   .rename_i mk hT;refine⟨_,?_,h⟩;rw[ai p]
   .cases h
 case lookup t x i ck=>
  split at h
  .rename_i r w;split at h
   .rename_i mk l clk f Y;split at h
    .rename_i p;split at h
     .rename_i key T;refine⟨_,?_,h⟩;rw[aj p]
     .cases h
    .cases h
   .cases h
  .cases h
 case makeFunc fn a b=>exact⟨_,rfl,h⟩
 case makeSlice t l c=>
  split at h
  .rename_i e a b D L G;split at h
   .rename_i ty z;split at h
    .rename_i p;refine⟨_,?_,h.2⟩;rw[aj p];exact⟨h.1,by first|rfl|trivial⟩
    .cases h
   .split at h
    .rename_i n e' Z;split at h
     .rename_i ty z;split at h
      .rename_i p;refine⟨_,?_,h.2⟩;rw[aj p];exact⟨h.1,by first|rfl|trivial⟩
      .cases h
     .cases h
    .cases h
  .cases h
 case slice t x lo S mx=>exact OZ h
 case fieldAddr s x f=>
  split at h
  .rename_i off N r o E w;exact⟨_,by first|rfl|trivial,h⟩
  .rename_i off N cs E w;exact⟨_,by first|rfl|trivial,h⟩
  .rename_i off N r i j E w;exact⟨_,by first|rfl|trivial,h⟩
  .cases h
 case field s x f=>
  split at h
  .rename_i off N cs E w;split at h
   .rename_i v C;refine⟨_,?_,h⟩
    first|rfl|rw[C]
   .cases h
  .cases h
 case indexAddr t x i=>exact EZ h
 case index t x i=>
  split at h
  .rename_i n e ty l ki a D w hei;split at h
   .rename_i hs;obtain⟨O,H,I,h⟩:=h;split at h
    .rename_i v C;refine⟨_,?_,h⟩;rw[aj hs];refine⟨O,H,I,?_⟩;rw[C]
    .cases h
   .cases h
  .cases h
 case extract x i=>
  split at h
  .rename_i vs w;split at h
   .rename_i v C;refine⟨_,?_,h⟩
    first|rfl|rw[C]
   .cases h
  .cases h
 case call c=>
  obtain⟨A,args,tys⟩:=c;cases A with
  |invoke r n=>exact absurd h id
  |value g=>
   simp only at h ⊢;split at h
   .rename_i f first cap hg
    skip
    exact Tp h
   .cases h
  |builtin b=>
   cases b<;>simp only at h ⊢ <;>(try exact absurd h id)
   case len=>
    split at h
    .rename_i x t hx B;split at h
     .rename_i e D
      first|rfl|trivial|skip
      exact Ws h
     .cases h
    .cases h
   case append=>
    split at h
    .rename_i x y t u hx B
     first|rfl|trivial|skip
     exact LQ h
    .cases h
   case max=>
    split at h
    .rename_i M a r L;split at h
     .rename_i b O;refine⟨_,?_,h⟩
      first|rfl|trivial|skip
     .cases h
    .cases h
   case min=>
    split at h
    .rename_i M a r L;split at h
     .rename_i b O;refine⟨_,?_,h⟩
      first|rfl|trivial|skip
     .cases h
    .cases h
theorem Wv{I:W->Prop}(o:Oper)(h:nN P o ev m I):∃q,nN P o ev m (fun L=>L=q)/\I q:=by
 obtain⟨M,op,J,N,C,guard⟩:=o;cases op<;>simp only[nN,AF]at h ⊢ <;>(try exact absurd h id)
 case store t a x=>
  split at h
  .rename_i r D;split at h
   .rename_i O l ty U d A;split at h
    .rename_i E;refine⟨_,?_,h.2.2.2⟩;rw[ic E];exact⟨h.1,h.2.1,h.2.2.1,by first|rfl|trivial⟩
    .cases h
   .cases h
  .rename_i r off D;split at h
   .rename_i cells xs d A;split at h
    .rename_i w;refine⟨_,?_,h⟩;rw[aj w]
    .cases h
   .rename_i p ty n l q xs d A;split at h
    .rename_i w;unfold On at h;split at h
     .rename_i B;refine⟨_,?_,h⟩;rw[aj w];unfold On;rw[aj B]
     .split at h
      .rename_i B F;refine⟨_,?_,h⟩;rw[aj w];unfold On;rw[ai B,aj F]
      .cases h
    .cases h
   .cases h
  .rename_i r i j D;split at h
   .rename_i ty l xs d A;split at h
    .rename_i w;obtain⟨G,h⟩:=h;split at h
     .rename_i R H;refine⟨_,?_,h⟩;rw[aj w];refine⟨G,?_⟩;rw[H]
     .cases h
    .cases h
   .rename_i p ty n l q xs d A;split at h
    .rename_i w;obtain⟨G,h⟩:=h;split at h
     .rename_i R H;refine⟨_,?_,h⟩;rw[aj w];refine⟨G,?_⟩;rw[H]
     .cases h
    .cases h
   .cases h
  .cases h
 case call c=>
  obtain⟨s,args,S⟩:=c;cases s with
  |invoke r n=>exact absurd h id
  |value g=>exact absurd h id
  |builtin b=>
   cases b<;>simp only at h ⊢ <;>(try exact absurd h id)
   case clear=>
    split at h
    .rename_i x t A E;split at h
     .rename_i e r f V D;split at h
      .rename_i ty l d;split at h
       .rename_i z;refine⟨_,?_,h⟩;rw[aj z]
       .cases h
      .cases h
     .cases h
    .cases h
   case delete=>
    simp only[ZY]at h ⊢;split at h
    .rename_i x y t u A E;split at h
     .rename_i p i B F;split at h
      .rename_i z;refine⟨_,?_,h.2⟩;rw[aj z];exact⟨h.1,by first|rfl|trivial⟩
      .cases h
     .cases h
    .cases h
 case mapUpdate t a x v=>
  split at h
  .rename_i p i n B F T;split at h
   .rename_i z;refine⟨_,?_,h.2⟩;rw[aj z];exact⟨h.1,by first|rfl|trivial⟩
   .cases h
  .rename_i r X n B T;split at h
   .rename_i mk l clk d;split at h
    .rename_i z;split at h
     .rename_i key K;refine⟨_,?_,h⟩;rw[aj z]
     .cases h
    .cases h
   .cases h
  .cases h
end
end Go.Abs
end
section
namespace Go.Abs
structure SS where
 T:Nat->a7
 nx:Nat
 m:Mm
def j7.s6(b:j7):SS:=⟨u9 b.tmps,b.nx,l9 b.M⟩
def Dk(T:Nat->a7):Operand->a7
 |.tmp t=>T t
 |.const v=>Jp v
 |.global _=>.S6
 |.func f=>.fn (.func f) [] []
theorem qZ(b:List (Nat×a7)):Hg b=Dk (u9 b):=by
 funext x;cases x<;>rfl
def O7(T:Nat->a7):Option Tmp->a7->Nat->a7
 |some d,v=>fun t=>if t=d then v else T t
 |none,_=>T
theorem dX(b:Option Tmp)(v:a7)(c:List (Nat×a7)):u9 (gF b v c)=O7 (u9 c) b v:=by
 cases b with
 |none=>rfl
 |some d=>
  funext t;simp only[gF,u9,O7];by_cases h:d=t
  .rw[aj h,aj h.symm]
  .rw[ai h,ai (qy h)]
theorem tM(tm:List (Nat×a7))(d:Nat)(v:a7)(h:u9 tm d=v):u9 ((d,v)::tm)=u9 tm:=by
 funext t;simp only[u9];by_cases e:d=t
 .subst e;rw[aj rfl,h]
 .rw[ai e]
theorem dA(M:Mem)(r:Nat)(x:c7×p0):l9 ((r,x)::M)=N9 (l9 M) r x:=by
 funext t;simp only[l9,N9];by_cases h:r=t
 .rw[aj h,aj h.symm]
 .rw[ai h,ai (qy h)]
theorem Pb(M:Mem)(u:Nat×p0):l9 (Vj M u)=dI (l9 M) u:=by
 unfold Vj dI;split
 .exact dA ..
 .rfl
theorem kQ:∀ (b:List (Nat×p0)) (M:Mem),l9 (qE M b)=y8 (l9 M) b
 |[],_=>rfl
 |u::b,M=>by rw[qE,y8,kQ b,Pb]
theorem Bf:∀ (cs:List c7) (M:Mem) (n:Nat),l9 (Vk M n cs)=G4 (l9 M) n cs
 |[],_,_=>rfl
 |c::cs,M,n=>by rw[Vk,G4,Bf cs,dA]
theorem a0p(q:Q)(n:Nat)(M:Mem):l9 (q.ml n M)=q.mm n (l9 M):=by
 rw[Q.ml,Q.mm,Bf,kQ]
theorem Bg:∀ (b:List (Nat×(c7×p0))) (M:Mem),l9 (SQ M b)=iN (l9 M) b
 |[],_=>rfl
 |(r,x)::b,M=>by rw[SQ,iN,Bg b,dA]
def L7.val:L7->a7
 |.skip=>.M1 []
 |.quiet _ q=>q.val
 |.write w=>w.val
 |.Y5 _ v _ _ _=>v
def L7.mm:L7->Mm->Mm
 |.skip,m=>m
 |.quiet n q,m=>q.mm n m
 |.write w,m=>iN m w.set
 |.Y5 n _ new set _,m=>G4 (bF m set) n (new.map .z5)
def L7.size:L7->Nat
 |.quiet _ q=>q.new.length
 |.Y5 _ _ new _ _=>new.length
 |_=>0
structure Bh(F:Nat->Prop)(K:b8)(H:Nat->Option Hd)(w:World)(m:Mm)(nx:Nat)(v:a7)(new:List HO)(set:List (Nat×HO))(x:Value)(w':World)(K':b8)(H':Nat->Option Hd):Prop where
 le:K.le K'
 hle:aY H H'
 K8:∀r,H r=none->H' r≠none->nx<=r/\r<nx+new.length
 rep:b9 K' H' v x
 mem:l5 F K' H' w' (G4 (bF m set) nx (new.map .z5))
 ok:L4 F K' w'
 kept:Kept F w w'
 fix:Fix F K K'
def Fa(P:Program)(F:Nat->Prop)(K:b8)(H:Nat->Option Hd)(w:World)(m:Mm)(nx:Nat)(v:a7)(new:List HO)(set:List (Nat×HO)):Result Next->Prop
 |.ok (.value x) w'=>∃K' H',Bh F K H w m nx v new set x w' K' H'
 |.ok .skip w'=>∃K' H',Bh F K H w m nx v new set (.tuple #[]) w' K' H'
 |.ok (.enter f args) w'=>w'=w/\Calls P f args w (fun e b=>∃x K' H',e=.returned x/\Bh F K H w m nx v new set x b K' H')
 |_=>False
def Pc(P:Program)(o:Oper)(T:Nat->a7)(nx:Nat)(m:Mm)(v:a7)(new:List HO)(set:List (Nat×HO))(rd:List Nat):Prop:=
 (∀c,o.op≠ .defer c)/\∀ (e:Nat->a7) (b:Mm),(∀t,Operand.tmp t∈o.op.operands.toList->e t=T t)->(∀r∈rd,b r=m r)->
  ∀ (F:Nat->Prop) (K:b8) (H:Nat->Option Hd) (w:World) (a:Act),L4 F K w->l5 F K H w b->(∀t,b9 K H (e t) (a.tmps.getD t undef))->(∀i,i<new.length->H (nx+i)=none)->Fa P F K H w b nx v new set ((execOp a.eval o).run P w)
def z9(all:Array Oper)(o:Oper)(T:Nat->a7)(c:Bool):Prop:=
 match o.guard with
 |none=>c=true
 |some (j,b)=>∃d,(all[j]?).bind (·.dst)=some d/\(T d=.bool (if c then b else !b)\/(c=false/\T d=.M1 []))
structure U2(Γ:Env)(P:Program)(all:Array Oper)(n:Nat)(o:Oper)(s:SS)(d:L7)(s':SS):Prop where
 dst:S7 n o.dst=true
 T:s'.T=O7 s.T o.dst d.val
 nx:s'.nx=s.nx+d.size
 m:s'.m=d.mm s.m
 UY:match d with
  |.skip=>z9 all o s.T false
  |.quiet n q=>z9 all o s.T true/\n=s.nx/\Q0 Γ P o (Dk s.T) s.nx s.m (fun q'=>q'=q)
  |.write w=>z9 all o s.T true/\nN P o (Dk s.T) s.m (fun w'=>w'=w)
  |.Y5 n v new set rd=>z9 all o s.T true/\n=s.nx/\Pc P o s.T s.nx s.m v new set rd
def tN(Γ:Env)(P:Program):Prop:=
 ∀ (o:Oper) (T:Nat->a7) (nx:Nat) (m:Mm) (v:a7) (rd:List Nat),HT Γ P o.op (Dk T) nx m (fun v' b=>v'=v/\b=rd)->Pc P o T nx m v [] [] rd
theorem Tq{Γ:Env}{P:Program}{op:Op}{ev:Operand->a7}{nx:Nat}{m:Mm}{k:a7->List Nat->Prop}(h:HT Γ P op ev nx m k):
  ∃v rd,HT Γ P op ev nx m (fun v' b=>v'=v/\b=rd)/\k v rd:=by
 unfold HT at h ⊢;split at h
 rotate_left
 .exact h.elim
 split at h
 rotate_left
 .exact h.elim
 split at h
 rotate_left
 .exact h.elim
 unfold Ec at h ⊢;split at h
 rotate_left
 .exact h.elim
 rename_i e f;split at h
 rotate_left
 .exact h.elim
 rename_i cs g i;split at h
 rotate_left
 .exact h.elim
 rename_i c;obtain⟨j,l⟩:=h;obtain⟨v,new,hd⟩:=(e.res _ cs).det;have p:k _ _:=(hd _).1 l;refine⟨_,_,?_,p⟩;rw[aj c];exact⟨j,(hd _).2 ⟨rfl,rfl⟩⟩
theorem rA{Γ:Env}{Y:Option Hand}{P:Program}{all:Array Oper}{o:Oper}{c:j7}{k:j7->L7->Prop}{X:Nat}(j:tN Γ P)(h:Lo Γ Y X P o c k)(l:z9 all o (u9 c.tmps) true):
  (∃d e,U2 Γ P all c.n o c.s6 d e.s6/\e.n=c.n/\e.gh=c.gh/\e.o7=c.o7/\k e d)\/
  (∃args f,S7 c.n o.dst=true/\lS P o.op (Hg c.tmps)=some args/\Y=some f/\f args c (fun b e=>k {e with tmps:=gF o.dst (.bool b) e.tmps} .skip))\/
  (S7 c.n o.dst=true/\isX Γ P X o.op (Hg c.tmps)=true/\Vv Γ P o (Hg c.tmps) c.nx (l9 c.M) (fun q=>k {c with tmps:=gF o.dst q.val c.tmps,nx:=c.nx+q.new.length,M:=q.ml c.nx c.M} .skip)):=by
 unfold Lo at h;split at h
 .rename_i hd;split at h
  .obtain⟨v,rd,g,i⟩:=Tq h;refine .inl ⟨.Y5 c.nx v [] [] rd,{c with tmps:=gF o.dst v c.tmps},⟨hd,dX _ _ _,rfl,rfl,l,rfl,?_⟩,rfl,rfl,rfl,i⟩;rw[qZ]at g;exact j o _ _ _ _ _ g
  split at h
  .rename_i p;exact .inr (.inr ⟨hd,p,h⟩)
  split at h
  .obtain⟨w,g,i⟩:=Wv o h;refine .inl ⟨.write w,{c with tmps:=gF o.dst w.val c.tmps,M:=SQ c.M w.set},⟨hd,dX _ _ _,rfl,Bg _ _,l,?_⟩,rfl,rfl,rfl,i⟩;rw[qZ]at g;exact g
  .split at h
   .rename_i args r;split at h
    .rename_i f;exact .inr (.inl ⟨args,f,hd,r,rfl,h⟩)
    .cases h
   .obtain⟨q,g,i⟩:=Wu o h;refine .inl ⟨.quiet c.nx q,{c with tmps:=gF o.dst q.val c.tmps,nx:=c.nx+q.new.length,M:=q.ml c.nx c.M},⟨hd,dX _ _ _,rfl,a0p _ _ _,l,rfl,?_⟩,rfl,rfl,rfl,i⟩;rw[qZ]at g;exact g
 .cases h
theorem Fb{Γ:Env}{P:Program}{all:Array Oper}{o:Oper}{c:j7}{k:j7->L7->Prop}(e:tN Γ P)(h:Lo Γ none 0 P o c k)(f:z9 all o (u9 c.tmps) true):
  ∃d b,U2 Γ P all c.n o c.s6 d b.s6/\b.n=c.n/\b.gh=c.gh/\b.o7=c.o7/\k b d:=by
 rcases rA e h f with h|⟨_,_,_,_,h,_⟩|⟨_,h,_⟩
 .exact h
 .cases h
 .cases h
structure O2(Γ:Env)(P:Program)(all:Array Oper)(n:Nat)(ops:List Oper)(S:Nat->SS)(D:List L7):Prop where
 len:D.length=ops.length
 step:∀i o d,ops[i]? =some o->D[i]? =some d->U2 Γ P all n o (S i) d (S (i+1))
theorem O2.cons{Γ:Env}{P:Program}{all:Array Oper}{n:Nat}{o:Oper}{ops:List Oper}{S:Nat->SS}{D:List L7}{d:L7}{s:SS}(h:O2 Γ P all n ops S D)(c:U2 Γ P all n o s d (S 0)):
  O2 Γ P all n (o::ops) (fun|0=>s|i+1=>S i) (d::D):=by
 refine⟨by simp[h.len],fun i o' e b hd=>?_⟩
 cases i with
 |zero=>
  simp only[dh,ae]at b hd;subst b;subst hd;exact c
 |succ i=>
  simp only[cx]at b hd;exact h.step i o' e b hd
theorem Ic{Γ:Env}{P:Program}{all:Array Oper}(u:tN Γ P):∀ (ops:List Oper) (c:j7) (v:List L7) (k:j7->List L7->Prop),dM Γ none 0 P all ops c v k->
  ∃S D f,S 0=c.s6/\S ops.length=f.s6/\f.n=c.n/\f.gh=c.gh/\f.o7=c.o7/\O2 Γ P all c.n ops S D/\k f (D.reverse++v)
 |[],c,v,k,h=>⟨fun _=>c.s6,[],c,rfl,rfl,rfl,rfl,rfl,⟨rfl,fun i o d O=>by simp at O⟩,h⟩
 |o::ops,c,v,k,h=>by
  have I:∀ (r g:j7) (d:L7),r.s6=c.s6->r.n=c.n->U2 Γ P all c.n o c.s6 d g.s6->g.n=r.n->g.gh=c.gh->g.o7=c.o7->dM Γ none 0 P all ops g (d::v) k->
    ∃S D f,S 0=c.s6/\S (o::ops).length=f.s6/\f.n=c.n/\f.gh=c.gh/\f.o7=c.o7/\O2 Γ P all c.n (o::ops) S D/\k f (D.reverse++v):=by
   intro r g d h0 A z J l p C;obtain⟨S,D,f,R,U,M,V,Y,N,Z⟩:=Ic u ops g (d::v) k C;have L:g.n=c.n:=J.trans A;rw[L]at M N;refine⟨_,_,f,rfl,?_,M,V.trans l,Y.trans p,N.cons (s:=c.s6) (d:=d) (by rw[R];exact z),?_⟩
   .exact U
   .simpa using Z
  unfold dM at h;split at h
  .rename_i E;obtain⟨d,g,z,A,l,p,C⟩:=Fb (all:=all) u h (by simp[z9,E])
   exact I c g d rfl rfl z A l p C
  .rename_i j want E;split at h
   .rename_i x y;split at h
    .rename_i b G;split at h
     .rename_i q;rw[DZ]at h;cases t:(b==want)with
      |true=>
       have e:b=want:=by simpa using t
       subst e;have es:({c with tmps:=(x,.bool b)::c.tmps}:j7).s6=c.s6:=by
        simp only[j7.s6,tM _ _ _ G]
       obtain⟨d,g,z,A,l,p,C⟩:=Fb (all:=all) u (h.1 t) (by
        simp only[z9,E]
        exact⟨x,y,.inl (by simp[u9])⟩)
       rw[es]at z;exact I _ g d es rfl z A l p C
      |false=>
       have e:b= !want:=by revert t;cases b<;>cases want<;>simp
       refine I c {c with tmps:=gF o.dst (.M1 []) ((x,.bool (!want))::c.tmps)} .skip rfl rfl ⟨q,?_,rfl,rfl,?_⟩ rfl rfl rfl (h.2 t)
       .show u9 (gF o.dst (.M1 []) ((x,.bool (!want))::c.tmps))=O7 (u9 c.tmps) o.dst (.M1 []);rw[dX,tM _ _ _ (by rw[G,e])]
       .simp only[z9,E];exact⟨x,y,.inl (by
         show u9 c.tmps x=_
         rw[G,e];simp)⟩
     .cases h
    .rename_i G;split at h
     .rename_i q;refine I c {c with tmps:=gF o.dst (.M1 []) c.tmps} .skip rfl rfl ⟨q,?_,rfl,rfl,?_⟩ rfl rfl rfl h
      .exact dX _ _ _
      .simp only[z9,E];exact⟨x,y,.inr ⟨trivial,G⟩⟩
     .cases h
    .cases h
   .cases h
abbrev fW:=(Nat->Prop)->b8->(Nat->Option Hd)->World->Prop
structure fW.Ok(X:fW):Prop where
 grow:∀ (F F':Nat->Prop) (K K':b8) (H H':Nat->Option Hd) (w w':World),X F K H w->(∀b,F b->F' b)->K.le K'->aY H H'->Kept F w w'->X F' K' H' w'
def mark(D:Nat):Deferred:= {target:=.collected D,args:= #[]}
def Marks(B:Option Nat)(F:Nat->Prop)(e:List Deferred)(w:World):Prop:=
 match B with
 |none=>e=[]
 |some b=>b<=w.heap.size/\∃c:List Nat,e=c.map mark/\c.Nodup/\∀D∈c,b<=D/\F D/\w.heap[D]? =some (.deferred (some []))
theorem Marks.kept{B:Option Nat}{F:Nat->Prop}{f:List Deferred}{w w':World}(h:Marks B F f w)(g:Kept F w w'):Marks B F f w':=by
 cases B with
 |none=>exact h
 |some b=>
  obtain⟨i,j,k,l,c⟩:=h;exact⟨ew i g.size,j,k,l,fun D e=>⟨(c D e).1,(c D e).2.1,by rw[g.block D (c D e).2.1];exact(c D e).2.2⟩⟩
structure St(X:fW)(B:Option Nat)(F:Nat->Prop)(n:Nat)(K:b8)(H:Nat->Option Hd)(T:Nat->a7)(m:Mm)(a:Act)(w:World):Prop where
 ok:L4 F K w
 mem:l5 F K H w m
 size:n<=a.tmps.size
 defers:Marks B F a.defers w
 tmp:∀t,b9 K H (T t) (a.tmps.getD t undef)
 x:X F K H w
theorem St.ev{X:fW}{B:Option Nat}{F:Nat->Prop}{n:Nat}{K:b8}{H:Nat->Option Hd}{T:Nat->a7}{m:Mm}{a:Act}{w:World}(h:St X B F n K H T m a w)(x:Operand):b9 K H (Dk T x) (a.eval x):=by
 cases x with
 |tmp t=>exact h.tmp t
 |const v=>exact EF v
 |global g=>simp[Dk,b9]
 |func f=>simp[Dk,b9,Act.eval,c6]
structure a97(X:fW)(B:Option Nat)(F:Nat->Prop)(n:Nat)(K:b8)(H:Nat->Option Hd)(T:Nat->a7)(nx:Nat)(m:Mm)(w:World)(o:Oper)(d:L7)(a':Act)(w':World):Prop where
 st:∃K' H',St X B F n K' H' (O7 T o.dst d.val) (d.mm m) a' w'/\K.le K'/\aY H H'/\(∀r,H r=none->H' r≠none->nx<=r/\r<nx+d.size)/\Fix F K K'
 kept:Kept F w w'
theorem Ww(a:Act)(b:Option Tmp)(v:Value)(t:Nat)(c:∀d,b=some d->d<a.tmps.size):
  (a.put b v).tmps.getD t undef=if b=some t then v else a.tmps.getD t undef:=by
 cases b with
 |none=>simp[Act.put]
 |some d=>
  have hd:=c d rfl;by_cases h:d=t
  .subst h;simp[Act.put,hd]
  .simp[Act.put,h,gj h]
theorem jJ(a:Act)(b:Option Tmp)(v:Value):(a.put b v).tmps.size=a.tmps.size:=by
 cases b<;>simp[Act.put]
theorem LS(a:Act)(b:Option Tmp)(v:Value):(a.put b v).defers=a.defers:=by
 cases b<;>rfl
section
variable {X:fW} {B:Option Nat} {Γ:Env} {P:Program} {all:Array Oper} {F:Nat->Prop} {n:Nat} {K:b8} {H:Nat->Option Hd} {T:Nat->a7} {m:Mm} {a:Act} {w:World} {o:Oper} {d:L7} {s s':SS}
theorem St.put(h:St X B F n K H T m a w)(hd:S7 n o.dst=true){K':b8}{H':Nat->Option Hd}{f:Mm}{w':World}{v:Value}{x:a7}(k:X.Ok)(g:K.le K')(i:aY H H')(b:Kept F w w')(l:L4 F K' w')(p:l5 F K' H' w' f)(q:b9 K' H' x v):
  St X B F n K' H' (O7 T o.dst x) f (a.put o.dst v) w':=by
 refine⟨l,p,by rw[jJ];exact h.size,by rw[LS];exact h.defers.kept b,fun t=>?_,k.grow _ _ _ _ _ _ _ _ h.x (fun _ h=>h) g i b⟩
 have c:∀d,o.dst=some d->d<a.tmps.size:=fun d e=>by
  rw[e]at hd;have:d<n:=by simpa [S7]using hd
  exact cc this h.size
 rw[Ww _ _ _ _ c];have old:b9 K' H' (T t) (a.tmps.getD t undef):=b9.mono g i _ _ (h.tmp t);cases j:o.dst with
 |none=>simpa [O7]using old
 |some d=>
  by_cases e:t=d
  .subst e;simpa [O7]using q
  .have:¬(some d=some t):=fun r=>e (cz r).symm
   rw[ai this];simp only[O7,ai e];exact old
theorem M5(h:St X B F n K H T m a w){yes:Bool}(p:∀ (j:Nat) (d:Tmp),(all[j]?).bind (·.dst)=some d->d<a.tmps.size)(g:z9 all o T yes):Region.wanted o (yielded all a.tmps)=yes:=by
 unfold z9 at g;unfold Region.wanted;split at g
 .rename_i e;simp only[e];exact g.symm
 .rename_i j c e;obtain⟨i,k,f⟩:=g;have b:=h.tmp i;have l:=p j i k;simp only[e,yielded,k,gx];rw[ba l];simp only[dg,ba l,ec]at b;rcases f with f|⟨rfl,f⟩
  .rw[f]at b;simp only[b9]at b;rw[b];cases yes<;>cases c<;>rfl
  .rw[f]at b;simp only[b9]at b;obtain⟨cs,q,_⟩:=b;rw[q];rfl
def Wd(ro:Option Nat):Fence:= {Fence.wide with round:=ro}
theorem bU(ro:Option Nat)(f:FuncId):(Wd ro).fn f:=trivial
theorem mI(ro:Option Nat):(Wd ro).depth.isSome=true->1<=0:=fun h=>by simp[Wd,Fence.wide]at h
theorem wF{P:Program}{f:FuncId}{args:Array Value}{w:World}{R:Ending->World->Prop}(ro:Option Nat)(n:Nat)(h:Calls P f args w R):CallsIn (Wd ro) n P f args w R:=
 show CallsIn Fence.wide n P f args w R from callsIn_wide.2 h
theorem Ff{P:Program}{f:FuncId}{args:Array Value}{w:World}{R:Ending->World->Prop}{n:Nat}(h:CallsIn (Wd none) n P f args w R):Calls P f args w R:=
 (callsIn_wide (n:=n)).1 h
theorem Wx{ro:Option Nat}(E:X.Ok){Q:Exit->Act->World->Prop}{K0:Act->World->Prop}(V:Good P Γ)(g:St X B F n K H s.T s.m a w)(A:U2 Γ P all n o s d s')(C:∀ (j:Nat) (d:Tmp),(all[j]?).bind (·.dst)=some d->d<n)
  (O:∀i,i<d.size->H (s.nx+i)=none)(G:∀R w',a97 X B F n K H s.T s.nx s.m w o d R w'->K0 R w'):
  if Region.wanted o (yielded all a.tmps)then o.wpIn (Wd ro) 0 P a w K0 Q else(∀f,o.about P w a.eval=some f->(Wd ro).fn f)/\K0 (a.put o.dst undef) w:=by
 have l:∀ (j:Nat) (d:Tmp),(all[j]?).bind (·.dst)=some d->d<a.tmps.size:=fun j d h=>cc (C j d h) g.size
 have t:=A.UY;cases d with
 |skip=>
  simp only at t;rw[M5 g l t,ai (by simp)]
  exact⟨fun f _=>bU ro f,G _ _ ⟨⟨K,H,g.put A.dst E (.refl K) (.refl H) (.refl F w) g.ok g.mem (by simp[L7.val,b9,undef,c6]),.refl K,.refl H,fun r J L=>absurd J L,.refl F K⟩,.refl F w⟩⟩
 |quiet nx q=>
  obtain⟨k,rfl,y⟩:=t;rw[M5 g l k,aj rfl];have u:∀c,o.op≠ .defer c:=fun c e=>by simp[Q0,e]at y
  have k:=OU V g.ok g.mem g.ev (fun I e i Y=>by subst e;exact O i Y) o y
  refine⟨fun f _=>bU ro f,?_⟩
  rw[gu _ _ _ u];have p:∀v w' K' H',cV F K H w s.m s.nx q v w' K' H'->K0 (a.put o.dst v) w':=fun v w' K' H' b=>
   G _ _ ⟨⟨K',H',g.put A.dst E b.le b.hle b.kept b.ok b.mem b.rep,b.le,b.hle,b.K8,b.fix⟩,b.kept⟩
  generalize S:(execOp a.eval o).run P w=r at k ⊢;cases r with
  |ok x w'=>
   cases x<;>simp only[J3]at k<;>simp only[Oper.uponIn]<;>try exact k.elim
   case value v=>
    obtain⟨I,K',H',e,b⟩:=k;subst e;exact p v w' K' H' b
   case enter f args=>
    obtain⟨rfl,M⟩:=k;refine⟨mI ro,wF ro _ (M.mono fun e z N=>?_)⟩
    obtain⟨v,I,K',H',rfl,Z,b⟩:=N;subst Z;exact p v z K' H' b
  |halt x w'=>simp only[J3]at k
 |write U=>
  obtain⟨k,y⟩:=t;rw[M5 g l k,aj rfl];have u:∀c,o.op≠ .defer c:=fun c e=>by simp[nN,e]at y
  have k:=OV g.ok g.mem g.ev o y;refine⟨fun f _=>bU ro f,?_⟩
  rw[gu _ _ _ u];have p:∀v w',EW F K H w s.m U w'->b9 K H U.val v->K0 (a.put o.dst v) w':=fun v w' b D=>
   G _ _ ⟨⟨K,H,g.put A.dst E (.refl K) (.refl H) b.kept b.ok b.mem D,.refl K,.refl H,fun r J L=>absurd J L,.refl F K⟩,b.kept⟩
  generalize S:(execOp a.eval o).run P w=r at k ⊢;cases r with
  |ok x w'=>
   cases x<;>simp only[wD]at k<;>simp only[Oper.uponIn]<;>try exact k.elim
   case value v=>
    obtain⟨I,e,b,D⟩:=k;subst e;exact p v w' b D
   case skip=>
    obtain⟨I,e,b,D⟩:=k;subst e;exact p _ w' b (by rw[D];simp[b9])
  |halt x w'=>simp only[wD]at k
 |Y5 nx v new set rd=>
  obtain⟨k,rfl,u,y⟩:=t;rw[M5 g l k,aj rfl];have k:=y s.T s.m (fun _ _=>rfl) (fun _ _=>rfl) F K H w a g.ok g.mem g.tmp O
  refine⟨fun f _=>bU ro f,?_⟩
  rw[gu _ _ _ u];have p:∀x w' K' H',Bh F K H w s.m s.nx v new set x w' K' H'->K0 (a.put o.dst x) w':=fun x w' K' H' b=>
   G _ _ ⟨⟨K',H',g.put A.dst E b.le b.hle b.kept b.ok b.mem b.rep,b.le,b.hle,b.K8,b.fix⟩,b.kept⟩
  generalize S:(execOp a.eval o).run P w=r at k ⊢;cases r with
  |ok x w'=>
   cases x<;>simp only[Fa]at k<;>simp only[Oper.uponIn]<;>try exact k.elim
   case value x=>
    obtain⟨K',H',b⟩:=k;exact p x w' K' H' b
   case skip=>
    obtain⟨K',H',b⟩:=k;exact p _ w' K' H' b
   case enter f args=>
    obtain⟨rfl,M⟩:=k;refine⟨mI ro,wF ro _ (M.mono fun e z N=>?_)⟩
    obtain⟨x,K',H',rfl,b⟩:=N;exact p x z K' H' b
  |halt x w'=>simp only[Fa]at k
end
structure LU(X:fW)(B:Option Nat)(F:Nat->Prop)(n:Nat)(K:b8)(w:World)(s:SS)(a':Act)(w':World):Prop where
 st:∃K' H',St X B F n K' H' s.T s.m a' w'/\K.le K'/\(∀r,s.nx<=r->H' r=none)/\Fix F K K'
 kept:Kept F w w'
theorem LU.trans{X:fW}{B:Option Nat}{F:Nat->Prop}{n:Nat}{K K1:b8}{w f w2:World}{s:SS}{g:Act}(h:LU X B F n K1 f s g w2)(i:K.le K1)(j:Fix F K K1)(k:Kept F w f):LU X B F n K w s g w2:=by
 obtain⟨⟨K',H',a,b,c,d⟩,e⟩:=h;exact⟨⟨K',H',a,i.trans b,c,j.trans d⟩,k.trans e⟩
end Go.Abs
end
section
namespace Go.Abs
theorem jK:∀ (k n r:Nat),r∈qK n k↔n<=r/\r<n+k
 |0,n,r=>by simp[qK]
 |k+1,n,r=>by
  simp only[qK,av,jK k];omega
theorem Y1(m:Mm)(u:Nat×p0)(r:Nat):dI m u r=if r=u.1 then(m r).map (fun x=>(x.1,u.2))else m r:=by
 unfold dI;cases h:m u.1 with
 |none=>
  simp only;by_cases e:r=u.1
  .rw[aj e,e,h];rfl
  .rw[ai e]
 |some x=>
  simp only;by_cases e:r=u.1
  .rw[aj e,e,j8,h];rfl
  .rw[ai e,m7 _ _ _ _ e]
theorem Fg{r:Nat}:∀ (a:List (Nat×p0)) (m b:Mm),m r=b r->y8 m a r=y8 b a r
 |[],_,_,h=>h
 |u::a,m,b,h=>by
  refine Fg a _ _ ?_;rw[Y1,Y1,h]
theorem dY{r:Nat}:∀ (a:List (Nat×p0)) (m:Mm),r ∉ a.map (·.1)->y8 m a r=m r
 |[],_,_=>rfl
 |u::a,m,h=>by
  simp only[az,av,ke]at h;rw[y8,dY a _ h.2,Y1,ai h.1]
theorem LX{r:Nat}(cs:List c7)(n:Nat)(m a:Mm)(h:m r=a r):G4 m n cs r=G4 a n cs r:=by
 rw[s9,s9];split
 .rfl
 .exact h
theorem LY{r:Nat}:∀ (a:List (Nat×(c7×p0))) (m b:Mm),m r=b r->iN m a r=iN b a r
 |[],_,_,h=>h
 |(c,x)::a,m,b,h=>by
  refine LY a _ _ ?_;by_cases e:r=c
  .subst e;rw[j8,j8]
  .rw[m7 _ _ _ _ e,m7 _ _ _ _ e,h]
theorem Fh{r:Nat}:∀ (a:List (Nat×(c7×p0))) (m:Mm),r ∉ a.map (·.1)->iN m a r=m r
 |[],_,_=>rfl
 |(b,x)::a,m,h=>by
  simp only[az,av,ke]at h;rw[iN,Fh a _ h.2,m7 _ _ _ _ h.1]
theorem tO{m:Mm}{r:Nat}{o:HO}{us:List (Nat×HO)}(a:o≠ .z):bF m ((r,o)::us)=bF (N9 m r (.z5 o,.own)) us:=by
 cases o<;>first|rfl|exact absurd rfl a
theorem yQ{r:Nat}:∀ (a:List (Nat×HO)) (m b:Mm),m r=b r->bF m a r=bF b a r
 |[],_,_,h=>h
 |(d,o)::a,m,b,h=>by
  by_cases c:o=.z
  .subst c;refine yQ a _ _ ?_;rw[Y1,Y1,h]
  .rw[tO c,tO c];refine yQ a _ _ ?_;by_cases e:r=d
   .subst e;rw[j8,j8]
   .rw[m7 _ _ _ _ e,m7 _ _ _ _ e,h]
theorem eQ{r:Nat}:∀ (a:List (Nat×HO)) (m:Mm),r ∉ a.map (·.1)->bF m a r=m r
 |[],_,_=>rfl
 |(c,o)::a,m,h=>by
  simp only[az,av,ke]at h;by_cases b:o=.z
  .subst b;show bF (dI m (c,.dead)) a r=m r;rw[eQ a _ h.2,Y1,ai h.1]
  .rw[tO b,eQ a _ h.2,m7 _ _ _ _ h.1]
theorem a3P(d:L7){m a:Mm}{r:Nat}(h:m r=a r):d.mm m r=d.mm a r:=by
 cases d with
 |skip=>exact h
 |quiet n q=>exact LX _ _ _ _ (Fg _ _ _ h)
 |write w=>exact LY _ _ _ h
 |Y5 n v new set rd=>exact LX _ _ _ _ (yQ _ _ _ h)
theorem LZ(d:L7){m:Mm}{r:Nat}(h:r ∉ d.wr):d.mm m r=m r:=by
 cases d with
 |skip=>rfl
 |quiet n q=>
  simp only[L7.wr,cj,ke]at h;simp only[L7.mm,Q.mm];rw[s9,ll (fun e=>h.2 ((jK _ _ _).2 e)),dY _ _ h.1]
 |write w=>exact Fh _ _ h
 |Y5 n v new set rd=>
  simp only[L7.wr,cj,ke]at h;simp only[L7.mm];rw[s9,ll (fun e=>h.2 ((jK _ _ _).2 (by simpa using e))),eQ _ _ h.1]
theorem mJ{a b:List Nat}(h:Dd a b=true){r:Nat}(c:r∈a)(d:r∈b):False:=by
 have:=fu.1 h r c;simp only[dx,gn,gi]at this;exact this d
def Ie(all:Array Oper)(a:Oper)(b:L7)(c:Oper)(d:L7):Bool:=a.apart all c && pU b d
theorem Cn{R:Oper->L7->Oper->L7->Bool}{i:Nat}{p:Oper}{q:L7}:∀ (l:List Oper) (m:List L7) (c:List Nat),gG R i p q l m c=true->
  ∀ (b:Nat) (e:Oper) (f:L7) (a:Nat),l[b]? =some e->m[b]? =some f->c[b]? =some a->a.testBit i=true\/R p q e f=true
 |[],_,_,_,b,e,f,a,g,_,_=>by simp at g
 |_::_,[],_,_,b,e,f,a,_,j,_=>by simp at j
 |_::_,_::_,[],_,b,e,f,a,_,_,k=>by simp at k
 |o::l,d::m,a0::c,h,b,e,f,a,g,j,k=>by
  simp only[gG,ah,gp]at h;cases b with
  |zero=>
   simp only[dh,ae]at g j k;subst g;subst j;subst k;exact h.1
  |succ b=>exact Cn l m c h.2 b e f a (by simpa using g) (by simpa using j) (by simpa using k)
theorem oJ{R:Oper->L7->Oper->L7->Bool}:∀ (i:Nat) (m:List Oper) (p:List L7) (c:List Nat),aI R i m p c=true->
  ∀ (a b:Nat) (j:Oper) (k:L7) (f:Oper) (g:L7) (l x:Nat),a<b->m[a]? =some j->p[a]? =some k->m[b]? =some f->p[b]? =some g->c[a]? =some x->c[b]? =some l->l.testBit (i+a)=true\/R j k f g=true
 |_,[],_,_,_,a,b,j,k,f,g,l,x,_,q,_,_,_,_,_=>by simp at q
 |_,_::_,[],_,_,a,b,j,k,f,g,l,x,_,_,r,_,_,_,_=>by simp at r
 |_,_::_,_::_,[],_,a,b,j,k,f,g,l,x,_,_,_,_,_,s,_=>by simp at s
 |i,o::m,d::p,a0::c,h,a,b,j,k,f,g,l,x,w,q,r,t,u,s,v=>by
  simp only[aI,ah]at h;cases b with
  |zero=>omega
  |succ b=>
   simp only[cx]at t u v;cases a with
   |zero=>
    simp only[dh,ae]at q r;subst q;subst r;exact Cn m p c h.1 b f g l t u v
   |succ a=>
    simp only[cx]at q r s;have:=oJ (i+1) m p c h.2 a b j k f g l x (by omega) q r t u s v
    have e:i+1+a=i+(a+1):=by omega
    rw[<-e];exact this
theorem dZ:∀ (b:List Oper) (i:Nat),nP b i=true->∀ (a:Nat) (o:Oper),b[a]? =some o->∀e∈o.after,Region.binds .any e=true->e.on<i+a
 |[],_,_,a,o,h,_,_,_=>by simp at h
 |o0::b,i,h,a,o,c,e,d,f=>by
  simp only[nP,ah]at h;cases a with
  |zero=>
   simp only[dh,ae]at c;subst c;have:=fu.1 h.1 e (by simpa using d)
   simpa [f]using this
  |succ a=>
   have:=dZ b (i+1) h.2 a o (by simpa using c) e d f
   omega
def Bi(all:List Oper)(L:Nat->Prop):Prop:=∀ (i:Nat) (o:Oper),L i->all[i]? =some o->∀e∈o.after,Region.binds .any e=true->L e.on
theorem Co{acc:List Nat}{x:Nat}:∀ (d:List Nat) (m:Nat),(Jw acc d m).testBit x=true->m.testBit x=true\/∃j∈d,x=j\/(acc.getD j 0).testBit x=true
 |[],m,h=>Or.inl h
 |j::d,m,h=>by
  unfold Jw at h;rw[AH]at h;rcases Co d _ h with h|⟨a,b,c⟩
  .have h:(m|||(2^j|||acc.getD j 0)).testBit x=true:=h;rw[Nat.testBit_or,Nat.testBit_or,gp,gp,si,bt]at h;rcases h with h|h|h
   .exact Or.inl h
   .exact Or.inr ⟨j,by simp,Or.inl h.symm⟩
   .exact Or.inr ⟨j,by simp,Or.inr h⟩
  .exact Or.inr ⟨a,al _ b,c⟩
theorem rC{all:List Oper}{L:Nat->Prop}(F:Bi all L):∀ (t:List Oper) (c:List Nat),(∀a:Nat,t[a]? =all[c.length+a]?)->
  (∀ (b:Nat) (l:Nat) (o:Oper),c[b]? =some l->all[b]? =some o->(∀e∈o.after,Region.binds .any e=true->L e.on)->∀j,l.testBit j=true->L j)->
  ∀ (b:Nat) (l:Nat) (o:Oper),(AI t c)[b]? =some l->all[b]? =some o->(∀e∈o.after,Region.binds .any e=true->L e.on)->∀j,l.testBit j=true->L j
 |[],c,_,u=>u
 |o0::t,c,q,u=>by
  unfold AI;rw[AH];refine rC F t _ (fun a=>?_) ?_
  .have:=q (a+1);simp only[cx]at this;rw[this,bu,List.length_singleton];congr 1;omega
  .intro b l o h v i j m;have w:all[c.length]? =some o0:=by simpa using(q 0).symm
   rw[List.getElem?_append]at h;split at h
   .exact u b l o h v i j m
   .rename_i x;have y:b=c.length:=by
     rcases bh (b- c.length) 1 with g|g
     .omega
     .rw[an (by simpa using g)]at h;cases h
    subst y;simp only[pz,dh,ae]at h;rw[w]at v;cases v;subst h;have hd:∀j∈(o0.after.toList.filter (Region.binds .any)).map (·.on),L j:=by
     intro j m;obtain⟨e,z,rfl⟩:=cd.1 m;obtain⟨A,C⟩:=ft.1 z;exact i e (by simpa using A) C
    rcases Co _ _ m with m|⟨p,E,d⟩
    .rw[Nat.zero_testBit]at m;cases m
    .have k:=hd p E;rcases d with d|d
     .rw[d];exact k
     rw[cw]at d;cases f:c[p]? with
     |none=>rw[f]at d;simp at d
     |some G=>
      rw[f]at d;simp only[ec]at d;have x:p<c.length:=by
       rcases bh p c.length with g|g
       .exact g
       .rw[an g]at f;cases f
      have r:∃o',all[p]? =some o':=by
       have:c.length<all.length:=by
        rcases bh c.length all.length with g|g
        .exact g
        .rw[an g]at w;cases w
       exact⟨_,ag (by omega)⟩
      obtain⟨o',s⟩:=r;exact u p G o' f s (fun e z h=>F p o' k s e z h) j d
theorem lG:∀ (b:List Oper) (a:List Nat),(AI b a).length=a.length+b.length
 |[],a=>rfl
 |o::b,a=>by
  unfold AI;rw[AH,lG b];simp;omega
theorem Ma(a:List Nat):Dd a []=true:=by simp[Dd]
theorem Ig{all:Array Oper}{D:List L7}{L:Nat->Prop}(u:R3 all=true)(h:cH all D=true)(A:Bi all.toList L){a b:Nat}{m f:Oper}{i j:L7}(p:a<b)
  (s:all.toList[a]? =some m)(v:D[a]? =some i)(k:all.toList[b]? =some f)(w:D[b]? =some j)(C:¬L a)(E:∀e∈f.after,Region.binds .any e=true->L e.on):Ie all m i f j=true:=by
 simp only[R3,ah]at u;have t:b<all.toList.length:=by
  rcases bh b all.toList.length with q|q
  .exact q
  .rw[an q]at k;cases k
 have y:∀c,c<all.toList.length->∃x,(Ee all.toList)[c]? =some x:=fun c F=>⟨_,ag (by rw[Ee,lG];simpa using F)⟩
 obtain⟨x,r⟩:=y a (by omega)
 obtain⟨l,g⟩:=y b t;have z:¬l.testBit (0+a)=true:=fun q=>by
  refine C (rC A all.toList [] (fun a=>by simp) (fun b l o h=>by simp at h) b l f g k E a ?_)
  simpa using q
 have G:m.apart all f=true:=by
  have H:(all.toList.map fun _=>L7.skip)[a]? =some .skip:=by rw[bo,s];rfl
  have g2:(all.toList.map fun _=>L7.skip)[b]? =some .skip:=by rw[bo,k];rfl
  exact(oJ 0 _ _ _ u.2 a b m .skip f .skip l x p s H k g2 r g).resolve_left z
 have I:pU i j=true:=by
  unfold cH at h;split at h
  .rename_i d;have J:i.wr=[]:=by simpa using fu.1 d i (df v)
   have K:j.wr=[]:=by simpa using fu.1 d j (df w)
   simp only[pU,J,K,Ma,Bool.and_true];rfl
  .exact(oJ 0 _ _ _ h a b m i f j l x p s v k w r g).resolve_left z
 simp only[Ie,G,I,Bool.and_self]
theorem Pd{Γ:Env}{P:Program}{all:Array Oper}{n:Nat}{o:Oper}{s u:SS}{d:L7}(h:U2 Γ P all n o s d u){T:Nat->a7}{m:Mm}(i:∀t∈o.looksAt all,T t=s.T t)(k:∀r∈d.rd,m r=s.m r):
  U2 Γ P all n o ⟨T,s.nx,m⟩ d ⟨O7 T o.dst d.val,u.nx,d.mm m⟩:=by
 have f:∀x∈o.op.operands.toList,Dk s.T x=Dk T x:=by
  intro x E;cases x with
  |tmp t=>exact(i t (ej _ (List.mem_filterMap.2 ⟨.tmp t,E,rfl⟩))).symm
  |_=>rfl
 have a:∀yes,z9 all o s.T yes->z9 all o T yes:=by
  intro yes a;unfold z9 at a ⊢;cases e:o.guard with
  |none=>rw[e]at a;exact a
  |some F=>
   obtain⟨j,y⟩:=F;rw[e]at a;obtain⟨z,b,g⟩:=a;refine⟨z,b,?_⟩;rw[i z (dz _ (by simp[e,b]))]
   exact g
 refine⟨h.dst,rfl,h.nx,rfl,?_⟩;have hd:=h.UY;cases d with
 |skip=>exact a _ hd
 |quiet nx q=>
  obtain⟨b,g,c⟩:=hd;refine⟨a _ b,g,?_⟩;rw[OW o f]at c;exact LN o c k
 |write w=>
  obtain⟨b,c⟩:=hd;refine⟨a _ b,?_⟩;rw[OY o f]at c;exact LO o c k
 |Y5 nx v new set rd=>
  obtain⟨b,g,G,c⟩:=hd;refine⟨a _ b,g,G,fun H I l p=>c H I (fun t A=>?_) (fun r C=>(p r C).trans (k r C))⟩
  rw[l t A];exact i t (ej _ (List.mem_filterMap.2 ⟨.tmp t,A,rfl⟩))
section
variable {X:fW} {B:Option Nat} {ro:Option Nat} {Γ:Env} {P:Program} {all:Array Oper} {n:Nat} {S:Nat->SS} {D:List L7}
theorem O2.UY(h:O2 Γ P all n all.toList S D){i:Nat}{o:Oper}(b:all.toList[i]? =some o):∃d,D[i]? =some d/\U2 Γ P all n o (S i) d (S (i+1)):=by
 have c:i<all.toList.length:=by
  rcases bh i all.toList.length with e|e
  .exact e
  .rw[an e]at b;cases b
 have a:i<D.length:=by rw[h.len];exact c
 have hd:D[i]? =some D[i]:=ag a;exact⟨_,hd,h.step i o _ b hd⟩
theorem O2.a0q(h:O2 Γ P all n all.toList S D)(j:Nat)(d:Tmp)(a:(all[j]?).bind (·.dst)=some d):d<n:=by
 cases b:all[j]? with
 |none=>rw[b]at a;cases a
 |some o=>
  rw[b]at a;simp only[gx]at a;obtain⟨e,_,c⟩:=h.UY (i:=j) (o:=o) (by simpa using b)
  have:=c.dst;rw[a]at this;simpa [S7]using this
theorem O2.yR(h:O2 Γ P all n all.toList S D){t:Nat}:∀ (k i:Nat),i+k<=all.toList.length->(∀j o,i<=j->j<i+k->all.toList[j]? =some o->o.dst≠some t)->(S (i+k)).T t=(S i).T t
 |0,i,_,_=>rfl
 |k+1,i,c,a=>by
  have e:all.toList[i+k]? =some all.toList[i+k]:=ag (by omega)
  obtain⟨d,_,f⟩:=h.UY e;have b:=a (i+k) _ (by omega) (by omega) e
  rw[<-fe,f.T];have:O7 (S (i+k)).T (all.toList[i+k]).dst d.val t=(S (i+k)).T t:=by
   cases hd:(all.toList[i+k]).dst with
   |none=>rfl
   |some l=>
    rw[hd]at b;simp only[O7];rw[ai (fun e=>b (by rw[e]))]
  rw[this];exact h.yR k i (by omega) (fun j o g m=>a j o g (by omega))
theorem O2.yS(h:O2 Γ P all n all.toList S D){r:Nat}:∀ (k i:Nat),i+k<=all.toList.length->(∀j d,i<=j->j<i+k->D[j]? =some d->r ∉ d.wr)->(S (i+k)).m r=(S i).m r
 |0,i,_,_=>rfl
 |k+1,i,b,a=>by
  have e:all.toList[i+k]? =some all.toList[i+k]:=ag (by omega)
  obtain⟨d,hd,c⟩:=h.UY e;rw[<-fe,c.m,LZ d (a (i+k) d (by omega) (by omega) hd)]
  exact h.yS k i (by omega) (fun j d f g=>a j d f (by omega))
theorem O2.Ru(h:O2 Γ P all n all.toList S D):∀ (k i:Nat),i+k<=all.toList.length->(S i).nx<=(S (i+k)).nx
 |0,i,_=>aw _
 |k+1,i,a=>by
  have e:all.toList[i+k]? =some all.toList[i+k]:=ag (by omega)
  obtain⟨d,hd,b⟩:=h.UY e;rw[<-fe,b.nx];have:=h.Ru k i (by omega)
  omega
structure Inv(all:Array Oper)(S:Nat->SS)(D:List L7)(L:Nat->Prop)(H:Nat->Option Hd)(T:Nat->a7)(m:Mm):Prop where
 tmp:∀i t,i<=all.toList.length->(∀ (j:Nat) o,j<i->all.toList[j]? =some o->o.dst=some t->L j)->(∀ (j:Nat) o,i<=j->all.toList[j]? =some o->o.dst=some t->¬L j)->T t=(S i).T t
 mem:∀i r,i<=all.toList.length->(∀ (j:Nat) d,j<i->D[j]? =some d->r∈d.wr->L j)->(∀ (j:Nat) d,i<=j->D[j]? =some d->r∈d.wr->¬L j)->m r=(S i).m r
 closed:Bi all.toList L
 fresh:∀r,H r≠none->r<(S 0).nx\/∃j,j<all.toList.length/\L j/\(S j).nx<=r/\r<(S (j+1)).nx
theorem aC{c d:Oper}{a b:L7}(h:Ie all c a d b=true):c.apart all d=true/\Dd a.wr b.rd=true/\Dd a.wr b.wr=true/\Dd a.rd b.wr=true:=by
 simp only[Ie,pU,ah]at h;exact⟨h.1,h.2.1.1,h.2.1.2,h.2.2⟩
theorem aO{α:Type}{l:List α}{i:Nat}{x:α}(h:l[i]? =some x):i<l.length:=by
 rcases bh i l.length with a|a
 .exact a
 .rw[an a]at h;cases h
theorem Wy(M:O2 Γ P all n all.toList S D)(E:R3 all=true)(F:cH all D=true){L:Nat->Prop}{H:Nat->Option Hd}{T:Nat->a7}{m:Mm}(hI:Inv all S D L H T m){i:Nat}{o:Oper}{d:L7}
  (O:all.toList[i]? =some o)(hd:D[i]? =some d)(R:U2 Γ P all n o (S i) d (S (i+1)))(Z:¬L i)(K:∀e∈o.after,Region.binds .any e=true->L e.on):
  U2 Γ P all n o ⟨T,(S i).nx,m⟩ d ⟨O7 T o.dst d.val,(S (i+1)).nx,d.mm m⟩/\(∀k,k<d.size->H ((S i).nx+k)=none)/\
  ∀H',(∀r,H r=none->H' r≠none->(S i).nx<=r/\r<(S i).nx+d.size)->Inv all S D (fun j=>L j\/j=i) H' (O7 T o.dst d.val) (d.mm m):=by
 have hil:=aO O;have w:∀ (j:Nat) oj l,j<i->all.toList[j]? =some oj->D[j]? =some l->¬L j->Ie all oj l o d=true:=fun j oj l s p q g=>Ig E F hI.closed s p q O hd g K
 have u:∀ (j:Nat) oj l,i<j->all.toList[j]? =some oj->D[j]? =some l->L j->Ie all o d oj l=true:=fun j oj l s p q g=>
  Ig E F hI.closed s O hd p q Z (fun e V Y=>hI.closed j oj g p e V Y)
 have y:∀ (j:Nat) l,D[j]? =some l->∃oj,all.toList[j]? =some oj:=fun j l h=>⟨_,ag (by rw[<-M.len];exact aO h)⟩
 have G:∀j,i<=j->L j->i<j:=fun j p q=>by
  rcases bh i j with z|z
  .exact z
  .have:i=j:=by omega
   subst this;exact absurd q Z
 have hT:∀t∈o.looksAt all,T t=(S i).T t:=fun t ht=>by
  refine hI.tmp i t (by omega) (fun j oj s p q=>ni fun g=>?_) (fun j oj s p q g=>?_)
  .obtain⟨l,f,_⟩:=M.UY p;exact(rm (aC (w j oj l s p f g)).1).1 t q ht
  .obtain⟨l,f,_⟩:=M.UY p;exact(rm (aC (u j oj l (G j s g) p f g)).1).2.2 t q ht
 have hR:∀r∈d.rd,m r=(S i).m r:=fun r C=>by
  refine hI.mem i r (by omega) (fun j l s p q=>ni fun g=>?_) (fun j l s p q g=>?_)
  .obtain⟨oj,c⟩:=y j l p;exact mJ (aC (w j oj l s c p g)).2.1 q C
  .obtain⟨oj,c⟩:=y j l p;exact mJ (aC (u j oj l (G j s g) c p g)).2.2.2 C q
 have hW:∀r∈d.wr,m r=(S i).m r:=fun r C=>by
  refine hI.mem i r (by omega) (fun j l s p q=>ni fun g=>?_) (fun j l s p q g=>?_)
  .obtain⟨oj,c⟩:=y j l p;exact mJ (aC (w j oj l s c p g)).2.2.1 q C
  .obtain⟨oj,c⟩:=y j l p;exact mJ (aC (u j oj l (G j s g) c p g)).2.2.1 C q
 have I:∀a b,a<=b->b<=all.toList.length->(S a).nx<=(S b).nx:=fun a b p q=>by
  have:=M.Ru (b- a) a (by omega)
  rwa [kq p]at this
 refine⟨Pd R hT hR,fun k hk=>?_,fun H' hH'=>⟨fun i' t N p q=>?_,fun i' r N p q=>?_,?_,fun r C=>?_⟩⟩
 .cases hh:H ((S i).nx+k)with
  |none=>rfl
  |some x=>
   exfalso;have pY:=R.nx;rcases hI.fresh _ (by rw[hh];simp)with z|⟨j,s,J,p,q⟩
   .have:=I 0 i (by omega) (by omega);omega
   .rcases Nat.lt_trichotomy j i with z|z|z
    .have:=I (j+1) i (by omega) (by omega);omega
    .subst z;exact Z J
    .have:=I (i+1) j (by omega) (by omega);omega
 .by_cases v:o.dst=some t
  .have yE:i<i':=by
    rcases bh i i' with z|z
    .exact z
    .exact absurd (Or.inr rfl) (q i o z O v)
   have e:(S i').T t=(S (i+1)).T t:=by
    have:=M.yR (t:=t) (i'- (i+1)) (i+1) (by omega) (fun j oj hj1 hj2 c f=>by
     obtain⟨l,U,_⟩:=M.UY c;rcases p j oj (by omega) c f with g|g
     .exact(rm (aC (u j oj l (by omega) c U g)).1).2.1 t v f
     .omega)
    rwa [kq (by omega)]at this
   rw[e,R.T,v];simp[O7]
  .have e:O7 T o.dst d.val t=T t:=by
    cases S9:o.dst with
    |none=>rfl
    |some t'=>
     rw[S9]at v;simp only[O7];rw[ai (fun e=>v (by rw[e]))]
   rw[e];refine hI.tmp i' t N (fun j oj s c f=>?_) (fun j oj s c f g=>q j oj s c f (.inl g))
   rcases p j oj s c f with g|g
   .exact g
   .subst g;rw[O]at c;cases c;exact absurd f v
 .by_cases C:r∈d.wr
  .have yE:i<i':=by
    rcases bh i i' with z|z
    .exact z
    .exact absurd (Or.inr rfl) (q i d z hd C)
   have e:(S i').m r=(S (i+1)).m r:=by
    have:=M.yS (r:=r) (i'- (i+1)) (i+1) (by omega) (fun j l hj1 hj2 f A=>by
     obtain⟨oj,c⟩:=y j l f;rcases p j l (by omega) f A with g|g
     .exact mJ (aC (u j oj l (by omega) c f g)).2.2.1 C A
     .omega)
    rwa [kq (by omega)]at this
   rw[e,R.m];exact a3P d (hW r C)
  .rw[LZ d C];refine hI.mem i' r N (fun j l s f A=>?_) (fun j l s f A g=>q j l s f A (.inl g))
   rcases p j l s f A with g|g
   .exact g
   .subst g;rw[hd]at f;cases f;exact absurd A C
 .intro j oj J c e V Y;rcases J with g|g
  .exact .inl (hI.closed j oj g c e V Y)
  .subst g;rw[O]at c;cases c;exact .inl (K e V Y)
 .have pY:=R.nx;cases hh:H r with
  |none=>
   have:=hH' r hh C;exact .inr ⟨i,hil,.inr rfl,this.1,by omega⟩
  |some x=>
   rcases hI.fresh r (by rw[hh];simp)with z|⟨j,s,J,p,q⟩
   .exact .inl z
   .exact .inr ⟨j,s,.inl J,p,q⟩
theorem Fi(a:R3 all=true){L:Array Bool}(l:L.size=all.size)(h:Region.ready .any all L=[]):∀i,i<all.size->L.getD i false=true:=by
 simp only[R3,ah]at a;intro i
 induction i using Nat.strongRecOn with
 |ind i f=>
  intro g;have d:all[i]? =some all[i]:=ba g;cases b:L.getD i false with
  |true=>rfl
  |false=>
   exfalso;have:i∈Region.ready .any all L:=by
    rw[mf];refine⟨?_,all[i],d,fun e j c=>?_⟩
    .simp only[dg]at b ⊢;rw[ba (by omega)]at b ⊢
     simpa using b
    .have k:=dZ all.toList 0 a.1 i all[i] (by simp[d]) e j c
     exact f e.on (by omega) (by omega)
   rw[h]at this;cases this
theorem Cp{F:Nat->Prop}{Q:Exit->Act->World->Prop}(hX:X.Ok)(hG:Good P Γ)(E:O2 Γ P all n all.toList S D)(g:R3 all=true)(v:cH all D=true):
  ∀ (b:Nat) (U:List Nat) (L:Array Bool) (K:b8) (H:Nat->Option Hd) (T:Nat->a7) (m:Mm) (a:Act) (w:World),L.size=all.size->U.length<=b->(∀j,j<all.size->L.getD j false=false->j∈U)->
   Inv all S D (fun j=>L.getD j false=true) H T m->St X B F n K H T m a w->
   (∀Y w',LU X B F n K w (S all.toList.length) Y w'->Q .normal Y w')->wpAnyIn (Wd ro) 0 P .any all Q b L a w:=by
 have G:∀ (L:Array Bool) (K:b8) (H:Nat->Option Hd) (T:Nat->a7) (m:Mm) (a:Act) (w:World),(∀i,i<all.size->L.getD i false=true)->Inv all S D (fun j=>L.getD j false=true) H T m->St X B F n K H T m a w->
   LU X B F n K w (S all.toList.length) a w:=by
  intro L K H T m a w c hI f;have e1:T=(S all.toList.length).T:=funext fun t=>hI.tmp _ t (aw _) (fun j o q _ _=>c j (by simpa using q)) (fun j o q y _=>by have:=aO y;omega)
  have e2:m=(S all.toList.length).m:=funext fun r=>hI.mem _ r (aw _) (fun j o q _ _=>c j (by simpa using q)) (fun j d q hd _=>by have:=aO hd;rw[E.len]at this;omega)
  refine⟨⟨K,H,e1▸e2▸f,.refl K,fun r hr=>?_,.refl F K⟩,.refl F w⟩
  cases hh:H r with
  |none=>rfl
  |some x=>
   exfalso;rcases hI.fresh r (by rw[hh];simp)with h'|⟨j,q,_,l,u⟩
   .have:=E.Ru all.toList.length 0 (by omega)
    simp only[bz]at this;omega
   .have:=E.Ru (all.toList.length- (j+1)) (j+1) (by omega)
    rw[kq (by omega)]at this
    omega
 intro b
 induction b with
 |zero=>
  intro U L K H T m a w I hU p hI f Z;have hU0:U=[]:=jl.1 (Nat.le_zero.1 hU);have c:∀i,i<all.size->L.getD i false=true:=fun i z=>by
   cases hb:L.getD i false with
   |true=>rfl
   |false=>have:=p i z hb;rw[hU0]at this;cases this
  refine⟨?_,Z a w (G L K H T m a w c hI f)⟩;rw[pf];intro i z;rw[mf]at z;obtain⟨l,o,y,_⟩:=z;have k:=(eu.1 y).1;have u:=c i k;simp only[dg]at l u;rw[ba (by omega)]at l u
  simp only[ec]at l u;rw[l]at u;cases u
 |succ b ih=>
  intro U L K H T m a w I hU p hI f Z;refine⟨fun hr=>Z a w (G L K H T m a w (Fi g I hr) hI f),fun i z=>?_⟩
  rw[mf]at z;obtain⟨l,o,y,J⟩:=z;have k:=(eu.1 y).1;have M:L.getD i false=false:=by
   simp only[dg]at l ⊢;rw[ba (by omega)]at l ⊢
   simpa using l
  have N:all.toList[i]? =some o:=by simpa using y
  obtain⟨d,hd,hs⟩:=E.UY N;obtain⟨hs',hf,O⟩:=Wy E g v hI N hd hs (by rw[M];simp) (fun e he hb=>J e he hb)
  have:=Wx (ro:=ro) hX (Q:=Q) (K0:=wpAnyIn (Wd ro) 0 P .any all Q b (L.setIfInBounds i true)) (s:=⟨T,(S i).nx,m⟩) hG f hs' E.a0q hf (fun Y w' hD=>by
   obtain⟨⟨K',H',R,hK,hH,K8,V⟩,A⟩:=hD;refine ih (U.erase i) _ K' H' _ _ Y w' (by simpa using I) ?_ ?_ ?_ R (fun a2 w2 u=>Z a2 w2 (u.trans hK V A))
   .rw[List.length_erase_of_mem (p i k M)];omega
   .intro j q C;by_cases e:i=j
    .subst e;simp[I,k]at C
    .rw[oc false e]at C;exact(List.mem_erase_of_ne (qy e)).2 (p j q C)
   .have h3:=O H' K8;have e:(fun j=>(L.setIfInBounds i true).getD j false=true)=(fun j=>L.getD j false=true\/j=i):=by
     funext j;apply propext;by_cases e:i=j
     .subst e;constructor
      .intro _;exact .inr rfl
      .intro _;simp[I,k]
     .rw[oc false e];constructor
      .intro h;exact .inl h
      .intro h;exact h.resolve_right (fun e'=>e e'.symm)
    rw[e]
    exact h3)
  unfold wpOpIn;rw[y];exact this
theorem St.drawn{F:Nat->Prop}{K:b8}{H:Nat->Option Hd}{T:Nat->a7}{m:Mm}{a:Act}{w:World}(c:X.Ok)(h:St X B F n K H T m a w)(d:Nat)(hd:w.drawn<=d):St X B F n K H T m a {w with drawn:=d}:=
 ⟨⟨⟨fun b cs e=>h.ok.w8.1 b cs e,fun b p f=>h.ok.w8.2 b p f⟩,fun b g=>h.ok.lt b g,h.ok.inv,h.ok.apart⟩,
   h.mem.world (fun _ _ _ _ _ _ _ _ _=>rfl),h.size,h.defers.kept (Kept.of_heap (.refl F w) rfl rfl rfl rfl hd),h.tmp,
   c.grow _ _ _ _ _ _ _ _ h.x (fun _ h=>h) (.refl K) (.refl H) (Kept.of_heap (.refl F w) rfl rfl rfl rfl hd)⟩
theorem yT{F:Nat->Prop}{K:b8}{H:Nat->Option Hd}{Q:Exit->Act->World->Prop}{id:Nat}{a:Act}{w:World}(v:X.Ok)(x:P.follows .mixedOrders=true)(y:Good P Γ)(p:O2 Γ P all n all.toList S D)(e:R3 all=true)(f:cH all D=true)
  (q:St X B F n K H (S 0).T (S 0).m a w)(z:∀r,(S 0).nx<=r->H r=none)(A:∀l w',LU X B F n K w (S all.toList.length) l w'->Q .normal l w'):(Code.region id all true).wpIn (Wd ro) 0 P Q a w:=by
 refine wpIn_region_any x ?_;have b:∀j,(Array.replicate all.size false).getD j false=false:=fun j=>by
  simp only[dg];rcases bh j all.size with g|g
  .rw[ba (by simpa using g)];simp
  .rw[fb (by simpa using g)];rfl
 refine Cp v y p e f all.size (List.range all.size) _ K H (S 0).T (S 0).m a _ (by simp) (by simp) (fun j s _=>by simpa using s) ⟨?_,?_,?_,?_⟩ (q.drawn v _ (lf _)) ?_
 .intro i t C k c;have:=p.yR (t:=t) i 0 (by omega) (fun j o _ s E hd=>by
   have:=k j o (by omega) E hd
   rw[b]at this
   cases this)
  rw[bz]at this;exact this.symm
 .intro i r C k c;have:=p.yS (r:=r) i 0 (by omega) (fun j d _ s hd u=>by
   have:=k j d (by omega) hd u
   rw[b]at this
   cases this)
  rw[bz]at this;exact this.symm
 .intro i o h;rw[b]at h;cases h
 .intro r u;rcases bh r (S 0).nx with g|g
  .exact .inl g
  .exact absurd (z r g) u
 .intro l w' h;refine A l w' ?_;obtain⟨k,c⟩:=h;exact⟨k,⟨c.os,c.tape,c.output,c.size,c.block,ew (lf _) c.drawn⟩⟩
end
end Go.Abs
end
section
namespace Go.Abs
section
variable {F:Nat->Prop} {K:b8} {w:World}
theorem Fj:∀ (l:List Nat) (r k i:Nat),idx l r k=some i->k<=i/\l[i- k]? =some r
 |[],r,k,i,h=>by simp[idx]at h
 |a::l,r,k,i,h=>by
  simp only[idx]at h;split at h
  .rename_i e;simp only[ae]at h;subst h;subst e;simp
  .obtain⟨c,b⟩:=Fj l r (k+1) i h;refine⟨by omega,?_⟩
   have e:i- k=(i- (k+1))+1:=by omega
   rw[e,cx];exact b
theorem Rv{l:List Nat}{r i:Nat}(h:idx l r 0=some i):l[i]? =some r:=by
 have:=(Fj l r 0 i h).2;simpa using this
def bI(l:List Nat)(H:Nat->Option Hd):Nat->Option Hd:=fun i=>(l[i]?).bind H
theorem jL{l:List Nat}{H:Nat->Option Hd}{r i:Nat}(h:idx l r 0=some i):bI l H i=H r:=by
 simp[bI,Rv h]
mutual
theorem DB{l:List Nat}{H:Nat->Option Hd}:∀ (a:a7) (v:Value),b9 K H a v->b9 K (bI l H) (a.eF l) v
 |.O1 r f,v,h=>by
  simp only[a7.eF];split
  .rename_i i g;simp only[b9]at h ⊢;obtain⟨hd,d,e,_⟩:=h;exact⟨hd,by rw[jL g];exact d,e,by simp⟩
  .simp[b9]
 |.sub r lo len f,v,h=>by
  simp only[a7.eF];split
  .rename_i i g;simp only[b9]at h ⊢;obtain⟨hd,cap,base,d,e⟩:=h;exact⟨hd,cap,base,by rw[jL g];exact d,e⟩
  .simp[b9]
 |.ptr r o,v,h=>by
  simp only[a7.eF];split
  .rename_i i g;simp only[b9]at h ⊢;obtain⟨hd,b,d,e⟩:=h;exact⟨hd,b,by rw[jL g];exact d,e⟩
  .simp[b9]
 |.P5 r a o,v,h=>by
  simp only[a7.eF];split
  .rename_i i g;simp only[b9]at h ⊢;obtain⟨hd,b,d,e⟩:=h;exact⟨hd,b,by rw[jL g];exact d,e⟩
  .simp[b9]
 |.P6 r,v,h=>by
  simp only[a7.eF];split
  .rename_i i g;simp only[b9]at h ⊢;obtain⟨hd,b,d,e⟩:=h;exact⟨hd,b,by rw[jL g];exact d,e⟩
  .simp[b9]
 |.B9 r,v,h=>by
  simp only[a7.eF];split
  .rename_i i g;simp only[b9]at h ⊢;obtain⟨hd,b,d,e⟩:=h;exact⟨hd,b,by rw[jL g];exact d,e⟩
  .simp[b9]
 |.imm t x f,v,h=>by
  simp only[a7.eF,b9]at h ⊢;obtain⟨base,cap,d,e,_,k⟩:=h;exact⟨base,cap,d,e,by simp,k⟩
 |.G7 cs,v,h=>by
  simp only[a7.eF,b9]at h ⊢;obtain⟨b,off,arr,d,e,j⟩:=h;refine⟨b,off,arr,d,e,?_⟩;have:=Q8 (l:=l) cs _ j;rwa [show(L5 l cs).length=cs.length from Cq l cs]
 |.agg cs,v,h=>by
  simp only[a7.eF,b9]at h ⊢;obtain⟨c,d,e⟩:=h;exact⟨c,d,Q8 cs _ e⟩
 |.M1 cs,v,h=>by
  simp only[a7.eF,b9]at h ⊢;obtain⟨c,d,e⟩:=h;exact⟨c,d,Q8 cs _ e⟩
 |.fn f a b,v,h=>by
  simp only[a7.eF,b9]at h ⊢;obtain⟨m,n,d,e,j⟩:=h;exact⟨m,n,d,Q8 a _ e,Q8 b _ j⟩
 |.S6,v,h=>by simp[a7.eF,b9]
 |.bool _,v,h=>by simpa [a7.eF,b9]using h
 |.int _ _,v,h=>by simpa [a7.eF,b9]using h
 |.Y4,v,h=>by simpa [a7.eF,b9]using h
 |.R2 _,v,h=>by simpa [a7.eF,b9]using h
 |.S3 _ _,v,h=>by simpa [a7.eF,b9]using h
 |.V6,v,h=>by simpa [a7.eF,b9]using h
 |.J7,v,h=>by simpa [a7.eF,b9]using h
 |.s6 _,v,h=>by simpa [a7.eF,b9]using h
 |.Dc _ _,v,h=>by simp[a7.eF,b9]
theorem Q8{l:List Nat}{H:Nat->Option Hd}:∀ (b:List a7) (vs:List Value),c6 K H b vs->c6 K (bI l H) (L5 l b) vs
 |[],vs,h=>by simpa [L5,c6]using h
 |a::b,vs,h=>by
  simp only[L5,c6]at h ⊢;obtain⟨c,d,e,f,g⟩:=h;exact⟨c,d,e,DB a c f,Q8 b d g⟩
theorem Cq(l:List Nat):∀ (cs:List a7),(L5 l cs).length=cs.length
 |[]=>rfl
 |c::cs=>by simp[L5,Cq l cs]
end
theorem rD{l:List Nat}{H:Nat->Option Hd}{hd:Hd}{c:c7}(h:n9 K H w hd c):n9 K (bI l H) w hd (c.eF l):=by
 cases c with
 |box cells=>
  obtain⟨b,cs,e,g,a,d,f⟩:=h;exact⟨b,cs,e,g,a,d,Q8 _ _ f⟩
 |bx p t n l q=>
  obtain⟨j,g2,b,cs,e,g,A,B,C,a,d,f,k,s,u⟩:=h;exact⟨j,g2,b,cs,e,g,A,B,C,a,d,f,Q8 _ _ k,s,Q8 _ _ u⟩
 |sl t x=>exact h
 |mp mk x clk=>exact h
 |it m v seen y=>
  obtain⟨a,d,f,b,D,k,s,u⟩:=h;refine⟨a,d,f,b,D,k,s,fun i z=>?_⟩
  cases m with
  |none=>cases z
  |some r=>
   obtain⟨E,j,g2⟩:=u r rfl;exact⟨E,by rw[jL z];exact j,g2⟩
 |z5 o=>exact Dr h
 |any=>exact h
theorem rE(c:c7)(l:List Nat)(h:(c.eF l).isCells=true):c.isCells=true:=by cases c<;>first|exact h|cases h
theorem Fk(l:List Nat)(M:Mem):∀ (b:List Nat) (k i:Nat),l9 (nQ l M b k) i=if k<=i then(b[i- k]?).bind (fun r=>(l9 M r).map (fun x=>(x.1.eF l,x.2)))else none
 |[],k,i=>by simp[nQ,l9]
 |r::b,k,i=>by
  have c:=Fk l M b (k+1) i;have a:k≠i->l9 (nQ l M b (k+1)) i=if k<=i then((r::b)[i- k]?).bind (fun r=>(l9 M r).map (fun x=>(x.1.eF l,x.2)))else none:=by
   intro f;rw[c];by_cases h:k<=i
   .have e:i- k=(i- (k+1))+1:=by omega
    rw[aj h,aj (by omega),e,cx]
   .rw[ai h,ai (by omega)]
  simp only[nQ];cases d:l9 M r with
  |none=>
   simp only;by_cases e:k=i
   .subst e;rw[c,ai (by omega)]
    simp[d]
   .exact a e
  |some x=>
   simp only[l9];by_cases e:k=i
   .subst e;simp[d]
   .rw[ai e];exact a e
theorem Wz{l:List Nat}{H:Nat->Option Hd}{M:Mem}(A:l.Nodup)(h:l5 F K H w (l9 M)):l5 F K (bI l H) w (l9 (nQ l M l 0)):=by
 have get:∀i c f,l9 (nQ l M l 0) i=some (c,f)->∃r a,l[i]? =some r/\l9 M r=some (a,f)/\c=a.eF l:=by
  intro i c f d;rw[Fk,aj (fx _),kl]at d;cases p:l[i]? with
  |none=>rw[p]at d;cases d
  |some r=>
   rw[p]at d;simp only[gx]at d;cases q:l9 M r with
   |none=>rw[q]at d;cases d
   |some x=>
    rw[q]at d;simp only[da,ae,aq]at d;obtain⟨rfl,rfl⟩:=d;exact⟨r,x.1,rfl,q,rfl⟩
 have n:∀i r,l[i]? =some r->bI l H i=H r:=fun i r p=>by simp[bI,p]
 refine⟨?_,?_,?_,?_⟩
 .intro i c f hd m g j;obtain⟨r,a,k,g2,rfl⟩:=get i c f m;rw[n i r k]at j;exact rD (h.cont r a f hd g2 g j)
 .intro i c hd b m g j;obtain⟨r,a,k,g2,rfl⟩:=get i c _ m;rw[n i r k]at g;obtain⟨y1,B,C,D⟩:=h.own r a hd b g2 g j;exact⟨y1,B,C,fun E=>D (rE _ _ E)⟩
 .intro i c hd b m g j;obtain⟨r,a,k,g2,rfl⟩:=get i c _ m;rw[n i r k]at g;exact h.X9 r a hd b g2 g j
 .intro i v c c' hd s b m g j y G I;obtain⟨r,a,k,g2,rfl⟩:=get i c _ m;obtain⟨z,t,o,u,rfl⟩:=get v c' _ g;rw[n i r k]at j;rw[n v z o]at y;have e:=h.inj r z a t hd s b g2 u j y G I;subst e;exact(mj (aO k) A).1 (k.trans o.symm)
theorem cL:∀ (l b:List Nat),b.Nodup->(uniq l b).Nodup
 |[],b,h=>h
 |a::l,b,h=>by
  simp only[uniq];split
  .exact cL l b h
  .rename_i d;refine cL l _ ?_;rw[om];refine⟨h,by simp,?_⟩
   intro x f y c;simp only[cb]at c;subst c;intro e;subst e;exact d (by simpa using f)
theorem Cr(M:Mem):∀ (d:Nat) (l:List Nat),l.Nodup->(reach M d l).Nodup
 |0,_,h=>h
 |d+1,_,h=>Cr M d _ (cL _ _ h)
def JU(K:b8)(H:Nat->Option Hd)(b:List (Nat×a7))(a:Act):Prop:=∀u∈b,b9 K H u.2 (a.tmps.getD u.1 undef)
theorem JU.u9{H:Nat->Option Hd}{a:Act}:∀ {b:List (Nat×a7)},JU K H b a->∀t,b9 K H (Abs.u9 b t) (a.tmps.getD t undef)
 |[],_,t=>by simp[Abs.u9,b9]
 |(i,v)::r,h,t=>by
  simp only[Abs.u9];split
  .rename_i e;subst e;exact h (i,v) (by simp)
  .exact JU.u9 (fun u c=>h u (al _ c)) t
theorem Pe{H:Nat->Option Hd}{M:Mem}{n:Nat}{ty:Ty}(c:l5 F K H w (l9 M))(a:∀r,n<=r->H r=none):
  ∃H',aY H H'/\l5 F K H' w (l9 ((n,(.sl ty [],.own))::M))/\(∀r,n+1<=r->H' r=none)/\b9 K H' (.O1 n false) (.slice none 0 0):=by
 let hd:Hd:=⟨none,ty.size,0,0⟩
 refine⟨N9 H n hd,M3 (a n (aw _)),?_,fun r e=>?_,?_⟩
 .rw[dA];exact c.new n (a n (aw _)) (.sl ty []) hd ⟨rfl,rfl,⟨aw _,fx _⟩,.inl ⟨rfl,rfl⟩⟩ (fun b d=>by cases d)
 .rw[m7 _ _ _ _ (by omega)]
  exact a r (by omega)
 .simp only[b9];exact⟨hd,j8 _ _ _,rfl,by simp⟩
theorem wG{a:Act}:∀ (d:List (Nat×a7)) (n:Nat) (M:Mem) (H:Nat->Option Hd),JU K H d a->l5 F K H w (l9 M)->(∀r,n<=r->H r=none)->
  ∃H',aY H H'/\JU K H' (iP d n M).1 a/\l5 F K H' w (l9 (iP d n M).2.2)/\(∀r,(iP d n M).2.1<=r->H' r=none)
 |[],n,M,H,e,f,g=>⟨H,.refl H,e,f,g⟩
 |(t,v)::r,n,M,H,e,f,g=>by
  have m:JU K H r a:=fun u hu=>e u (al _ hu)
  have h:b9 K H v (a.tmps.getD t undef):=e (t,v) (by simp)
  have b:∃H',aY H H'/\JU K H' ((t,v)::(iP r n M).1) a/\l5 F K H' w (l9 (iP r n M).2.2)/\(∀i,(iP r n M).2.1<=i->H' i=none):=by
   obtain⟨H',c,j,k,l⟩:=wG r n M H m f g;refine⟨H',c,fun u hu=>?_,k,l⟩
   rcases av.1 hu with rfl|hu
   .exact b9.mono (.refl K) c _ _ h
   .exact j u hu
  cases v
  case R2 ty=>
   simp only[iP];obtain⟨p,o,g2,q,s⟩:=Pe (ty:=ty) f g;obtain⟨H',c,j,k,l⟩:=wG r (n+1) _ p (fun u hu=>b9.mono (.refl K) o _ _ (m u hu)) g2 q
   refine⟨H',o.trans c,fun u hu=>?_,k,l⟩
   rcases av.1 hu with rfl|hu
   .simp only[b9]at h;simp only;rw[h];exact b9.mono (.refl K) c _ _ s
   .exact j u hu
  all_goals exact b
theorem Mb{H:Nat->Option Hd}{M:Mem}{n:Nat}{ty:Ty}(c:l5 F K H w (l9 M))(a:∀r,n<=r->H r=none):
  ∃H',aY H H'/\l5 F K H' w (l9 ((n,(.sl ty [],.own))::M))/\(∀r,n+1<=r->H' r=none)/\b9 K H' (.O1 n false) (.slice none 0 0)/\(∀r,r<n->H' r=H r):=by
 let hd:Hd:=⟨none,ty.size,0,0⟩
 refine⟨N9 H n hd,M3 (a n (aw _)),?_,fun r d=>?_,?_,fun r d=>m7 _ _ _ _ (by omega)⟩
 .rw[dA];exact c.new n (a n (aw _)) (.sl ty []) hd ⟨rfl,rfl,⟨aw _,fx _⟩,.inl ⟨rfl,rfl⟩⟩ (fun b e=>by cases e)
 .rw[m7 _ _ _ _ (by omega)]
  exact a r (by omega)
 .simp only[b9];exact⟨hd,j8 _ _ _,rfl,by simp⟩
theorem kR:∀ (cells:List a7) (n:Nat) (M:Mem) (H:Nat->Option Hd),l5 F K H w (l9 M)->(∀r,n<=r->H r=none)->
  ∃H',aY H H'/\(∀vs,c6 K H cells vs->c6 K H' (O6 cells n M).1 vs)/\l5 F K H' w (l9 (O6 cells n M).2.2)/\(∀r,(O6 cells n M).2.1<=r->H' r=none)/\n<=(O6 cells n M).2.1/\
   (∀r,r<n->l9 (O6 cells n M).2.2 r=l9 M r)/\(∀r,r<n->H' r=H r)
 |[],n,M,H,e,f=>⟨H,.refl H,fun _ h=>h,e,f,aw _,fun _ _=>rfl,fun _ _=>rfl⟩
 |v::cells,n,M,H,e,f=>by
  have a:∃H',aY H H'/\(∀vs,c6 K H (v::cells) vs->c6 K H' (v::(O6 cells n M).1) vs)/\l5 F K H' w (l9 (O6 cells n M).2.2)/\(∀i,(O6 cells n M).2.1<=i->H' i=none)/\n<=(O6 cells n M).2.1/\
    (∀r,r<n->l9 (O6 cells n M).2.2 r=l9 M r)/\(∀r,r<n->H' r=H r):=by
   obtain⟨H',d,j,k,l,q,m,o⟩:=kR cells n M H e f;refine⟨H',d,fun vs p=>?_,k,l,q,m,o⟩
   obtain⟨c,cs,rfl,g,b⟩:=c6.inv p;exact .cons (b9.mono (.refl K) d _ _ g) (j _ b)
  cases v
  case R2 ty=>
   simp only[O6];obtain⟨t,s,g2,u,x,y⟩:=Mb (ty:=ty) e f;obtain⟨H',d,j,k,l,q,m,o⟩:=kR cells (n+1) _ t g2 u;refine⟨H',s.trans d,fun vs p=>?_,k,l,by omega,fun r b=>?_,fun r b=>?_⟩
   .obtain⟨c,cs,rfl,g,b⟩:=c6.inv p;refine .cons ?_ (j _ (c6.mono (.refl K) s _ _ b));simp only[b9]at g;rw[g];exact b9.mono (.refl K) d _ _ x
   .rw[m r (by omega),dA,m7 _ _ _ _ (by omega)]
   .rw[o r (by omega),y r b]
  all_goals exact a
theorem l5.a2s{H:Nat->Option Hd}{m:Mm}(h:l5 F K H w m){r:Nat}{c c':c7}(k:c.isCells=true)(o:m r=some (c,.own))(s:∀hd,H r=some hd->n9 K H w hd c'):
  l5 F K H w (N9 m r (c',.own)):=by
 refine⟨?_,?_,?_,?_⟩
 .intro f c' t d a i g;by_cases e:f=r
  .subst e;rw[j8]at a;cases a;exact s d g
  .rw[m7 _ _ _ _ e]at a;exact h.cont f c' t d a i g
 .intro f c' d b a i g;by_cases e:f=r
  .subst e;rw[j8]at a;cases a;obtain⟨u,v,k3,k4⟩:=h.own f _ d b o i g;exact⟨u,v,k3,fun _=>k4 k⟩
  .rw[m7 _ _ _ _ e]at a;exact h.own f c' d b a i g
 .intro f c' d b a i g;by_cases e:f=r
  .subst e;rw[j8]at a;cases a
  .rw[m7 _ _ _ _ e]at a;exact h.X9 f c' d b a i g
 .intro p q x j l n b a i g y z A;have old:∀f j,N9 m r (c',p0.own) f=some (j,.own)->∃B,m f=some (B,.own):=by
   intro f j a;by_cases e:f=r
   .subst e;exact⟨_,o⟩
   .rw[m7 _ _ _ _ e]at a;exact⟨_,a⟩
  obtain⟨_,C⟩:=old p x a;obtain⟨_,g2⟩:=old q j i;exact h.inj p q _ _ l n b C g2 g y z A
theorem aP:∀ (f:List Nat) (n:Nat) (M:Mem) (H:Nat->Option Hd),l5 F K H w (l9 M)->(∀r,n<=r->H r=none)->
  ∃H',aY H H'/\l5 F K H' w (l9 (bQ f n M).2)/\(∀r,(bQ f n M).1<=r->H' r=none)
 |[],n,M,H,d,g=>⟨H,.refl H,d,g⟩
 |r::f,n,M,H,d,g=>by
  simp only[bQ];split
  .rename_i cells i;split
   .rename_i a;obtain⟨k,j,g2,m,o,B,s,u⟩:=kR cells n M H d g;have h:=(s r a).trans i;obtain⟨H',v,x,y⟩:=aP f _ ((r,(.box (O6 cells n M).1,.own))::(O6 cells n M).2.2) k (by
     rw[dA];refine m.a2s rfl h (fun hd hh=>?_)
     rw[u r a]at hh;obtain⟨b,cs,e,z,A,C,D⟩:=d.cont r _ _ hd i (by simp) hh
     exact⟨b,cs,e,z,A,C,g2 _ D⟩) o
    exact⟨H',j.trans v,x,y⟩
   .exact aP f n M H d g
  .rename_i p t c l q i;split
   .rename_i a;obtain⟨k,j,g2,m,o,B,s,u⟩:=kR q n M H d g;have h:=(s r a).trans i;obtain⟨H',v,x,y⟩:=aP f _ ((r,(.bx p t c l (O6 q n M).1,.own))::(O6 q n M).2.2) k (by
     rw[dA];refine m.a2s rfl h (fun hd hh=>?_)
     rw[u r a]at hh;obtain⟨E,A,b,cs,e,z,G,I,J,L,N,O,P,R,S⟩:=d.cont r _ _ hd i (by simp) hh
     exact⟨E,A,b,cs,e,z,G,I,J,L,N,O,c6.mono (.refl K) j _ _ P,R,g2 _ S⟩) o
    exact⟨H',j.trans v,x,y⟩
   .exact aP f n M H d g
  .exact aP f n M H d g
abbrev Ctx:=(Nat->Prop)->b8->(Nat->Option Hd)->List a7->Option E8->World->Prop
def Ctx.O4(X:Ctx)(a:List a7)(p:Option E8):fW:=fun F K H w=>X F K H a p w
structure Ctx.Ok(X:Ctx):Prop where
 grow:∀gh p,(X.O4 gh p).Ok
 eF:∀ (F:Nat->Prop) (K:b8) (H:Nat->Option Hd) (l:List Nat) (gh:List a7) (p:Option E8) (w:World),X F K H gh p w->X F K (bI l H) (L5 l gh) p w
theorem Fl{X:Ctx}{B:Option Nat}(g:X.Ok){n:Nat}{H:Nat->Option Hd}{b:j7}{a:Act}(ks:List Nat)(h:St (X.O4 b.gh b.o7) B F n K H b.s6.T b.s6.m a w)(k:∀r,b.nx<=r->H r=none):
  ∃H',St (X.O4 (canon ks b).gh (canon ks b).o7) B F n K H' (canon ks b).s6.T (canon ks b).s6.m a w/\∀r,(canon ks b).nx<=r->H' r=none:=by
 have o:JU K H (Rd b.tmps ks) a:=by
  intro u c;obtain⟨t,_,rfl⟩:=cd.1 c;exact h.tmp t
 obtain⟨p,q,g2,s,v⟩:=wG (Rd b.tmps ks) b.nx b.M H o h.mem k
 let x:=iP (Rd b.tmps ks) b.nx b.M
 let d:=uniq ((x.1.map fun u=>refs 3 u.2).flatten++(b.gh.map (refs 3)).flatten) []
 obtain⟨i,j,z,k3⟩:=aP d x.2.1 x.2.2 p s v
 let y:=bQ d x.2.1 x.2.2
 let l:=reach y.2 2 d
 have A:l.Nodup:=Cr _ _ _ (cL _ _ jz);refine⟨bI l i,⟨h.ok,Wz A z,h.size,h.defers,?_,?_⟩,fun r C=>?_⟩
 .have:JU K (bI l i) (x.1.map fun u=>(u.1,u.2.eF l)) a:=by
   intro u c;obtain⟨D,e,rfl⟩:=cd.1 c;exact DB _ _ (b9.mono (.refl K) j _ _ (g2 D e))
  exact this.u9
 .exact g.eF _ _ _ l _ _ _ ((g.grow _ _).grow _ _ _ _ _ _ _ _ h.x (fun _ h=>h) (.refl K) (q.trans j) (.refl F w))
 .have f:l.length<=r:=C;simp[bI,an f]
theorem a0r{X:Ctx}{B:Option Nat}(p:X.Ok){n:Nat}{H:Nat->Option Hd}{c:j7}{a:Act}(t:Nat)(h:St (X.O4 c.gh c.o7) B F n K H c.s6.T c.s6.m a w):
  ∃K',St (X.O4 (Lq t c).gh (Lq t c).o7) B F n K' H (Lq t c).s6.T (Lq t c).s6.m a w/\K.le K'/\Fix F K K'/\(Lq t c).n=c.n/\(Lq t c).nx=c.nx:=by
 unfold Lq;split
 .split
  .rename_i v g l;have l:view c.s6.m 6 (c.s6.T t)=some (v,g):=l;have i:=(cJ c.s6.m 6).1 _ _ _ l;obtain⟨o,_⟩:=h.mem.freeze h.ok.w8 g i;obtain⟨j,k⟩:=h.ok.frozen h.mem g i;have d:=K.M4 w (Q5 H g);refine⟨_,⟨j,?_,h.size,h.defers,?_,(p.grow _ _).grow _ _ _ _ _ _ _ _ h.x (fun _ h=>h) d (.refl H) (.refl F w)⟩,d,k,rfl,rfl⟩
   .have:(j7.s6 {c with tmps:=(t,v)::c.tmps,M:=qE c.M (J6 g)}).m=y8 c.s6.m (J6 g):=kQ _ _;rw[this];exact o
   .intro t';have:(j7.s6 {c with tmps:=(t,v)::c.tmps,M:=qE c.M (J6 g)}).T t'=if t=t' then v else c.s6.T t':=rfl
    rw[this];by_cases e:t=t'
    .subst e;rw[aj rfl];exact(mA h.mem d H (.refl H) 6).1 _ _ _ _ l (fun r f hd b cs e z q s u y=>fM (cW q s u) h.ok.w8 y) (h.tmp t)
    .rw[ai e];exact b9.mono d (.refl H) _ _ (h.tmp t')
  .exact⟨K,h,.refl K,.refl F K,rfl,rfl⟩
 .exact⟨K,h,.refl K,.refl F K,rfl,rfl⟩
theorem JV{X:Ctx}{B:Option Nat}(c:X.Ok){n:Nat}{H:Nat->Option Hd}{b:j7}{a:Act}:∀ (ks:List Nat),St (X.O4 b.gh b.o7) B F n K H b.s6.T b.s6.m a w->
  ∃K',St (X.O4 (uI ks b).gh (uI ks b).o7) B F n K' H (uI ks b).s6.T (uI ks b).s6.m a w/\K.le K'/\Fix F K K'/\(uI ks b).n=b.n/\(uI ks b).nx=b.nx
 |[],h=>⟨K,h,.refl K,.refl F K,rfl,rfl⟩
 |k::ks,h=>by
  obtain⟨K1,d,e,f,g,i⟩:=JV c ks h;unfold uI;split
  .obtain⟨K2,j,g2,l,o,p⟩:=a0r c (k- 2000000) d;exact⟨K2,j,e.trans g2,f.trans l,o.trans g,p.trans i⟩
  .exact⟨K1,d,e,f,g,i⟩
end
end Go.Abs
end
section
namespace Go.Abs
structure eR(F:Nat->Prop)(K:b8)(H:Nat->Option Hd)(w:World)(m:Mm)(nx:Nat)(q:XQ)(v:Value)(w':World)(K':b8)(H':Nat->Option Hd):Prop where
 le:K.le K'
 hle:aY H H'
 K8:∀r,H r=none->H' r≠none->nx<=r/\r<nx+q.new.length
 rep:b9 K' H' q.val v
 mem:l5 F K' H' w' (q.mm nx m)
 ok:L4 F K' w'
 kept:Kept F w w'
 fix:Fix F K K'
def bJ(P:Program)(F:Nat->Prop)(K:b8)(H:Nat->Option Hd)(w:World)(m:Mm)(nx:Nat)(k:XQ->Prop):Result Next->Prop
 |.ok (.value v) w'=>∃q K' H',k q/\eR F K H w m nx q v w' K' H'
 |.ok (.enter f args) w'=>w'=w/\Calls P f args w (fun e a=>∃v q K' H',e=.returned v/\k q/\eR F K H w m nx q v a K' H')
 |_=>False
section
variable {P:Program} {F:Nat->Prop} {K:b8} {H:Nat->Option Hd} {w:World} {m:Mm} {nx:Nat} {k:XQ->Prop} {ev:Operand->a7} {ρ:Operand->Value} {Γ:Env}
theorem oK(l8:L4 F K w)(hm:l5 F K H w m)(n:H nx=none)(o:Obj)(c:c7)(g:c.isCells=false)
  (t:n9 K (N9 H nx ⟨some w.heap.size,0,0,0⟩) (w.alloc o) ⟨some w.heap.size,0,0,0⟩ c){a:a7}{v:Value}(u:b9 K (N9 H nx ⟨some w.heap.size,0,0,0⟩) a v):
  eR F K H w m nx ⟨a,[],[],[c]⟩ v (w.alloc o) K (N9 H nx ⟨some w.heap.size,0,0,0⟩):=by
 refine⟨.refl K,M3 n,fun r e d=>?_,u,?_,l8.alloc _,wA l8 _,.refl F K⟩
 .by_cases p:r=nx
  .subst p;simp
  .rw[m7 _ _ _ _ p]at d;exact absurd e d
 .have y:l5 F K H (w.alloc o) m:=hm.world (fun r c f hd b e d j z=>jk w _ b (W1 hm e d j z))
  refine y.new nx n c _ t (fun b l=>?_)
  cases l;have s:=l8.w8.new (aw w.heap.size);refine⟨fun A=>?_,s.1,s.2,(fun h=>by rw[g]at h;cases h),fun C c' B e d j=>?_⟩
  .have:=l8.lt _ A;omega
  .have:=W1 hm e (by simp) d j;omega
theorem mK(l8:L4 F K w)(hm:l5 F K H w m){a:a7}{v:Value}(b:b9 K H a v):eR F K H w m nx ⟨a,[],[],[]⟩ v w K H:=
 ⟨.refl K,.refl H,fun _ h c=>absurd h c,b,hm,l8,.refl F w,.refl F K⟩
theorem Bj(l8:L4 F K w)(hm:l5 F K H w m){r:Nat}{c c':c7}{hd:Hd}{b:Nat}{o o':Obj}(d:m r=some (c,.own))(g:H r=some hd)(j:hd.base=some b)
  (hh:w.heap[b]? =some o)(l:∀cs e n,o≠ .cells cs e n)(f:c'.isCells=false)(p:n9 K H (w.putObj b o') hd c'){a:a7}{v:Value}(s:b9 K H a v):
  eR F K H w m nx ⟨a,[(r,c')],[],[]⟩ v (w.putObj b o') K H:=by
 obtain⟨t,u,q3⟩:=oG l8 hm d g j hh l f p;exact⟨.refl K,.refl H,fun _ h y=>absurd h y,s,t,u,q3,.refl F K⟩
theorem eR.drew{q:XQ}{v:Value}{w':World}{K':b8}{H':Nat->Option Hd}(h:eR F K H w.drew m nx q v w' K' H'):eR F K H w m nx q v w' K' H':=
 ⟨h.le,h.hle,h.K8,h.rep,h.mem,h.ok,⟨h.kept.os,h.kept.tape,h.kept.output,h.kept.size,h.kept.block,ew (lf _) h.kept.drawn⟩,h.fix⟩
variable (l8:L4 F K w) (hm:l5 F K H w m) (n6:∀x,b9 K H (ev x) (ρ x)) (G2:∀q,k q->∀i,i<q.new.length->H (nx+i)=none)
include l8 hm G2 in
theorem Ts(o:Oper){t:TypeId}{mk:MK}(b:o.op=.makeMap t none)(h:k ⟨.B9 nx,[],[],[.mp mk [] 0]⟩):bJ P F K H w m nx k ((execOp ρ o).run P w):=by
 have a:(execOp ρ o).run P w=.ok (.value (.map (some w.heap.size))) (w.alloc (.map #[] 0)):=by
  simp only[execOp,b];refine c8 ?_;simp only[Instr.makeMap,ns,au,lb,ak,bg]
 rw[a];have c:H nx=none:=by simpa using G2 _ h 0 (by simp)
 refine⟨_,K,_,h,oK l8 hm c (.map #[] 0) _ rfl ?_ ?_⟩
 .exact⟨rfl,rfl,rfl,_,rfl,L0 w _⟩
 .simp only[b9];exact⟨_,_,j8 _ _ _,rfl,rfl⟩
include l8 hm n6 in
theorem WA(o:Oper){t:TypeId}{x i:Operand}{a:Bool}(n:o.op=.lookup t x i a){r:Nat}{mk:MK}{l:I2 mk.kt}{clk:Nat}{f:p0}{key:mk.kt.den}(p:ev x=.B9 r)(e:m r=some (.mp mk l clk,f))(s:f≠ .dead)
  (g:pT P t=some mk)(c:mk.ZD (ev i)=some key)(h:k ⟨BZ mk l key a,[],[],[]⟩):bJ P F K H w m nx k ((execOp ρ o).run P w):=by
 obtain⟨_,_,_,_,hint,_⟩:=cY g;have j:=n6 x;rw[p]at j;obtain⟨hd,b,z,g2,u,v,_⟩:=yM hm e s j;have y:=DA hint c (n6 i);have d:=uX g v key a;have:(execOp ρ o).run P w=.ok (.value (if a then .tuple #[.int mk.kv (lD mk.kt l key),.bool (qH mk.kt l key)]else .int mk.kv (lD mk.kt l key))) w:=by
  simp only[execOp,n,u,y];exact c8 d
 rw[this];refine⟨_,K,H,h,mK l8 hm ?_⟩;cases a
 .simp[BZ,b9]
 .simp only[BZ,b9,di];exact⟨_,rfl,.cons (by simp[b9]) (.cons (by simp[b9]) .nil)⟩
include l8 hm n6 in
theorem WB(o:Oper){c:Call}{x y:Operand}{t u:TypeId}(s:o.op=.call c)(v:c.callee=.builtin .delete)(a:c.args.toList=[x,y])(d:c.argTypes.toList=[t,u])
  {r:Nat}{mk:MK}{l:I2 mk.kt}{clk:Nat}{key:mk.kt.den}(z:ev x=.B9 r)(e:m r=some (.mp mk l clk,.own))
  (n:pT P t=some mk)(f:mk.ZD (ev y)=some key)(h:k ⟨.M1 [],[(r,.mp mk (lR mk.kt key l) clk)],[],[]⟩):bJ P F K H w m nx k ((execOp ρ o).run P w):=by
 obtain⟨_,_,_,_,hint,_⟩:=cY n;have p:=n6 x;rw[z]at p;obtain⟨hd,b,A,g2,B,j,C,D,E⟩:=yM hm e (by simp) p
 have G:=DA hint f (n6 y);have g:=Hw (u:=u) (ty:=o.type) n j key;have I:c.args= #[x,y]:=by apply ln;simpa using a
 have J:c.argTypes= #[t,u]:=by apply ln;simpa using d
 have:(execOp ρ o).run P w=.ok (.value (.tuple #[])) (w.putObj b (.map ((lR mk.kt key l).map mk.nM).toArray clk)):=by
  simp[execOp,s,resolve,v,I,J,B,G,invoke,builtin,g,go_sem]
 rw[this];exact⟨_,K,H,h,Bj (c':=.mp mk (lR mk.kt key l) clk) (o':=.map ((lR mk.kt key l).map mk.nM).toArray clk) l8 hm e A g2 j (fun _ _ _ h=>by cases h) rfl ⟨C,D,E,b,g2,by rw[I0 j,aj rfl]⟩ (by simp only[b9];exact⟨_,rfl,.nil⟩)⟩
include l8 hm n6 G2 in
theorem a0s(o:Oper){t:TypeId}{x:Operand}(j:o.op=.range t x){r:Nat}{mk:MK}{l:I2 mk.kt}{clk:Nat}{f:p0}(n:ev x=.B9 r)(d:m r=some (.mp mk l clk,f))(p:f≠ .dead)
  (s:pT P t=some mk)(h:k ⟨.ptr nx 0,[],[],[.it (some r) clk [] clk]⟩):bJ P F K H w m nx k ((execOp ρ o).run P w):=by
 obtain⟨kt,A,_,u,_⟩:=cY s;have g:=n6 x;rw[n]at g;obtain⟨hd,b,v,g2,y,z,_⟩:=yM hm d p g;have a:(execOp ρ o).run P w=.ok (.value (.pointer (some ⟨w.heap.size,0,none⟩))) (w.alloc (.mapIter (some b) clk #[] clk)):=by
  simp only[execOp,j,y];refine c8 ?_;simp only[Instr.range,au,dc u,ak,B3 z,lb,bg]
 rw[a];have c:H nx=none:=by simpa using G2 _ h 0 (by simp)
 refine⟨_,K,_,h,oK l8 hm c (.mapIter (some b) clk #[] clk) _ rfl ?_ ?_⟩
 .refine⟨rfl,rfl,rfl,_,b,rfl,L0 w _,fun B e=>?_⟩
  cases e;exact⟨hd,M3 c _ _ v,g2⟩
 .simp only[b9];exact⟨_,_,j8 _ _ _,rfl,rfl⟩
theorem Rw{mk:MK}(l:I2 mk.kt)(seen:List Nat):(leftOf (l.map mk.nM).toArray seen.toArray).toList=(mleft mk.kt l seen).map mk.nM:=by
 simp only[leftOf,mleft,sj];rw[List.filter_map];congr 1;apply iu;intro e _;simp[MK.nM];exact pg.2 se
theorem Mc{e:Nat}{v:Value}{r a d:Nat}{seen:List Nat}{mk:MK}{l:I2 mk.kt}{clk:Nat}{f:p0}(hm:l5 F K H w m)(g:m e=some (.it (some r) a seen d,.own))(j:m r=some (.mp mk l clk,f))(u:f≠ .dead)(h:b9 K H (.ptr e 0) v):
  ∃hd b mb,H e=some hd/\hd.base=some b/\v=.pointer (some ⟨b,0,none⟩)/\w.heap[b]? =some (.mapIter (some mb) a seen.toArray d)/\w.heap[mb]? =some (.map (l.map mk.nM).toArray clk)/\hd.sz=0/\hd.len=0/\hd.cap=0/\∃c,H r=some c/\c.base=some mb:=by
 simp only[b9]at h;obtain⟨hd,b,n,g2,y⟩:=h;obtain⟨z,A,B,G,mb,o,C,D⟩:=hm.cont e _ .own hd g (by simp) n
 rw[g2]at o;cases o;obtain⟨c,p,s⟩:=D r rfl;obtain⟨_,_,_,I,t,E⟩:=hm.cont r _ f c j u p;rw[s]at t;cases t;exact⟨hd,b,mb,n,g2,y,C,E,z,A,B,c,p,s⟩
include l8 hm n6 in
theorem a3R(o:Oper){i:Operand}(J:o.op=.next i false){z r since c:Nat}{seen:List Nat}{mk:MK}{l:I2 mk.kt}{clk:Nat}{f:p0}(A:ev i=.ptr z 0)(p:m z=some (.it (some r) since seen c,.own))(B:m r=some (.mp mk l clk,f))(R:f≠ .dead)
  (hint:mk.kt.ints=true)(h:((∀e∈l,e.1<since)/\since<=c)/\(mleft mk.kt l seen=[]->k ⟨.M1 [.bool false],[],[],[]⟩)/\
   ∀e,e∈mleft mk.kt l seen->k ⟨.M1 [.bool true,mk.I1 e.2.1,.int mk.kv e.2.2],[(z,.it (some r) since (seen++ [e.1]) clk)],[],[]⟩):bJ P F K H w m nx k ((execOp ρ o).run P w):=by
 have L:=n6 i;rw[A]at L;obtain⟨hd,b,n,S,g2,M,N,T,U,V,X,C,Y,Z⟩:=Mc hm p B R L;obtain⟨⟨h1,h2⟩,h3,h4⟩:=h;have s:∀x∈((l.map mk.nM).toArray).toList,x.born<since:=by
  intro x O;simp only[cd]at O;obtain⟨e,A,rfl⟩:=O;exact h1 e A
 rcases ta (P:=P) w o.type b n since c seen.toArray (l.map mk.nM).toArray clk N T s h2 with⟨hz,d⟩|⟨e,g,j,D,d⟩
 .have hl:mleft mk.kt l seen=[]:=by
   have:=Rw (mk:=mk) l seen;rw[ed hz]at this;simpa using this.symm
  have:(execOp ρ o).run P w=.ok (.value (.tuple #[.bool false])) w:=by
   simp only[execOp,J,M];exact c8 d
  rw[this];exact⟨_,K,H,h3 hl,mK l8 hm (by simp only[b9];exact⟨_,rfl,.cons (by simp[b9]) .nil⟩)⟩
 .rw[Rw]at g;simp only[cd]at g;obtain⟨a,E,rfl⟩:=g;have:(execOp ρ o).run P w=.ok (.value (.tuple #[.bool true,mk.key a.2.1,.int mk.kv a.2.2])) (j.putObj b (.mapIter (some n) since (seen++ [a.1]).toArray clk)):=by
   simp only[execOp,J,M];refine c8 ?_;rw[d];simp[MK.nM,ChangeMaps.setBlock,World.putObj]
  rw[this];refine⟨_,K,H,h4 a E,?_⟩;have t:b9 K H (.M1 [.bool true,mk.I1 a.2.1,.int mk.kv a.2.2]) (.tuple #[.bool true,mk.key a.2.1,.int mk.kv a.2.2]):=by
   simp only[b9];exact⟨_,rfl,.cons (by simp[b9]) (.cons (Rt hint _) (.cons (by simp[b9]) .nil))⟩
  have u:∀j:World,j.heap=w.heap->L4 F K j->l5 F K H j m->eR F K H j m nx ⟨.M1 [.bool true,mk.I1 a.2.1,.int mk.kv a.2.2],[(z,.it (some r) since (seen++ [a.1]) clk)],[],[]⟩ (.tuple #[.bool true,mk.key a.2.1,.int mk.kv a.2.2]) (j.putObj b (.mapIter (some n) since (seen++ [a.1]).toArray clk)) K H:=by
   intro j hw v G;have y:j.heap[b]? =some (.mapIter (some n) since seen.toArray c):=by rw[hw];exact N
   refine Bj (c':=.it (some r) since (seen++ [a.1]) clk) (o':=.mapIter (some n) since (seen++ [a.1]).toArray clk) v G p S g2 y (fun _ _ _ h=>by cases h) rfl ⟨U,V,X,b,n,g2,by rw[I0 y,aj rfl],fun r' I=>?_⟩ t
   cases I;exact⟨C,Y,Z⟩
  rcases D with rfl|rfl
  .exact u _ rfl l8 hm
  .exact(u w.drew rfl (l8.heap rfl) (hm.heap rfl)).drew
include l8 hm n6 in
theorem a0t(o:Oper){i:Operand}(B:o.op=.entry i){y r a g:Nat}{seen:List Nat}{mk:MK}{l:I2 mk.kt}{clk:Nat}{f:p0}(C:ev i=.ptr y 0)(s:m y=some (.it (some r) a seen g,.own))(t:m r=some (.mp mk l clk,f))(D:f≠ .dead)
  (hint:mk.kt.ints=true)(h:(clk=g/\(l.map (·.1)).Nodup)/\∃e,(e∈l/\seen.getLast?=some e.1)/\k ⟨.M1 [mk.I1 e.2.1,.int mk.kv e.2.2],[],[],[]⟩):bJ P F K H w m nx k ((execOp ρ o).run P w):=by
 have z:=n6 i;rw[C]at z;obtain⟨hd,b,A,M,g2,E,G,I,N,O,R,J,S,T⟩:=Mc hm s t D z;obtain⟨⟨rfl,u⟩,j,⟨n,d⟩,L⟩:=h;obtain⟨c,rfl⟩:∃c,seen=c++ [j.1]:=by
  rw[qe]at d;exact d
 have v:w.heap[b]? =some (.mapIter (some A) a (c.toArray.push (mk.nM j).born) clk):=by
  rw[G];simp[MK.nM]
 have p:=qz (P:=P) w b A a c.toArray (l.map mk.nM).toArray clk (mk.nM j) v I (by simp only[cd];exact⟨j,n,rfl⟩) (by
  have:((l.map mk.nM).toArray.toList.map (·.born))=l.map (·.1):=by simp[MK.nM,Function.comp_def]
  rw[this];exact u)
 have:(execOp ρ o).run P w=.ok (.value (.tuple #[mk.key j.2.1,.int mk.kv j.2.2])) w:=by
  simp only[execOp,B,E];exact c8 p
 rw[this];refine⟨_,K,H,L,mK l8 hm ?_⟩;simp only[b9];exact⟨_,rfl,.cons (Rt hint _) (.cons (by simp[b9]) .nil)⟩
end
end Go.Abs
end
section
namespace Go.Abs
def c7.plain:c7->Bool
 |.sl _ _=>true
 |.mp _ _ _=>true
 |_=>false
section
variable {P:Program} {F:Nat->Prop} {K:b8} {H:Nat->Option Hd} {w:World} {m:Mm} {nx:Nat} {k:XQ->Prop} {ev:Operand->a7} {ρ:Operand->Value} {Γ:Env}
theorem lH{K':b8}{H':Nat->Option Hd}{hd:Hd}{c:c7}(f:c.plain=true)(i:K.le K')(h:n9 K H w hd c):n9 K' H' w hd c:=by
 cases c with
 |box cells=>cases f
 |sl t l=>
  obtain⟨j,n,p,g⟩:=h;refine⟨j,n,p,?_⟩;rcases g with g|⟨b,cs,e,q,r,g2,s,u⟩
  .exact .inl g
  .exact .inr ⟨b,cs,e,q,r,g2,s,u.mono i⟩
 |mp mk l clk=>exact h
 |it a b c d=>cases f
 |bx a b c d e=>cases f
 |z5 o=>cases f
 |any=>cases f
theorem yU{j:Nat}{v v':a7}{r:Nat}{c:c7}(h:Jt m j v=some (v',r,c)):
  m r=some (c,.own)/\c.plain=true/\(∀ (K K':b8) (H H0:Nat->Option Hd) (x:Value),b9 K H v x->H0 j=H r->b9 K' H0 v' x)/\∀ (K:b8) (H:Nat->Option Hd) (x:Value),b9 K H v x->∃hd,H r=some hd:=by
 unfold Jt at h;split at h
 .rename_i r0 f;split at h
  .rename_i t l d;simp only[ae,aq]at h;obtain⟨rfl,rfl,rfl⟩:=h;refine⟨d,rfl,fun K K' H H0 x a e=>?_,fun K H x a=>?_⟩
   .simp only[b9]at a ⊢;obtain⟨hd,g,i⟩:=a;exact⟨hd,by rw[e];exact g,i⟩
   .simp only[b9]at a;obtain⟨hd,g,i⟩:=a;exact⟨hd,g⟩
  .cases h
 .rename_i r0;split at h
  .rename_i mk l clk d;simp only[ae,aq]at h;obtain⟨rfl,rfl,rfl⟩:=h;refine⟨d,rfl,fun K K' H H0 x a e=>?_,fun K H x a=>?_⟩
   .simp only[b9]at a ⊢;obtain⟨hd,b,g,i⟩:=a;exact⟨hd,b,by rw[e];exact g,i⟩
   .simp only[b9]at a;obtain⟨hd,b,g,i⟩:=a;exact⟨hd,g⟩
  .cases h
 .cases h
theorem Tt(i:l5 F K H w m){a:b8}(c:K.le a){b:Bool}{v v':a7}{x:Value}{d:List (Nat×p0)}(h:Lm m b v=some (v',d))
  (j:∀r f hd b cs e l,(r,f)∈d->H r=some hd->hd.base=some b->w.heap[b]? =some (.cells cs e l)->a.cells b=some cs)(g:b9 K H v x):b9 a H v' x:=by
 unfold Lm at h;split at h
 .simp only[ae,aq]at h;obtain⟨rfl,rfl⟩:=h;simpa [b9]using g
 .exact(mA i c H (.refl H) 6).1 _ _ _ _ h j g
theorem Md{b:Bool}{v v':a7}{d:List (Nat×p0)}(h:Lm m b v=some (v',d)):∀r f,(r,f)∈d->f≠ .dead/\∃c,m r=some (c,f)/\c.isCells=true:=by
 unfold Lm at h;split at h
 .simp only[ae,aq]at h;obtain⟨rfl,rfl⟩:=h;intro r f a;simp at a
 .exact(cJ m 6).1 _ _ _ h
theorem oL(E:l5 F K H w m){A:b8}(d:K.le A){s:List Nat}:∀ (args:List a7) (xs:List Value) (i j:Nat) (vs:List a7) (t:List Nat) (cs:List c7) (B:List (Nat×p0)),dL m s i j args=some (vs,t,cs,B)->
  (∀r f hd b cs e u,(r,f)∈B->H r=some hd->hd.base=some b->w.heap[b]? =some (.cells cs e u)->A.cells b=some cs)->c6 K H args xs->
  ∀H0:Nat->Option Hd,(∀q,q<t.length->H0 (j+q)=H (t.getD q 0))->c6 A H0 vs xs
 |[],xs,i,j,vs,t,cs,B,h,C,G,H0,D=>by
  simp only[dL,ae,aq]at h;obtain⟨rfl,rfl,rfl,rfl⟩:=h;rw[c6.J8.1 G];exact .nil
 |v::args,xs,i,j,vs,t,cs,B,h,C,G,H0,D=>by
  obtain⟨x,y,rfl,L,M⟩:=G.inv;simp only[dL]at h;split at h
  .split at h
   .rename_i v' r c z;split at h
    .rename_i g l n o a;simp only[ae,aq]at h;obtain⟨rfl,rfl,rfl,rfl⟩:=h;obtain⟨_,_,N,_⟩:=yU z;refine .cons (N K A H H0 x L (by have:=D 0 (by simp);simpa using this)) ?_
     refine oL E d args y (i+1) (j+1) g l n o a C M H0 (fun q O=>?_)
     have:=D (q+1) (by simpa using O)
     rw[show j+1+q=j+(q+1)by omega,this]
     simp
    .cases h
   .cases h
  .split at h
   .rename_i v' R p;split at h
    .rename_i I;split at h
     .rename_i g l n o a;simp only[ae,aq]at h;obtain⟨rfl,rfl,rfl,rfl⟩:=h;refine .cons (Rs _ _ I (Tt E d p (fun r f hd b cs e u J=>C r f hd b cs e u (by simp[J])) L)) ?_
      exact oL E d args y (i+1) j g l n o a (fun r f hd b cs e u J=>C r f hd b cs e u (by simp[J])) M H0 D
     .cases h
    .cases h
   .cases h
theorem lI{o:List Nat}:∀ (args:List a7) (xs:List Value) (i j:Nat) (vs:List a7) (b:List Nat) (cs:List c7) (t:List (Nat×p0)),dL m o i j args=some (vs,b,cs,t)->c6 K H args xs->
  cs.length=b.length/\(∀q,q<b.length->∃c,cs[q]? =some c/\m (b.getD q 0)=some (c,.own)/\c.plain=true/\∃hd,H (b.getD q 0)=some hd)/\(∀r f,(r,f)∈t->f≠ .dead/\∃c,m r=some (c,f)/\c.isCells=true)
 |[],xs,i,j,vs,b,cs,t,h,B=>by
  simp only[dL,ae,aq]at h;obtain⟨rfl,rfl,rfl,rfl⟩:=h;exact⟨rfl,fun q u=>by simp at u,fun r f h=>by simp at h⟩
 |v::args,xs,i,j,vs,b,cs,t,h,B=>by
  obtain⟨x,p,rfl,D,C⟩:=B.inv;simp only[dL]at h;split at h
  .split at h
   .rename_i v' r c s;split at h
    .rename_i d e g l a;simp only[ae,aq]at h;obtain⟨rfl,rfl,rfl,rfl⟩:=h;obtain⟨E,G,_,I⟩:=yU s;obtain⟨a1,y,z⟩:=lI args p (i+1) (j+1) d e g l a C;refine⟨by simp[a1],fun q u=>?_,z⟩
     cases q with
     |zero=>exact⟨c,rfl,by simpa using E,G,by simpa using I K H x D⟩
     |succ q=>
      obtain⟨c',J,L,M,N⟩:=y q (by simpa using u)
      exact⟨c',by simpa using J,by simpa using L,M,by simpa using N⟩
    .cases h
   .cases h
  .split at h
   .rename_i v' R n;split at h
    .rename_i O;split at h
     .rename_i d e g l a;simp only[ae,aq]at h;obtain⟨rfl,rfl,rfl,rfl⟩:=h;obtain⟨a1,y,z⟩:=lI args p (i+1) j d e g l a C;refine⟨a1,y,fun r f A=>?_⟩
      rcases cj.1 A with h|h
      .exact Md n r f h
      .exact z r f h
     .cases h
    .cases h
   .cases h
theorem l5.sub{m2:Mm}(h:l5 F K H w m)(hs:∀r x,m2 r=some x->m r=some x):l5 F K H w m2 where
 cont:=fun r c f hd h1 h2 h3=>h.cont r c f hd (hs _ _ h1) h2 h3
 own:=fun r c hd b h1 h2 h3=>h.own r c hd b (hs _ _ h1) h2 h3
 X9:=fun r c hd b h1 h2 h3=>h.X9 r c hd b (hs _ _ h1) h2 h3
 inj:=fun r r' c c' hd S9 b h1 h2 h3 h4 h5 h6=>h.inj r r' c c' hd S9 b (hs _ _ h1) (hs _ _ h2) h3 h4 h5 h6
theorem l5.WC{m2 M':Mm}{t H':Nat->Option Hd}{z:List c7}{ρ:Nat->Nat}(G:Nat->Prop)(h:l5 F K H w m2)(A:l5 F K t w (G4 (fun _=>none) 0 z))
  (j:∀r c f hd b,m2 r=some (c,f)->f≠ .dead->H r=some hd->hd.base=some b->G b)(K8:∀r c hd b,G4 (fun _=>none) 0 z r=some (c,.own)->t r=some hd->hd.base=some b->¬G b)
  (B:∀r hd,t r=some hd->H' (ρ r)=some hd)(C:aY H H')
  (look:∀r c f hd,M' r=some (c,f)->H' r=some hd->(∃i o,G4 (fun _=>none) 0 z i=some (o,.own)/\r=ρ i/\c=o.V4 ρ/\f=.own/\t i=some hd)\/(m2 r=some (c,f)/\H r=some hd)):l5 F K H' w M':=by
 refine⟨?_,?_,?_,?_⟩
 .intro r c f hd p l n;rcases look r c f hd p n with⟨i,o,a,rfl,rfl,_,g2⟩|⟨a,g2⟩
  .exact HZ B (A.cont i o .own hd a (by simp) g2)
  .exact(h.cont r c f hd a l g2).mono (.refl K) C (fun _ _=>rfl)
 .intro r c hd b p l n;rcases look r c _ hd p l with⟨i,o,a,rfl,rfl,_,g2⟩|⟨a,g2⟩
  .obtain⟨y1,O,R,S⟩:=A.own i o hd b a g2 n;exact⟨y1,O,R,fun T=>S (yI _ _ T)⟩
  .exact h.own r c hd b a g2 n
 .intro r c hd b p l n;rcases look r c _ hd p l with⟨i,o,a,_,_,g,g2⟩|⟨a,g2⟩
  .cases g
  .exact h.X9 r c hd b a g2 n
 .intro D u E v e d b p l n L x y;rcases look D E _ e p n with⟨M,N,a,rfl,rfl,_,g2⟩|⟨a,g2⟩
  .rcases look u v _ d l L with⟨I,J,q,rfl,rfl,_,s⟩|⟨q,s⟩
   .rw[A.inj M I N J e d b a q g2 s x y]
   .exact absurd (j u v .own d b q (by simp) s y) (K8 M N e b a g2 x)
  .rcases look u v _ d l L with⟨I,J,q,rfl,rfl,_,s⟩|⟨q,s⟩
   .exact absurd (j D E .own e b a (by simp) g2 x) (K8 I J d b q s y)
   .exact h.inj D u E v e d b a q g2 s x y
def kill(a:List Nat)(m:Mm):Mm:=fun r=>if r∈a then none else m r
theorem U3{a:List Nat}{m:Mm}{r:Nat}{x:c7×p0}(h:kill a m r=some x):r ∉ a/\m r=some x:=by
 unfold kill at h;split at h
 .cases h
 .rename_i b;exact⟨b,h⟩
theorem oO:∀ (a:List (Nat×c7)) (m:Mm) (r:Nat),r ∉ a.map (·.1)->iN m (iO a) r=m r
 |[],_,_,_=>rfl
 |u::a,m,r,h=>by
  simp only[az,av,ke]at h;simp only[iO,iN];rw[oO a _ r h.2,m7 _ _ _ _ h.1]
theorem Fm:∀ (b:List Nat) (cs:List c7) (r:Nat),r∈(uH b cs).map (·.1)->r∈b
 |[],cs,r,h=>by cases cs<;>simp[uH]at h
 |a::b,[],r,h=>by simp[uH]at h
 |a::b,c::cs,r,h=>by
  simp only[uH,az,av]at h;rcases h with rfl|h
  .simp
  .exact al _ (Fm b cs r h)
theorem Me:∀ (b:List Nat) (cs:List c7) (m:Mm),b.Nodup->∀q c,q<b.length->cs[q]? =some c->iN m (iO (uH b cs)) (b.getD q 0)=some (c,.own)
 |[],cs,m,_,q,c,e,_=>by simp at e
 |a::b,[],m,_,q,c,_,d=>by simp at d
 |a::b,j::cs,m,f,q,c,e,d=>by
  obtain⟨g,i⟩:=dn.1 f;simp only[uH,iO,iN];cases q with
  |zero=>
   simp only[dh,ae]at d;subst d;simp only[List.getD_cons_zero];rw[oO _ _ _ (fun h=>g (Fm b cs a h)),j8]
  |succ q=>
   simp only[cx]at d;simp only[List.getD_cons_succ];exact Me b cs _ i q c (by simpa using e) d
theorem kS:∀ {l:List Nat},AG l=true->l.Nodup
 |[],_=>jz
 |a::l,h=>by
  simp only[AG,ah,dx]at h;exact dn.2 ⟨by simpa using h.1,kS h.2⟩
theorem Pf{a b:List Nat}(h:Vr a b=true){x:Nat}(c:x∈a):x ∉ b:=by
 simp only[Vr,fu]at h;simpa using h x c
theorem Mf{r:Nat}{f:p0}:∀ {b:List (Nat×p0)},(r,f)∈b->r∈O5 b
 |(a,g)::b,h=>by
  simp only[O5];rcases av.1 h with h|h
  .cases h;simp
  .exact al _ (Mf h)
end
end Go.Abs
end
section
namespace Go.Abs
theorem yV:∀ (l b:List Nat) (x:Nat),x∈uniq l b->x∈l\/x∈b
 |[],b,x,h=>.inr h
 |a::l,b,x,h=>by
  unfold uniq at h;split at h
  .rcases yV l b x h with h|h
   .exact .inl (al _ h)
   .exact .inr h
  .rcases yV l _ x h with h|h
   .exact .inl (al _ h)
   .rcases cj.1 h with h|h
    .exact .inr h
    .simp at h;subst h;exact .inl (ar ..)
theorem oP(M:Mm):∀ (d:Nat) (l:List Nat),l.Nodup->(bE M d l).Nodup
 |0,_,h=>h
 |d+1,l,h=>oP M d _ (cL _ _ h)
theorem JW(M:Mm)(vs:List a7):(Q2 M vs).Nodup:=oP M 6 _ (cL _ _ jz)
theorem X0{K:b8}{H:Nat->Option Hd}{d:Nat}(e:∀ (a:a7) (v:Value),b9 K H a v->∀r∈refs d a,∃hd,H r=some hd):∀ (b:List a7) (vs:List Value),c6 K H b vs->∀r∈(b.map (refs d)).flatten,∃hd,H r=some hd
 |[],_,_,r,c=>by simp at c
 |a::b,vs,h,r,c=>by
  obtain⟨x,xs,rfl,f,g⟩:=h.inv;rw[az,gb,cj]at c;rcases c with c|c
  .exact e a x f r c
  .exact X0 e b xs g r c
theorem tQ{K:b8}{H:Nat->Option Hd}:∀ (d:Nat) (a:a7) (v:Value),b9 K H a v->∀r∈refs d a,∃hd,H r=some hd
 |0,_,_,_,r,c=>by simp[refs]at c
 |d+1,a,v,h,r,c=>by
  have e:=tQ (K:=K) (H:=H) d;cases a
  case O1 r0 f=>simp only[refs,cb]at c;subst c;simp only[b9]at h;obtain⟨hd,g,_⟩:=h;exact⟨hd,g⟩
  case sub r0 lo len f=>simp only[refs,cb]at c;subst c;simp only[b9]at h;obtain⟨hd,_,_,g,_⟩:=h;exact⟨hd,g⟩
  case ptr r0 o=>simp only[refs,cb]at c;subst c;simp only[b9]at h;obtain⟨hd,_,g,_⟩:=h;exact⟨hd,g⟩
  case P5 r0 i o=>simp only[refs,cb]at c;subst c;simp only[b9]at h;obtain⟨hd,_,g,_⟩:=h;exact⟨hd,g⟩
  case P6 r0=>simp only[refs,cb]at c;subst c;simp only[b9]at h;obtain⟨hd,_,g,_⟩:=h;exact⟨hd,g⟩
  case B9 r0=>simp only[refs,cb]at c;subst c;simp only[b9]at h;obtain⟨hd,_,g,_⟩:=h;exact⟨hd,g⟩
  case G7 cs=>simp only[refs]at c;simp only[b9]at h;obtain⟨_,_,_,_,_,g⟩:=h;exact X0 e _ _ g r c
  case agg cs=>simp only[refs]at c;simp only[b9]at h;obtain⟨_,_,g⟩:=h;exact X0 e _ _ g r c
  case M1 cs=>simp only[refs]at c;simp only[b9]at h;obtain⟨_,_,g⟩:=h;exact X0 e _ _ g r c
  case fn f a b=>
   simp only[refs,cj]at c;simp only[b9]at h;obtain⟨_,_,_,j,g2⟩:=h;rcases c with c|c
   .exact X0 e _ _ j r c
   .exact X0 e _ _ g2 r c
  all_goals simp[refs]at c
section
variable {P:Program} {F:Nat->Prop} {K:b8} {H:Nat->Option Hd} {w:World} {m:Mm} {nx:Nat} {k:XQ->Prop} {ev:Operand->a7} {ρ:Operand->Value} {Γ:Env}
theorem Hy{c:c7}{hd:Hd}(h:n9 K H w hd c):∀r∈cS c,∃S9,H r=some S9:=by
 intro r e;cases c with
 |box cells=>
  obtain⟨_,_,_,_,_,_,g⟩:=h;exact X0 (tQ 8) _ _ g r e
 |bx p t n l q=>
  obtain⟨_,_,_,_,_,_,_,_,_,_,_,_,f,_,g2⟩:=h;exact X0 (tQ 8) _ _ (c6.append f g2) r e
 |sl t l=>simp[cS]at e
 |mp mk l clk=>simp[cS]at e
 |it a b c d=>
  cases a with
  |none=>simp[cS]at e
  |some r0=>
   simp only[cS,cb]at e;subst e;obtain⟨_,_,_,_,_,_,_,g⟩:=h;obtain⟨i,f,_⟩:=g r rfl;exact⟨i,f⟩
 |z5 o=>simp[cS]at e
 |any=>simp[cS]at e
theorem Mg(f:l5 F K H w m):∀ (d:Nat) (l:List Nat),(∀r∈l,∃hd,H r=some hd)->∀r∈bE m d l,∃hd,H r=some hd:=by
 intro d
 induction d with
 |zero=>intro l h;exact h
 |succ d g=>
  intro l h;unfold bE;refine g _ (fun r b=>?_)
  rcases yV _ _ r b with b|b
  .obtain⟨L,i,a⟩:=qp.1 b;obtain⟨r0,e,rfl⟩:=cd.1 i;unfold nO at a;split at a
   .rename_i c j;obtain⟨hd,hh⟩:=h r0 e;exact Hy (f.cont r0 c .own hd j (by simp) hh) r a
   .simp at a
  .exact h r b
theorem Mh(b:l5 F K H w m){vs:List a7}{xs:List Value}(h:c6 K H vs xs):∀r∈Q2 m vs,∃hd,H r=some hd:=by
 refine Mg b 6 _ (fun r a=>?_)
 rcases yV _ _ r a with a|a
 .exact X0 (tQ 8) _ _ h r a
 .simp at a
theorem bV{L:List Nat}:∀ (a:List Nat) (cs:List c7),M8 m L a=some cs->cs.length=a.length/\∀q,q<a.length->∃c,m (a.getD q 0)=some (c,.own)/\cs[q]? =some (c.eF L)
 |[],cs,h=>by
  simp only[M8,ae]at h;subst h;exact⟨rfl,fun q b=>by simp at b⟩
 |r::a,cs,h=>by
  simp only[M8]at h;split at h
  .rename_i c f;split at h
   .rename_i d e;simp only[ae]at h;subst h;obtain⟨g,i⟩:=bV a d e;refine⟨by simp[g],fun q b=>?_⟩
    cases q with
    |zero=>exact⟨c,by simpa using f,rfl⟩
    |succ q=>
     obtain⟨j,l,g2⟩:=i q (by simpa using b)
     exact⟨j,by simpa using l,by simpa using g2⟩
   .cases h
  .cases h
theorem rF{a:List Nat}{q:Nat}(h:q<a.length):a.getD q 0=a[q]:=by simp[List.getD,h]
theorem rG{hs:List Nat}{q:Nat}(h:q<hs.length):hs.getD q 0∈hs:=by
 rw[rF h];exact cf h
theorem getD_inj{a:List Nat}(hd:a.Nodup){q q':Nat}(h:q<a.length)(b:q'<a.length)(e:a.getD q 0=a.getD q' 0):q=q':=by
 rw[rF h,rF b]at e;exact(mj h hd).1 (by rw[ag h,ag b,e])
theorem yW{L:List Nat}{q:Nat}(h:q<L.length):bI L H q=H (L.getD q 0):=by
 unfold bI;rw[ag h];simp[List.getD,h]
theorem Mi{L:List Nat}{q:Nat}(h:L.length<=q):bI L H q=none:=by
 unfold bI;rw[an h];rfl
theorem rH{hs:List Nat}{cs:List c7}(c:M8 m hs hs=some cs){r:Nat}{c':c7}{f:p0}(b:G4 (fun _=>none) 0 cs r=some (c',f)):
  r<hs.length/\f=.own/\bI hs H r=H (hs.getD r 0)/\∃g,m (hs.getD r 0)=some (g,.own)/\c'=g.eF hs:=by
 obtain⟨h,d⟩:=bV _ _ c;rw[s9]at b;split at b
 .rename_i j;simp only[ae,aq]at b;have a:r<hs.length:=by omega
  obtain⟨i,l,a1⟩:=d r a;have e:cs[r- 0]'(by omega)=i.eF hs:=by
   rw[ag (by omega)]at a1
   simpa using a1
  rw[e]at b;obtain⟨rfl,rfl⟩:=b;exact⟨a,rfl,yW a,i,l,rfl⟩
 .cases b
theorem Pg(j:l5 F K H w m){h:List Nat}{cs:List c7}(e:h.Nodup)(a:M8 m h h=some cs):l5 F K (bI h H) w (G4 (fun _=>none) 0 cs):=by
 refine⟨?_,?_,?_,?_⟩
 .intro r c' z hd c d q3;obtain⟨a1,i,f,l,g,rfl⟩:=rH (H:=H) a c;rw[f]at q3;exact rD (j.cont _ l .own hd g (by simp) q3)
 .intro r c' hd b c d q3;obtain⟨a1,i,f,l,g,rfl⟩:=rH (H:=H) a c;rw[f]at d;obtain⟨y1,o,p,q⟩:=j.own _ l hd b g d q3;exact⟨y1,o,p,fun s=>q (rE _ _ s)⟩
 .intro r c' hd b c d q3;obtain⟨_,i,_⟩:=rH (H:=H) a c;cases i
 .intro r A B C hd n b c d q3 q4 q5 q6;obtain⟨a1,i,f,t,g,rfl⟩:=rH (H:=H) a c;obtain⟨u,D,v,x,y,rfl⟩:=rH (H:=H) a d;rw[f]at q3;rw[v]at q4;exact getD_inj e a1 u (j.inj _ _ t x hd n b g y q3 q4 q5 q6)
theorem kT:∀ (l b:List Nat),∃t,uniq l b=b++t
 |[],b=>⟨[],by simp[uniq]⟩
 |a::l,b=>by
  unfold uniq;split
  .exact kT l b
  .obtain⟨t,h⟩:=kT l (b++ [a]);exact⟨a::t,by rw[h];simp⟩
theorem vA(M:Mm):∀ (d:Nat) (l:List Nat),∃t,bE M d l=l++t
 |0,l=>⟨[],by simp[bE]⟩
 |d+1,l=>by
  unfold bE;obtain⟨t,h⟩:=kT (l.map (nO M)).flatten l;obtain⟨a,b⟩:=vA M d (uniq (l.map (nO M)).flatten l);exact⟨t++a,by rw[b,h,bk]⟩
theorem Mj(M:Mm)(vs:List a7){a:List Nat}(h:a.Nodup):∃L,graphR M vs a=L/\L.Nodup/\∃t,L=a++t:=by
 obtain⟨g,b⟩:=kT ((vs.map (refs 8)).flatten) a;have e:graphR M vs a=bE M 6 (uniq ((vs.map (refs 8)).flatten) a):=by unfold graphR;rfl
 have d:(uniq ((vs.map (refs 8)).flatten) a).Nodup:=cL _ _ h;rw[e];generalize uniq ((vs.map (refs 8)).flatten) a=u at b d;obtain⟨i,c⟩:=vA M 6 u;have f:=oP M 6 u d;generalize bE M 6 u=L at c f;exact⟨L,rfl,f,g++i,by rw[c,b,bk]⟩
end
end Go.Abs
end
section
namespace Go.Abs
section
variable {P:Program} {F:Nat->Prop} {K:b8} {H:Nat->Option Hd} {w:World} {m:Mm} {nx:Nat} {k:XQ->Prop} {ev:Operand->a7} {ρ:Operand->Value} {Γ:Env}
theorem Bk{a:List Nat}{b:List c7}{t:Nat->Option Hd}(n:a.Nodup)(A:a.length<=b.length)(l:∀r,r<a.length->t r=H (a.getD r 0))(u:Mm)(r:Nat)(c:c7)(f:p0)(hd:Hd)
  (d:G4 (iN u (iO (uH a (cR (K7 a nx) b)))) nx (cR (K7 a nx) (b.drop a.length)) r=some (c,f))
  (o:(if nx<=r/\r<nx+(b.length- a.length)then t (r- nx+a.length)else H r)=some hd):
  (∃i z,G4 (fun _=>none) 0 b i=some (z,.own)/\r=K7 a nx i/\c=z.V4 (K7 a nx)/\f=.own/\t i=some hd)\/(kill a u r=some (c,f)/\H r=some hd):=by
 rw[s9]at d;have j:(cR (K7 a nx) (b.drop a.length)).length=b.length- a.length:=by rw[W9,cv]
 by_cases p:nx<=r/\r<nx+(b.length- a.length)
 .rw[ic (by rw[j];exact p)]at d
  rw[aj p]at o;simp only[ae,aq]at d;left;refine⟨r- nx+a.length,b[r- nx+a.length]'(by omega),?_,?_,?_,d.2.symm,o⟩
  .rw[s9,ic (by omega)];simp
  .unfold K7;rw[ai (by omega)]
   omega
  .rw[<-d.1,tL _ _ _ (by rw[cv];omega)]
   congr 1;rw[mh];congr 1;omega
 .rw[ll (by rw[j];exact p)]at d
  rw[ai p]at o;by_cases v:r∈a
  .left;obtain⟨q,s,e⟩:=iw v;have y:a.getD q 0=r:=by rw[rF s];exact e
   have g:q<b.length:=by omega
   have:=Me a (cR (K7 a nx) b) u n q ((b[q]'g).V4 (K7 a nx)) s (by rw[ag (by rw[W9];exact g),tL _ _ _ g])
   rw[y]at this;rw[this]at d;simp only[ae,aq]at d;refine⟨q,b[q]'g,?_,?_,d.1.symm,d.2.symm,?_⟩
   .rw[s9,ic (by omega)];simp
   .unfold K7;rw[aj s,y]
   .rw[l q s,y];exact o
  .right;rw[oO _ _ _ (fun h=>v (Fm _ _ _ h))]at d
   refine⟨?_,o⟩;unfold kill;rw[ai v];exact d
variable (l8:L4 F K w) (hm:l5 F K H w m) (n6:∀x,b9 K H (ev x) (ρ x)) (G2:∀q,k q->∀i,i<q.new.length->H (nx+i)=none)
include l8 hm n6 G2 in
theorem Ph(hG:Good P Γ)(o:Oper){c:Call}{g:Operand}{f:FuncId}{first cap:List a7}(ho:o.op=.call c)(hc:c.callee=.value g)(hg:ev g=.fn (.func f) first cap)
  (h:Eb Γ nx m f (first++I7 P c.argTypes.toList (c.args.toList.map ev)++cap) k):bJ P F K H w m nx k ((execOp ρ o).run P w):=by
 unfold Eb at h;split at h
 rotate_left
 .exact h.elim
 rename_i ct hct;split at h
 rotate_left
 .exact h.elim
 rename_i vs a cs I hha;split at h
 rotate_left
 .exact h.elim
 rename_i Cs;simp only[ah]at Cs;have N:=kS Cs.1;have hgv:=n6 g;rw[hg]at hgv;simp only[b9]at hgv;obtain⟨fi,ca,e1,h1,h2⟩:=hgv;have O:c6 K H (first++I7 P c.argTypes.toList (c.args.toList.map ev)++cap) (fi++c.args.map ρ++ca).toList:=by
  have:=c6.append (c6.append h1 (cK P c.argTypes.toList _ _ (fQ n6 c.args.toList))) h2;simpa using this
 have gI:(execOp ρ o).run P w=.ok (.enter f (fi++c.args.map ρ++ca)) w:=by
  simp only[execOp,ho,resolve,hc,e1,Deferred.ofValue,au,bg,ak,invoke];exact hG.call f ct hct _ _
 rw[gI];refine⟨rfl,?_⟩;obtain⟨hlen,WD,WE⟩:=lI _ _ 0 0 vs a cs I hha O
 let Kp:=K.plus w (Q5 H I)
 have hB:∀r f hd b cs e fz,(r,f)∈I->H r=some hd->hd.base=some b->w.heap[b]? =some (.cells cs e fz)->Kp.cells b=some cs:=
  fun r f hd b cs e fz h1 h2 h3 h4=>fM (cW h1 h2 h3) l8.w8 h4
 let H0:Nat->Option Hd:=fun i=>if i<a.length then H (a.getD i 0)else none
 have Rq:=oL hm (K.M4 w (Q5 H I)) _ _ 0 0 vs a cs I hha hB O H0 (fun q hq=>by show(if 0+q<a.length then H (a.getD (0+q) 0)else none)=_;rw[bz,aj hq])
 obtain⟨a6H,Q7⟩:=l8.frozen hm I WE;obtain⟨hmF,_⟩:=hm.freeze l8.w8 I WE
 let Hb:Nat->Prop:=fun b=>∃q hd,q<a.length/\H (a.getD q 0)=some hd/\hd.base=some b
 let Fc:Nat->Prop:=fun b=>b<w.heap.size/\K.inv b=none/\¬Hb b
 have R:∀b,F b->Fc b:=fun b n=>⟨l8.lt b n,by
  cases hi:K.inv b with
  |none=>rfl
  |some p=>exact absurd n (l8.inv b p hi),fun⟨q,hd,hq,M,g2⟩=>by
  obtain⟨c',_,b2,_,_⟩:=WD q hq
  exact(hm.own _ c' hd b b2 M g2).1 n⟩
 have OT:L4 Fc Kp w:=by
  refine⟨a6H.w8,fun b n=>n.1,fun b p hp n=>?_,a6H.apart⟩
  have h1:K.inv b=some p:=hp;rw[n.2.1]at h1;cases h1
 have S:∀r c' t,G4 (fun _=>none) 0 cs r=some (c',t)->r<a.length/\m (a.getD r 0)=some (c',.own)/\c'.plain=true/\t=.own/\H0 r=H (a.getD r 0):=by
  intro r c' t u;rw[s9]at u;split at u
  .rename_i z;simp only[ae,aq]at u;have E:r<a.length:=by omega
   obtain⟨c2,a1,a2,a3,_⟩:=WD r E;have e:cs[r- 0]'(by omega)=c2:=by
    rw[ag (by omega)]at a1
    simpa using a1
   rw[e]at u;obtain⟨rfl,rfl⟩:=u;exact⟨E,a2,a3,rfl,by show(if r<a.length then _ else _)=_;rw[aj E]⟩
  .cases u
 have a98:∀q hd b c',q<a.length->m (a.getD q 0)=some (c',.own)->H (a.getD q 0)=some hd->hd.base=some b->Q5 H I b=false:=by
  intro q hd b c' hq M g2 g3;cases n:Q5 H I b with
  |false=>rfl
  |true=>
   exfalso;obtain⟨r2,f2,kB,d,j,q3⟩:=nX n;obtain⟨q4,c2,q5,_⟩:=WE r2 f2 d;cases f2 with
   |dead=>exact q4 rfl
   |own=>
    have e:=hm.inj r2 _ c2 c' kB hd b q5 M j g2 q3 g3;exact Pf Cs.2 (rG hq) (e▸Mf d)
   |X9=>
    obtain⟨ZF,q6⟩:=hm.X9 r2 c2 kB b q5 j q3;rw[(hm.own _ c' hd b M g2 g3).2.1]at q6;cases q6
 have JQ:l5 Fc Kp H0 w (G4 (fun _=>none) 0 cs):=by
  refine⟨?_,?_,?_,?_⟩
  .intro r c' t hd d j q3;obtain⟨a1,a2,a3,a4,a5⟩:=S r c' t d;rw[a5]at q3;exact lH a3 (K.M4 w _) (hm.cont _ c' .own hd a2 (by simp) q3)
  .intro r c' hd b d j q3;obtain⟨a1,a2,a3,a4,a5⟩:=S r c' _ d;rw[a5]at j;obtain⟨M,g2,g3,g4⟩:=hm.own _ c' hd b a2 j q3;exact⟨fun n=>n.2.2 ⟨r,hd,a1,j,q3⟩,by rw[lZ (a98 r hd b c' a1 a2 j q3)];exact g2,g3,g4⟩
  .intro r c' hd b d j q3;obtain⟨_,_,_,a4,_⟩:=S r c' _ d;cases a4
  .intro r l c1 c2 hd S9 b d j q3 q4 q5 q6;obtain⟨a1,a2,a3,a4,a5⟩:=S r c1 _ d;obtain⟨b1,b2,b3,b4,b5⟩:=S l c2 _ j;rw[a5]at q3;rw[b5]at q4;exact getD_inj N a1 b1 (hm.inj _ _ c1 c2 hd S9 b a2 b2 q3 q4 q5 q6)
 have T:=hG.spec f ct hct vs cs _ h Fc Kp H0 w (fi++c.args.map ρ++ca).toList OT Rq JQ (fun r u=>by show(if r<a.length then _ else _)=_;rw[ai (by omega)]) (fun r u=>by
  obtain⟨_,_,_,_,hd,g⟩:=WD r (by omega)
  exact⟨hd,by show(if r<a.length then _ else _)=_;rw[aj (by omega)];exact g⟩)
 rw[show(fi++c.args.map ρ++ca).toList.toArray=fi++c.args.map ρ++ca from rfl]at T;refine sq T ?_;rintro e w' ⟨v,r,A,K',HR,rfl,hk,L,oB,B,hz,C,s,U,Lf,V⟩;rw[hlen]at Lf V;have y:∀r,r<a.length->HR r=H (a.getD r 0):=fun r u=>by
  rw[V r u];show(if r<a.length then _ else _)=_;rw[aj u]
 have Rx:(cR (K7 a nx) (A.drop a.length)).length=A.length- a.length:=by rw[W9,cv]
 have hf:∀i,i<A.length- a.length->H (nx+i)=none:=fun i hi=>G2 _ hk i (by rw[Rx];exact hi)
 let H':Nat->Option Hd:=fun r=>if nx<=r/\r<nx+(A.length- a.length)then HR (r- nx+a.length)else H r
 have D:aY H H':=by
  intro r hd u;show(if nx<=r/\r<nx+(A.length- a.length)then _ else H r)=_
  by_cases z:nx<=r/\r<nx+(A.length- a.length)
  .have:=hf (r- nx) (by omega)
   rw[show nx+(r- nx)=r by omega]at this
   rw[this]at u;cases u
  .rw[ai z];exact u
 have hHR:∀r hd,HR r=some hd->H' (K7 a nx r)=some hd:=by
  intro r hd u;by_cases E:r<a.length
  .have e:K7 a nx r=a.getD r 0:=by unfold K7;rw[aj E]
   rw[e];refine D _ _ ?_;rw[<-y r E];exact u
  .have a99:r<A.length:=by
    rcases bh r A.length with h'|h'
    .exact h'
    .rw[hz r h']at u;cases u
   have e:K7 a nx r=nx+(r- a.length):=by unfold K7;rw[ai E]
   rw[e];show(if nx<=nx+(r- a.length)/\nx+(r- a.length)<nx+(A.length- a.length)then HR (nx+(r- a.length) - nx+a.length)else _)=_
   rw[aj (by omega),show nx+(r- a.length) - nx+a.length=r by omega]
   exact u
 have K8:∀l,H l=none->H' l≠none->nx<=l/\l<nx+(cR (K7 a nx) (A.drop a.length)).length:=by
  intro l d j;by_cases z:nx<=l/\l<nx+(A.length- a.length)
  .rw[Rx];exact z
  .exact absurd (by show(if nx<=l/\l<nx+(A.length- a.length)then _ else H l)=none;rw[ai z];exact d) j
 have X:∀r c f hd b,m r=some (c,f)->f≠ .dead->r ∉ a->H r=some hd->hd.base=some b->Fc b:=by
  intro r c f hd b d j q3 q4 q5;refine⟨W1 hm d j q4 q5,?_,?_⟩
  .cases f with
   |dead=>exact absurd rfl j
   |own=>exact(hm.own r c hd b d q4 q5).2.2.1
   |X9=>
    obtain⟨cs,g⟩:=hm.X9 r c hd b d q4 q5;cases hi:K.inv b with
    |none=>rfl
    |some p=>have:=l8.apart b p hi;rw[g]at this;cases this
  .rintro⟨q,S9,hq,M,g2⟩;obtain⟨c',_,b2,_,_⟩:=WD q hq;cases f with
   |dead=>exact absurd rfl j
   |own=>
    have e:=hm.inj r _ c c' hd S9 b d b2 q4 M q5 g2;exact q3 (e▸rG hq)
   |X9=>
    obtain⟨ZF,q6⟩:=hm.X9 r c hd b d q4 q5;rw[(hm.own _ c' S9 b b2 M g2).2.1]at q6;cases q6
 have Y:∀r c hd b,G4 (fun _=>none) 0 A r=some (c,.own)->HR r=some hd->hd.base=some b->¬Fc b:=fun r c hd b d j q3=>(B.own r c hd b d j q3).1
 have J:Kept F w w':=s.mono R;by_cases Z:(r.flat && V7 A)=true
 .rw[aj Z]at hk;simp only[ah]at Z;have WG:l5 F K HR w' (G4 (fun _=>none) 0 A):=by
   refine⟨?_,?_,?_,?_⟩
   .intro l c' t hd d j q3;refine Ia ?_ (B.cont l c' t hd d j q3);rw[s9]at d;split at d
    .rename_i z;simp only[ae,aq]at d;rw[<-d.1];exact mG A _ _ Z.2
    .cases d
   .intro l c' hd b d j q3;obtain⟨M,g2,g3,g4⟩:=B.own l c' hd b d j q3;refine⟨fun n=>M (R b n),?_,?_,g4⟩
    .cases z:K.cells b with
     |none=>rfl
     |some cs=>
      have:=L.cells b cs ((K.M4 w _).cells b cs z);rw[g2]at this;cases this
    .cases hi:K.inv b with
     |none=>rfl
     |some p=>have:=L.inv b p hi;rw[g3]at this;cases this
   .intro l c' hd b d j q3;rw[s9]at d;split at d
    .cases d
    .cases d
   .exact B.inj
  have EI:L4 F K w':=by
   refine⟨⟨fun b cs n=>C.w8.1 b cs (L.cells b cs ((K.M4 w _).cells b cs n)),fun b p n=>C.w8.2 b p (L.inv b p n)⟩,fun b n=>cc (l8.lt b n) s.size,l8.inv,l8.apart⟩
  have Rr:l5 F K H w' (kill a m):=(hm.sub (m2:=kill a m) (fun r x h=>(U3 h).2)).world (fun l c' t hd b d j q3 q4=>s.block b (X l c' t hd b (U3 d).2 j (U3 d).1 q3 q4))
  refine⟨v,_,K,H',rfl,hk,.refl K,D,K8,mF hHR r v (EM r v Z.1 oB),?_,EI,J,.refl F K⟩;exact Rr.WC Fc WG (fun l c' t hd b d j q3 q4=>X l c' t hd b (U3 d).2 j (U3 d).1 q3 q4) Y hHR D (fun l c' t hd d j=>Bk N Lf y m l c' t hd d j)
 .rw[ai Z]at hk;have G:∀l c' t hd b,kill a (y8 m (J6 I)) l=some (c',t)->t≠ .dead->H l=some hd->hd.base=some b->Fc b:=by
   intro l c' t hd b d j q3 q4;obtain⟨k1,k2⟩:=U3 d;rw[gX]at k2;cases yX:m l with
   |none=>rw[yX]at k2;cases k2
   |some x=>
    obtain⟨c2,g2⟩:=x;rw[yX]at k2;simp only[ae,aq]at k2;refine X l c2 g2 hd b yX ?_ k1 q3 q4;intro e;subst e;by_cases Tu:(l,p0.own)∈I
    .obtain⟨_,c3,Wp,_⟩:=WE l _ Tu;rw[yX]at Wp;cases Wp
    .rw[ai Tu]at k2;exact j k2.2.symm
  have Rr:l5 F Kp H w' (kill a (y8 m (J6 I))):=(hmF.sub (m2:=kill a (y8 m (J6 I))) (fun r x h=>(U3 h).2)).world (fun l c' t hd b d j q3 q4=>s.block b (G l c' t hd b d j q3 q4))
  have ZH:l5 F K' H w' (kill a (y8 m (J6 I))):=Rr.SO L (fun l c' hd b d j q3=>by
   have n:=G l c' _ hd b d (by simp) j q3
   obtain⟨_,g2,g3,_⟩:=Rr.own l c' hd b d j q3;have:=U b n;rw[g2,g3]at this
   exact this)
  have WG:l5 F K' HR w' (G4 (fun _=>none) 0 A):=by
   refine⟨B.cont,?_,B.X9,B.inj⟩;intro l c' hd b d j q3;obtain⟨M,g2,g3,g4⟩:=B.own l c' hd b d j q3;exact⟨fun n=>M (R b n),g2,g3,g4⟩
  have EI:L4 F K' w':=by
   refine⟨C.w8,fun b n=>cc (l8.lt b n) s.size,fun b p n hF=>C.inv b p n (R b hF),C.apart⟩
  have EP:Fix F K K':=fun b n=>by
   have h1:=Q7 b n;have h2:=U b (R b n);exact⟨h2.1.trans h1.1,h2.2.trans h1.2⟩
  refine⟨v,_,K',H',rfl,hk,(K.M4 w _).trans L,D,K8,mF hHR r v oB,?_,EI,J,EP⟩;exact ZH.WC Fc WG G Y hHR D (fun l c' t hd d j=>Bk N Lf y _ l c' t hd d j)
include l8 hm n6 G2 in
theorem Ct(hG:Good P Γ)(o:Oper){c:Call}{g:Operand}{f:FuncId}{first cap:List a7}(ho:o.op=.call c)(hc:c.callee=.value g)(hg:ev g=.fn (.func f) first cap)
  (h:sT Γ nx m f (first++I7 P c.argTypes.toList (c.args.toList.map ev)++cap) k):bJ P F K H w m nx k ((execOp ρ o).run P w):=by
 unfold sT at h;split at h
 rotate_left
 .exact h.elim
 rename_i ct hct;split at h
 rotate_left
 .exact h.elim
 rename_i cs hha;have Y:=n6 g;rw[hg]at Y;simp only[b9]at Y;obtain⟨fi,ca,e1,h1,h2⟩:=Y;have D:c6 K H (first++I7 P c.argTypes.toList (c.args.toList.map ev)++cap) (fi++c.args.map ρ++ca).toList:=by
  have:=c6.append (c6.append h1 (cK P c.argTypes.toList _ _ (fQ n6 c.args.toList))) h2;simpa using this
 have gI:(execOp ρ o).run P w=.ok (.enter f (fi++c.args.map ρ++ca)) w:=by
  simp only[execOp,ho,resolve,hc,e1,Deferred.ofValue,au,bg,ak,invoke];exact hG.call f ct hct _ _
 rw[gI];refine⟨rfl,?_⟩;have z:=Mh hm D;have E:=JW m (first++I7 P c.argTypes.toList (c.args.toList.map ev)++cap)
 generalize Q2 m (first++I7 P c.argTypes.toList (c.args.toList.map ev)++cap)=hs at h hha z E
 obtain⟨hlen,b0a⟩:=bV _ _ hha;have S:∀q,q<hs.length->∃c,m (hs.getD q 0)=some (c,.own)/\cs[q]? =some (c.eF hs)/\∃hd,H (hs.getD q 0)=some hd:=fun q Z=>by
  obtain⟨c,a,b⟩:=b0a q Z;exact⟨c,a,b,z _ (rG Z)⟩
 let H0:Nat->Option Hd:=bI hs H
 have Rq:c6 K H0 (L5 hs (first++I7 P c.argTypes.toList (c.args.toList.map ev)++cap)) (fi++c.args.map ρ++ca).toList:=Q8 _ _ D
 let Hb:Nat->Prop:=fun b=>∃q hd,q<hs.length/\H (hs.getD q 0)=some hd/\hd.base=some b
 let X:Nat->Prop:=fun b=>b<w.heap.size/\K.inv b=none/\¬Hb b
 have T:∀b,F b->X b:=fun b s=>⟨l8.lt b s,by
  cases hi:K.inv b with
  |none=>rfl
  |some p=>exact absurd s (l8.inv b p hi),fun⟨q,hd,Z,g1,g2⟩=>by
  obtain⟨c',b2,_,_⟩:=S q Z
  exact(hm.own _ c' hd b b2 g1 g2).1 s⟩
 have OT:L4 X K w:=by
  refine⟨l8.w8,fun b s=>s.1,fun b p hp s=>?_,l8.apart⟩
  have h1:K.inv b=some p:=hp;rw[s.2.1]at h1;cases h1
 have G:∀r c' A,G4 (fun _=>none) 0 cs r=some (c',A)->r<hs.length/\A=.own/\H0 r=H (hs.getD r 0)/\∃c0,m (hs.getD r 0)=some (c0,.own)/\c'=c0.eF hs:=by
  intro r c' A n;rw[s9]at n;split at n
  .rename_i I;simp only[ae,aq]at n;have t:r<hs.length:=by omega
   obtain⟨c2,a2,a1,_⟩:=S r t;have e:cs[r- 0]'(by omega)=c2.eF hs:=by
    rw[ag (by omega)]at a1
    simpa using a1
   rw[e]at n;obtain⟨rfl,rfl⟩:=n;exact⟨t,rfl,yW t,c2,a2,rfl⟩
  .cases n
 have JQ:l5 X K H0 w (G4 (fun _=>none) 0 cs):=by
  refine⟨?_,?_,?_,?_⟩
  .intro r c' A hd d j q3;obtain⟨a1,a4,a5,c0,a2,rfl⟩:=G r c' A d;rw[a5]at q3;exact rD (hm.cont _ c0 .own hd a2 (by simp) q3)
  .intro r c' hd b d j q3;obtain⟨a1,a4,a5,c0,a2,rfl⟩:=G r c' _ d;rw[a5]at j;obtain⟨g1,g2,g3,g4⟩:=hm.own _ c0 hd b a2 j q3;exact⟨fun s=>s.2.2 ⟨r,hd,a1,j,q3⟩,g2,g3,fun hc=>g4 (rE _ _ hc)⟩
  .intro r c' hd b d j q3;obtain⟨_,a4,_⟩:=G r c' _ d;cases a4
  .intro r l c1 c2 hd U b d j q3 q4 q5 q6;obtain⟨a1,a4,a5,d1,a2,rfl⟩:=G r c1 _ d;obtain⟨b1,b4,b5,d2,b2,rfl⟩:=G l c2 _ j;rw[a5]at q3;rw[b5]at q4;exact getD_inj E a1 b1 (hm.inj _ _ d1 d2 hd U b a2 b2 q3 q4 q5 q6)
 have J:=hG.spec f ct hct _ cs _ h X K H0 w (fi++c.args.map ρ++ca).toList OT Rq JQ (fun r n=>Mi (by omega)) (fun r n=>by
  obtain⟨_,_,_,hd,g⟩:=S r (by omega)
  exact⟨hd,by show bI hs H r=_;rw[yW (by omega)];exact g⟩)
 rw[show(fi++c.args.map ρ++ca).toList.toArray=fi++c.args.map ρ++ca from rfl]at J;refine sq J ?_;rintro e w' ⟨v,r,B,K',HR,rfl,hk,hle,oB,L,hz,M,u,N,Lf,O⟩;rw[hlen]at Lf O;have C:∀r,r<hs.length->HR r=H (hs.getD r 0):=fun r n=>by
  rw[O r n];exact yW n
 have Rx:(cR (K7 hs nx) (B.drop hs.length)).length=B.length- hs.length:=by rw[W9,cv]
 have hf:∀i,i<B.length- hs.length->H (nx+i)=none:=fun i hi=>G2 _ hk i (by rw[Rx];exact hi)
 let H':Nat->Option Hd:=fun r=>if nx<=r/\r<nx+(B.length- hs.length)then HR (r- nx+hs.length)else H r
 have R:aY H H':=by
  intro r hd n;show(if nx<=r/\r<nx+(B.length- hs.length)then _ else H r)=_
  by_cases I:nx<=r/\r<nx+(B.length- hs.length)
  .have:=hf (r- nx) (by omega)
   rw[show nx+(r- nx)=r by omega]at this
   rw[this]at n;cases n
  .rw[ai I];exact n
 have hHR:∀r hd,HR r=some hd->H' (K7 hs nx r)=some hd:=by
  intro r hd n;by_cases t:r<hs.length
  .have e:K7 hs nx r=hs.getD r 0:=by unfold K7;rw[aj t]
   rw[e];refine R _ _ ?_;rw[<-C r t];exact n
  .have a99:r<B.length:=by
    rcases bh r B.length with h'|h'
    .exact h'
    .rw[hz r h']at n;cases n
   have e:K7 hs nx r=nx+(r- hs.length):=by unfold K7;rw[ai t]
   rw[e];show(if nx<=nx+(r- hs.length)/\nx+(r- hs.length)<nx+(B.length- hs.length)then HR (nx+(r- hs.length) - nx+hs.length)else _)=_
   rw[aj (by omega),show nx+(r- hs.length) - nx+hs.length=r by omega]
   exact n
 have K8:∀l,H l=none->H' l≠none->nx<=l/\l<nx+(cR (K7 hs nx) (B.drop hs.length)).length:=by
  intro l d j;by_cases I:nx<=l/\l<nx+(B.length- hs.length)
  .rw[Rx];exact I
  .exact absurd (by show(if nx<=l/\l<nx+(B.length- hs.length)then _ else H l)=none;rw[ai I];exact d) j
 have a3T:∀r c f hd b,m r=some (c,f)->f≠ .dead->r ∉ hs->H r=some hd->hd.base=some b->X b:=by
  intro r c f hd b d j q3 q4 q5;refine⟨W1 hm d j q4 q5,?_,?_⟩
  .cases f with
   |dead=>exact absurd rfl j
   |own=>exact(hm.own r c hd b d q4 q5).2.2.1
   |X9=>
    obtain⟨cs,g⟩:=hm.X9 r c hd b d q4 q5;cases hi:K.inv b with
    |none=>rfl
    |some p=>have:=l8.apart b p hi;rw[g]at this;cases this
  .rintro⟨q,U,Z,g1,g2⟩;obtain⟨c',b2,_,_⟩:=S q Z;cases f with
   |dead=>exact absurd rfl j
   |own=>
    have e:=hm.inj r _ c c' hd U b d b2 q4 g1 q5 g2;exact q3 (e▸rG Z)
   |X9=>
    obtain⟨ZF,q6⟩:=hm.X9 r c hd b d q4 q5;rw[(hm.own _ c' U b b2 g1 g2).2.1]at q6;cases q6
 have a6I:∀r c hd b,G4 (fun _=>none) 0 B r=some (c,.own)->HR r=some hd->hd.base=some b->¬X b:=fun r c hd b d j q3=>(L.own r c hd b d j q3).1
 have V:Kept F w w':=u.mono T;have y:∀l c' A hd b,kill hs m l=some (c',A)->A≠ .dead->H l=some hd->hd.base=some b->X b:=by
  intro l c' A hd b d j q3 q4;obtain⟨k1,k2⟩:=U3 d;exact a3T l c' A hd b k2 j k1 q3 q4
 have Rr:l5 F K H w' (kill hs m):=(hm.sub (m2:=kill hs m) (fun r x h=>(U3 h).2)).world (fun l c' A hd b d j q3 q4=>u.block b (y l c' A hd b d j q3 q4))
 have ZH:l5 F K' H w' (kill hs m):=Rr.SO hle (fun l c' hd b d j q3=>by
  have s:=y l c' _ hd b d (by simp) j q3
  obtain⟨_,g2,g3,_⟩:=Rr.own l c' hd b d j q3;have:=N b s;rw[g2,g3]at this
  exact this)
 have WG:l5 F K' HR w' (G4 (fun _=>none) 0 B):=by
  refine⟨L.cont,?_,L.X9,L.inj⟩;intro l c' hd b d j q3;obtain⟨g1,g2,g3,g4⟩:=L.own l c' hd b d j q3;exact⟨fun s=>g1 (T b s),g2,g3,g4⟩
 have EI:L4 F K' w':=by
  refine⟨M.w8,fun b s=>cc (l8.lt b s) u.size,fun b p s hF=>M.inv b p s (T b hF),M.apart⟩
 have EP:Fix F K K':=fun b s=>N b (T b s)
 refine⟨v,_,K',H',rfl,hk,hle,R,K8,mF hHR r v oB,?_,EI,V,EP⟩;exact ZH.WC X WG y a6I hHR R (fun l c' A hd d j=>Bk E Lf C _ l c' A hd d j)
include l8 hm n6 in
theorem a0u(o:Oper){t e I:TypeId}{x y:Operand}(J:o.op=.binOp .eql t x y I)(L:P.underlying t=some (.slice e))(M:ev y=.Y4){p:Prop}(d:Ed m (ev x)=some p)
  (h:∀b:Bool,(b=true->p)->k ⟨.bool b,[],[],[]⟩):bJ P F K H w m nx k ((execOp ρ o).run P w):=by
 have D:=n6 y;rw[M]at D;simp only[b9]at D;have key:∃a l c,ρ x=.slice a l c/\(a=none->p):=by
  have g:=n6 x;unfold Ed at d;split at d
  .rename_i ty l j u;rw[u]at g;simp only[b9]at g;obtain⟨base,cap,A,B,N,n⟩:=g;cases d;refine⟨_,_,_,A,fun s=>?_⟩
   rcases n with n|⟨b,off,arr,n,_⟩
   .exact n
   .rw[s]at n;cases n
  .rename_i r j u;rw[u]at g;simp only[b9]at g;obtain⟨hd,A,B,_⟩:=g;split at d
   .rename_i ty l f E;split at d
    .cases d
    .rename_i O;cases d;refine⟨_,_,_,B,fun s=>?_⟩
     obtain⟨T,U,V,C⟩:=hm.cont r _ f hd E O A;rcases C with⟨C,X⟩|⟨b,cs,Y,Z,C,_⟩
     .exact bw (by omega)
     .rw[C]at s;cases s
   .cases d
  .rename_i r lo len j u;rw[u]at g;simp only[b9]at g;obtain⟨hd,cap,base,A,B,N,n,h5,h6,v⟩:=g;cases d;refine⟨_,_,_,B,fun s=>?_⟩
   rcases v with v|⟨b,_,v⟩
   .omega
   .rw[s]at v;cases v
  .cases d
 obtain⟨a,l,c,R,G⟩:=key;have z:(execOp ρ o).run P w=.ok (.value (.bool a.isNone)) w:=by
  simp only[execOp,J,R,D];refine c8 ?_;have:=sm (P:=P) w t e a l c L;simp[eqGuard,binOp,this]
 rw[z];refine⟨_,K,H,h a.isNone (fun S=>G (by simpa using S)),mK l8 hm (by simp[b9])⟩
include l8 hm n6 in
theorem a0v(o:Oper){c:Call}(ho:o.op=.call c)(hc:c.callee=.builtin .clear)(h:Oo P m c ev k):bJ P F K H w m nx k ((execOp ρ o).run P w):=by
 unfold Oo at h;split at h
 rotate_left
 .exact h.elim
 rename_i x t z D;have U:=n6 x;split at h
 rotate_left
 .exact h.elim
 rename_i e r lo len full hu he;rw[he]at U;simp only[b9]at U;obtain⟨hd,cap,base,V,e1,g1,g2,g3,_,g4⟩:=U;split at h
 rotate_left
 .exact h.elim
 rename_i ty l f;split at h
 rotate_left
 .exact h.elim
 rename_i hz;obtain⟨X,h⟩:=h;obtain⟨i,v,hi,hv,E⟩:=Z9 hz;obtain⟨c1,c2,c3,Y⟩:=hm.cont r _ .own hd f (by simp) V
 have Z:c.args.map ρ= #[ρ x]:=by apply db.1;simp[z]
 have ha2:c.argTypes= #[t]:=by apply db.1;simp[D]
 rw[D8 o ho hc,Z,ha2,e1];simp only[builtin];have A:v.cells.size=ty.size:=by
  have:=r9.length ty _ _ (G1 (K:=K) ty);rw[<-E]at this;simpa using this
 by_cases G:len=0
 .have a:(Builtin.clear_ #[t] o.type #[.slice base len cap]).run P w=.ok (.tuple #[]) w:=by
   rw[G];cases base<;>simp[Builtin.clear_,u7 hu]
  rw[c8 a];refine⟨_,K,H,h,.refl K,.refl H,fun _ h h'=>absurd h h',?_,?_,l8,.refl F w,.refl F K⟩
  .simp only[b9];exact⟨_,rfl,.nil⟩
  .have:iN m [(r,(c7.sl ty (l.take lo++List.replicate len ty.zero++l.drop (lo+len)),p0.own))]=m:=by
    funext r';simp only[iN,G,sg,jr,bf,fq];by_cases I:r'=r
    .subst I;rw[j8,f]
    .rw[m7 _ _ _ _ I]
   show l5 F K H w (iN m [(r,(c7.sl ty (l.take lo++List.replicate len ty.zero++l.drop (lo+len)),p0.own))]);rw[this];exact hm
 .rcases g4 with g4|⟨b,C,q1'⟩
  .omega
  .obtain⟨_,_,_,hcl⟩:=hm.own r _ hd b f V C;obtain⟨cs,e2,hh⟩:=hcl rfl;rcases Y with⟨Y,c5⟩|⟨b',DV,e',fz,J,q2,q3,q4⟩
   .rw[Y]at C;cases C
   rw[C]at J;cases J;rw[hh]at q2;cases q2;have B:(Builtin.zeroCells v.cells len).toList=(List.replicate len (zeroV ty)).flatten:=by
    have d:=(B2.replicate (G1 (K:=K) ty) len).1;simp only[dt]at d;apply cq;intro j;by_cases L:j<len*ty.size
    .rw[jB (zeroV ty) ty.size (r9.length ty _ _ (G1 (K:=K) ty)) len j L,<-E];have g:j % ty.size<v.cells.size:=by rw[A];exact fk _ ty.size_pos
     simp[Builtin.zeroCells,L,A,py v.cells (j % ty.size) g]
    .rw[an (by simp[Builtin.zeroCells,A];omega),an (by omega)]
   have d:=B2.replicate (G1 (K:=K) ty) len;have p:(Builtin.zeroCells v.cells len).toList.length=len*ty.size:=by
    rw[B];have:=d.1;simpa using this
   have M:(lo+len)*ty.size<=l.length*ty.size:=ay _ X;have b3J:l.length*ty.size<=hd.cap*ty.size:=ay _ (by omega)
   have s:lo*ty.size+len*ty.size<=cs.size:=by rw[bl]at M;omega
   obtain⟨w',hr,N⟩:=Abs.J9 P b (lo*ty.size) _ (Builtin.zeroCells v.cells len).toList w cs 0 hh (by omega) (fun y hy=>by
    rw[B]at hy
    exact Dw (jA d y hy))
   have a:(Builtin.clear_ #[t] o.type #[.slice base len cap]).run P w=.ok (.tuple #[]) w':=by
    rw[q1',c1];obtain⟨n,hn⟩:∃n,len=n+1:=⟨len- 1,by omega⟩
    rw[hn]at hr ⊢;simp[Builtin.clear_,u7 hu,dU hi hv,hr]
   rw[c8 a];have hL:B2 K ty l (s7 cs 0 (l.length*ty.size)):=q4.EG (by omega)
   have K8:n9 K H w' hd (.sl ty (l.take lo++List.replicate len ty.zero++l.drop (lo+len))):=by
    refine⟨c1,by rw[c2];simp;omega,c3,.inr ⟨b,_,_,(0,0),C,by simpa using N.here,by rw[M7];exact q3,?_⟩⟩
    intro i hi';have O:i<l.length:=by simp at hi';omega
    have Av:(i+1)*ty.size<=l.length*ty.size:=ay _ O;rw[bl]at Av;rw[bz];by_cases R:lo<=i/\i<lo+len
    .have hml:lo*ty.size<=i*ty.size:=ay _ R.1;have S:(i+1)*ty.size<=(lo+len)*ty.size:=ay _ R.2;rw[bl,bl]at S;have e0:(l.take lo++List.replicate len ty.zero++l.drop (lo+len))[i]=ty.zero:=by
      rw[jf (by simp;omega),nh (by simp;omega)]
      simp
     rw[e0];have T:=d.elems (rest:=[]) (i- lo) (by simp;omega)
     simp only[List.getElem_replicate,bf,bz]at T;have es:s7 (H8 cs (lo*ty.size) (Builtin.zeroCells v.cells len).toList) (i*ty.size) ty.size=s7 ((List.replicate len (zeroV ty)).flatten).toArray ((i- lo)*ty.size) ty.size:=by
      apply cq;intro j;by_cases L:j<ty.size
      .rw[P8 L,P8 L,iJ _ _ _ _ (by rw[p];exact s),aj (by rw[p];omega),B]
       simp only[ov];congr 1;rw[Nat.sub_mul];omega
      .rw[an (by simp[s7];omega),an (by simp[s7];omega)]
     rw[es];exact T
    .have e0:(l.take lo++List.replicate len ty.zero++l.drop (lo+len))[i]=l[i]:=by
      by_cases g:i<lo
      .rw[jf (by simp;omega),jf (by simp;omega)]
       simp
      .rw[nh (by simp;omega)]
       simp;congr 1;omega
     rw[e0];have u:=q4 i O;rw[bz]at u;rw[dW (by rw[p];exact s)]
     .exact u
     .rw[p];by_cases g:i<lo
      .left;have:(i+1)*ty.size<=lo*ty.size:=ay _ g;rw[bl]at this;omega
      .right;have:(lo+len)*ty.size<=i*ty.size:=ay _ (by omega)
       rw[bl]at this;omega
   have hA:=V9 l8 hm f V C N K8 [r] .S6;refine⟨_,K,H,h,.refl K,.refl H,fun _ h h'=>absurd h h',?_,hA.mem,hA.ok,hA.kept,.refl F K⟩
   simp only[b9];exact⟨_,rfl,.nil⟩
include l8 hm n6 G2 in
theorem Pj(B:Good P Γ)(o:Oper)(h:Vv Γ P o ev nx m k):bJ P F K H w m nx k ((execOp ρ o).run P w):=by
 unfold Vv at h;split at h
 .rename_i t r j;split at h
  .rename_i mk C;exact Ts l8 hm G2 o j h
  .exact h.elim
 .rename_i t x i N j;split at h
  .rename_i r s;split at h
   .rename_i mk l clk f d;split at h
    .rename_i a;split at h
     .rename_i key n;exact WA l8 hm n6 o j s d a.2 a.1 n h
     .exact h.elim
    .exact h.elim
   .exact h.elim
  .exact h.elim
 .rename_i t x j;split at h
  .rename_i r s;split at h
   .rename_i mk l clk f d;split at h
    .rename_i a;exact a0s l8 hm n6 G2 o j s d a.2 a.1 h
    .exact h.elim
   .exact h.elim
  .exact h.elim
 .rename_i i Ln j;split at h
  .rename_i E s;split at h
   .rename_i r A seen z v;split at h
    .rename_i mk l clk f d;split at h
     .exact h.elim
     .rename_i a;simp only[ke,qi]at a;exact a3R l8 hm n6 o j s v d a.1 a.2 h
    .exact h.elim
   .exact h.elim
  .exact h.elim
 .rename_i i j;split at h
  .rename_i E s;split at h
   .rename_i r _ seen z v;split at h
    .rename_i mk l clk f d;split at h
     .exact h.elim
     .rename_i a;simp only[ke,qi]at a;exact a0t l8 hm n6 o j s v d a.1 a.2 h
    .exact h.elim
   .exact h.elim
  .exact h.elim
 .rename_i c j;split at h
  .rename_i a;split at h
   .rename_i x i t u G I;split at h
    .rename_i r s;split at h
     .rename_i mk l clk d;split at h
      .rename_i C;split at h
       .rename_i key n;exact WB l8 hm n6 o j a G I s d C n h
       .exact h.elim
      .exact h.elim
     .exact h.elim
    .exact h.elim
   .exact h.elim
  .rename_i a;exact a0v l8 hm n6 o j a h
  .rename_i g a;split at h
   .rename_i f first cap D
    split at h
    .exact Ct l8 hm n6 G2 B o j a D h
    .exact Ph l8 hm n6 G2 B o j a D h
   .exact h.elim
  .exact h.elim
 .rename_i b t x y O j;split at h
  .rename_i e p J L M;exact a0u l8 hm n6 o j J L M h
  .exact h.elim
 .exact h.elim
end
end Go.Abs
end
section
namespace Go.Abs
section
variable {P:Program} {F:Nat->Prop} {K:b8} {H:Nat->Option Hd} {w:World} {m:Mm} {nx:Nat} {v:BV} {new:List HO} {set:List (Nat×HO)} {rd:List Nat} {ev:Operand->BV} {ρ:Operand->Value}
theorem a3U{k:IntKind}{a:Nat}(b:AT a=G0 k)(h:Nat.beq (AT a) 4=true):k=.i64:=by
 rw[b]at h;exact mE (k':=.i64) (ab h)
theorem Fo{l:Bool}{op:BinOp}(o:op=if l then .shl else .shr){e kb:IntKind}{a b:Nat}{t:TypeId}{ox oy:Operand}(f:AT a=G0 e)
  (h:kK l a b=.ok v new set rd):new=[]/\set=[]/\rd=[]/\∃z,u6 K H v z/\(do eqGuard op t ox oy (.int e ((n8 a:Nat) - (cZ:Int))) (.int kb ((n8 b:Nat) - (cZ:Int)));binOp op t (.int e ((n8 a:Nat) - (cZ:Int))) (.int kb ((n8 b:Nat) - (cZ:Int))):Sem Value).run P w=.ok z w:=by
 have d:∀ (k:IntKind) (n:Int),b9 K H (.int k n) (.int k n):=fun k n=>by simp[b9]
 obtain⟨A,h⟩:=a8 h;obtain⟨p,h⟩:=a8 h;obtain⟨r,h⟩:=a8 h;obtain⟨s,h⟩:=a8 h;have B:=a3U f A;subst B;have p:cZ<=n8 a:=af p;have r:cZ<=n8 b:=af r;have s:n8 b<=cZ+63:=af s;obtain⟨g,rfl,rfl,rfl,_,C⟩:=JP (k:=.i64) (K:=K) (H:=H) h;have D:((n8 a:Nat):Int) - (cZ:Int)=((n8 a- cZ:Nat):Int):=by generalize cZ=z at*;omega
 have E:((n8 b:Nat):Int) - (cZ:Int)=((n8 b- cZ:Nat):Int):=by generalize cZ=z at*;omega
 have G:n8 b- cZ<=63:=by generalize cZ=z at*;omega
 have u:min ((n8 b- cZ:Nat):Int).toNat IntKind.i64.bits=n8 b- cZ:=by
  rw[cu];show min (n8 b- cZ) 64=_;omega
 refine⟨rfl,rfl,rfl,_,C,?_⟩;rw[D,E];cases l with
 |true=>
  subst o;have i:((Nat.add cZ (iB true (Nat.mul (Nat.sub (n8 a) cZ) (Nat.pow 2 (Nat.sub (n8 b) cZ))) (Nat.div (Nat.sub (n8 a) cZ) (Nat.pow 2 (Nat.sub (n8 b) cZ)))):Nat):Int) - (cZ:Int)=((n8 a- cZ:Nat):Int)*2^ (n8 b- cZ):=by
   simp only[a9,di,Nat.add_eq,Nat.mul_eq,Nat.sub_eq,Nat.pow_eq];rw[ma,mc,Int.natCast_pow];generalize ((n8 a- cZ:Nat):Int)*((2:Nat):Int) ^ (n8 b- cZ)=q;generalize cZ=z at*
   omega
  rw[i]at g ⊢;obtain⟨x,y,j,g2,c⟩:=dR (P:=P) (w:=w) (op:=.shl) (t:=t) (ox:=ox) (oy:=oy) (kk:=fun x=>x=.int .i64 (((n8 a- cZ:Nat):Int)*2^ (n8 b- cZ))) (d .i64 ((n8 a- cZ:Nat):Int)) (d kb ((n8 b- cZ:Nat):Int)) (by
   simp only[V3];refine⟨ie _,?_⟩;simp only[ZV,u]
   rw[show IntKind.i64.wrap (((n8 a- cZ:Nat):Int)*2^ (n8 b- cZ))=_ from g])
  subst j;rw[R7 g2]at c;exact c
 |false=>
  subst o;have i:((Nat.add cZ (iB false (Nat.mul (Nat.sub (n8 a) cZ) (Nat.pow 2 (Nat.sub (n8 b) cZ))) (Nat.div (Nat.sub (n8 a) cZ) (Nat.pow 2 (Nat.sub (n8 b) cZ)))):Nat):Int) - (cZ:Int)=((n8 a- cZ:Nat):Int) /2^ (n8 b- cZ):=by
   simp only[a9,dq,dw,Nat.add_eq,Nat.sub_eq,Nat.pow_eq];rw[show Nat.div (n8 a- cZ) (2^ (n8 b- cZ))=(n8 a- cZ) /2^ (n8 b- cZ)from rfl,ma,Int.natCast_ediv,Int.natCast_pow];generalize ((n8 a- cZ:Nat):Int) / ((2:Nat):Int) ^ (n8 b- cZ)=q;generalize cZ=z at*
   omega
  rw[i]at g ⊢;obtain⟨x,y,j,g2,c⟩:=dR (P:=P) (w:=w) (op:=.shr) (t:=t) (ox:=ox) (oy:=oy) (kk:=fun x=>x=.int .i64 (((n8 a- cZ:Nat):Int) /2^ (n8 b- cZ))) (d .i64 ((n8 a- cZ:Nat):Int)) (d kb ((n8 b- cZ:Nat):Int)) (by
   simp only[V3];refine⟨ie _,?_⟩;simp only[AA,u]
   rw[Int.fdiv_eq_ediv_of_nonneg _ (by exact Int.le_of_lt (Int.pow_pos (by decide)))])
  subst j;rw[R7 g2]at c;exact c
theorem bK{c:Nat}(h:lN c=.ok v new set rd):v=.c c/\new=[]/\set=[]/\rd=[]:=by cases h;exact⟨rfl,rfl,rfl,rfl⟩
theorem DC{op:BinOp}{e:Bool}{t:TypeId}{x y:Value}{ox oy:Operand}(d:op=.eql\/op=.neq)(a:∀op,(eqGuard op t ox oy x y).run P w=.ok () w)(b:(Op.equal t x y).run P w=.ok e w)(c:∀op,op=.eql\/op=.neq->binOp op t x y=(match op with
   |.eql=>do pure (.bool (<-Op.equal t x y))
   |_=>do pure (.bool (!(<-Op.equal t x y)))))
  (h:lN (I3 (iB (Nat.beq (Q3 op) 3) e (Bool.not e)))=.ok v new set rd):new=[]/\set=[]/\rd=[]/\∃z,u6 K H v z/\(do eqGuard op t ox oy x y;binOp op t x y:Sem Value).run P w=.ok z w:=by
 obtain⟨rfl,rfl,rfl,rfl⟩:=bK h;refine⟨rfl,rfl,rfl,_,aB _,?_⟩;rcases d with rfl|rfl
 .simp only[au,a,ak,c .eql (.inl rfl),b];rfl
 .simp only[au,a,ak,c .neq (.inr rfl),b];rfl
theorem Ry{op:BinOp}{a b:Nat}{t:TypeId}{ox oy:Operand}{x y:Value}(G:u6 K H (.c a) x)(L:u6 K H (.c b) y)(u:op=.eql\/op=.neq)
  (h:eqC P t a b (fun e=>lN (I3 (iB (Nat.beq (Q3 op) 3) e (Bool.not e))))=.ok v new set rd):new=[]/\set=[]/\rd=[]/\∃z,u6 K H v z/\(do eqGuard op t ox oy x y;binOp op t x y:Sem Value).run P w=.ok z w:=by
 unfold eqC at h;rw[a9]at h;split at h
 .rename_i hi;obtain⟨D,h⟩:=a8 h;obtain⟨k,hk,rfl,i,_⟩:=G.int hi;have V:pK b=true:=by
   have D:a % 128=b % 128:=ab D;rw[cD]at hi ⊢;omega
  obtain⟨k',Pk,rfl,hb,_⟩:=L.int V;have:=LI i hb D;subst this;obtain⟨rfl,rfl,rfl,rfl⟩:=bK h;have R:∀n:Int,b9 K H (.int k n) (.int k n):=fun n=>by simp[b9]
  have he:(Nat.beq a b)=(((n8 a:Nat):Int) - (cZ:Int)==((n8 b:Nat):Int) - (cZ:Int)):=by
   obtain⟨_,_,c3⟩:=Dz i hb;rw[ff,ig,c3,qx];generalize cZ=z at*
   omega
  rcases u with rfl|rfl
  .obtain⟨p,q,X,g2,M⟩:=dR (P:=P) (w:=w) (op:=.eql) (t:=t) (ox:=ox) (oy:=oy) (kk:=fun x=>x=.bool (((n8 a:Nat):Int) - (cZ:Int)==((n8 b:Nat):Int) - (cZ:Int))) (R (((n8 a:Nat):Int) - (cZ:Int))) (R (((n8 b:Nat):Int) - (cZ:Int))) (by simp only[V3,di])
   subst X;rw[Z8 g2]at M;exact⟨rfl,rfl,rfl,_,by rw[show iB (Nat.beq (Q3 .eql) 3) (Nat.beq a b) (Bool.not (Nat.beq a b))=_ from he];exact aB _,M⟩
  .obtain⟨p,q,X,g2,M⟩:=dR (P:=P) (w:=w) (op:=.neq) (t:=t) (ox:=ox) (oy:=oy) (kk:=fun x=>x=.bool (((n8 a:Nat):Int) - (cZ:Int) !=((n8 b:Nat):Int) - (cZ:Int))) (R (((n8 a:Nat):Int) - (cZ:Int))) (R (((n8 b:Nat):Int) - (cZ:Int))) (by simp only[V3,di])
   subst X;rw[Z8 g2]at M;exact⟨rfl,rfl,rfl,_,by rw[show iB (Nat.beq (Q3 .neq) 3) (Nat.beq a b) (Bool.not (Nat.beq a b))=(((n8 a:Nat):Int) - (cZ:Int) !=((n8 b:Nat):Int) - (cZ:Int))from congrArg Bool.not he];exact aB _,M⟩
 .have h:iB (Nat.beq (eqK P t) 1) (nB (pV a) 31 (nB (pV b) 48 (lN (I3 (iB (Nat.beq (Q3 op) 3) (Nat.beq a b) (Bool.not (Nat.beq a b))))))) (iB (Nat.beq (eqK P t) 2) (Ls 5 25 a b fun e=>lN (I3 (iB (Nat.beq (Q3 op) 3) e (Bool.not e))))
   (iB (Nat.beq (eqK P t) 3) (Ls 6 41 a b fun e=>lN (I3 (iB (Nat.beq (Q3 op) 3) e (Bool.not e)))) (iB (Nat.beq (eqK P t) 4) (Ls 4 33 a b fun e=>lN (I3 (iB (Nat.beq (Q3 op) 3) e (Bool.not e)))) (.er 49 0))))=.ok v new set rd:=h
  rw[a9]at h;have A:∀ (Y S:Nat) (k:Bool->l6),Ls Y S a b k=.ok v new set rd->b=S/\(a % 8=Y\/a=S)/\k (Nat.beq a b)=.ok v new set rd:=by
   intro Y S k hh;obtain⟨D,hh⟩:=a8 hh;obtain⟨I,hh⟩:=a8 hh;refine⟨ab D,?_,hh⟩;rw[a9]at I;split at I
   .rename_i E;exact .inl (ab E)
   .exact .inr (ab I)
  have g:∀q,Nat.beq (eqK P t) q=true->q≠0->∃d,P.underlying t=some d/\((q=1/\d=.bool)\/(q=2/\∃e,d=.slice e)\/(q=3/\∃e f,d=.map e f)\/(q=4/\∃e,d=.pointer e)):=by
   intro q j h0;have j:=ab j;unfold eqK at j;split at j
   .rename_i r;exact⟨_,r,.inl ⟨j.symm,rfl⟩⟩
   .rename_i e r;exact⟨_,r,.inr (.inl ⟨j.symm,e,rfl⟩)⟩
   .rename_i e f r;exact⟨_,r,.inr (.inr (.inl ⟨j.symm,e,f,rfl⟩))⟩
   .rename_i e r;exact⟨_,r,.inr (.inr (.inr ⟨j.symm,e,rfl⟩))⟩
   .exact absurd j.symm h0
  split at h
  .rename_i j;obtain⟨d,r,hd⟩:=g 1 j (by decide)
   rcases hd with⟨_,rfl⟩|⟨hh,_⟩|⟨hh,_⟩|⟨hh,_⟩<;>first|(exact absurd hh (by decide))|skip
   obtain⟨D,h⟩:=a8 h;obtain⟨I,h⟩:=a8 h;have bb:∀ (c:Nat) (z:Value),pV c=true->u6 K H (.c c) z->∃p,z=.bool p/\c=I3 p:=by
    intro c z T hz;unfold pV at T;rw[a9]at T;split at T
    .rename_i U;have U:=ab U;exact⟨false,hz.bool.2 U,U⟩
    .have N:=ab T;exact⟨true,hz.bool.1 N,N⟩
   obtain⟨p,rfl,rfl⟩:=bb a x D G;obtain⟨q,rfl,rfl⟩:=bb b y I L;refine DC u (fun op=>by cases op<;>simp[eqGuard]) (e:=Nat.beq (I3 p) (I3 q)) ?_ (fun op _=>by cases op<;>first|rfl|(rename_i hh;rcases hh with hh|hh<;>cases hh)) h
   rw[show Nat.beq (I3 p) (I3 q)=(p==q)by cases p<;>cases q<;>rfl]
   simp[Op.equal,Op.maxDepth,ql w 9999 t p q r]
  .have B:∀op,op=BinOp.eql\/op=BinOp.neq->∀x y:Value,(∀k n,x≠ .int k n)->(∀k n,x≠ .float k n)->(∀k n m,x≠ .complex k n m)->(∀s,x≠ .string s)->binOp op t x y=(match op with
     |.eql=>do pure (.bool (<-Op.equal t x y))
     |_=>do pure (.bool (!(<-Op.equal t x y)))):=by
    intro op J x y D I E h4;rcases J with rfl|rfl<;>cases x<;>first|rfl|(exact absurd rfl (D _ _))|(exact absurd rfl (I _ _))|(exact absurd rfl (E _ _ _))|(exact absurd rfl (h4 _))
   have Z:∀n,3<=n->u6 K H (.c n)=j6 H n\/True:=fun _ _=>.inr trivial
   rw[a9]at h;split at h
   .rename_i j;obtain⟨d,r,hd⟩:=g 2 j (by decide)
    rcases hd with⟨hh,_⟩|⟨_,e,rfl⟩|⟨hh,_⟩|⟨hh,_⟩<;>first|(exact absurd hh (by decide))|skip
    obtain⟨rfl,i,h⟩:=A _ _ _ h;have O:y=.slice none 0 0:=(L.cell (by decide)).isNil.1 rfl
    subst O;have key:∃p l c,x=.slice p l c/\Nat.beq a 25=p.isNone:=by
     rcases i with i|rfl
     .have E:3<=a:=by omega
      obtain⟨hd,b,o,cap,_,_,rfl,_⟩:=(G.cell E).vQ (Z0.2 i);exact⟨_,_,_,rfl,by rw[ff,ig];constructor<;>intro hh<;>first|(subst hh;exact absurd i (by decide))|cases hh⟩
     .exact⟨none,0,0,(G.cell (by decide)).isNil.1 rfl,rfl⟩
    obtain⟨p,l,c,rfl,C⟩:=key;rw[C]at h;exact DC u (fun op=>by cases op<;>simp[eqGuard]) (sm (P:=P) w t e p l c r) (fun op J=>B op J _ _ (fun _ _=>by simp) (fun _ _=>by simp) (fun _ _ _=>by simp) (fun _=>by simp)) h
   .rw[a9]at h;split at h
    .rename_i j;obtain⟨d,r,hd⟩:=g 3 j (by decide)
     rcases hd with⟨hh,_⟩|⟨hh,_⟩|⟨_,e,f,rfl⟩|⟨hh,_⟩<;>first|(exact absurd hh (by decide))|skip
     obtain⟨rfl,i,h⟩:=A _ _ _ h;have O:y=.map none:=(L.cell (by decide)).isNil.2.2.1 rfl
     subst O;have key:∃p,x=.map p/\Nat.beq a 41=p.isNone:=by
      rcases i with i|rfl
      .have E:3<=a:=by omega
       obtain⟨hd,b,_,_,rfl,_⟩:=(G.cell E).isMap (kP.2 i);exact⟨_,rfl,by rw[ff,ig];constructor<;>intro hh<;>first|(subst hh;exact absurd i (by decide))|cases hh⟩
      .exact⟨none,(G.cell (by decide)).isNil.2.2.1 rfl,rfl⟩
     obtain⟨p,rfl,C⟩:=key;rw[C]at h;exact DC u (fun op=>by cases op<;>simp[eqGuard]) (run_equal_map_nil (P:=P) w t e f p r) (fun op J=>B op J _ _ (fun _ _=>by simp) (fun _ _=>by simp) (fun _ _ _=>by simp) (fun _=>by simp)) h
    .rw[a9]at h;split at h
     .rename_i j;obtain⟨d,r,hd⟩:=g 4 j (by decide)
      rcases hd with⟨hh,_⟩|⟨hh,_⟩|⟨hh,_⟩|⟨_,e,rfl⟩<;>first|(exact absurd hh (by decide))|skip
      obtain⟨rfl,i,h⟩:=A _ _ _ h;have O:y=.pointer none:=(L.cell (by decide)).isNil.2.1 rfl
      subst O;have key:∃p,x=.pointer p/\Nat.beq a 33=p.isNone:=by
       rcases i with i|rfl
       .have E:3<=a:=by omega
        obtain⟨hd,b,_,_,rfl,_⟩:=(G.cell E).gP (R9.2 i);exact⟨_,rfl,by rw[ff,ig];constructor<;>intro hh<;>first|(subst hh;exact absurd i (by decide))|cases hh⟩
       .exact⟨none,(G.cell (by decide)).isNil.2.1 rfl,rfl⟩
      obtain⟨p,rfl,C⟩:=key;rw[C]at h;have hr:(Op.equal t (.pointer p) (.pointer none)).run P w=.ok p.isNone w:=by
       have:∀d,(Op.equalIn (d+1) t (.pointer p) (.pointer none)).run P w=.ok p.isNone w:=by
        intro d;cases p<;>simp[Op.equalIn,dc r]
       exact this 9999
      exact DC u (fun op=>by cases op<;>simp[eqGuard]) hr (fun op J=>B op J _ _ (fun _ _=>by simp) (fun _ _=>by simp) (fun _ _ _=>by simp) (fun _=>by simp)) h
     .cases h
end
end Go.Abs
end
section
namespace Go.Abs
theorem WH:∀k:Nat,(cB^ (k+1) - 1) / (cB- 1)=1+cB*((cB^k- 1) / (cB- 1)):=by
 intro k;have e:∀j:Nat,∃q,cB^j=q*(cB- 1)+1:=by
  intro j
  induction j with
  |zero=>exact⟨0,by simp⟩
  |succ j f=>
   obtain⟨q,b⟩:=f;refine⟨q*cB+1,?_⟩;rw[qa,b];have d:cB=(cB- 1)+1:=by decide
   generalize cB- 1=c at*
   rw[d];simp only[bl,kg,kj,kh];omega
 obtain⟨q,b⟩:=e k;have a:0<cB- 1:=by decide
 have g:(cB^k- 1) / (cB- 1)=q:=by rw[b,Nat.add_sub_cancel,Nat.mul_div_cancel _ a]
 rw[g,qa,b];have d:cB=(cB- 1)+1:=by decide
 have h:(q*(cB- 1)+1)*cB- 1=(1+cB*q)*(cB- 1):=by
  generalize cB- 1=c at*
  rw[d];simp only[bl,kg,kj,kh];rw[gv c q];omega
 rw[h,Nat.mul_div_cancel _ a]
theorem Fp(x y:Nat):Nat.land x y=Nat.land (x % cB) (y % cB)+cB*Nat.land (x/cB) (y/cB):=by
 have e:cB=2^80:=by decide
 rw[e];have c:=jm (Nat.land x y) (2^80);have a:Nat.land x y % 2^80=Nat.land (x % 2^80) (y % 2^80):=by
  show(x &&& y) % 2^80=(x % 2^80) &&& (y % 2^80);apply pr;intro i;simp only[nu,Nat.testBit_mod_two_pow];cases decide (i<80)<;>simp
 have b:Nat.land x y/2^80=Nat.land (x/2^80) (y/2^80):=by
  show(x &&& y) /2^80=(x/2^80) &&& (y/2^80);apply pr;intro i;simp only[nu,Nat.testBit_div_two_pow]
 rw[<-a,<-b];omega
theorem Fq{c d:Nat}(a:c<cB)(hd:d<cB):∀ (k n:Nat),Nat.land n (c*((cB^k- 1) / (cB- 1)))=d*((cB^k- 1) / (cB- 1))->∀i,i<k->Nat.land (P3 n i) c=d
 |0,_,_,i,f=>by omega
 |k+1,n,h,i,f=>by
  rw[WH,Fp]at h;have b:∀c,c*(1+cB*((cB^k- 1) / (cB- 1)))=c+cB*(c*((cB^k- 1) / (cB- 1))):=by
   intro c;rw[kg,kh,<-me,<-me,gv c cB]
  rw[b c,b d,ng,jc a,jg _ _ R4,fl a,bz]at h;have g:Nat.land (n % cB) c<cB:=lr Nat.and_le_right a;have e:Nat.land (n % cB) c=d:=by
   have:=congrArg (· % cB) h
   simp only[ng,jc g,jc hd]at this;exact this
  have j:Nat.land (n/cB) (c*((cB^k- 1) / (cB- 1)))=d*((cB^k- 1) / (cB- 1)):=by
   rw[e]at h;exact Nat.eq_of_mul_eq_mul_left R4 (Nat.add_left_cancel h)
  cases i with
  |zero=>rw[U1,je,jh];exact e
  |succ i=>rw[<-sY];exact Fq a hd k (n/cB) j i (by omega)
theorem mL{k n:Nat}(h:lV k n=true)(i:Nat)(a:i<k):P3 n i % 128=32:=by
 have h:=Fq (c:=127) (d:=32) (by decide) (by decide) k n (ab h) i a
 have e:Nat.land (P3 n i) 127=P3 n i % 2^7:=Nat.and_two_pow_sub_one_eq_mod (P3 n i) 7;rw[e]at h;exact h
theorem JX:∀ (k a b:Nat),a<cB^k->b<cB^k->(∀i,i<k->P3 a i=P3 b i)->a=b
 |0,a,b,c,d,_=>by rw[je]at c d;omega
 |k+1,a,b,c,d,h=>by
  have f:=h 0 (by omega)
  rw[U1,U1,je,jh,jh]at f;have e:∀x,x<cB^ (k+1)->x/cB<cB^k:=fun x g=>mu (by rw[jt]at g;exact g)
  have j:=JX k (a/cB) (b/cB) (e a c) (e b d) (fun i l=>by rw[sY,sY];exact h (i+1) (by omega))
  rw[<-jm a cB,<-jm b cB,f,j]
theorem Ih{k n:Nat}(h:fJ k n=true):∀i,i<k->Nat.land (P3 n i) 4=0:=
 Fq (d:=0) (by decide) (by decide) k n (by rw[lh];exact ab h)
end Go.Abs
end
section
namespace Go.Abs
section
variable {P:Program} {F:Nat->Prop} {K:b8} {H:Nat->Option Hd} {w:World} {m:Mm} {nx:Nat} {v:BV} {new:List HO} {set:List (Nat×HO)} {rd:List Nat} {ev:Operand->BV} {ρ:Operand->Value}
def m9(s a:Nat):List Int:=(List.range s).map fun i=>((n8 (P3 a i):Nat):Int) - (cZ:Int)
theorem Mk{s a:Nat}{vs:List Value}(h:x7 H s a vs)(f:lV s a=true):vs=(m9 s a).map fun n=>Value.int .i64 n:=by
 obtain⟨_,o,g⟩:=h;refine cq (fun i=>?_)
 by_cases c:i<s
 .have d:i<vs.length:=by omega
  rw[ag d];have j:=g i vs[i] (ag d);have p:=mL f i c;obtain⟨k,l,e,_⟩:=j.isInt (cD.2 (by omega))
  have b:AT (P3 a i)=4:=by show P3 a i % 128/8=4;omega
  have:k=.i64:=mE (k':=.i64) (by rw[<-l,b];rfl)
  subst this;rw[e];simp[m9,c]
 .rw[an (by omega),an (by simp[m9];omega)]
theorem Pm{s a b:Nat}(j:a<cB^s)(k:b<cB^s)(c:lV s a=true)(d:lV s b=true):Nat.beq a b=(m9 s a==m9 s b):=by
 rw[ff,ig,qx];constructor
 .rintro rfl;rfl
 .intro h;refine JX s a b j k (fun i f=>?_)
  have g:(m9 s a)[i]? =(m9 s b)[i]? :=by rw[h]
  simp only[m9,bo,fy f,da,ae]at g;have l:=mL c i f;have n:=mL d i f;have e:n8 (P3 a i)=n8 (P3 b i):=by generalize cZ=z at g;omega
  have o:n8 (P3 a i)=P3 a i/128:=rfl;have p:n8 (P3 b i)=P3 b i/128:=rfl;omega
theorem oQ:∀ (l e:List Int),l.length=e.length->eX (l.map fun n=>.int .i64 n) (e.map fun n=>.int .i64 n)=some (l==e)
 |[],[],_=>rfl
 |[a],[b],_=>by simp[eX]
 |a::c::l,b::d::e,h=>by
  have f:=oQ (c::l) (d::e) (by simpa using h)
  simp only[az]at f ⊢;simp only[eX,di,f];rfl
 |[],_::_,h=>by simp at h
 |_::_,[],h=>by simp at h
 |[_],_::_::_,h=>by simp at h
 |_::_::_,[_],h=>by simp at h
theorem Ml{op:BinOp}{s a b:Nat}{t:TypeId}{ox oy:Operand}{x y:Value}(S:u6 K H (.a s a) x)(T:u6 K H (.a s b) y)(k:op=.eql\/op=.neq)(h:JB P t s=true)(o:lV s a=true)(r:lV s b=true):
  ∃z,u6 K H (.c (I3 (match op with|.eql=>Nat.beq a b|_=> !Nat.beq a b))) z/\(do eqGuard op t ox oy x y;binOp op t x y:Sem Value).run P w=.ok z w:=by
 obtain⟨cs,rfl,J⟩:=S;obtain⟨G,rfl,hd⟩:=T;have L:=Mk J o;have M:=Mk hd r;have E:=Pm J.1 hd.1 o r;have len:∀n,(m9 s n).length=s:=fun n=>by simp[m9]
 unfold JB at h;rw[a9]at h;split at h
 .rename_i hI;have f:∀ (l:List Int) (us:List Value),us=l.map (fun n=>Value.int .i64 n)->c6 K H (l.map fun n=>a7.int .i64 n) us:=by
   intro l us e;subst e
   induction l with
   |nil=>exact .nil
   |cons n l U=>exact .cons (by simp[b9]) U
  have u:b9 K H (.agg ((m9 s a).map fun n=>a7.int .i64 n)) (.agg cs):=by simp only[b9];exact⟨cs,rfl,f _ _ L⟩
  have A:b9 K H (.agg ((m9 s b).map fun n=>a7.int .i64 n)) (.agg G):=by simp only[b9];exact⟨G,rfl,f _ _ M⟩
  rcases k with rfl|rfl
  .obtain⟨p,q,j,g2,d⟩:=dR (P:=P) (w:=w) (op:=.eql) (t:=t) (ox:=ox) (oy:=oy) (kk:=fun x=>x=.bool (m9 s a==m9 s b)) u A (by
    simp only[V3,dy,len,hI,di,oQ _ _ ((len a).trans (len b).symm)])
   subst j;rw[Z8 g2]at d;exact⟨_,by show u6 K H (.c (I3 (Nat.beq a b))) (.bool (m9 s a==m9 s b));rw[E];exact aB _,d⟩
  .obtain⟨p,q,j,g2,d⟩:=dR (P:=P) (w:=w) (op:=.neq) (t:=t) (ox:=ox) (oy:=oy) (kk:=fun x=>x=.bool (!(m9 s a==m9 s b))) u A (by
    simp only[V3,dy,len,hI,di,oQ _ _ ((len a).trans (len b).symm)])
   subst j;rw[Z8 g2]at d;exact⟨_,by show u6 K H (.c (I3 (!Nat.beq a b))) (.bool (!(m9 s a==m9 s b)));rw[E];exact aB _,d⟩
 .rw[a9]at h;split at h
  .rename_i N;have O:eY P t=s:=ab h;have g:∀ (l:List Int) (us:Array Value),us.toList=l.map (fun n=>Value.int .i64 n)->b9 K H (.S3 (.int .i64) l) (.agg us):=by
    intro l us e;have B:us.size=l.length:=by rw[<-bp,e];simp
    simp only[b9];refine⟨us,rfl,by rw[B];exact(kh _).symm,fun i R=>?_⟩
    show s7 us (0+i*(Ty.int .i64).size) (Ty.int .i64).size=[Value.int .i64 l[i]];have C:i<(l:List Int).length:=R;have I:us.toList[i]? =some (Value.int .i64 ((l:List Int)[i]'C)):=by rw[e,bo,ag C];rfl
    simp only[s7,Ty.size,kh,bz];have D:i<us.toList.length:=by simp[B];exact R
    rw[ia D];rw[ag D]at I;simp only[ae]at I;rw[I];rfl
   have u:=g _ cs L;have A:=g _ G M;rcases k with rfl|rfl
   .obtain⟨p,q,j,g2,d⟩:=dR (P:=P) (w:=w) (op:=.eql) (t:=t) (ox:=ox) (oy:=oy) (kk:=fun x=>x=.bool (m9 s a==m9 s b)) u A (by
     simp only[V3,O,N,true_and,di,xN]
     exact⟨len a,len b,by first|trivial|rfl⟩)
    subst j;rw[Z8 g2]at d;exact⟨_,by show u6 K H (.c (I3 (Nat.beq a b))) (.bool (m9 s a==m9 s b));rw[E];exact aB _,d⟩
   .obtain⟨p,q,j,g2,d⟩:=dR (P:=P) (w:=w) (op:=.neq) (t:=t) (ox:=ox) (oy:=oy) (kk:=fun x=>x=.bool (!(m9 s a==m9 s b))) u A (by
     simp only[V3,O,N,true_and,di,xN]
     exact⟨len a,len b,by first|trivial|rfl⟩)
    subst j;rw[Z8 g2]at d;exact⟨_,by show u6 K H (.c (I3 (!Nat.beq a b))) (.bool (!(m9 s a==m9 s b)));rw[E];exact aB _,d⟩
  .cases h
theorem yY(op:BinOp):Q3 op=0\/(Q3 op=1/\op=.shl)\/(Q3 op=2/\op=.shr)\/(Q3 op=3/\op=.eql)\/(Q3 op=4/\op=.neq):=by
 cases op<;>first|exact .inl rfl|exact .inr (.inl ⟨rfl,rfl⟩)|exact .inr (.inr (.inl ⟨rfl,rfl⟩))|exact .inr (.inr (.inr (.inl ⟨rfl,rfl⟩)))|exact .inr (.inr (.inr (.inr ⟨rfl,rfl⟩)))
theorem a0x(T:L4 F K w)(V:l5 F K H w m)(E:∀x,u6 K H (ev x) (ρ x))(o:Oper){op:BinOp}{t u:TypeId}{x y:Operand}(Z:o.op=.binOp op t x y u)(h:VN P op t (ev x) (ev y)=.ok v new set rd):z8 P F K H w m nx v new set ((execOp ρ o).run P w):=by
 have d:∀z,u6 K H v z->(do eqGuard op t x y (ρ x) (ρ y);binOp op t (ρ x) (ρ y):Sem Value).run P w=.ok z w->new=[]->set=[]->z8 P F K H w m nx v new set ((execOp ρ o).run P w):=by
  intro z n i M N;subst M;subst N;simp only[execOp,Z];rw[c8 i];exact r8 T V n
 have C:=E x;have D:=E y;generalize ev x=X at h C;generalize ev y=Y at h D;cases X with
 |c a=>
  obtain⟨b,rfl,h⟩:=x8 (show vC Y _=_ from h);rcases yY op with j|⟨j,rfl⟩|⟨j,rfl⟩|⟨j,rfl⟩|⟨j,rfl⟩
  .have O:∃r,iB (Nat.beq (Q3 op) 0) (nB (pK a) 32 (nB (Nat.beq (Nat.mod a 128) (Nat.mod b 128)) 33 (SV op a b))) r=l6.ok v new set rd:=⟨_,h⟩;obtain⟨r,h⟩:=O;rw[j]at h;obtain⟨n,h⟩:=a8 (show nB (pK a) 32 (nB (Nat.beq (Nat.mod a 128) (Nat.mod b 128)) 33 (SV op a b))=_ from h);obtain⟨i,h⟩:=a8 h;obtain⟨k,p,G,R,_⟩:=C.int n;have q:pK b=true:=by
    have i:a % 128=b % 128:=ab i;rw[cD]at n ⊢;omega
   obtain⟨k',I,J,S,_⟩:=D.int q;have:=LI R S i;subst this;obtain⟨A,B,_,z,f,g⟩:=Wo (P:=P) (K:=K) (H:=H) (w:=w) (t:=t) (ox:=x) (oy:=y) j R S p h;exact d z f (by rw[G,J];exact g) A B
  .obtain⟨n,h⟩:=a8 (show nB (pK a) 34 (nB (pK b) 35 (kK true a b))=_ from h);obtain⟨i,h⟩:=a8 h;obtain⟨k,p,G,R,_⟩:=C.int n;obtain⟨k',I,J,S,_⟩:=D.int i;obtain⟨A,B,_,z,f,g⟩:=Fo (P:=P) (K:=K) (H:=H) (w:=w) (l:=true) (op:=.shl) rfl (kb:=k') (t:=t) (ox:=x) (oy:=y) p h;exact d z f (by rw[G,J];exact g) A B
  .obtain⟨n,h⟩:=a8 (show nB (pK a) 36 (nB (pK b) 37 (kK false a b))=_ from h);obtain⟨i,h⟩:=a8 h;obtain⟨k,p,G,R,_⟩:=C.int n;obtain⟨k',I,J,S,_⟩:=D.int i;obtain⟨A,B,_,z,f,g⟩:=Fo (P:=P) (K:=K) (H:=H) (w:=w) (l:=false) (op:=.shr) rfl (kb:=k') (t:=t) (ox:=x) (oy:=y) p h;exact d z f (by rw[G,J];exact g) A B
  .obtain⟨A,B,_,z,f,g⟩:=Ry (P:=P) (K:=K) (H:=H) (w:=w) (op:=.eql) (ox:=x) (oy:=y) C D (.inl rfl) (show eqC P t a b (fun e=>lN (I3 (iB (Nat.beq (Q3 .eql) 3) e (Bool.not e))))=_ from h)
   exact d z f g A B
  .obtain⟨A,B,_,z,f,g⟩:=Ry (P:=P) (K:=K) (H:=H) (w:=w) (op:=.neq) (ox:=x) (oy:=y) C D (.inr rfl) (show eqC P t a b (fun e=>lN (I3 (iB (Nat.beq (Q3 .neq) 3) e (Bool.not e))))=_ from h)
   exact d z f g A B
 |a s a=>
  cases Y with
  |a s' b=>
   obtain⟨n,i⟩:=a8 (show nB (Nat.beq s s') 39 _=_ from h);have e:=ab n;clear h n;subst e;obtain⟨U,M⟩:=a8 i;clear i;obtain⟨L,N⟩:=a8 M;clear M;obtain⟨q,h⟩:=a8 N;clear N;rcases yY op with j|⟨j,rfl⟩|⟨j,rfl⟩|⟨j,rfl⟩|⟨j,rfl⟩
   .have O:iB (Nat.beq (Q3 op) 3) (lN (I3 (Nat.beq a b))) (iB (Nat.beq (Q3 op) 4) (lN (I3 (Bool.not (Nat.beq a b)))) (.er 41 0))=l6.ok v new set rd:=h;rw[j]at O;exact l6.noConfusion (show l6.er 41 0=_ from O)
   .exact l6.noConfusion (show l6.er 41 0=_ from h)
   .exact l6.noConfusion (show l6.er 41 0=_ from h)
   .obtain⟨rfl,rfl,rfl,rfl⟩:=bK (show lN (I3 (Nat.beq a b))=_ from h);obtain⟨z,f,g⟩:=Ml (P:=P) (w:=w) (ox:=x) (oy:=y) C D (.inl rfl) U L q;exact d z f g rfl rfl
   .obtain⟨rfl,rfl,rfl,rfl⟩:=bK (show lN (I3 (Bool.not (Nat.beq a b)))=_ from h);obtain⟨z,f,g⟩:=Ml (P:=P) (w:=w) (ox:=x) (oy:=y) C D (.inr rfl) U L q;exact d z f g rfl rfl
  |c b=>exact l6.noConfusion (show l6.er 38 0=_ from h)
  |t l=>exact l6.noConfusion (show l6.er 42 0=_ from h)
  |u=>exact l6.noConfusion (show l6.er 43 0=_ from h)
 |t l=>exact l6.noConfusion (show l6.er 44 0=_ from h)
 |u=>exact l6.noConfusion (show l6.er 45 0=_ from h)
end
end Go.Abs
end
section
namespace Go.Abs
section
variable {P:Program} {F:Nat->Prop} {K:b8} {H:Nat->Option Hd} {w:World} {m:Mm} {nx:Nat} {v:BV} {new:List HO} {set:List (Nat×HO)} {rd:List Nat} {ev:Operand->BV} {ρ:Operand->Value}
theorem a0y:bA 1=1:=rfl
theorem a0z(k:Nat):bA (k+2)=k:=rfl
theorem DD{t:TypeId}{n:Nat}(h:vU P t=n+1):∃i d,P.info? t=some i/\P.underlying t=some d/\i.size=bA (n+1)/\j9 P t=bA (n+1)/\((n=0/\R0 P t=false)\/(∃k,n=k+1/\R0 P t=true)):=by
 unfold vU at h;have g:∀i,P.info? t=some i->j9 P t=i.size:=fun i c=>by simp[j9,c]
 split at h
 .rename_i j i f c;have e:n=i.size+1:=by omega
  subst e;exact⟨i,_,c,f,rfl,g i c,.inr ⟨i.size,rfl,by simp[R0,f]⟩⟩
 .rename_i a b i f c;have e:n=i.size+1:=by omega
  subst e;exact⟨i,_,c,f,rfl,g i c,.inr ⟨i.size,rfl,by simp[R0,f]⟩⟩
 .rename_i d i o p f c;rw[a9]at h;split at h
  .rename_i q;have e:n=0:=by omega
   subst e;have l:i.size=1:=ab q;refine⟨i,d,c,f,l,by rw[g i c,l];rfl,.inl ⟨rfl,?_⟩⟩
   unfold R0;rw[f];cases d with
   |struct j=>exact absurd rfl (o j)
   |array n e=>exact absurd rfl (p n e)
   |_=>rfl
  .cases h
 .cases h
theorem tR{t:TypeId}(h:bA (vU P t)≠0):j9 P t=bA (vU P t):=by
 cases e:vU P t with
 |zero=>rw[e]at h;exact absurd rfl h
 |succ n=>obtain⟨_,_,_,_,_,a,_⟩:=DD e;exact a
theorem DE{t:TypeId}{f o:Nat}(h:HV P t f=o+1):∃b a,P.underlying t=some (.struct b)/\b[f]? =some a/\a.offset=o/\bA (vU P a.type)≠0/\OD P t f=vU P a.type:=by
 unfold HV at h;split at h
 .rename_i b c;split at h
  .rename_i a d;rw[a9]at h;split at h
   .cases h
   .rename_i g;refine⟨b,a,c,d,by omega,fun e=>g (by rw[e];rfl),?_⟩
    unfold OD;rw[c];simp only[d]
  .cases h
 .cases h
theorem Tv{t:TypeId}{f o:Nat}(h:HV P t f=o+1):lC P t f=some (o,bA (OD P t f)):=by
 obtain⟨g,i,b,c,d,a,e⟩:=DE h;unfold lC;rw[b];simp only[c];rw[tR a,ai a,d,e]
theorem Rz{r a b:Nat}:Nat.add (bO r a) (Nat.mul 8 b)=bO r (a+b):=by
 show 8*(r*1048576+a)+4+8*b=8*(r*1048576+(a+b))+4;omega
variable (l8:L4 F K w) (hm:l5 F K H w m) (n6:∀x,u6 K H (ev x) (ρ x))
include l8 hm n6
theorem Mn(o:Oper){t:TypeId}{x:Operand}{f:Nat}(i:o.op=.fieldAddr t x f)(h:nT P t (ev x) f=.ok v new set rd):z8 P F K H w m nx v new set ((execOp ρ o).run P w):=by
 obtain⟨c,e,h⟩:=x8 h;obtain⟨d,h⟩:=a8 h;cases a:HV P t f with
 |zero=>rw[a]at h;exact l6.noConfusion (show l6.er 89 0=_ from h)
 |succ q=>
  rw[a]at h;obtain⟨g,h⟩:=a8 (show nB (Nat.ble (Nat.add (pO c) q) 1048575) 90 (lN (Nat.add c (Nat.mul 8 q)))=_ from h);obtain⟨rfl,rfl,rfl,rfl⟩:=bK h;have g:pO c+q<=1048575:=af g;have j:=e▸n6 x;have k:j6 H c (ρ x):=j.cell (by rw[R9]at d;omega)
  obtain⟨hd,b,l,g2,n,p,r,u⟩:=k.gP d;have s:=sZ (w:=w) (Tv a) b (pO c+hd.len);simp only[execOp,i,n];rw[c8 s];refine r8 l8 hm (.inr (.inr ?_));rw[show Nat.add c (Nat.mul 8 q)=bO (pR c) (pO c+q)by rw[<-Rz,<-p]]
  rw[show pO c+hd.len+q=pO c+q+hd.len by omega]
  exact .ptr _ _ hd b r (by omega) l g2
theorem Tw(o:Oper){x:Operand}{i:Nat}(j:o.op=.extract x i)(h:dO (ev x) i=.ok v new set rd):z8 P F K H w m nx v new set ((execOp ρ o).run P w):=by
 have b:=n6 x;generalize ev x=X at h b;cases X with
 |t l=>
  obtain⟨vs,e,q,r⟩:=b;have key:∀ (l:List (Nat×Nat)) (i:Nat),a3v l i (fun s n=>xI (uK s n))=.ok v new set rd->∃p,l[i]? =some p/\v=uK p.1 p.2/\new=[]/\set=[]:=by
   intro l
   induction l with
   |nil=>intro i h;exact l6.noConfusion (show l6.er 113 i=_ from h)
   |cons p l y=>
    intro i h;cases i with
    |zero=>
     have h:xI (uK p.1 p.2)=.ok v new set rd:=h;cases h;exact⟨p,rfl,rfl,rfl,rfl⟩
    |succ i=>exact y i h
  obtain⟨p,d,rfl,rfl,rfl⟩:=key l i h;have f:i<vs.size:=by
   rw[q];exact(ja.1 d).1
  have g:=r i p vs[i] d (ba f);simp only[execOp,j,e];rw[c8 (x:=vs[i]) (w':=w) (by simp[Instr.extract,f])]
  refine r8 l8 hm ?_;obtain⟨s,n⟩:=p;cases s with
  |zero=>exact .inr (.inr g)
  |succ k=>exact g
 |c n=>exact l6.noConfusion (show l6.er 114 0=_ from h)
 |a k n=>exact l6.noConfusion (show l6.er 115 0=_ from h)
 |u=>exact l6.noConfusion (show l6.er 116 0=_ from h)
end
end Go.Abs
end
section
namespace Go.Abs
section
variable {P:Program} {F:Nat->Prop} {K:b8} {H:Nat->Option Hd} {w:World} {m:Mm} {nx:Nat} {v:BV} {new:List HO} {set:List (Nat×HO)} {rd:List Nat} {ev:Operand->BV} {ρ:Operand->Value}
def U4(k n:Nat):List a7:=(List.range k).map fun i=>.Dc 0 (P3 n i)
theorem Q9(k n:Nat):(U4 k n).length=k:=by simp[U4]
theorem jM{k n i:Nat}(h:i<k):(U4 k n)[i]? =some (.Dc 0 (P3 n i)):=by simp[U4,h]
theorem Cu:∀ (b:List a7) (vs:List Value),vs.length=b.length->(∀ (i:Nat) (a:a7) (v:Value),b[i]? =some a->vs[i]? =some v->b9 K H a v)->c6 K H b vs
 |[],vs,h,_=>by rw[jl.1 h];exact .nil
 |a::b,[],h,_=>by simp at h
 |a::b,v::vs,h,c=>.cons (c 0 a v rfl rfl) (Cu b vs (by simpa using h) (fun i x y d e=>c (i+1) x y (by simpa using d) (by simpa using e)))
theorem oR{k n:Nat}{vs:List Value}(h:x7 H k n vs):c6 K H (U4 k n) vs:=by
 refine Cu _ _ (by rw[Q9];exact h.2.1) (fun i a x b c=>?_)
 have d:i<k:=by rw[<-Q9 k n];exact(ja.1 b).1
 rw[jM d]at b;cases b;simp only[b9];exact h.2.2 i x c
theorem Pn{k n:Nat}{vs:List Value}(e:n<cB^k)(h:c6 K H (U4 k n) vs):x7 H k n vs:=by
 refine⟨e,by rw[c6.length h,Q9],fun i x a=>?_⟩
 have f:i<k:=by rw[<-Q9 k n,<-c6.length h];exact(ja.1 a).1
 obtain⟨c,b,d⟩:=h.get i _ (jM f);rw[a]at b;cases b;simp only[b9]at d;exact d
theorem Mo{k n off s:Nat}(h:off+s<=k):((U4 k n).drop off).take s=U4 s (iS n off s):=by
 refine cq (fun i=>?_)
 by_cases a:i<s
 .rw[cy a,dp,jM (by omega),jM a,Rp a]
 .rw[an (by simp[Q9];omega),an (by rw[Q9];omega)]
theorem Mp{k n off s:Nat}{vs:List Value}(b:x7 H k n vs)(h:off+s<=k):x7 H s (iS n off s) ((vs.drop off).take s):=by
 refine⟨sub_lt _ _ _,by simp[b.2.1];omega,fun i x a=>?_⟩
 have c:i<s:=by
  have:=(ja.1 a).1;simp at this;omega
 rw[cy c,dp]at a;rw[Rp c];exact b.2.2 _ x a
theorem yZ{t:TypeId}{j k n off:Nat}(r:vU P t=j+1)(s:off+bA (j+1)<=k):
  ∃a,Hh P t ((U4 k n).drop off)=some a/\∀z,b9 K H a z->u6 K H (uK j (iS n off (bA (j+1)))) z:=by
 obtain⟨i,d,l,o,B,p,u⟩:=DD r;have f:bA (j+1)<=((U4 k n).drop off).length:=by rw[cv,Q9];omega
 rcases u with⟨rfl,g⟩|⟨q,rfl,g⟩
 .refine⟨.Dc 0 (P3 n off),?_,fun z h=>?_⟩
  .have hd:(U4 k n).drop off=.Dc 0 (P3 n off)::(U4 k n).drop (off+1):=by
    have c:off<(U4 k n).length:=by rw[Q9];have:bA (0+1)=1:=rfl;omega
    rw[ia c];congr 1;have:=jM (k:=k) (n:=n) (i:=off) (by rw[Q9]at c;exact c)
    rw[ag c]at this;exact cz this
   rw[hd];unfold R0 at g;unfold Hh;rw[o]at g ⊢;cases d with
   |struct y=>cases g
   |array a b=>cases g
   |_=>rfl
  .simp only[b9]at h;refine .inr (.inr ?_);have e:iS n off (bA (0+1))=P3 n off:=by
    show n/cB^off % cB^1=_;rw[fg];rfl
   show j6 H (iS n off (bA (0+1))) z;rw[e];exact h
 .refine⟨.agg (((U4 k n).drop off).take (bA (q+1+1))),?_,fun z h=>?_⟩
  .unfold R0 at g;unfold Hh;rw[o]at g ⊢;cases d with
   |struct y=>simp only[l,Option.isSome_some,km,p,bt];rw[aj f]
   |array a b=>simp only[l,Option.isSome_some,km,p,bt];rw[aj f]
   |_=>cases g
  .rw[Mo s]at h;simp only[b9]at h;obtain⟨cs,rfl,A⟩:=h;exact⟨cs,rfl,Pn (sub_lt _ _ _) A⟩
variable (l8:L4 F K w) (hm:l5 F K H w m) (n6:∀x,u6 K H (ev x) (ρ x))
include l8 hm n6
theorem a0A(o:Oper){t:TypeId}{x:Operand}{f:Nat}(y:o.op=.field t x f)(h:iU P t (ev x) f=.ok v new set rd):z8 P F K H w m nx v new set ((execOp ρ o).run P w):=by
 have s:=n6 x;generalize ev x=X at h s;cases X with
 |a k n=>
  cases b:HV P t f with
  |zero=>unfold iU at h;rw[b]at h;exact l6.noConfusion (show l6.er 92 0=_ from h)
  |succ q=>
   cases g:OD P t f with
   |zero=>unfold iU at h;rw[b,g]at h;exact l6.noConfusion (show l6.er 93 0=_ from h)
   |succ d=>
    unfold iU at h;rw[b,g]at h;obtain⟨i,A⟩:=a8 (show nB (Nat.ble (Nat.add q (bA (Nat.succ d))) k) 94 (xI (uK d (iS n q (bA (Nat.succ d)))))=_ from h);clear h;cases A;have i:q+bA (d+1)<=k:=af i;obtain⟨I,J,B,j,p,L,r⟩:=DE b;obtain⟨cs,e,C⟩:=s;obtain⟨a,D,g2⟩:=yZ (P:=P) (K:=K) (H:=H) (n:=n) (r.symm.trans g) i;obtain⟨z,E,G⟩:=xZ (P:=P) (w:=w) (oR (K:=K) C) D;simp only[execOp,y,e];rw[c8 (x:=z) (w':=w) ?_]
    .exact r8 l8 hm (g2 z G)
    .simp only[Instr.field,au,u7 B,ak,j,asAgg,bg,p,E]
 |c n=>exact l6.noConfusion (show l6.er 91 0=_ from h)
 |t l=>exact l6.noConfusion (show l6.er 95 0=_ from h)
 |u=>exact l6.noConfusion (show l6.er 96 0=_ from h)
end
end Go.Abs
end
