/- Part 2 of the road to this seat's statements: lemmas about a small interpreter over the model's code, and about the functions that it is used on. No condition of its own. -/
import Derived.Deep.Quiet
import Derived.Below
import Derived.RangeFuncRecord
import Derived.Tactics
import Derived.Orders
import Derived.OrdersIn
import Derived.TacticsIn
import Derived.LoopNIn
import Derived.RangeFuncLeaves
import Derived.RangeFuncNested
import Derived.Maps.RangeRun
import Derived.Laws.Cover3
import Derived.Test.YtgohechlcklfkaaGreatW1
set_option linter.all false
section
namespace Go.Abs
section
variable {P:Program} {w:World}
theorem wI{K:j0}:∀ (t:Ty) (x:t.den) (cs:List Value),t.ints=true->s9 K t x cs->cs=t.oP x
 |.int k,n,cs,_,h=>h
 |.bool,_,_,hi,_=>by simp[Ty.ints]at hi
 |.slice _,_,_,hi,_=>by simp[Ty.ints]at hi
 |.pair a b,x,cs,hi,h=>by
  simp only[Ty.ints,Bool.and_eq_true]at hi;obtain⟨e,f,rfl,c,d⟩:=h;rw[wI a _ _ hi.1 c,wI b _ _ hi.2 d];rfl
theorem CY{K:j0}:∀ (t:Ty) (x:t.den),t.ints=true->s9 K t x (t.oP x)
 |.int k,n,_=>rfl
 |.bool,_,hi=>by simp[Ty.ints]at hi
 |.slice _,_,hi=>by simp[Ty.ints]at hi
 |.pair a b,x,hi=>by
  simp only[Ty.ints,Bool.and_eq_true]at hi;exact⟨_,_,rfl,CY a _ hi.1,CY b _ hi.2⟩
def Ty.zip:(t:Ty)->t.den->t.den->List (IntKind×Int×Int)
 |.int k,a,b=>[(k,a,b)]
 |.pair s t,a,b=>s.zip a.1 b.1++t.zip a.2 b.2
 |_,_,_=>[]
theorem pE:∀ (t:Ty) (x y:t.den),t.ints=true->t.oP x=(t.zip x y).map (fun u=>Value.int u.1 u.2.1)/\t.oP y=(t.zip x y).map (fun u=>Value.int u.1 u.2.2)/\t.beq x y=(t.zip x y).all (fun u=>u.2.1==u.2.2)/\(t.zip x y).length=t.size
 |.int k,a,b,_=>by
  refine⟨rfl,rfl,?_,rfl⟩;show Rz a b=_;simp[Ty.zip,Rz]
 |.bool,_,_,hi=>by simp[Ty.ints]at hi
 |.slice _,_,_,hi=>by simp[Ty.ints]at hi
 |.pair s t,x,y,hi=>by
  simp only[Ty.ints,Bool.and_eq_true]at hi;obtain⟨a1,c,d,e⟩:=pE s x.1 y.1 hi.1;obtain⟨f,g,h,i⟩:=pE t x.2 y.2 hi.2;refine⟨?_,?_,?_,?_⟩
  ·show s.oP x.1++t.oP x.2=_;rw[a1,f];simp[Ty.zip]
  ·show s.oP y.1++t.oP y.2=_;rw[c,g];simp[Ty.zip]
  ·show(s.beq x.1 y.1 && t.beq x.2 y.2)=_;rw[d,h];simp[Ty.zip]
  ·simp[Ty.zip,Ty.size,e,i]
theorem beq_eq:∀ (t:Ty) (x y:t.den),t.ints=true->(t.beq x y=true↔x=y)
 |.int k,a,b,_=>by
  show Rz a b=true↔_;exact @beq_iff_eq Int _ _ a b
 |.bool,_,_,hi=>by simp[Ty.ints]at hi
 |.slice _,_,_,hi=>by simp[Ty.ints]at hi
 |.pair s t,x,y,hi=>by
  simp only[Ty.ints,Bool.and_eq_true]at hi;show(s.beq x.1 y.1 && t.beq x.2 y.2)=true↔_;rw[Bool.and_eq_true,beq_eq s _ _ hi.1,beq_eq t _ _ hi.2];constructor
  ·exact fun⟨c,d⟩=>Prod.ext c d
  ·intro h;subst h;exact⟨rfl,rfl⟩
theorem S6{t:TypeId}{mk:MK}(h:gM P t=some mk):∃kt a i,P.underlying t=some (.map kt a)/\mk.kt.ints=true/\P.underlying a=some (.int mk.kv)/\P.info? a=some i/\i.zero=some (.int mk.kv 0)/\
  ((mk.agg=true/\∃e,P.underlying kt=some (.struct e)/\aR P kt mk.kt.size=true)\/(mk.agg=false/\∃k k',P.underlying kt=some (.int k)/\mk.kt=.int k')):=by
 unfold gM at h;split at h
 ·rename_i kt a j;split at h
  ·rename_i ty q i b l hi;split at h
   ·rename_i r z m;split at h
    ·rename_i g;simp only[Option.some.injEq]at h;subst h;simp only[Bool.and_eq_true,decide_eq_true_eq]at g;obtain⟨⟨⟨n,o⟩,p⟩,d⟩:=g;subst o;subst p;refine⟨kt,a,i,j,n,l,hi,m,?_⟩;unfold Ub at d;split at d
     ·rename_i e c;exact .inl ⟨by simp[Q1,c],e,c,d⟩
     ·rename_i k f;refine .inr ⟨by simp[Q1,f],k,k,f,?_⟩
      simp only[X3,f]at b;split at b<;>simp_all
     ·cases d
    ·cases h
   ·cases h
  ·cases h
 ·cases h
theorem rD{K:j0}{H:Nat->Option Hd}{mk:MK}(hi:mk.kt.ints=true){a:a7}{v:Value}{x:mk.kt.den}(h:mk.PL a=some x)(b:c8 K H a v):v=mk.key x:=by
 unfold MK.PL at h;unfold MK.key;cases d:mk.agg with
 |true=>
  rw[d]at h;simp only at h ⊢;split at h
  ·rename_i cs;simp only[c8]at b;obtain⟨c,rfl,e⟩:=b;rw[<-wI _ _ _ hi (kP h e)]
  ·cases h
 |false=>
  rw[d]at h;simp only at h ⊢;have:=wI _ _ _ hi (kP (cs:=[v]) h (.cons b .nil));rw[<-this];rfl
theorem Qa{K:j0}{H:Nat->Option Hd}{mk:MK}(hi:mk.kt.ints=true)(x:mk.kt.den):c8 K H (mk.Q2 x) (mk.key x):=by
 have h:=R4 (H:=H) mk.kt x _ (CY (K:=K) mk.kt x hi);unfold MK.Q2 MK.key;cases f:mk.agg with
 |true=>simp only[c8];exact⟨_,rfl,h⟩
 |false=>
  simp only;have a:=Ty.Q0 mk.kt x;have g:=mk.kt.size_pos;cases b:mk.kt.cells x with
  |nil=>rw[b]at a;simp at a;omega
  |cons c r=>
   rw[b]at h;obtain⟨v,vs,e,d,_⟩:=h.inv;rw[e];exact d
theorem eM{em:Bool}{n:Nat}{cs:Array Value}:∀ (b:List Field) (i:Nat) (l:List (IntKind×Int)),aR.go P b i=true->b.length=l.length->cs.toList.drop i=l.map (fun u=>Value.int u.1 u.2)->
  (forIn b PUnit.unit (fun f _=>(do
   if f.name≠ "_" then
    Instr.checkKey em (n+1) f.type (<-part f.type cs f.offset)
   pure (ForInStep.yield PUnit.unit):Sem (ForInStep PUnit)))).run P w=.ok PUnit.unit w
 |[],i,l,_,_,_=>by simp
 |f::b,i,l,j,k,g=>by
  cases l with
  |nil=>simp at k
  |cons u l=>
   simp only[aR.go,Bool.and_eq_true,decide_eq_true_eq]at j;obtain⟨⟨⟨m,o⟩,d⟩,e⟩:=j;cases c:P.underlying f.type with
   |none=>rw[c]at d;simp at d
   |some p=>
    rw[c]at d;cases p<;>simp at d;rename_i v;have h:Q1 P f.type=false:=by simp[Q1,c]
    simp only[List.map_cons]at g;have q:cs[i]? =some (.int u.1 u.2):=by
     have e:(cs.toList.drop i)[0]? =some (.int u.1 u.2):=by rw[g];rfl
     rw[List.getElem?_drop]at e;simpa using e
    have nx:cs.toList.drop (i+1)=l.map (fun u=>Value.int u.1 u.2):=by rw[<-List.drop_drop,g];rfl
    have r:(part f.type cs f.offset).run P w=.ok (.int u.1 u.2) w:=by
     simp only[part,Sem.run_bind,W7 c,Result.andThen_ok,h,m];simp[q]
    have s:(Instr.checkKey em (n+1) f.type (.int u.1 u.2)).run P w=.ok () w:=by
     simp[Instr.checkKey,run_underlying c]
    have t:=eM (em:=em) (n:=n) b (i+1) l e (by simpa using k) nx
    rw[List.forIn_cons,Sem.run_bind];have a:(do
      if f.name≠ "_" then
       Instr.checkKey em (n+1) f.type (<-part f.type cs f.offset)
      pure (ForInStep.yield PUnit.unit):Sem (ForInStep PUnit)).run P w=.ok (ForInStep.yield PUnit.unit) w:=by
     simp[o,Sem.run_bind,r,s]
    rw[a];simp only[Result.andThen_ok];exact t
theorem fG{t:TypeId}{n:Nat}(h:aR P t n=true):∃a,P.underlying t=some (.struct a)/\a.size=n/\P.stoodInHeld t=false/\aR.go P a.toList 0=true:=by
 unfold aR at h;split at h
 ·rename_i a b;simp only[Bool.and_eq_true,Bool.not_eq_true',decide_eq_true_eq]at h;obtain⟨⟨⟨c,g2⟩,e⟩,d⟩:=h;exact⟨a,b,c,g2,d⟩
 ·cases h
theorem aX{mk:MK}{kt:TypeId}(hi:mk.kt.ints=true)
  (f:(mk.agg=true/\∃d,P.underlying kt=some (.struct d)/\aR P kt mk.kt.size=true)\/(mk.agg=false/\∃k k',P.underlying kt=some (.int k)/\mk.kt=.int k'))(em:Bool)(x:mk.kt.den):
  (Instr.checkKey em 10000 kt (mk.key x)).run P w=.ok () w:=by
 rcases f with⟨b,d,c,g⟩|⟨b,k,k',c,e⟩
 ·obtain⟨h,a,i,q,j⟩:=fG g;rw[c]at a;cases a;obtain⟨l,r,s,m⟩:=pE mk.kt x x hi;unfold MK.key;rw[b];rw[Instr.checkKey];simp only[Sem.run_bind,run_underlying c,Result.andThen_ok];rw[<-Array.forIn_toList];have:=eM (P:=P) (w:=w) (em:=em) (n:=9998) (cs:=(mk.kt.oP x).toArray) d.toList 0 ((mk.kt.zip x x).map fun u=>(u.1,u.2.1)) j (by simp[m,i]) (by simp[l])
  simp at this ⊢;rw[this];rfl
 ·obtain⟨o,p,t⟩:=mk;simp only at b e;subst b;subst e;have:∀n,(Instr.checkKey em (n+1) kt (.int k' x)).run P w=.ok () w:=by
   intro n;simp[Instr.checkKey,run_underlying c]
  exact this 9999
def aV(mk:MK)(x:mk.kt.den):l6 mk.kt->Nat->Option (Nat×Value)
 |[],_=>none
 |e::r,i=>if mk.kt.beq x e.2.1 then some (i,.int mk.kv e.2.2)else aV mk x r (i+1)
theorem cI{mk:MK}{kt:TypeId}(hi:mk.kt.ints=true)
  (p:(mk.agg=true/\∃fs,P.underlying kt=some (.struct fs)/\aR P kt mk.kt.size=true)\/(mk.agg=false/\∃k k',P.underlying kt=some (.int k)/\mk.kt=.int k'))(x:mk.kt.den)(l:l6 mk.kt):
  (Instr.findKey kt (mk.key x) (l.map mk.cU)).run P w=.ok (aV mk x l 0) w:=by
 rcases p with⟨d,fs,a,q⟩|⟨d,k,k',a,n⟩
 ·rw[run_findKey_eq w (by simp[a])]
  obtain⟨s,b,t,u,v⟩:=fG q;rw[a]at b;cases b;have f:∀y:mk.kt.den,(Op.equal kt (mk.key x) (mk.key y)).run P w=.ok (mk.kt.beq x y) w:=by
   intro y;obtain⟨z,A,B,C⟩:=pE mk.kt x y hi;have c:P.fieldsOf kt=fs:=by simp[Program.fieldsOf,a]
   unfold MK.key;rw[d];simp only;unfold Op.equal Op.maxDepth;have g:=aT (P:=P) (w:=w) 9998 (mk.kt.oP x).toArray (mk.kt.oP y).toArray fs.toList 0 (mk.kt.zip x y) v (by simp[C,t]) (by simp[z]) (by simp[A])
   rw[run_equalIn_struct w 9999 kt _ _ (by rw[c];exact a) u,c,g,B]
  have h:∀ (l:l6 mk.kt) (i:Nat),(Instr.findAsking kt (mk.key x) (l.map mk.cU) i).run P w=.ok (aV mk x l i) w:=by
   intro l
   induction l with
   |nil=>intro i;simp[Instr.findAsking,aV]
   |cons e r j=>
    intro i;simp only[List.map_cons,Instr.findAsking,MK.cU,Sem.run_bind,f,Result.andThen_ok,aV];cases o:mk.kt.beq x e.2.1 with
    |true=>simp
    |false=>simpa using j (i+1)
  exact h l 0
 ·obtain⟨D,E,m⟩:=mk;simp only at d n;subst d;subst n;have h:∀ (l:l6 (.int k')) (i:Nat),Instr.findNow (.int k) (.int k' x) (l.map (MK.cU ⟨false,.int k',m⟩)) i=some (aV ⟨false,.int k',m⟩ x l i):=by
   intro l
   induction l with
   |nil=>intro i;rfl
   |cons e r j=>
    intro i;have o:Ty.beq (.int k') x e.2.1=Rz x e.2.1:=rfl;simp only[List.map_cons,Instr.findNow,MK.cU,MK.key,Ty.oP,List.headD_cons,Instr.sameNow,if_true,aV,o,Rz];cases F:(@BEq.beq Int _ x e.2.1)with
    |true=>simp
    |false=>simpa using j (i+1)
  have e:(MK.key ⟨false,.int k',m⟩ x)=.int k' x:=rfl;simp only[Instr.findKey,Sem.run_bind,run_underlying a,Result.andThen_ok,e,h l 0];simp
theorem gW{mk:MK}{x:mk.kt.den}:∀ {l:l6 mk.kt} {i:Nat},aV mk x l i=none->J4 mk.kt l x=false
 |[],_,_=>rfl
 |e::r,i,h=>by
  simp only[aV]at h;split at h
  ·cases h
  ·rename_i a;have:=gW h;simp only[J4]at this ⊢;simp[a,this]
theorem gX{mk:MK}{x:mk.kt.den}:∀ {l:l6 mk.kt} {i p:Nat} {v:Value},aV mk x l i=some (p,v)->∃j e,p=i+j/\l[j]? =some e/\mk.kt.beq x e.2.1=true/\v=.int mk.kv (y8 mk.kt l x)/\J4 mk.kt l x=true/\Bx mk.kt x l=l.eraseIdx j/\
  ∀n,cC mk.kt x n l=l.set j (e.1,x,n)
 |[],_,_,_,h=>by simp[aV]at h
 |e::r,i,p,v,h=>by
  simp only[aV]at h;split at h
  ·rename_i a;simp only[Option.some.injEq,Prod.mk.injEq]at h;obtain⟨rfl,rfl⟩:=h;exact⟨0,e,rfl,rfl,a,by simp[y8,a],by simp[J4,a],by simp[Bx,a],fun n=>by simp[cC,a]⟩
  ·rename_i a;obtain⟨j,c,o,d,f,g,b,k,m⟩:=gX h;refine⟨j+1,c,by omega,by simpa using d,f,by simp[y8,a,g],?_,by simp[Bx,a,k],fun n=>by simp[cC,a,m]⟩
   simp only[J4,List.any_cons]at b ⊢;simp[b]
theorem tA{t:TypeId}{mk:MK}(h:gM P t=some mk){b:Nat}{l:l6 mk.kt}{clk:Nat}(c:w.heap[b]? =some (.map (l.map mk.cU).toArray clk))(x:mk.kt.den)(d:Bool):
  (Instr.lookup t (.map (some b)) (mk.key x) d).run P w=.ok (if d then .tuple #[.int mk.kv (y8 mk.kt l x),.bool (J4 mk.kt l x)]else .int mk.kv (y8 mk.kt l x)) w:=by
 obtain⟨kt,z,i,k,f,A,m,n,g⟩:=S6 h;unfold Instr.lookup;simp only[Sem.run_bind,run_underlying k,Result.andThen_ok,C0 c,Sem.run_pure,aX f g,cI f g];cases a:aV mk x l 0 with
 |none=>
  have hh:=gW a;have o:y8 mk.kt l x=0:=by
   clear a c
   induction l with
   |nil=>rfl
   |cons e r q=>
    simp only[J4,List.any_cons,Bool.or_eq_false_iff]at hh;simp only[y8,hh.1,Bool.false_eq_true,if_false];exact q hh.2
  simp[aJ m n,hh,o]
 |some u=>
  obtain⟨p,v⟩:=u;obtain⟨j,e,B,g2,C,s,y,_⟩:=gX a;simp[s,y]
theorem tD:∀ (l:List (IntKind×Int×Int)) (n:Nat),l.all (fun u=>u.2.1==u.2.2)=true->((l.map (fun u=>Value.int u.1 u.2.1)).zip (l.map (fun u=>Value.int u.1 u.2.2))).all (fun(x,y)=>Instr.sameBits n x y)=true
 |[],_,_=>rfl
 |u::l,n,h=>by
  simp only[List.all_cons,Bool.and_eq_true]at h;simp only[List.map_cons,List.zip_cons_cons,List.all_cons,Bool.and_eq_true];refine⟨?_,tD l n h.2⟩;cases n<;>simp[Instr.sameBits]<;>simpa using h.1
theorem oB{mk:MK}(hi:mk.kt.ints=true)(a:mk.agg=false->∃k',mk.kt=.int k'){x y:mk.kt.den}(h:mk.kt.beq x y=true):(Instr.keyThatStays (mk.key y) (mk.key x)).run P w=.ok (mk.key x) w:=by
 have e:=(beq_eq mk.kt x y hi).1 h;subst e;have:Instr.sameBits 10000 (mk.key x) (mk.key x)=true:=by
  unfold MK.key;obtain⟨b,c,d,j⟩:=pE mk.kt x x hi;cases f:mk.agg with
  |true=>
   simp only[Instr.sameBits];rw[d]at h;have:=tD (mk.kt.zip x x) 9999 h;rw[<-b,<-c]at this;simpa using this
  |false=>
   obtain⟨k',e⟩:=a f;obtain⟨g,i,k⟩:=mk;simp only at e;subst e;simp only[Ty.oP,Instr.sameBits,List.headD_cons,beq_self_eq_true,Bool.true_and];exact @beq_self_eq_true Int _ _ x
 simp[Instr.keyThatStays,this]
theorem lF{t:TypeId}{mk:MK}(s:gM P t=some mk){b:Nat}{l:l6 mk.kt}{clk:Nat}(c:w.heap[b]? =some (.map (l.map mk.cU).toArray clk))(x:mk.kt.den)(n:Int):
  (Instr.mapUpdate t (.map (some b)) (mk.key x) (.int mk.kv n)).run P w=.ok () (w.putObj b (.map ((M0 mk.kt l clk x n).map mk.cU).toArray (P3 mk.kt l clk x))):=by
 obtain⟨kt,F,i,y,d,G,H,I,f⟩:=S6 s;unfold Instr.mapUpdate;simp only[Sem.run_bind,run_underlying y,Result.andThen_ok,C0 c,aX d f,cI d f];cases o:aV mk x l 0 with
 |none=>
  have hh:=gW o;simp only[M0,P3,hh,Bool.false_eq_true,if_false];rw[E9 c];simp[MK.cU]
 |some u=>
  obtain⟨p,v⟩:=u;obtain⟨j,e,J,g2,z,K,A,L,B⟩:=gX o;have g:p=j:=by omega
  subst g;have C:(l.map mk.cU).toArray[p]? =some (mk.cU e):=by simp[g2]
  have m:=oB (P:=P) (w:=w) d (fun D=>by
   rcases f with⟨h,_⟩|⟨_,k,k',_,E⟩
   ·rw[D]at h;cases h
   ·exact⟨k',E⟩) z
  simp only[M0,P3,A,if_true,C,Option.map_some,Option.getD_some,Sem.run_bind];rw[show(mk.cU e).key=mk.key e.2.1 from rfl,m];simp only[Result.andThen_ok];rw[E9 c,B];congr 3;apply Array.ext';rw[Array.toList_modify];simp only[];rw[List.map_set];apply List.ext_getElem?;intro q;rw[List.getElem?_modify,List.getElem?_set];by_cases r:p=q
  ·subst r;have a:p<l.length:=by
    rcases Nat.lt_or_ge p l.length with h|h
    ·exact h
    ·rw[List.getElem?_eq_none h]at g2;cases g2
   rw[List.getElem?_eq_getElem a]at g2;cases g2;simp[a,MK.cU]
  ·simp[r]
theorem CZ{mk:MK}{x:mk.kt.den}:∀ {l:l6 mk.kt} {i p:Nat} {v:Value} (clk:Nat),aV mk x l i=some (p,v)->∃j e,p=i+j/\l[j]? =some e/\M8 mk.kt l clk x=e.1/\y8 mk.kt l x=e.2.2
 |[],_,_,_,_,h=>by simp[aV]at h
 |e::r,i,p,v,clk,h=>by
  simp only[aV]at h;split at h
  ·rename_i a;simp only[Option.some.injEq,Prod.mk.injEq]at h;exact⟨0,e,by omega,rfl,by simp[M8,a],by simp[y8,a]⟩
  ·rename_i a;obtain⟨j,b,g,c,d,f⟩:=CZ clk h;exact⟨j+1,b,by omega,by simpa using c,by simp[M8,a,d],by simp[y8,a,f]⟩
theorem Da{mk:MK}{x:mk.kt.den}{clk:Nat}:∀ {l:l6 mk.kt} {i:Nat},aV mk x l i=none->M8 mk.kt l clk x=clk/\y8 mk.kt l x=0
 |[],_,_=>⟨rfl,rfl⟩
 |e::r,i,h=>by
  simp only[aV]at h;split at h
  ·cases h
  ·rename_i a;have:=Da (clk:=clk) h;simp[M8,y8,a,this]
theorem pF{mk:MK}{l:l6 mk.kt}{p:Nat}{e:Nat×mk.kt.den×Int}(g2:l[p]? =some e)(f:MapEntry->MapEntry)(b:Nat×mk.kt.den×Int)(d:f (mk.cU e)=mk.cU b):
  (l.map mk.cU).toArray.modify p f=((l.set p b).map mk.cU).toArray:=by
 apply Array.ext';rw[Array.toList_modify];simp only[];rw[List.map_set];apply List.ext_getElem?;intro q;rw[List.getElem?_modify,List.getElem?_set];by_cases c:p=q
 ·subst c;have a:p<l.length:=by
   rcases Nat.lt_or_ge p l.length with h|h
   ·exact h
   ·rw[List.getElem?_eq_none h]at g2;cases g2
  rw[List.getElem?_eq_getElem a]at g2;cases g2;simp[a,d]
 ·simp[c]
theorem BD{t:TypeId}{mk:MK}(q:gM P t=some mk){b:Nat}{l:l6 mk.kt}{clk:Nat}(c:w.heap[b]? =some (.map (l.map mk.cU).toArray clk))(x:mk.kt.den):
  (Instr.mapEntry t (.map (some b)) (mk.key x)).run P w=.ok (.tuple #[.int mk.kv (y8 mk.kt l x),.int .i64 (M8 mk.kt l clk x:Int)]) (w.putObj b (.map ((M0 mk.kt l clk x (y8 mk.kt l x)).map mk.cU).toArray (P3 mk.kt l clk x))):=by
 obtain⟨kt,K,i,r,d,L,s,y,f⟩:=S6 q;unfold Instr.mapEntry;simp only[Sem.run_bind,run_underlying r,Result.andThen_ok,C0 c,aX d f,cI d f];cases a:aV mk x l 0 with
 |none=>
  have hh:=gW a;obtain⟨z,A⟩:=Da (clk:=clk) a;simp only[M0,P3,hh,Bool.false_eq_true,if_false,z,A,aJ s y,Sem.run_bind,Result.andThen_ok];rw[E9 c];simp[MK.cU,goInt]
 |some u=>
  obtain⟨p,v⟩:=u;obtain⟨j,e,M,g2,B,C,D,N,E⟩:=gX a;obtain⟨j',O,R,o,F,G⟩:=CZ clk a;have g:p=j:=by omega
  subst g;have m:p=j':=by omega
  subst m;rw[g2]at o;cases o;have H:(l.map mk.cU).toArray[p]? =some (mk.cU e):=by simp[g2]
  have n:=oB (P:=P) (w:=w) d (fun I=>by
   rcases f with⟨h,_⟩|⟨_,k,k',_,J⟩
   ·rw[I]at h;cases h
   ·exact⟨k',J⟩) B
  simp only[M0,P3,D,if_true,H,Option.map_some,Option.getD_some,Sem.run_bind];rw[show(mk.cU e).key=mk.key e.2.1 from rfl,n];simp only[Result.andThen_ok];rw[E9 c,E,pF g2 _ (e.1,x,y8 mk.kt l x) (by simp[MK.cU,G]),C,F]
  simp[MK.cU,goInt]
theorem Gy{mk:MK}{s:Nat}:∀ {l:l6 mk.kt},Cv mk.kt l s=true->∃p e,(l.map mk.cU).findIdx? (fun e=>(e.born:Int)==(s:Int))=some p/\l[p]? =some e/\∀n,eJ mk.kt l s n=l.set p (e.1,e.2.1,n)
 |[],h=>by simp[Cv]at h
 |e::r,h=>by
  have a:Nat.beq e.1 s=((e.1:Int)==(s:Int)):=by
   rw[Bool.eq_iff_iff];simp[Nat.beq_eq];omega
  simp only[List.map_cons,List.findIdx?_cons,eJ,a];have b:(mk.cU e).born=e.1:=rfl;rw[b];cases c:((e.1:Int)==(s:Int))with
  |true=>exact⟨0,e,by simp,rfl,fun n=>by simp⟩
  |false=>
   have d:Cv mk.kt r s=true:=by
    simp only[Cv,List.any_cons,a,c,Bool.false_or]at h;exact h
   obtain⟨p,f,g,i,j⟩:=Gy d;refine⟨p+1,f,?_,by simpa using i,fun n=>by simp[j]⟩
   rw[g];simp
theorem wJ{t:TypeId}{mk:MK}{b:Nat}{l:l6 mk.kt}{clk:Nat}(a:w.heap[b]? =some (.map (l.map mk.cU).toArray clk)){s:Nat}(c:Cv mk.kt l s=true)(n:Int):
  (Instr.entryStore t (.map (some b)) (.int .i64 (s:Int)) (.int mk.kv n)).run P w=.ok () (w.putObj b (.map ((eJ mk.kt l s n).map mk.cU).toArray clk)):=by
 obtain⟨p,e,d,f,g⟩:=Gy c;unfold Instr.entryStore;simp only[Sem.run_bind,Sem.run_pure,Result.andThen_ok,C0 a,asInt,asIntOf,List.findIdx?_toArray,d];rw[E9 a,g,pF f _ (e.1,e.2.1,n) (by simp[MK.cU])]
theorem Gz{α β:Type}(f:α->β):∀ (l:List α) (i:Nat),(l.map f).eraseIdx i=(l.eraseIdx i).map f
 |[],_=>rfl
 |_::_,0=>rfl
 |a::l,i+1=>by simp[Gz f l i]
theorem FM{t u ty:TypeId}{mk:MK}(h:gM P t=some mk){b:Nat}{l:l6 mk.kt}{clk:Nat}(a:w.heap[b]? =some (.map (l.map mk.cU).toArray clk))(x:mk.kt.den):
  (Builtin.delete_ #[t,u] ty #[.map (some b),mk.key x]).run P w=.ok (.tuple #[]) (w.putObj b (.map ((Bx mk.kt x l).map mk.cU).toArray clk)):=by
 obtain⟨kt,y,i,k,f,z,A,B,g⟩:=S6 h;unfold Builtin.delete_;have m:(#[t,u]:Array TypeId)[0]? =some t:=rfl;have n:(#[Value.map (some b),mk.key x]:Array Value)[0]? =some (.map (some b)):=rfl;have o:(#[Value.map (some b),mk.key x]:Array Value)[1]? =some (mk.key x):=rfl;simp only[m,n,o,Sem.run_bind,run_underlying k,Result.andThen_ok,C0 a,aX f g,cI f g];cases c:aV mk x l 0 with
 |none=>
  have hh:=gW c;have hd:Bx mk.kt x l=l:=by
   clear c a
   induction l with
   |nil=>rfl
   |cons e r q=>
    simp only[J4,List.any_cons,Bool.or_eq_false_iff]at hh;simp only[Bx,hh.1,Bool.false_eq_true,if_false];rw[q hh.2]
  simp[E9 a,hd]
 |some u=>
  obtain⟨p,v⟩:=u;obtain⟨j,e,C,g2,D,E,F,s,G⟩:=gX c;have d:p=j:=by omega
  subst d;simp[E9 a,s,Gz]
end
theorem L5{w:World}{l:Nat}{o o':Obj}(h:w.heap[l]? =some o)(b:Nat):(w.putObj l o').heap[b]? =if b=l then some o' else w.heap[b]? :=by
 by_cases e:b=l
 ·subst e;rw[if_pos rfl];exact World.putObj_heap_same (u5 h)
 ·rw[if_neg e];exact World.putObj_heap_other e
theorem eC{G:Nat->Prop}{w:World}{l:Nat}{o o':Obj}(h:w.heap[l]? =some o)(a:¬G l):Kept G w (w.putObj l o'):=
 ⟨rfl,rfl,rfl,by simp,fun b c=>by
  rw[L5 h,if_neg (fun(e:b=l)=>a (e▸c))],Nat.le_refl _⟩
theorem Db{F:Nat->Prop}{K:j0}{w:World}{l:Nat}{o o':Obj}(a:J0 F K w)(h:w.heap[l]? =some o)(i:∀cs e d,o≠ .cells cs e d)(hi:K.inv l=none):J0 F K (w.putObj l o'):=by
 refine⟨⟨fun b cs j=>?_,fun b p f=>?_⟩,fun b k=>?_,a.inv,a.apart⟩
 ·obtain⟨e,d,c⟩:=a.y6.1 b cs j;refine⟨e,d,?_⟩;rw[L5 h,if_neg]
  ·exact c
  ·intro g;subst g;rw[h]at c;exact i _ _ _ (Option.some.inj c)
 ·obtain⟨m,c,n⟩:=a.y6.2 b p f;refine⟨m,?_,n⟩;rw[L5 h,if_neg]
  ·exact c
  ·intro g;subst g;rw[hi]at f;cases f
 ·have:=a.lt b k;simpa using this
theorem bH{F:Nat->Prop}{K:j0}{H:Nat->Option Hd}{w:World}{m:Mm}(d:J0 F K w)(i:j8 F K H w m){r:Nat}{c c':c7}{hd:Hd}{b:Nat}{o o':Obj}(a:m r=some (c,.own))(j:H r=some hd)(k:hd.base=some b)
  (hh:w.heap[b]? =some o)(l:∀cs e n,o≠ .cells cs e n)(f:c'.isCells=false)(p:o8 K H (w.putObj b o') hd c'):
  j8 F K H (w.putObj b o') (S0 m r (c',.own))/\J0 F K (w.putObj b o')/\Kept F w (w.putObj b o'):=by
 obtain⟨q,t,s,_⟩:=i.own r c hd b a j k;refine⟨i.XW r c c' hd b a j k (fun u g=>?_) (fun h=>by rw[f]at h;cases h) p,Db d hh l s,eC hh q⟩
 rw[L5 hh,if_neg g]
end Go.Abs
end
section
set_option linter.unusedVariables false
namespace Go.Abs
def Still{α:Type}:Sem α->Prop
 |.pure _=>True
 |.load _ _ k=>∀v,Still (k v)
 |.program k=>∀p,Still (k p)
 |.shape _ k=>∀s,Still (k s)
 |.getObj _ k=>∀o,Still (k o)
 |.halt _=>True
 |_=>False
theorem gY{α β:Type}:∀ (s:Sem α) {f:α->Sem β},Still s->(∀a,Still (f a))->Still (s.bind f)
 |.pure a,f,_,h=>h a
 |.load m a k,f,b,h=>fun v=>gY (k v) (b v) h
 |.program k,f,b,h=>fun p=>gY (k p) (b p) h
 |.halt x,f,_,_=>trivial
 |.store ..,_,b,_=>b.elim
 |.new ..,_,b,_=>b.elim
 |.shape r k,f,b,h=>fun s=>gY (k s) (b s) h
 |.freeze ..,_,b,_=>b.elim
 |.frozen ..,_,b,_=>b.elim
 |.getObj r k,f,b,h=>fun o=>gY (k o) (b o) h
 |.setObj ..,_,b,_=>b.elim
 |.choose ..,_,b,_=>b.elim
 |.sys ..,_,b,_=>b.elim
 |.mark ..,_,b,_=>b.elim
theorem z5{α β:Type}{s:Sem α}{f:α->Sem β}(b:Still s)(h:∀a,Still (f a)):Still (s>>=f):=gY s b h
theorem fW{α:Type}{P:Program}:∀ (s:Sem α) {w w':World} {a:α},Still s->s.run P w=.ok a w'->w'=w/\∀n,s.run P {w with drawn:=n}=.ok a {w with drawn:=n}
 |.pure a,w,w',b,_,h=>by
  simp only[Sem.run,Result.ok.injEq]at h;obtain⟨rfl,rfl⟩:=h;exact⟨rfl,fun n=>by simp[Sem.run]⟩
 |.load m a k,w,w',b,c,h=>by
  unfold Sem.run at h;have p:∀n,World.cell? {w with drawn:=n} a=w.cell? a:=fun n=>rfl
  have q:∀n,World.farLoad P {w with drawn:=n} a (m==.atomic)=World.farLoad P w a (m==.atomic):=fun n=>by
   unfold World.farLoad;rfl
  cases g:w.cell? a with
  |some v=>
   rw[g]at h;obtain⟨d,f⟩:=fW (k v) (c v) h;refine⟨d,fun n=>?_⟩
   unfold Sem.run;rw[p,g];exact f n
  |none=>
   rw[g]at h;simp only at h;cases i:World.farLoad P w a (m==.atomic)with
   |ok x=>
    rw[i]at h;obtain⟨v,l⟩:=x;obtain⟨d,f⟩:=fW (k v) (c v) h;refine⟨d,fun n=>?_⟩
    unfold Sem.run;rw[p,g];simp only;rw[q,i];exact f n
   |error e=>
    rw[i]at h;simp at h
 |.program k,w,w',b,c,h=>by
  simp only[Sem.run]at h;obtain⟨d,f⟩:=fW (k P) (c P) h;exact⟨d,fun n=>by simp only[Sem.run];exact f n⟩
 |.halt x,w,w',b,_,h=>by simp[Sem.run]at h
 |.store ..,_,_,_,c,_=>c.elim
 |.new ..,_,_,_,c,_=>c.elim
 |.shape r k,w,w',b,c,h=>by
  simp only[Sem.run]at h;obtain⟨d,f⟩:=fW (k (w.shape? r)) (c _) h;exact⟨d,fun n=>by simp only[Sem.run];exact f n⟩
 |.freeze ..,_,_,_,c,_=>c.elim
 |.frozen ..,_,_,_,c,_=>c.elim
 |.getObj r k,w,w',b,c,h=>by
  unfold Sem.run at h;cases j:w.heap[r]? with
  |none=>rw[j]at h;simp at h
  |some o=>
   rw[j]at h;cases o<;>simp only at h<;>(try (exact absurd h (by simp)))
   all_goals
    obtain⟨d,f⟩:=fW _ (c _) h;refine⟨d,fun n=>?_⟩
    unfold Sem.run;show(match w.heap[r]? with|_=>_)=_
    simp only[j];exact f n
 |.setObj ..,_,_,_,c,_=>c.elim
 |.choose ..,_,_,_,c,_=>c.elim
 |.sys ..,_,_,_,c,_=>c.elim
 |.mark ..,_,_,_,c,_=>c.elim
theorem kD:Still (program:Sem Program):=fun p=>trivial
theorem lG(t:TypeId):Still (underlying t):=by
 refine z5 kD (fun p=>?_)
 split
 ·trivial
 ·trivial
theorem Dc(t:TypeId):Still (typeInfo t):=by
 refine z5 kD (fun p=>?_)
 split
 ·trivial
 ·trivial
theorem wK(t:TypeId):Still (sizeOf t):=z5 (Dc t) (fun _=>trivial)
theorem JV(t:TypeId):Still (isAgg t):=by
 refine z5 (lG t) (fun d=>?_)
 split<;>trivial
theorem Dd(a:Addr):Still (load a):=fun v=>trivial
theorem oC(a:Addr):∀ (n i:Nat) (b:Array Value),Still (loadCellsFrom a i n b)
 |0,_,_=>trivial
 |n+1,i,b=>z5 (Dd _) (fun v=>oC a n (i+1) _)
theorem FN(t:TypeId)(a:Addr):Still (loadVar t a):=by
 refine z5 (JV t) (fun b=>?_)
 split
 ·exact z5 (wK t) (fun n=>z5 (oC a n 0 _) (fun _=>trivial))
 ·exact Dd a
theorem pG(v:Value):Still (Instr.sureAddr v):=by
 unfold Instr.sureAddr;split<;>trivial
theorem Ib(t:TypeId)(v:Value):Still (Instr.loadAt t v):=z5 (pG v) (fun a=>FN t a)
theorem Ic(a:Addr):Still (noView a):=by
 unfold noView;refine z5 ?_ (fun _=>?_)
 ·unfold viewAt;refine z5 (fun s=>trivial) (fun s=>?_)
  split
  ·trivial
  ·refine z5 (fun o=>trivial) (fun o=>?_)
   split<;>trivial
 ·split<;>trivial
theorem wL(a:Addr):Still (byteOf a):=by
 unfold byteOf;split
 ·trivial
 ·refine z5 kD (fun p=>z5 (Ic a) (fun _=>z5 (fun s=>trivial) (fun s=>?_)))
  split
  ·dsimp only;split
   ·trivial
   ·split<;>trivial
  ·trivial
theorem Ie(a:Addr)(n m:Nat):Still (partAt a n m):=by
 unfold partAt;exact z5 (wL a) (fun _=>z5 (wL _) (fun _=>trivial))
theorem FO(s:TypeId)(v:Value)(f:Nat):Still (Instr.fieldAt s v f):=by
 unfold Instr.fieldAt;refine z5 (lG s) (fun d=>?_)
 split
 ·split
  ·refine z5 (pG v) (fun a=>z5 ?_ (fun _=>trivial))
   unfold fieldPlace;refine z5 (wK _) (fun _=>?_)
   split
   ·exact Ie _ _ _
   ·trivial
  ·trivial
 ·trivial
theorem FP(v:Value)(i:Nat):Still (Instr.extract v i):=by
 unfold Instr.extract;split
 ·split<;>trivial
 ·trivial
end Go.Abs
end
section
namespace Go.Abs
structure De(F:Nat->Prop)(K:j0)(H:Nat->Option Hd)(w:World)(m:Mm)(wr:W)(w':World):Prop where
 mem:j8 F K H w' (iS m wr.set)
 ok:J0 F K w'
 kept:Kept F w w'
def gZ(F:Nat->Prop)(K:j0)(H:Nat->Option Hd)(w:World)(m:Mm)(k:W->Prop):Result Next->Prop
 |.ok (.value v) w'=>∃a,k a/\De F K H w m a w'/\c8 K H a.val v
 |.ok .skip w'=>∃a,k a/\De F K H w m a w'/\a.val=.R3
 |_=>False
section
variable {P:Program} {F:Nat->Prop} {K:j0} {H:Nat->Option Hd} {w:World} {m:Mm} {k:W->Prop} {ev:Operand->a7} {ρ:Operand->Value}
theorem J0.S0(l9:J0 F K w){w':World}{b:Nat}{cs:Array Value}{e:TypeId}(h:HG w w' b cs e)(r:K.cells b=none)(s:K.inv b=none):J0 F K w':=by
 refine⟨⟨fun a f c=>?_,fun a p g=>?_⟩,fun a i=>by rw[h.size];exact l9.lt a i,l9.inv,l9.apart⟩
 ·obtain⟨j,l,q⟩:=l9.y6.1 a f c;have d:a≠b:=by intro n;subst n;rw[r]at c;cases c
  exact⟨j,l,by rw[h.other a d];exact q⟩
 ·obtain⟨o',q,o⟩:=l9.y6.2 a p g;have d:a≠b:=by intro n;subst n;rw[s]at g;cases g
  exact⟨o',by rw[h.other a d];exact q,o⟩
theorem Q7(l9:J0 F K w)(hm:j8 F K H w m){r:Nat}{c c':c7}{hd:Hd}{b:Nat}(a:m r=some (c,.own))(d:H r=some hd)(f:hd.base=some b){w':World}{cs:Array Value}{e:TypeId}(h:HG w w' b cs e)
  (g:o8 K H w' hd c')(i:List Nat)(j:a7):De F K H w m ⟨[(r,(c',.own))],i,j⟩ w':=by
 obtain⟨l,n,o,_⟩:=hm.own r c hd b a d f;exact⟨hm.XW r c c' hd b a d f h.other (fun _=>⟨cs,e,h.here⟩) g,l9.S0 h n o,h.kept l⟩
theorem cJ{cs:Array Value}{o p n:Nat}{vs:List Value}(h:o+vs.length<=cs.size)(hd:p+n<=o\/o+vs.length<=p):u0 (G1 cs o vs) p n=u0 cs p n:=by
 apply List.ext_getElem?;intro j;by_cases a:j<n
 ·rw[O3 a,O3 a,gG _ _ _ _ h,if_neg (by omega)]
 ·rw[List.getElem?_eq_none (by simp[u0];omega),List.getElem?_eq_none (by simp[u0];omega)]
theorem pH{cs:Array Value}{p n j:Nat}{vs:List Value}(h:p+n<=cs.size)(c:j+vs.length<=n):u0 (G1 cs (p+j) vs) p n=(u0 cs p n).take j++vs++(u0 cs p n).drop (j+vs.length):=by
 have a:p+j+vs.length<=cs.size:=by omega
 apply List.ext_getElem?;intro i;have d:(u0 cs p n).length=n:=JE h;by_cases hi:i<n
 ·rw[O3 hi,gG _ _ _ _ a];by_cases b:i<j
  ·rw[if_neg (by omega),List.getElem?_append_left (by simp;omega),List.getElem?_append_left (by simp;omega),List.getElem?_take_of_lt b,O3 hi]
  ·by_cases e:i<j+vs.length
   ·rw[if_pos (by omega),List.getElem?_append_left (by simp;omega),List.getElem?_append_right (by simp;omega)]
    congr 1;simp;omega
   ·rw[if_neg (by omega),List.getElem?_append_right (by simp;omega),List.getElem?_drop,<-O3 (o:=p) hi]
    congr 1;simp;omega
 ·rw[List.getElem?_eq_none (by simp[u0];omega),List.getElem?_eq_none (by simp;omega)]
theorem dI{t:TypeId}{v:Value}{b off:Nat}{cs:Array Value}{e:TypeId}(c:v.cells.toList.length=j7 P t)(j:0<v.cells.toList.length)(d:w.heap[b]? =some (.cells cs e (0,0)))(l:off+v.cells.toList.length<=cs.size)
  (f:∀x∈v.cells.toList,one x=true):∃w',(Instr.storeAt t (.pointer (some ⟨b,off,none⟩)) v).run P w=.ok () w'/\HG w w' b (G1 cs off v.cells.toList) e:=by
 obtain⟨i,hi,a⟩:=N3 (P:=P) (t:=t) (by omega)
 obtain⟨w',g,h⟩:=Abs.G9 P b off e v.cells.toList w cs 0 d (by omega) f
 refine⟨w',?_,by simpa using h⟩
 simp only[Instr.storeAt,Instr.sureAddr,Sem.run_bind,Sem.run_pure,Result.andThen_ok,storeVar,M1 hi,a];rw[if_neg (by simp at c ⊢;omega)]
 exact g
theorem kE{s:Sem Unit}{w':World}(h:s.run P w=.ok () w'):(do s;pure Next.skip:Sem Next).run P w=.ok .skip w':=by
 simp[h]
variable (l9:J0 F K w) (hm:j8 F K H w m) (n0:∀x,c8 K H (ev x) (ρ x))
include l9 hm n0
theorem Yr(o:Oper){t:TypeId}{a x:Operand}(ho:o.op=.store t a x)(h:match ev a with
  |.O2 r=>(match m r,ev x with
   |some (.sl ty' l,.own),.V5 ty X=>if h:ty=ty' then X.length=l.length/\X.length*ty.size=j7 P t/\0<l.length/\k ⟨[(r,(.sl ty' (h▸X),.own))],[r],.R3⟩else False
   |_,_=>False)
  |.ptr r off=>(match m r,(typed P t (ev x)).parts with
   |some (.box cells,.own),some xs=>if xs.length=j7 P t/\0<xs.length/\off+xs.length<=cells.length/\gI xs=true then
    k ⟨[(r,(.box (cells.take off++xs++cells.drop (off+xs.length)),.own))],[r],.R3⟩else False
   |some (.bx p ty n l q,.own),some xs=>if xs.length=j7 P t/\0<xs.length/\gI xs=true then MX p ty n l q off xs (fun c=>k ⟨[(r,(c,.own))],[r],.R3⟩)else False
   |_,_=>False)
  |.P9 r i j=>(match m r,(typed P t (ev x)).parts with
   |some (.sl ty l,.own),some xs=>if xs.length=j7 P t/\0<xs.length/\j+xs.length<=ty.size/\gI xs=true then ∃h:i<l.length,
    (match ty.whole ((ty.cells l[i]).take j++xs++(ty.cells l[i]).drop (j+xs.length))with
    |some x'=>k ⟨[(r,(.sl ty (l.set i x'),.own))],[r],.R3⟩
    |none=>False)else False
   |some (.bx p ty n l q,.own),some xs=>if xs.length=j7 P t/\0<xs.length/\(p.length<=j/\j- p.length+xs.length<=ty.size)/\gI xs=true then ∃h:i<l.length,
    (match ty.whole ((ty.cells l[i]).take (j- p.length)++xs++(ty.cells l[i]).drop (j- p.length+xs.length))with
    |some x'=>k ⟨[(r,(.bx p ty n (l.set i x') q,.own))],[r],.R3⟩
    |none=>False)else False
   |_,_=>False)
  |_=>False):gZ F K H w m k ((execOp ρ o).run P w):=by
 have Y:=n0 a;have hx:=n0 x;split at h
 ·rename_i r he;rw[he]at Y;simp only[c8]at Y;obtain⟨hd,b,E,A,h3,e1⟩:=Y;split at h
  ·rename_i ty' l ty X f hex;split at h
   ·rename_i hty;subst hty;obtain⟨g1,g2,g3,h⟩:=h;rw[hex]at hx;simp only[c8]at hx;obtain⟨BL,e2,e3,e4⟩:=hx;obtain⟨z,c2,R,c4⟩:=hm.cont r _ .own hd f (by simp) E
    obtain⟨_,_,_,B⟩:=hm.own r _ hd b f E A;obtain⟨cs,e,hh⟩:=B rfl;rcases c4 with⟨c4,_⟩|⟨b',Z,e',fz,J,L,q3,q4⟩
    ·rw[A]at c4;cases c4
    ·rw[A]at J;cases J;rw[hh]at L;cases L;have a8r:∀y∈(ρ x).cells.toList,one y=true:=by
      rw[e2];have hel:=e4.zB (by rw[Nat.zero_add,e3];exact Nat.le_refl _)
      have hs:u0 BL 0 (X.length*ty.size)=BL.toList:=by
       unfold u0;rw[List.drop_zero,List.take_of_length_le];simp;omega
      rw[hs]at hel;exact fun y hy=>wB (dG hel y hy)
     have u:(ρ x).cells.toList.length=X.length*ty.size:=by rw[e2];simp[Value.cells,e3]
     have b3l:0<X.length*ty.size:=Nat.mul_pos (by omega) ty.size_pos
     have M:X.length*ty.size<=cs.size:=by
      refine Nat.le_trans ?_ q3;exact Nat.mul_le_mul_right _ (by omega)
     obtain⟨w',S,g⟩:=dI (P:=P) (t:=t) (v:=ρ x) (off:=0) (by omega) (by omega) hh (by omega) a8r
     simp only[execOp,ho,e1];rw[kE S];refine⟨_,h,Q7 l9 hm f E A g ?_ [r] _,rfl⟩;refine⟨z,by rw[c2,g1],R,.inr ⟨b,_,_,(0,0),A,g.here,by rw[J7];exact q3,?_⟩⟩
     intro i hi;have:=e4 i hi;have hle:(i+1)*ty.size<=X.length*ty.size:=Nat.mul_le_mul_right _ hi;rw[Nat.add_mul]at hle;have hsl:u0 (G1 cs 0 (ρ x).cells.toList) (0+i*ty.size) ty.size=u0 BL (0+i*ty.size) ty.size:=by
      apply List.ext_getElem?;intro j;by_cases hj:j<ty.size
      ·rw[O3 hj,O3 hj,gG _ _ _ _ (by omega),if_pos (by omega),e2]
       simp[Value.cells]
      ·rw[List.getElem?_eq_none (by simp[u0];omega),List.getElem?_eq_none (by simp[u0];omega)]
     rw[hsl];exact this
   ·exact absurd h id
  ·exact absurd h id
 ·rename_i r off he;rw[he]at Y;simp only[c8]at Y;obtain⟨hd,b,E,A,e1⟩:=Y;split at h
  ·rename_i cells xs f G;split at h
   ·rename_i hc;obtain⟨g1,g2,g3,g4⟩:=hc;have s:=dE G (Z5 (P:=P) (t:=t) hx);have u:=c9.length s;obtain⟨b',cs,e',fz,J,L,q3⟩:=hm.cont r _ .own hd f (by simp) E
    rw[A]at J;cases J;obtain⟨_,_,_,B⟩:=hm.own r _ hd b f E A;obtain⟨Z,e,hh⟩:=B rfl;rw[hh]at L;cases L;have B:=c9.length q3;simp only[Array.length_toList]at B;obtain⟨w',S,g⟩:=dI (P:=P) (t:=t) (v:=ρ x) (off:=off) (by omega) (by omega) hh (by omega) (dF g4 s)
    simp only[execOp,ho,e1];rw[kE S];refine⟨_,h,Q7 l9 hm f E A g ?_ [r] _,rfl⟩;refine⟨b,_,_,(0,0),A,g.here,?_⟩;rw[G2 _ _ _ (by omega),u]
    exact c9.append (c9.append (c9.take _ q3) s) (c9.drop _ q3)
   ·exact absurd h id
  ·rename_i p ty n l q xs f G;split at h
   ·rename_i hc;obtain⟨g1,g2,g4⟩:=hc;have s:=dE G (Z5 (P:=P) (t:=t) hx);have u:=c9.length s;obtain⟨c0,hn,b',cs,e',fz,z,c2,R,J,L,q3,q4,q5,q6⟩:=hm.cont r _ .own hd f (by simp) E
    rw[A]at J;cases J;obtain⟨_,_,_,B⟩:=hm.own r _ hd b f E A;obtain⟨Z,e,hh⟩:=B rfl;rw[hh]at L;cases L;have l1:=c9.length q4;have l3:=c9.length q6;have XK:cs.size=z.length+c2.length+R.length:=by
     have:=congrArg List.length q3;simp at this;omega
    unfold MX at h;split at h
    ·rename_i N;obtain⟨w',S,g⟩:=dI (P:=P) (t:=t) (v:=ρ x) (off:=off) (by omega) (by omega) hh (by omega) (dF g4 s)
     simp only[execOp,ho,e1];rw[kE S];refine⟨_,h,Q7 l9 hm f E A g ?_ [r] _,rfl⟩;refine⟨c0,hn,b,_,_,(0,0),z.take off++(ρ x).cells.toList++z.drop (off+(ρ x).cells.toList.length),c2,R,A,g.here,?_,?_,q5,q6⟩
     ·rw[G2 _ _ _ (by omega),q3]
      rw[List.append_assoc z,List.take_append_of_le_length (by omega),List.drop_append_of_le_length (by omega)]
      simp only[List.append_assoc]
     ·rw[u];exact c9.append (c9.append (c9.take _ q4) s) (c9.drop _ q4)
    ·split at h
     ·rename_i _ N;have e2:off=z.length+(c2.length+(off- (p.length+n*ty.size))):=by rw[q5.1,hn];omega
      obtain⟨w',S,g⟩:=dI (P:=P) (t:=t) (v:=ρ x) (off:=off) (by omega) (by omega) hh (by omega) (dF g4 s)
      simp only[execOp,ho,e1];rw[kE S];refine⟨_,h,Q7 l9 hm f E A g ?_ [r] _,rfl⟩;generalize off- (p.length+n*ty.size)=d at N e2 ⊢;refine⟨c0,hn,b,_,_,(0,0),z,c2,R.take d++(ρ x).cells.toList++R.drop (d+(ρ x).cells.toList.length),A,g.here,?_,q4,q5,?_⟩
      ·rw[G2 _ _ _ (by omega),q3,e2,List.append_assoc z]
       rw[List.take_append,List.take_of_length_le (by omega),show z.length+(c2.length+d) - z.length=c2.length+d by omega,List.take_append,List.take_of_length_le (l:=c2) (by omega),show c2.length+d- c2.length=d by omega]
       rw[show z.length+(c2.length+d)+(ρ x).cells.toList.length=z.length+(c2.length+(d+(ρ x).cells.toList.length))by omega,<-List.drop_drop,List.drop_left,<-List.drop_drop,List.drop_left]
       simp only[List.append_assoc]
      ·rw[u];exact c9.append (c9.append (c9.take _ q6) s) (c9.drop _ q6)
     ·exact absurd h id
   ·exact absurd h id
  ·exact absurd h id
 ·rename_i r i j he;rw[he]at Y;simp only[c8]at Y;obtain⟨hd,b,E,A,e1⟩:=Y;split at h
  ·rename_i ty l xs f G;split at h
   ·rename_i hc;obtain⟨g1,g2,g3,g4⟩:=hc;obtain⟨hi,h⟩:=h;split at h
    ·rename_i x' hw;have s:=dE G (Z5 (P:=P) (t:=t) hx);have u:=c9.length s;have hcr:=hm.cont r _ .own hd f (by simp) E
     obtain⟨b',cs,e',fz,J,L,q3,q4⟩:=HW (cont:=hcr) hi;obtain⟨z,c2,R,_⟩:=hcr;rw[A]at J;cases J;obtain⟨_,_,_,B⟩:=hm.own r _ hd b f E A;obtain⟨Z,e,hh⟩:=B rfl;rw[hh]at L;cases L;have hbd:=q4.bound (by intro e0;rw[e0]at hi;simp at hi)
     have T:(i+1)*ty.size<=l.length*ty.size:=Nat.mul_le_mul_right _ hi;rw[Nat.add_mul]at T;have M:i*hd.sz+j+(ρ x).cells.toList.length<=cs.size:=by rw[z,u];omega
     obtain⟨w',S,g⟩:=dI (P:=P) (t:=t) (v:=ρ x) (off:=i*hd.sz+j) (by omega) (by omega) hh M (dF g4 s)
     simp only[execOp,ho,e1];rw[kE S];refine⟨_,h,Q7 l9 hm f E A g ?_ [r] _,rfl⟩;refine⟨z,by rw[c2];simp,R,.inr ⟨b,_,_,(0,0),A,g.here,by rw[J7];exact q3,?_⟩⟩
     intro i' hi';have O:i'<l.length:=by simpa using hi'
     rw[Nat.zero_add,z];rw[z]at M;have I:(i'+1)*ty.size<=l.length*ty.size:=Nat.mul_le_mul_right _ O;rw[Nat.add_mul]at I;by_cases U:i'=i
     ·subst U;rw[List.getElem_set_self,pH (by omega) (by omega)]
      have D:=q4 i' O;rw[Nat.zero_add]at D;have C:=R4 (H:=H) ty _ _ D;refine kP (H:=H) hw ?_;rw[u];exact c9.append (c9.append (c9.take _ C) s) (c9.drop _ C)
     ·rw[List.getElem_set_ne (fun e=>U e.symm)]
      rw[cJ M ?_]
      ·have:=q4 i' O;rw[Nat.zero_add]at this;exact this
      ·rcases Nat.lt_or_ge i' i with AD|hge
       ·left;have:(i'+1)*ty.size<=i*ty.size:=Nat.mul_le_mul_right _ AD;rw[Nat.add_mul]at this;omega
       ·right;have hgt:i<i':=by omega
        have:(i+1)*ty.size<=i'*ty.size:=Nat.mul_le_mul_right _ hgt;rw[Nat.add_mul]at this;omega
    ·exact absurd h id
   ·exact absurd h id
  ·rename_i p ty n l q xs f G;split at h
   ·rename_i hc;obtain⟨g1,g2,g3,g4⟩:=hc;obtain⟨hi,h⟩:=h;split at h
    ·rename_i x' hw;have s:=dE G (Z5 (P:=P) (t:=t) hx);have u:=c9.length s;obtain⟨c0,hn,b',cs,e',fz,z,c2,R,J,L,q3,q4,q5,q6⟩:=hm.cont r _ .own hd f (by simp) E
     rw[A]at J;cases J;obtain⟨_,_,_,B⟩:=hm.own r _ hd b f E A;obtain⟨Z,e,hh⟩:=B rfl;rw[hh]at L;cases L;have l1:=c9.length q4;have XK:cs.size=z.length+c2.length+R.length:=by
      have:=congrArg List.length q3;simp at this;omega
     have T:(i+1)*ty.size<=l.length*ty.size:=Nat.mul_le_mul_right _ hi;rw[Nat.add_mul]at T;have hl2:=q5.1;obtain⟨d,Ax⟩:∃d,j=p.length+d:=⟨j- p.length,by omega⟩
     subst Ax;rw[Nat.add_sub_cancel_left]at g3 hw;have N:i*hd.sz+(p.length+d)=z.length+(i*ty.size+d):=by rw[c0,l1];omega
     obtain⟨w',S,g⟩:=dI (P:=P) (t:=t) (v:=ρ x) (off:=i*hd.sz+(p.length+d)) (by omega) (by omega) hh (by omega) (dF g4 s)
     simp only[execOp,ho,e1];rw[kE S];refine⟨_,h,Q7 l9 hm f E A g ?_ [r] _,rfl⟩;have a4v:c2.toArray.toList=c2:=by simp
     have hs2:c2.toArray.size=c2.length:=by simp
     refine⟨c0,by rw[List.length_set];exact hn,b,_,_,(0,0),z,(G1 c2.toArray (i*ty.size+d) (ρ x).cells.toList).toList,R,A,g.here,?_,q4,⟨?_,?_⟩,q6⟩
     ·rw[G2 _ _ _ (by omega),G2 _ _ _ (by rw[hs2];omega),q3,N,a4v,List.append_assoc z]
      rw[List.take_append,List.take_of_length_le (by omega),show z.length+(i*ty.size+d) - z.length=i*ty.size+d by omega,List.take_append_of_le_length (l₁:=c2) (by omega)]
      rw[show z.length+(i*ty.size+d)+(ρ x).cells.toList.length=z.length+(i*ty.size+d+(ρ x).cells.toList.length)by omega,<-List.drop_drop,List.drop_left,List.drop_append_of_le_length (by omega)]
      simp only[List.append_assoc]
     ·rw[List.length_set];simp only[Array.length_toList];rw[J7,hs2];exact hl2
     ·intro i' hi';have O:i'<l.length:=by simpa using hi'
      have I:(i'+1)*ty.size<=l.length*ty.size:=Nat.mul_le_mul_right _ O;rw[Nat.add_mul]at I;have V:∀ (a:Array Value),((a.toList.drop (i'*ty.size)).take ty.size)=u0 a (i'*ty.size) ty.size:=fun a=>rfl
      have D:=q5.2 i' O;rw[<-a4v,V]at D;rw[V];by_cases U:i'=i
      ·subst U;rw[List.getElem_set_self,pH (by rw[hs2];omega) (by omega)]
       have C:=R4 (H:=H) ty _ _ D;refine kP (H:=H) hw ?_;rw[u];exact c9.append (c9.append (c9.take _ C) s) (c9.drop _ C)
      ·rw[List.getElem_set_ne (fun e=>U e.symm)]
       rw[cJ (by rw[hs2];omega) ?_]
       ·exact D
       ·rcases Nat.lt_or_ge i' i with AD|hge
        ·left;have:(i'+1)*ty.size<=i*ty.size:=Nat.mul_le_mul_right _ AD;rw[Nat.add_mul]at this;omega
        ·right;have hgt:i<i':=by omega
         have:(i+1)*ty.size<=i'*ty.size:=Nat.mul_le_mul_right _ hgt;rw[Nat.add_mul]at this;omega
    ·exact absurd h id
   ·exact absurd h id
  ·exact absurd h id
 ·exact absurd h id
theorem Ys(o:Oper){c:Call}{x:Operand}{t:TypeId}(ho:o.op=.call c)(hc:c.callee=.builtin .clear)(p:c.args.toList=[x])(z:c.argTypes.toList=[t])(h:match P.underlying t,ev x with
    |some (.slice e),.B6 r _=>(match m r with
     |some (.sl ty l,.own)=>if aE P e ty then k ⟨[(r,(.sl ty (List.replicate l.length ty.zero),.own))],[r],.R3⟩else False
     |_=>False)
    |_,_=>False):gZ F K H w m k ((execOp ρ o).run P w):=by
 have E:=n0 x;split at h
 ·rename_i e r f S he;rw[he]at E;simp only[c8]at E;obtain⟨hd,G,e1,_⟩:=E;split at h
  ·rename_i ty l g;split at h
   ·rename_i hz;obtain⟨i,v,hi,hv,A⟩:=Y1 hz;have I:=hm.cont r _ .own hd g (by simp) G
    obtain⟨c1,T,U,V⟩:=I;have J:c.args.map ρ= #[ρ x]:=by apply Array.toList_inj.1;simp[p]
    have L:c.argTypes= #[t]:=by apply Array.toList_inj.1;simp[z]
    rw[B9 o ho hc,J,L,e1];simp only[builtin];have q:v.cells.size=ty.size:=by
     have:=s9.length ty _ _ (I4 (K:=K) ty);rw[<-A]at this;simpa using this
    by_cases M:l.length=0
    ·have s:hd.len=0:=by omega
     have a:(Builtin.clear_ #[t] o.type #[.slice (hd.base.map fun b=>⟨b,0,none⟩) hd.len hd.cap]).run P w=.ok (.tuple #[]) w:=by
      rw[s];cases hb:hd.base<;>simp[Builtin.clear_,u3 S]
     rw[j1 a];have hl:l=[]:=List.eq_nil_of_length_eq_zero M;refine⟨_,h,⟨?_,l9,.refl F w⟩,by simp[c8]⟩
     subst hl;have:iS m [(r,(c7.sl ty (List.replicate ([]:List ty.den).length ty.zero),p8.own))]=m:=by
      funext r';simp only[iS,List.length_nil,List.replicate_zero];by_cases B:r'=r
      ·subst B;rw[j6,g]
      ·rw[n6 _ _ _ _ B]
     rw[this];exact hm
    ·rcases V with⟨V,c5⟩|⟨b,cs,e',fz,D,X,q3,q4⟩
     ·omega
     ·obtain⟨_,_,_,N⟩:=hm.own r _ hd b g G D;obtain⟨cs2,e2,hh⟩:=N rfl;rw[hh]at X;cases X;have u:(Builtin.zeroCells v.cells hd.len).toList=(List.replicate hd.len (zeroV ty)).flatten:=by
       have d:=(B5.replicate (I4 (K:=K) ty) hd.len).1;simp only[List.length_replicate]at d;apply List.ext_getElem?;intro j;by_cases Y:j<hd.len*ty.size
       ·rw[oZ (zeroV ty) ty.size (s9.length ty _ _ (I4 (K:=K) ty)) hd.len j Y,<-A];have O:j % ty.size<v.cells.size:=by rw[q];exact Nat.mod_lt _ ty.size_pos
        simp[Builtin.zeroCells,Y,q,getElem!_pos v.cells (j % ty.size) O]
       ·rw[List.getElem?_eq_none (by simp[Builtin.zeroCells,q];omega),List.getElem?_eq_none (by omega)]
      have d:=B5.replicate (I4 (K:=K) ty) hd.len;have R:(Builtin.zeroCells v.cells hd.len).toList.length=hd.len*ty.size:=by
       rw[u];have:=d.1;simpa using this
      have Z:hd.len*ty.size<=cs.size:=Nat.le_trans (Nat.mul_le_mul_right _ U.1) q3;obtain⟨w',hr,C⟩:=Abs.G9 P b 0 _ (Builtin.zeroCells v.cells hd.len).toList w cs 0 hh (by omega) (fun y hy=>by
       rw[u]at hy
       exact wB (dG d y hy))
      have a:(Builtin.clear_ #[t] o.type #[.slice (hd.base.map fun b=>⟨b,0,none⟩) hd.len hd.cap]).run P w=.ok (.tuple #[]) w':=by
       rw[D];obtain⟨n,hn⟩:∃n,hd.len=n+1:=⟨hd.len- 1,by omega⟩
       rw[hn]at hr ⊢;simp[Builtin.clear_,u3 S,aJ hi hv,hr]
      rw[j1 a];refine⟨_,h,Q7 l9 hm g G D (by simpa using C) ?_ [r] _,by simp[c8]⟩
      refine⟨c1,by rw[T];simp,U,.inr ⟨b,_,_,(0,0),D,by simpa using C.here,by rw[J7];exact q3,?_⟩⟩
      rw[<-T];have:(G1 cs 0 (Builtin.zeroCells v.cells hd.len).toList)=((List.replicate hd.len (zeroV ty)).flatten++cs.toList.drop (hd.len*ty.size)).toArray:=by
       apply Array.toList_inj.1;rw[G2 _ _ _ (by omega),R,u]
       simp
      rw[this];exact d.elems
   ·exact absurd h id
  ·exact absurd h id
 ·exact absurd h id
theorem a1T(o:Oper){c:Call}{x y:Operand}{t u:TypeId}(ho:o.op=.call c)(hc:c.callee=.builtin .copy)(D:c.args.toList=[x,y])(M:c.argTypes.toList=[t,u])(h:match P.underlying t,P.underlying u,ev x with
    |some (.slice e),some (.slice _),.B6 r _=>(match m r with
     |some (.sl ty l,.own)=>(match jY m ty (ev y)with
      |some (ys,rs)=>if j7 P e=ty.size/\rs.contains r=false then k ⟨[(r,(.sl ty (ys.take l.length++l.drop ys.length),.own))],r::rs,.R3⟩else False
      |none=>False)
     |_=>False)
    |_,_,_=>False):gZ F K H w m k ((execOp ρ o).run P w):=by
 have hx:=n0 x;split at h
 ·rename_i e e' r f hu hu' he;rw[he]at hx;simp only[c8]at hx;obtain⟨hd,h1,e1,_⟩:=hx;split at h
  ·rename_i ty l s;split at h
   ·rename_i ys rs hys;split at h
    ·rename_i XK;obtain⟨i,hi,his⟩:=Y0 XK.1;obtain⟨a,g,ey,E⟩:=uI hm l9.y6 hys (n0 y);have hcr:=hm.cont r _ .own hd s (by simp) h1
     obtain⟨c1,c2,c3,c4⟩:=hcr;have ha1:c.args.map ρ= #[ρ x,ρ y]:=by apply Array.toList_inj.1;simp[D]
     have ha2:c.argTypes= #[t,u]:=by apply Array.toList_inj.1;simp[M]
     rw[B9 o ho hc,ha1,ha2,e1,ey];simp only[builtin];by_cases z:Nat.min ys.length hd.len=0
     ·have G:(Builtin.firstCells i.size 0 (.slice a ys.length g)).run P w=.ok #[] w:=by
       cases a<;>simp[Builtin.firstCells,loadCells,loadCellsFrom]
      have q:(Builtin.copy_ #[t,u] o.type #[.slice (hd.base.map fun b=>⟨b,0,none⟩) hd.len hd.cap,.slice a ys.length g]).run P w=.ok (goInt 0) w:=by
       cases hb:hd.base<;>simp[Builtin.copy_,u3 hu,Builtin.lenOf,z,M1 hi,G,storeCells]
      rw[j1 q];refine⟨_,h,⟨?_,l9,.refl F w⟩,by simp[c8]⟩
      have Tp:ys.take l.length++l.drop ys.length=l:=by
       rcases Nat.eq_zero_or_pos ys.length with h0|h0
       ·rw[List.eq_nil_of_length_eq_zero h0];simp
       ·have hl0:l.length=0:=by
         have:Nat.min ys.length hd.len=0:=z;rw[<-c2];rcases Nat.lt_or_ge 0 hd.len with A|A
         ·have:0<min ys.length hd.len:=by omega
          have h2:min ys.length hd.len=0:=z;omega
         ·omega
        rw[List.eq_nil_of_length_eq_zero hl0];simp
      rw[Tp];have:iS m [(r,(c7.sl ty l,p8.own))]=m:=by
       funext r';simp only[iS];by_cases N:r'=r
       ·subst N;rw[j6,s]
       ·rw[n6 _ _ _ _ N]
      rw[this];exact hm
     ·have B:0<min ys.length hd.len:=by
       have:min ys.length hd.len≠0:=z;omega
      have O:ys≠ []:=by intro e0;rw[e0]at B;simp at B
      rcases E with E|⟨R,p,S,eby,fzy,g1,g2,g3⟩
      ·exact absurd E O
      ·subst g1;obtain⟨T,I⟩:=qY g2 g3 O;rcases c4 with⟨c4,c5⟩|⟨b,cs,e2',fz,q1,q2,q3,q4⟩
       ·omega
       ·obtain⟨_,_,_,U⟩:=hm.own r _ hd b s h1 q1;obtain⟨cs2,e2,hh⟩:=U rfl;rw[hh]at q2;cases q2
        let n:=min ys.length hd.len
        have d:B5 K ty (ys.take n) ((u0 S p (ys.length*ty.size)).take (n*ty.size)):=by
         refine⟨?_,fun j C=>?_⟩
         ·have V:n<=ys.length:=Nat.min_le_left _ _;have Qb:n*ty.size<=ys.length*ty.size:=Nat.mul_le_mul_right _ V;have e3:(ys.take n).length=n:=by rw[List.length_take];omega
          rw[List.length_take,e3];have:=T.1;omega
         ·have hj':j<n:=by simp at C;omega
          rw[List.getElem_take];have:=T.2 j (by have:n<=ys.length:=Nat.min_le_left _ _;omega)
          have hle:(j+1)*ty.size<=n*ty.size:=Nat.mul_le_mul_right _ hj';rw[Nat.add_mul]at hle;rw[List.drop_take,List.take_take,Nat.min_eq_left (by omega)]
          exact this
        let news:=(u0 S p (ys.length*ty.size)).take (n*ty.size)
        have X:news.length=n*ty.size:=by
         have h3:=d.1;have V:n<=ys.length:=Nat.min_le_left _ _;have e3:(ys.take n).length=n:=by rw[List.length_take];omega
         rw[e3]at h3;exact h3
        have G:=run_firstCells_some (P:=P) w i.size n ⟨R,p,none⟩ ys.length g news (by rw[X,his]) (fun j u C=>by
         have AD:j<n*ty.size:=by
          rcases Nat.lt_or_ge j (n*ty.size)with A|A
          ·exact A
          ·rw[List.getElem?_eq_none (by omega)]at C;cases C
         rw[List.getElem?_take_of_lt AD]at C
         exact I j u C)
        have a1U:n*ty.size<=cs.size:=Nat.le_trans (Nat.mul_le_mul_right _ (by have:n<=hd.len:=Nat.min_le_right _ _;omega)) q3
        obtain⟨w',hr,Y⟩:=Abs.G9 P b 0 _ news w cs 0 hh (by omega) (fun v hv=>wB (dG d v hv))
        have q:(Builtin.copy_ #[t,u] o.type #[.slice (hd.base.map fun b=>⟨b,0,none⟩) hd.len hd.cap,.slice (some ⟨R,p,none⟩) ys.length g]).run P w=.ok (goInt n) w':=by
         have hnn:ys.length.min hd.len=n:=rfl;simp only[Builtin.copy_,q1];simp[u3 hu,Builtin.lenOf,M1 hi,hnn,G,hr]
        rw[j1 q];refine⟨_,h,Q7 l9 hm s h1 q1 (by simpa using Y) ?_ (r::rs) _,by simp[c8]⟩
        have J:(ys.take l.length++l.drop ys.length).length=l.length:=by simp;omega
        refine⟨c1,by rw[c2,J],c3,.inr ⟨b,_,_,(0,0),q1,by simpa using Y.here,by rw[J7];exact q3,?_⟩⟩
        have htk:ys.take l.length=ys.take n:=by
         have hn:n=min ys.length l.length:=by rw[<-c2]
         rw[hn,List.take_eq_take_iff];omega
        have hdr:l.drop ys.length=l.drop n:=by
         have hn:n=min ys.length l.length:=by rw[<-c2]
         rcases Nat.le_total ys.length l.length with A|A
         ·rw[hn,Nat.min_eq_left A]
         ·rw[hn,Nat.min_eq_right A,List.drop_length,List.drop_of_length_le A]
        have Z:=q4.zB (by rw[Nat.zero_add];exact Nat.le_trans (Nat.mul_le_mul_right _ (by omega)) q3)
        have L:B5 K ty (l.drop n) ((u0 cs 0 (l.length*ty.size)).drop (n*ty.size)):=by
         refine⟨?_,fun j C=>?_⟩
         ·rw[List.length_drop,Z.1,List.length_drop,Nat.sub_mul]
         ·rw[List.getElem_drop];have:=Z.2 (n+j) (by simp at C;omega)
          rw[Nat.add_mul]at this;rw[List.drop_drop];exact this
        have hsp:(G1 cs (0+0) news)=(news++(u0 cs 0 (l.length*ty.size)).drop (n*ty.size)++cs.toList.drop (l.length*ty.size)).toArray:=by
         apply Array.toList_inj.1;rw[G2 _ _ _ (by omega),X]
         have U:l.length*ty.size<=cs.size:=Nat.le_trans (Nat.mul_le_mul_right _ (by omega)) q3
         have b3p:n*ty.size<=l.length*ty.size:=Nat.mul_le_mul_right _ (by have:n<=hd.len:=Nat.min_le_right _ _;omega)
         have h3:cs.toList.drop (n*ty.size)=(cs.toList.take (l.length*ty.size)).drop (n*ty.size)++cs.toList.drop (l.length*ty.size):=by
          have h4:cs.toList.drop (n*ty.size)=(cs.toList.take (l.length*ty.size)++cs.toList.drop (l.length*ty.size)).drop (n*ty.size):=by rw[List.take_append_drop]
          rw[h4,List.drop_append_of_le_length (by simp;omega)]
         simp only[u0,List.drop_zero,Nat.zero_add,List.take_zero,List.nil_append,List.append_assoc];rw[h3]
        rw[hsp,htk,hdr];exact(d.append L).elems
    ·exact absurd h id
   ·exact absurd h id
  ·exact absurd h id
 ·exact absurd h id
end
end Go.Abs
end
section
open Go.RowKit
namespace Go.Abs
section
variable {P:Program} {F:Nat->Prop} {K:j0} {H:Nat->Option Hd} {w:World} {m:Mm} {nx:Nat} {ev:Operand->a7} {ρ:Operand->Value} {Γ:Env}
theorem Df(a:J0 F K w)(s:j8 F K H w m){d:Int->Int}{b:Nat}{o o':Obj}(y:w.heap[b]? =some o)(B:Z3 d o)(t:Z3 d o')(hi:K.inv b=some (Z3 d)):De F K H w m ⟨[],[],.R3⟩ (w.putObj b o'):=by
 have n:∀q,(w.putObj b o').heap[q]? =if q=b then some o' else w.heap[q]? :=by
  intro q;by_cases e:q=b
  ·subst e;rw[if_pos rfl];simp[World.putObj,u5 y]
  ·rw[if_neg e];simp[World.putObj,Array.getElem?_setIfInBounds_ne (Ne.symm e)]
 have C:∀cs e fz,o≠ .cells cs e fz:=by
  intro cs e fz h;obtain⟨E,c,rfl,_⟩:=B;cases h
 refine⟨?_,⟨⟨fun i cs u=>?_,fun i p k=>?_⟩,fun i l=>?_,a.inv,a.apart⟩,⟨rfl,rfl,rfl,by simp[World.putObj],fun i l=>?_,Nat.le_refl _⟩⟩
 ·refine s.world (fun r c f hd i j v z A=>?_)
  rw[n,if_neg];intro x;subst x;cases f with
  |dead=>exact v rfl
  |own=>have:=(s.own r c hd i j z A).2.2.1;rw[hi]at this;cases this
  |aQ=>
   obtain⟨cs,g⟩:=s.aQ r c hd i j z A;have:=a.apart _ _ hi;rw[g]at this;cases this
 ·obtain⟨e,fz,j⟩:=a.y6.1 i cs u;refine⟨e,fz,?_⟩;rw[n,if_neg]
  ·exact j
  ·intro x;subst x;rw[y]at j;exact C _ _ _ (Option.some.inj j)
 ·obtain⟨D,j,v⟩:=a.y6.2 i p k;by_cases e:i=b
  ·subst e;rw[hi]at k;cases k;exact⟨o',by rw[n,if_pos rfl],t⟩
  ·exact⟨D,by rw[n,if_neg e];exact j,v⟩
 ·have:=a.lt i l;simpa [World.putObj]using this
 ·rw[n,if_neg];intro e;subst e;exact a.inv _ _ hi l
theorem RK{k:Q->Prop}(a:J0 F K w)(v:j8 F K H w m)(o:Oper){t:TypeId}{r:Option Operand}(A:o.op=.makeMap t r)(B:r.isNone=true)(d:Int->Int)(h:k (.pure (.z6 (Cu d)))):I0 P F K H w m nx k ((execOp ρ o).run P w):=by
 have x:r=none:=by simpa using B
 subst x;have n:(execOp ρ o).run P w=.ok (.value (.map (some w.heap.size))) (w.alloc (.map #[] 0)):=by
  simp only[execOp,A];refine j1 ?_;simp only[Instr.makeMap,Option.map_none,Sem.run_bind,run_newObj_alloc,Result.andThen_ok,Sem.run_pure]
 rw[n]
 let K':j0:= {K with inv:=fun b=>if b=w.heap.size then some (Z3 d)else K.inv b}
 have I2:K.cells w.heap.size=none/\K.inv w.heap.size=none:=a.y6.new (Nat.le_refl _);have q:∀b p,K.inv b=some p->K'.inv b=some p:=by
  intro b p h;show(if b=w.heap.size then _ else K.inv b)=some p
  rw[if_neg]
  ·exact h
  ·intro e;subst e;rw[I2.2]at h;cases h
 have s:K.le K':=⟨fun _ _ h=>h,q,fun _ h=>h⟩
 have old:∀b,b<w.heap.size->(w.alloc (.map #[] 0)).heap[b]? =w.heap[b]? :=fun b j=>Below.heap_alloc _ _ _ j
 refine⟨_,K',H,h,s,.refl H,fun r g u=>absurd g u,⟨w.heap.size,rfl,by simp[K']⟩,?_,?_,?_,fun b j=>⟨rfl,?_⟩⟩
 ·show j8 F K' H _ (Q.mm (.pure _) nx m);have g:j8 F K H (w.alloc (.map #[] 0)) m:=v.world (fun r c f hd b g u C D=>old b (U4 v g u C D))
  refine g.Ry s (fun r c hd b y g2 z=>?_)
  obtain⟨_,E,G,_⟩:=v.own r c hd b y g2 z;refine⟨E,?_⟩;show(if b=w.heap.size then _ else K.inv b)=none
  rw[if_neg (by have:=U4 v y (by simp) g2 z;omega)]
  exact G
 ·refine⟨⟨fun b cs I=>?_,fun b p i=>?_⟩,fun b j=>?_,fun b p i j=>?_,fun b p i=>?_⟩
  ·obtain⟨e,J,g⟩:=a.y6.1 b cs I;exact⟨e,J,by rw[old b (u5 g)];exact g⟩
  ·have l:(if b=w.heap.size then some (Z3 d)else K.inv b)=some p:=i
   by_cases e:b=w.heap.size
   ·rw[if_pos e]at l;have L:=Option.some.inj l;rw[e,<-L];exact⟨.map #[] 0,World.alloc_heap_new w _,#[],0,rfl,by simp⟩
   ·rw[if_neg e]at l;obtain⟨o,g,u⟩:=a.y6.2 b p l;exact⟨o,by rw[old b (u5 g)];exact g,u⟩
  ·have:=a.lt b j;simp;omega
  ·have i:(if b=w.heap.size then some (Z3 d)else K.inv b)=some p:=i
   have:=a.lt b j;rw[if_neg (by omega)]at i
   exact a.inv b p i j
  ·have i:(if b=w.heap.size then some (Z3 d)else K.inv b)=some p:=i
   split at i
   ·rename_i e;subst e;exact I2.1
   ·exact a.apart b p i
 ·exact⟨rfl,rfl,rfl,by simp,fun b j=>old b (a.lt b j),Nat.le_refl _⟩
 ·show(if b=w.heap.size then _ else K.inv b)=K.inv b
  rw[if_neg (by have:=a.lt b j;omega)]
theorem JW{k:W->Prop}(q:J0 F K w)(D:j8 F K H w m)(f:∀x,c8 K H (ev x) (ρ x))(o:Oper){t:TypeId}{a x v:Operand}(S:o.op=.mapUpdate t a x v)(h:match ev a,ev x,ev v with
  |.z6 p,.agg [.int .i64 a],.int .i64 n=>if oS P t then(∃g,p=Cu g/\n=g a)/\k ⟨[],[],.R3⟩else False
  |.z8 r,x,.int T n=>(match m r with
   |some (.mp mk l clk,.own)=>if gM P t=some mk/\T=mk.kv then(match mk.PL x with
    |some d=>k ⟨[(r,(.mp mk (M0 mk.kt l clk d n) (P3 mk.kt l clk d),.own))],[r],.R3⟩
    |none=>False)else False
   |_=>False)
  |_,_,_=>False):gZ F K H w m k ((execOp ρ o).run P w):=by
 split at h
 ·rename_i p i n E Y G;split at h
  ·rename_i y;obtain⟨⟨g,rfl,rfl⟩,h⟩:=h;have s:=f a;have I:=f x;have u:=f v;rw[E]at s;rw[Y]at I;rw[G]at u;simp only[c8]at s I u;obtain⟨b,J,hi⟩:=s;obtain⟨cs,L,M⟩:=I;have N:cs= #[.int .i64 i]:=by
    obtain⟨c,Z,e,U,hr⟩:=c9.inv M;simp only[c8]at U;rw[c9.H8.1 hr]at e;apply Array.ext';rw[e,U]
   subst N;obtain⟨ob,z,A⟩:=q.y6.2 b _ hi;obtain⟨o',O,j⟩:=wH y z A i;have:(execOp ρ o).run P w=.ok .skip (w.putObj b o'):=by
    simp[execOp,S,J,L,u,j]
   rw[this];exact⟨_,h,Df q D z A O hi,rfl⟩
  ·exact absurd h id
 ·rename_i r T n E G;split at h
  ·rename_i mk l clk B;split at h
   ·rename_i y;obtain⟨y,rfl⟩:=y;split at h
    ·rename_i d C;obtain⟨_,_,_,_,hint,_⟩:=S6 y;have s:=f a;have u:=f v;rw[E]at s;rw[G]at u;simp only[c8]at s u;obtain⟨hd,b,V,g2,J⟩:=s;have L:=rD hint C (f x);obtain⟨c1,c2,c3,b',X,R⟩:=D.cont r _ .own hd B (by simp) V
     rw[g2]at X;cases X;have j:=lF y R d n;have:(execOp ρ o).run P w=.ok .skip (w.putObj b (.map ((M0 mk.kt l clk d n).map mk.cU).toArray (P3 mk.kt l clk d))):=by
      simp[execOp,S,J,L,u,j]
     rw[this];obtain⟨q1,q2,q3⟩:=bH (c':=.mp mk (M0 mk.kt l clk d n) (P3 mk.kt l clk d)) (o':=.map ((M0 mk.kt l clk d n).map mk.cU).toArray (P3 mk.kt l clk d)) q D B V g2 R (fun _ _ _ h=>by cases h) rfl
      ⟨c1,c2,c3,b,g2,by rw[L5 R,if_pos rfl]⟩
     exact⟨_,h,⟨q1,q2,q3⟩,rfl⟩
    ·exact absurd h id
   ·exact absurd h id
  ·exact absurd h id
 ·exact absurd h id
theorem UE{k:W->Prop}(j:J0 F K w)(u:j8 F K H w m)(d:∀x,c8 K H (ev x) (ρ x))(o:Oper){t:TypeId}{a x v:Operand}(B:o.op=.insert t a x v)(h:match ev a,ev x,ev v with
  |.z8 r,x,.int y n=>(match m r with
   |some (.mp mk l clk,.own)=>if gM P t=some mk/\y=mk.kv then(match mk.PL x with
    |some c=>k ⟨[(r,(.mp mk (M0 mk.kt l clk c n) (P3 mk.kt l clk c),.own))],[r],.R3⟩
    |none=>False)else False
   |_=>False)
  |_,_,_=>False):gZ F K H w m k ((execOp ρ o).run P w):=by
 split at h
 ·rename_i r y n C D;split at h
  ·rename_i mk l clk e;split at h
   ·rename_i i;obtain⟨i,rfl⟩:=i;split at h
    ·rename_i c f;obtain⟨_,_,_,_,hint,_⟩:=S6 i;have p:=d a;have q:=d v;rw[C]at p;rw[D]at q;simp only[c8]at p q;obtain⟨hd,b,z,g2,E⟩:=p;have G:=rD hint f (d x);obtain⟨I,J,L,O,A,s⟩:=u.cont r _ .own hd e (by simp) z
     rw[g2]at A;cases A;have g:=lF i s c n;have:(execOp ρ o).run P w=.ok .skip (w.putObj b (.map ((M0 mk.kt l clk c n).map mk.cU).toArray (P3 mk.kt l clk c))):=by
      simp[execOp,B,E,G,q,g]
     rw[this];obtain⟨M,N,q3⟩:=bH (c':=.mp mk (M0 mk.kt l clk c n) (P3 mk.kt l clk c)) (o':=.map ((M0 mk.kt l clk c n).map mk.cU).toArray (P3 mk.kt l clk c)) j u e z g2 s (fun _ _ _ h=>by cases h) rfl
      ⟨I,J,L,b,g2,by rw[L5 s,if_pos rfl]⟩
     exact⟨_,h,⟨M,N,q3⟩,rfl⟩
    ·exact absurd h id
   ·exact absurd h id
  ·exact absurd h id
 ·exact absurd h id
theorem NP{k:W->Prop}(i:J0 F K w)(p:j8 F K H w m)(d:∀x,c8 K H (ev x) (ρ x))(o:Oper){t:TypeId}{a x:Operand}(v:o.op=.mapEntry t a x)(h:match ev a with
  |.z8 r=>(match m r with
   |some (.mp mk l clk,.own)=>if gM P t=some mk then(match mk.PL (ev x)with
    |some c=>k ⟨[(r,(.mp mk (M0 mk.kt l clk c (y8 mk.kt l c)) (P3 mk.kt l clk c),.own))],[r],.I9 [.int mk.kv (y8 mk.kt l c),.int .i64 (M8 mk.kt l clk c:Int)]⟩
    |none=>False)else False
   |_=>False)
  |_=>False):gZ F K H w m k ((execOp ρ o).run P w):=by
 split at h
 ·rename_i r y;split at h
  ·rename_i mk l clk e;split at h
   ·rename_i q;split at h
    ·rename_i c f;obtain⟨_,_,_,_,hint,_⟩:=S6 q;have j:=d a;rw[y]at j;simp only[c8]at j;obtain⟨hd,b,s,g2,z⟩:=j;have A:=rD hint f (d x);obtain⟨B,C,D,I,u,n⟩:=p.cont r _ .own hd e (by simp) s
     rw[g2]at u;cases u;have g:=BD q n c;have:(execOp ρ o).run P w=.ok (.value (.tuple #[.int mk.kv (y8 mk.kt l c),.int .i64 (M8 mk.kt l clk c:Int)])) (w.putObj b (.map ((M0 mk.kt l clk c (y8 mk.kt l c)).map mk.cU).toArray (P3 mk.kt l clk c))):=by
      simp only[execOp,v,z,A];exact j1 g
     rw[this];obtain⟨E,G,q3⟩:=bH (c':=.mp mk (M0 mk.kt l clk c (y8 mk.kt l c)) (P3 mk.kt l clk c)) (o':=.map ((M0 mk.kt l clk c (y8 mk.kt l c)).map mk.cU).toArray (P3 mk.kt l clk c)) i p e s g2 n (fun _ _ _ h=>by cases h) rfl
      ⟨B,C,D,b,g2,by rw[L5 n,if_pos rfl]⟩
     refine⟨_,h,⟨E,G,q3⟩,?_⟩;simp only[c8];exact⟨_,rfl,.cons (by simp[c8]) (.cons (by simp[c8]) .nil)⟩
    ·exact absurd h id
   ·exact absurd h id
  ·exact absurd h id
 ·exact absurd h id
theorem Ig{k:W->Prop}(f:J0 F K w)(y:j8 F K H w m)(d:∀x,c8 K H (ev x) (ρ x))(o:Oper){t:TypeId}{a x v:Operand}(C:o.op=.entryStore t a x v)(h:match ev a,ev x,ev v with
  |.z8 r,.int .i64 s,.int z n=>(match m r with
   |some (.mp mk l clk,.own)=>if z=mk.kv then(0<=s/\Cv mk.kt l s.toNat=true)/\k ⟨[(r,(.mp mk (eJ mk.kt l s.toNat n) clk,.own))],[r],.R3⟩else False
   |_=>False)
  |_,_,_=>False):gZ F K H w m k ((execOp ρ o).run P w):=by
 split at h
 ·rename_i r s z n D E G;split at h
  ·rename_i mk l clk e;split at h
   ·rename_i g;subst g;obtain⟨⟨i,I⟩,h⟩:=h;have j:=d a;have p:=d x;have q:=d v;rw[D]at j;rw[E]at p;rw[G]at q;simp only[c8]at j p q;obtain⟨hd,b,A,g2,J⟩:=j;obtain⟨L,M,N,S,B,u⟩:=y.cont r _ .own hd e (by simp) A
    rw[g2]at B;cases B;have c:=wJ (P:=P) (t:=t) u I n;rw[Int.toNat_of_nonneg i]at c;have:(execOp ρ o).run P w=.ok .skip (w.putObj b (.map ((eJ mk.kt l s.toNat n).map mk.cU).toArray clk)):=by
     simp[execOp,C,J,p,q,c]
    rw[this];obtain⟨O,R,q3⟩:=bH (c':=.mp mk (eJ mk.kt l s.toNat n) clk) (o':=.map ((eJ mk.kt l s.toNat n).map mk.cU).toArray clk) f y e A g2 u (fun _ _ _ h=>by cases h) rfl
     ⟨L,M,N,b,g2,by rw[L5 u,if_pos rfl]⟩
    exact⟨_,h,⟨O,R,q3⟩,rfl⟩
   ·exact absurd h id
  ·exact absurd h id
 ·exact absurd h id
theorem UF{k:W->Prop}(f:J0 F K w)(C:j8 F K H w m)(g:∀x,c8 K H (ev x) (ρ x))(o:Oper){c:Call}{x y:Operand}{t u:TypeId}(D:o.op=.call c)(r:c.callee=.builtin .delete)(d:c.args.toList=[x,y])(j:c.argTypes.toList=[t,u])
  (h:match ev x,ev y with
  |.z6 p,.agg [.int .i64 _]=>if oS P t then(∃a,p=Cu a)/\k ⟨[],[],.R3⟩else False
  |_,_=>False):gZ F K H w m k ((execOp ρ o).run P w):=by
 split at h
 ·rename_i p i E G;split at h
  ·rename_i I;obtain⟨⟨a,rfl⟩,h⟩:=h;have s:=g x;have v:=g y;rw[E]at s;rw[G]at v;simp only[c8]at s v;obtain⟨b,J,hi⟩:=s;obtain⟨cs,L,z⟩:=v;have A:cs= #[.int .i64 i]:=by
    obtain⟨c,M,e,r,N⟩:=c9.inv z;simp only[c8]at r;rw[c9.H8.1 N]at e;apply Array.ext';rw[e,r]
   subst A;obtain⟨S,l,n⟩:=f.y6.2 b _ hi;obtain⟨o',B,q⟩:=CX (u:=u) (ty:=o.type) I l n i;have O:c.args= #[x,y]:=by apply Array.ext';simpa using d
   have R:c.argTypes= #[t,u]:=by apply Array.ext';simpa using j
   have:(execOp ρ o).run P w=.ok (.value (.tuple #[])) (w.putObj b o'):=by
    simp[execOp,D,resolve,r,O,R,J,L,invoke,builtin,q,go_sem]
   rw[this];exact⟨_,h,Df f C l n B hi,by simp[c8]⟩
  ·exact absurd h id
 ·exact absurd h id
theorem wM{r:Nat}{v:Value}{mk:MK}{l:l6 mk.kt}{clk:Nat}{f:p8}(e:j8 F K H w m)(a:m r=some (.mp mk l clk,f))(g:f≠ .dead)(h:c8 K H (.z8 r) v):
  ∃hd b,H r=some hd/\hd.base=some b/\v=.map (some b)/\w.heap[b]? =some (.map (l.map mk.cU).toArray clk)/\hd.sz=0/\hd.len=0/\hd.cap=0:=by
 simp only[c8]at h;obtain⟨hd,b,c,g2,i⟩:=h;obtain⟨j,k,n,p,d,o⟩:=e.cont r _ f hd a g c;rw[g2]at d;cases d;exact⟨hd,b,c,g2,i,o,j,k,n⟩
theorem RL{k:Q->Prop}(a:J0 F K w)(j:j8 F K H w m)(l:∀q,k q->∀i,i<q.new.length->H (nx+i)=none)(o:Oper){t:TypeId}{mk:MK}(x:o.op=.makeMap t none)(h:k ⟨.z8 nx,[.mp mk [] 0],[],[]⟩):I0 P F K H w m nx k ((execOp ρ o).run P w):=by
 have e:(execOp ρ o).run P w=.ok (.value (.map (some w.heap.size))) (w.alloc (.map #[] 0)):=by
  simp only[execOp,x];refine j1 ?_;simp only[Instr.makeMap,Option.map_none,Sem.run_bind,run_newObj_alloc,Result.andThen_ok,Sem.run_pure]
 rw[e];have s:H nx=none:=by simpa using l _ h 0 (by simp)
 refine⟨_,K,S0 H nx ⟨some w.heap.size,0,0,0⟩,h,.refl K,L9 s,fun r g d=>?_,?_,?_,a.alloc _,uG a _,.refl F K⟩
 ·by_cases u:r=nx
  ·subst u;simp
  ·rw[n6 _ _ _ _ u]at d;exact absurd g d
 ·simp only[c8];exact⟨_,_,j6 _ _ _,rfl,rfl⟩
 ·have y:j8 F K H (w.alloc (.map #[] 0)) m:=j.world (fun r c f hd b g d n z=>RowKit.Below.heap_alloc w _ b (U4 j g d n z))
  refine y.new nx s (.mp mk [] 0) _ ⟨rfl,rfl,rfl,_,rfl,L7 w _⟩ (fun b p=>?_)
  cases p;have v:=a.y6.new (Nat.le_refl w.heap.size);refine⟨fun A=>?_,v.1,v.2,(fun h=>by cases h),fun C c' B g d n=>?_⟩
  ·have:=a.lt _ A;omega
  ·have:=U4 j g (by simp) d n;omega
theorem UG{k:Q->Prop}(n:J0 F K w)(q:j8 F K H w m)(c:∀x,c8 K H (ev x) (ρ x))(o:Oper){t:TypeId}{x i:Operand}{d:Bool}(u:o.op=.lookup t x i d)(h:match ev x with
  |.z8 r=>(match m r with
   |some (.mp mk l _,f)=>if gM P t=some mk/\f≠ .dead then(match mk.PL (ev i)with
    |some a=>k (.read (At mk l a d) r)
    |none=>False)else False
   |_=>False)
  |_=>False):I0 P F K H w m nx k ((execOp ρ o).run P w):=by
 split at h
 ·rename_i r v;split at h
  ·rename_i mk l clk f p;split at h
   ·rename_i j;obtain⟨j,y⟩:=j;split at h
    ·rename_i a e;obtain⟨_,_,_,_,hint,_⟩:=S6 j;have s:=c x;rw[v]at s;obtain⟨hd,b,C,g2,z,A,_⟩:=wM q p y s;have B:=rD hint e (c i);have g:=tA j A a d;have:(execOp ρ o).run P w=.ok (.value (if d then .tuple #[.int mk.kv (y8 mk.kt l a),.bool (J4 mk.kt l a)]else .int mk.kv (y8 mk.kt l a))) w:=by
      simp only[execOp,u,z,B];exact j1 g
     rw[this];refine L6 n q r ?_ h;cases d
     ·simp[At,c8]
     ·simp only[At,c8,if_true];exact⟨_,rfl,.cons (by simp[c8]) (.cons (by simp[c8]) .nil)⟩
    ·exact absurd h id
   ·exact absurd h id
  ·exact absurd h id
 ·exact absurd h id
theorem Dg{k:Q->Prop}(I:Good P Γ)(j:J0 F K w)(z:j8 F K H w m)(p:∀x,c8 K H (ev x) (ρ x))(A:∀q,k q->∀i,i<q.new.length->H (nx+i)=none)(o:Oper)
  (h:O4 Γ P o ev nx m k):I0 P F K H w m nx k ((execOp ρ o).run P w):=by
 unfold O4 at h;split at h
 ·rename_i x v;exact Uz j z p A o (.inl v) h
 ·rename_i x v;exact Uz j z p A o (.inr v) h
 ·rename_i c a b v;exact a1K j z p o v h
 ·rename_i e v;exact Yn j z A o v h
 ·rename_i e x v;exact a4k j z p A o v h
 ·rename_i t ps v;exact Yo j z p o v h
 ·rename_i t n ps v;exact HY j z p A o v h
 ·rename_i t a v;exact a1M j z p o v h
 ·rename_i x v;exact NK j z p o v h
 ·rename_i op t x y u v;exact Yj j z p o v h
 ·rename_i op t x v;exact a1L j z p o h v
 ·rename_i s d x v;exact RF j z p o v h
 ·rename_i t r v;split at h
  ·rename_i G;obtain⟨C,h⟩:=h;exact RK j z o v (by simp only[Bool.and_eq_true]at G;exact G.2) C h
  ·split at h
   ·exact RL j z A o v h
   ·exact absurd h id
 ·rename_i t x i M v;exact UG j z p o v h
 ·rename_i N first cap v;exact NL j z p o v h
 ·rename_i t l c v;exact JR j z p A o v h
 ·rename_i t x lo hi mx v;exact Ym j z p o v h
 ·rename_i s x f v;exact JO j z p o v h
 ·rename_i s x f v;exact Yk j z p o v h
 ·rename_i t x i v;exact JP j z p o v h
 ·rename_i t x i v;exact Yl j z p o v h
 ·rename_i x i v;exact RG j z p o v h
 ·rename_i c v;split at h
  ·rename_i B;split at h
   ·rename_i x t D E;split at h
    ·rename_i e J;exact a4g j z p o v B D E J h
    ·exact absurd h id
   ·exact absurd h id
  ·rename_i B;split at h
   ·rename_i x y t u D E;exact UB j z p A o v B D E h
   ·exact absurd h id
  ·rename_i B;exact a4h j z p o v B h
  ·rename_i B;exact a4i j z p o v B h
  ·rename_i g B;split at h
   ·rename_i f first cap L;exact a1Q I j z p A o v B L h
   ·exact absurd h id
  ·exact absurd h id
 ·exact absurd h id
theorem NQ{k:W->Prop}(b:J0 F K w)(f:j8 F K H w m)(d:∀x,c8 K H (ev x) (ρ x))(o:Oper)(h:iT P o ev m k):gZ F K H w m k ((execOp ρ o).run P w):=by
 unfold iT at h;split at h
 ·rename_i t a x e;exact Yr b f d o e h
 ·rename_i c e;split at h
  ·rename_i g;split at h
   ·rename_i x t i j;exact Ys b f d o e g i j h
   ·exact absurd h id
  ·rename_i g;split at h
   ·rename_i x y t u i j;exact a1T b f d o e g i j h
   ·exact absurd h id
  ·rename_i l _ _ g;unfold Ya at h;split at h
   ·split at h
    ·rename_i x y t u i j;exact UF b f d o e g i j h
    ·exact absurd h id
   ·exact absurd h id
  ·exact absurd h id
 ·rename_i t a x v e;simp only[fV]at h;exact JW b f d o e h
 ·rename_i t a x v e;simp only[fV]at h;exact UE b f d o e h
 ·rename_i t a x e;simp only[fV]at h;exact NP b f d o e h
 ·rename_i t a x v e;simp only[fV]at h;exact Ig b f d o e h
 ·exact absurd h id
end
end Go.Abs
end
section
namespace Go.Abs
section
variable {P:Program} {m m':Mm} {nx:Nat} {ev ev':Operand->a7} {Γ:Env}
theorem AG{t:TypeId}:∀ (ps:List (Nat×Operand)) (cells:List a7),(∀u∈ps,ev u.2=ev' u.2)->eR P ev t cells ps=eR P ev' t cells ps
 |[],_,_=>rfl
 |(i,x)::ps,cells,h=>by
  have a:ev x=ev' x:=h (i,x) (by simp)
  simp only[eR,a];split
  ·split
   ·split
    ·exact AG ps _ (fun u b=>h u (by simp[b]))
    ·rfl
   ·rfl
  ·rfl
theorem wO{e:TypeId}:∀ (ps:List (Nat×Operand)) (i:Nat),(∀u∈ps,ev u.2=ev' u.2)->aF P m ev e i ps=aF P m ev' e i ps
 |[],_,_=>rfl
 |(j,x)::ps,i,h=>by
  have a:ev x=ev' x:=h (j,x) (by simp)
  have b:=wO (e:=e) ps (i+1) (fun u c=>h u (by simp[c]))
  simp only[aF,a,b]
theorem uK{l:List Operand}(h:∀x∈l,ev x=ev' x):l.map ev=l.map ev':=List.map_congr_left h
theorem mO{x:Option Operand}(h:∀y∈x.toList,ev y=ev' y):x.map ev=x.map ev':=by
 cases x with
 |none=>rfl
 |some y=>simp[h y (by simp)]
theorem NR{k:Q->Prop}(o:Oper)(h:∀x∈o.op.operands.toList,ev x=ev' x):O4 Γ P o ev nx m k=O4 Γ P o ev' nx m k:=by
 obtain⟨E,op,C,F,v,guard⟩:=o;cases op<;>simp only[Op.operands]at h
 case move x=>simp only[O4,O4.Gn,h x (by simp)]
 case assign x=>simp only[O4,O4.Gn,h x (by simp)]
 case pick c a b=>simp only[O4,h c (by simp),h a (by simp),h b (by simp)]
 case box e x=>simp only[O4,h x (by simp)]
 case build t ps=>
  have w:=fun cells=>AG (P:=P) (t:=t) ps.toList cells (fun u z=>h u.2 (by simp only[List.mem_map];exact⟨u,z,rfl⟩))
  simp only[O4,tZ,w]
 case buildSlice t n ps=>
  have w:=fun e i=>wO (P:=P) (m:=m) (ev:=ev) (ev':=ev') (e:=e) ps.toList i (fun u z=>h u.2 (by simp only[List.mem_map];exact⟨u,z,rfl⟩))
  simp only[O4,w]
 case load t x=>simp only[O4,h x (by simp)]
 case nilCheck x=>simp only[O4,h x (by simp)]
 case binOp op t x y u=>simp only[O4,h x (by simp),h y (by simp)]
 case unOp op t x=>simp only[O4,h x (by simp)]
 case convert s d x=>simp only[O4,h x (by simp)]
 case makeFunc M a b=>
  have q:=uK (l:=a.toList) (ev:=ev) (ev':=ev') (fun x j=>h x (by simp at j ⊢;exact .inl j))
  have A:=uK (l:=b.toList) (ev:=ev) (ev':=ev') (fun x j=>h x (by simp at j ⊢;exact .inr j))
  simp only[O4,q,A]
 case makeSlice t l c=>simp only[O4,h l (by simp),h c (by simp)]
 case slice t x lo hi mx=>
  have q:=mO (x:=lo) (ev:=ev) (ev':=ev') (fun y D=>h y (by cases lo<;>simp_all))
  have A:=mO (x:=hi) (ev:=ev) (ev':=ev') (fun y D=>h y (by cases lo<;>cases hi<;>simp_all))
  have G:=mO (x:=mx) (ev:=ev) (ev':=ev') (fun y D=>h y (by cases lo<;>cases hi<;>cases mx<;>simp_all))
  simp only[O4,h x (by cases lo<;>cases hi<;>cases mx<;>simp),q,A,G]
 case fieldAddr s x f=>simp only[O4,h x (by simp)]
 case field s x f=>simp only[O4,h x (by simp)]
 case indexAddr t x i=>simp only[O4,h x (by simp),h i (by simp)]
 case index t x i=>simp only[O4,h x (by simp),h i (by simp)]
 case lookup t x i N=>simp only[O4,h x (by simp),h i (by simp)]
 case extract x i=>simp only[O4,h x (by simp)]
 case call c=>
  obtain⟨p,args,H⟩:=c;have q:=uK (l:=args.toList) (ev:=ev) (ev':=ev') (fun x j=>h x (by simp only[Call.operands,Array.toList_append,List.mem_append];exact .inr j))
  cases p with
  |value g=>
   have I:=h g (by simp[Call.operands])
   simp only[O4,q,I]
  |invoke r n=>simp only[O4]
  |builtin b=>
   have B:∀x∈args.toList,ev x=ev' x:=fun x j=>h x (by simp only[Call.operands,Array.toList_append,List.mem_append];exact .inr j)
   cases b<;>simp only[O4,q]
   case len=>
    split
    ·rename_i x t j J;have:=B x (by rw[j];simp)
     simp only[this]
    ·rfl
   case append=>
    split
    ·rename_i x y t u j J;have K:=B x (by rw[j];simp)
     have L:=B y (by rw[j];simp)
     simp only[K,L]
    ·rfl
 all_goals simp only[O4]
theorem NS{k:W->Prop}(o:Oper)(h:∀x∈o.op.operands.toList,ev x=ev' x):iT P o ev m k=iT P o ev' m k:=by
 obtain⟨s,op,p,w,j,guard⟩:=o;cases op<;>simp only[Op.operands]at h
 case store t a x=>simp only[iT,h a (by simp),h x (by simp)]
 case mapUpdate t a x v=>simp only[iT,h a (by simp),h x (by simp),h v (by simp)]
 case insert t a x v=>simp only[iT,h a (by simp),h x (by simp),h v (by simp)]
 case mapEntry t a x=>simp only[iT,h a (by simp),h x (by simp)]
 case entryStore t a x v=>simp only[iT,h a (by simp),h x (by simp),h v (by simp)]
 case call c=>
  obtain⟨d,args,z⟩:=c;have f:∀x∈args.toList,ev x=ev' x:=fun x e=>h x (by simp only[Call.operands,Array.toList_append,List.mem_append];exact .inr e)
  cases d with
  |value g=>simp only[iT]
  |invoke r n=>simp only[iT]
  |builtin b=>
   cases b<;>simp only[iT]
   case clear=>
    split
    ·rename_i x t e q;have i:=f x (by rw[e];simp)
     simp only[i]
    ·rfl
   case copy=>
    split
    ·rename_i x y t u e q;have i:=f x (by rw[e];simp)
     have l:=f y (by rw[e];simp)
     simp only[i,l]
    ·rfl
   case delete=>
    simp only[Ya];split
    ·rename_i x y t u e q;have i:=f x (by rw[e];simp)
     have l:=f y (by rw[e];simp)
     simp only[i,l]
    ·rfl
   all_goals rfl
 all_goals simp only[iT]
theorem pI:∀ (d:Nat),(∀ (v v':a7) (rs:List (Nat×p8)),view m d v=some (v',rs)->(∀r∈N6 rs,m' r=m r)->view m' d v=some (v',rs))/\
  (∀ (vs c:List a7) (rs:List (Nat×p8)),X4 (view m d) vs=some (c,rs)->(∀r∈N6 rs,m' r=m r)->X4 (view m' d) vs=some (c,rs)):=by
 have s:∀ (a b:List (Nat×p8)),N6 (a++b)=N6 a++N6 b:=by
  intro a
  induction a with
  |nil=>intro b;rfl
  |cons u a o=>intro b;obtain⟨r,f⟩:=u;simp[N6,o]
 have E:∀d,(∀ (v v':a7) (rs:List (Nat×p8)),view m d v=some (v',rs)->(∀r∈N6 rs,m' r=m r)->view m' d v=some (v',rs))->
   (∀ (vs c:List a7) (rs:List (Nat×p8)),X4 (view m d) vs=some (c,rs)->(∀r∈N6 rs,m' r=m r)->X4 (view m' d) vs=some (c,rs)):=by
  intro d C vs
  induction vs with
  |nil=>intro c rs h _;simpa [X4]using h
  |cons v vs o=>
   intro c rs h k;simp only[X4]at h ⊢;split at h
   ·rename_i v' G w;split at h
    ·rename_i H I x;simp only[Option.some.injEq,Prod.mk.injEq]at h;obtain⟨rfl,rfl⟩:=h;rw[s]at k;rw[C _ _ _ w (fun r q=>k r (by simp[q])),o _ _ x (fun r q=>k r (by simp[q]))]
    ·cases h
   ·cases h
 intro d
 induction d with
 |zero=>exact⟨fun v v' rs h _=>by simp[view]at h,E 0 (fun v v' rs h _=>by simp[view]at h)⟩
 |succ d o=>
  have C:∀ (v v':a7) (rs:List (Nat×p8)),view m (d+1) v=some (v',rs)->(∀r∈N6 rs,m' r=m r)->view m' (d+1) v=some (v',rs):=by
   intro v v' rs h k;cases v with
   |R3=>simpa [view]using h
   |W2=>simp[view]at h
   |P9 r i j=>simp[view]at h
   |Bu K n=>simp[view]at h
   |O2 r=>simp[view]at h
   |bool b=>simpa [view]using h
   |int L n=>simpa [view]using h
   |R9 t=>simpa [view]using h
   |P5 t l f=>simpa [view]using h
   |V5 t l=>simpa [view]using h
   |J2=>simp[view]at h
   |U0=>simpa [view]using h
   |z6 p=>simpa [view]using h
   |z8 r=>simpa [view]using h
   |B6 y F=>
    simp only[view]at h ⊢;have z:y∈N6 rs:=by
     split at h
     ·split at h
      ·cases h
      ·simp only[Option.some.injEq,Prod.mk.injEq]at h;obtain⟨_,rfl⟩:=h;simp[N6]
     ·cases h
    rw[k y z];exact h
   |sub y lo len F=>
    simp only[view]at h ⊢;have z:y∈N6 rs:=by
     split at h
     ·split at h
      ·cases h
      ·simp only[Option.some.injEq,Prod.mk.injEq]at h;obtain⟨_,rfl⟩:=h;simp[N6]
     ·cases h
    rw[k y z];exact h
   |ptr y off=>
    simp only[view]at h ⊢;split at h
    ·rename_i cells g J;split at h
     ·cases h
     ·rename_i D;split at h
      ·rename_i A B e;simp only[Option.some.injEq,Prod.mk.injEq]at h;obtain⟨rfl,rfl⟩:=h;rw[k y (by simp[N6]),J]
       try simp only
       rw[if_neg D,o.2 _ _ _ e (fun r q=>k r (by simp[N6,q]))]
      ·cases h
    ·cases h
   |L8 cells=>
    simp only[view]at h ⊢;split at h
    ·rename_i A B e;simp only[Option.some.injEq,Prod.mk.injEq]at h;obtain⟨rfl,rfl⟩:=h;rw[o.2 _ _ _ e k]
    ·cases h
   |agg cells=>
    simp only[view]at h ⊢;split at h
    ·rename_i A B e;simp only[Option.some.injEq,Prod.mk.injEq]at h;obtain⟨rfl,rfl⟩:=h;rw[o.2 _ _ _ e k]
    ·cases h
   |I9 cells=>
    simp only[view]at h ⊢;split at h
    ·rename_i A B e;simp only[Option.some.injEq,Prod.mk.injEq]at h;obtain⟨rfl,rfl⟩:=h;rw[o.2 _ _ _ e k]
    ·cases h
   |fn F a b=>
    simp only[view]at h ⊢;split at h
    ·rename_i M G w;split at h
     ·rename_i N I x;simp only[Option.some.injEq,Prod.mk.injEq]at h;obtain⟨rfl,rfl⟩:=h;rw[s]at k;rw[o.2 _ _ _ w (fun r q=>k r (by simp[q])),o.2 _ _ _ x (fun r q=>k r (by simp[q]))]
     ·cases h
    ·cases h
  exact⟨C,E (d+1) C⟩
theorem tE{e:TypeId}:∀ (ps:List (Nat×Operand)) (i:Nat) (cells:List (List a7)) (g:List (Nat×p8)),aF P m ev e i ps=some (cells,g)->(∀r∈N6 g,m' r=m r)->aF P m' ev e i ps=some (cells,g)
 |[],_,_,_,h,_=>by simpa [aF]using h
 |(j,x)::ps,i,cells,g,h,k=>by
  have d:∀ (a b:List (Nat×p8)),N6 (a++b)=N6 a++N6 b:=by
   intro a
   induction a with
   |nil=>intro b;rfl
   |cons u a p=>intro b;obtain⟨r,f⟩:=u;simp[N6,p]
  simp only[aF]at h ⊢;split at h
  ·rename_i l;rw[if_pos l];split at h
   ·rename_i v t q;split at h
    ·rename_i s rest w n c;simp only[Option.some.injEq,Prod.mk.injEq]at h;obtain⟨rfl,rfl⟩:=h;rw[d]at k;rw[(pI 6).1 _ _ _ q (fun r o=>k r (by simp[o]))]
     try simp only
     rw[n,tE ps (i+1) _ _ c (fun r o=>k r (by simp[o]))]
    ·cases h
   ·cases h
  ·cases h
theorem V9{t:Ty}{v:a7}{ys:List t.den}{rs:List Nat}(h:jY m t v=some (ys,rs))(b:∀r∈rs,m' r=m r):jY m' t v=some (ys,rs):=by
 unfold jY at h ⊢;cases v<;>try exact h
 case B6 r f=>
  simp only at h ⊢;have a:r∈rs:=by
   split at h
   ·split at h
    ·split at h
     ·cases h
     ·simp only[Option.some.injEq,Prod.mk.injEq]at h;obtain⟨_,rfl⟩:=h;simp
    ·cases h
   ·cases h
  rw[b r a];exact h
 case sub r lo len f=>
  simp only at h ⊢;have a:r∈rs:=by
   split at h
   ·split at h
    ·split at h
     ·cases h
     ·simp only[Option.some.injEq,Prod.mk.injEq]at h;obtain⟨_,rfl⟩:=h;simp
    ·cases h
   ·cases h
  rw[b r a];exact h
theorem JX{q:Q}{x:a7}(h:FG m x (fun a=>a=q))(c:∀r∈q.reads,m' r=m r):FG m' x (fun a=>a=q):=by
 unfold FG at h ⊢;cases x<;>try exact h
 case B6 r f=>
  simp only at h ⊢;split at h
  ·rename_i ty l g b;split at h
   ·exact absurd h id
   ·rename_i d;rw[c r (by rw[<-h];simp[Q.read]),b]
    simp only[d,if_false];exact h
  ·exact absurd h id
theorem wP{q:Q}{r:Nat}{v:a7}(h:gK m r v (fun a=>a=q))(c:∀r∈q.reads,m' r=m r):gK m' r v (fun a=>a=q):=by
 unfold gK at h ⊢;split at h
 ·split at h
  ·rename_i b;split at h
   ·rename_i v' f d;simp only[b,if_true];rw[(pI 6).1 _ _ _ d (fun r e=>c r (by rw[<-h];simp[e]))]
    exact h
   ·exact absurd h id
  ·rename_i b;simp only[b];exact h
 ·exact h
theorem Ih{q:Q}{t:TypeId}{x:a7}(h:gL P m t x (fun g=>g=q))(c:∀r∈q.reads,m' r=m r):gL P m' t x (fun g=>g=q):=by
 unfold gL at h ⊢;cases x<;>try exact h
 case ptr r off=>
  simp only at h ⊢;split at h
  ·rename_i cells f a;split at h
   ·exact absurd h id
   ·rename_i b;split at h
    ·rename_i v d;have e:r∈q.reads:=by
      unfold gK at h;split at h
      ·split at h
       ·split at h
        ·rw[<-h];simp
        ·exact absurd h id
       ·rw[<-h];simp[Q.read]
      ·rw[<-h];simp[Q.read]
     rw[c r e,a];simp only[b,if_false,d];exact wP h c
    ·exact absurd h id
  ·rename_i p ty n l k f a;split at h
   ·exact absurd h id
   ·rename_i b;split at h
    ·rename_i v d;have e:r∈q.reads:=by
      unfold gK at h;split at h
      ·split at h
       ·split at h
        ·rw[<-h];simp
        ·exact absurd h id
       ·rw[<-h];simp[Q.read]
      ·rw[<-h];simp[Q.read]
     rw[c r e,a];simp only[b,if_false,d];exact wP h c
    ·exact absurd h id
  ·exact absurd h id
 case P9 r i j=>
  simp only at h ⊢;split at h
  ·rename_i ty l f a;split at h
   ·exact absurd h id
   ·rename_i b;obtain⟨hi,h⟩:=h;split at h
    ·rename_i v d;rw[c r (by rw[<-h];simp[Q.read]),a]
     simp only[b,if_false];refine⟨hi,?_⟩;simp only[d];exact h
    ·exact absurd h id
  ·rename_i p ty n l k f a;split at h
   ·exact absurd h id
   ·rename_i b;obtain⟨hi,h⟩:=h;split at h
    ·rename_i v d;rw[c r (by rw[<-h];simp[Q.read]),a]
     simp only[b,if_false];refine⟨hi,?_⟩;simp only[d];exact h
    ·exact absurd h id
  ·exact absurd h id
 case O2 r=>
  simp only at h ⊢;split at h
  ·rename_i ty l f n s a o;split at h
   ·exact absurd h id
   ·rename_i b;rw[c r (by rw[<-h.2];simp[Q.read]),a,o]
    simp only[b,if_false];exact h
  ·exact absurd h id
theorem Dh{q:Q}{t u:TypeId}{x y:a7}(h:W5 P nx m t u x y (fun g=>g=q))(c:∀r∈q.reads,m' r=m r):W5 P nx m' t u x y (fun g=>g=q):=by
 unfold W5 at h ⊢;split at h
 ·split at h
  ·rename_i i;rw[if_pos i];split at h
   ·split at h
    ·rename_i j;rw[if_pos j];split at h
     ·rename_i ys o a;split at h
      ·rw[V9 a (fun r b=>c r (by rw[<-h.2];exact b))]
       exact h
      ·split at h
       ·rename_i d;rw[V9 a (fun r b=>c r (by rw[<-h.2];exact b))]
        try simp only
        rw[if_pos d];exact h
       ·exact absurd h id
      ·split at h
       ·rename_i d;rw[V9 a (fun r b=>c r (by rw[<-h.2.2];exact b))]
        try simp only
        rw[dif_pos d];exact h
       ·exact absurd h id
      ·rename_i r f;split at h
       ·rename_i k l e;split at h
        ·rename_i d;rw[V9 a (fun r b=>c r (by rw[<-h.2];exact List.mem_cons_of_mem _ b))]
         try simp only
         rw[c r (by rw[<-h.2];exact List.mem_cons_self),e]
         try simp only
         rw[dif_pos d];exact h
        ·exact absurd h id
       ·exact absurd h id
      ·rename_i r lo len;split at h
       ·rename_i k l f e;split at h
        ·rename_i d;split at h
         ·exact absurd h id
         ·rename_i n;rw[V9 a (fun r b=>c r (by rw[<-h.2.2];exact List.mem_cons_of_mem _ b))]
          try simp only
          rw[c r (by rw[<-h.2.2];exact List.mem_cons_self),e]
          try simp only
          rw[dif_pos d,if_neg n];exact h
        ·exact absurd h id
       ·exact absurd h id
      ·exact absurd h id
     ·exact absurd h id
    ·exact absurd h id
   ·exact absurd h id
  ·exact absurd h id
 ·exact absurd h id
theorem FQ{q:Q}{t:TypeId}{x:a7}{lo hi mx:Option a7}(h:eI P m t x lo hi mx (fun b=>b=q))(c:∀r∈q.reads,m' r=m r):eI P m' t x lo hi mx (fun b=>b=q):=by
 unfold eI at h ⊢;split at h
 ·split at h
  ·rename_i n e r d;split at h
   ·rename_i ty l f a;split at h
    ·exact absurd h id
    ·rename_i i;rw[c r (by rw[<-h.2];simp[Q.read]),a]
     try simp only
     rw[if_neg i];exact h
   ·exact absurd h id
  ·exact absurd h id
 all_goals (try exact absurd h id)
 all_goals
  split at h
  ·exact h
  ·rename_i e r f d;split at h
   ·rename_i ty l g a;split at h
    ·rename_i j;rw[c r (by rw[<-h.2];simp[Q.read]),a]
     try simp only
     rw[if_pos j];exact h
    ·exact absurd h id
   ·exact absurd h id
  ·exact absurd h id
theorem wQ{q:Q}{t:TypeId}{x i:a7}(h:J3 P m t x i (fun d=>d=q))(c:∀r∈q.reads,m' r=m r):J3 P m' t x i (fun d=>d=q):=by
 unfold J3 at h ⊢;split at h
 ·split at h
  ·split at h
   ·exact h
   ·rename_i r f;split at h
    ·rename_i ty l g a;split at h
     ·rename_i b;rw[c r (by rw[<-h.2];simp[Q.read]),a]
      try simp only
      rw[if_pos b];exact h
     ·exact absurd h id
    ·exact absurd h id
   ·rename_i r lo len f;split at h
    ·rename_i ty l g a;split at h
     ·rename_i b;rw[c r (by rw[<-h.2];simp[Q.read]),a]
      try simp only
      rw[if_pos b];exact h
     ·exact absurd h id
    ·exact absurd h id
   ·exact absurd h id
  ·split at h
   ·rename_i r;split at h
    ·rename_i ty l g a;split at h
     ·rename_i b;rw[c r (by rw[<-h.2];simp[Q.read]),a]
      try simp only
      rw[if_pos b];exact h
     ·exact absurd h id
    ·exact absurd h id
   ·rename_i r off;split at h
    ·rename_i p ty n l e g a;split at h
     ·rename_i b;rw[c r (by rw[<-h.2];simp[Q.read]),a]
      try simp only
      rw[if_pos b];exact h
     ·exact absurd h id
    ·exact absurd h id
   ·exact absurd h id
  ·exact absurd h id
 ·exact absurd h id
theorem Ii{q:Q}{f:FuncId}{args:List a7}(h:sY Γ nx m f args (fun a=>a=q))(d:∀r∈q.reads,m' r=m r):sY Γ nx m' f args (fun a=>a=q):=by
 unfold sY at h ⊢;split at h
 ·rename_i vs e c g i;split at h
  rotate_left
  ·exact h.elim
  rename_i b;obtain⟨n,j,hd⟩:=(c.res vs []).det;have k:=(hd _).1 h.2;have:PK m' args=some (vs,e):=(pI 6).2 _ _ _ g (fun r l=>d r (by rw[<-k];exact l))
  rw[this,i];simp only;rw[if_pos b];exact h
 ·exact absurd h id
theorem JY{q:Q}(o:Oper)(h:O4 Γ P o ev nx m (fun k=>k=q))(e:∀r∈q.reads,m' r=m r):O4 Γ P o ev nx m' (fun k=>k=q):=by
 obtain⟨w,op,v,y,p,guard⟩:=o;cases op<;>simp only[O4]at h ⊢ <;>(try exact h)
 case buildSlice t n ps=>
  split at h
  ·split at h
   ·split at h
    ·rename_i s;rw[if_pos s];split at h
     ·rename_i cells z A;split at h
      ·rename_i l B;rw[tE ps.toList 0 cells z A (fun r C=>e r (by rw[<-h];exact C))]
       simp only[B];exact h
      ·exact absurd h id
     ·exact absurd h id
    ·exact absurd h id
   ·exact absurd h id
  ·exact absurd h id
 case load t a=>exact Ih h e
 case slice t x lo hi mx=>exact FQ h e
 case indexAddr t x i=>exact wQ h e
 case lookup t x i F=>
  split at h
  ·rename_i r G;split at h
   ·rename_i mk l clk f u;split at h
    ·rename_i s;split at h
     ·rename_i D j;rw[e r (by rw[<-h];simp[Q.read]),u]
      try simp only
      rw[if_pos s,j];exact h
     ·exact absurd h id
    ·exact absurd h id
   ·exact absurd h id
  ·exact absurd h id
 case call c=>
  obtain⟨d,args,E⟩:=c;cases d with
  |invoke r n=>exact h
  |value g=>
   simp only at h ⊢;split at h
   ·exact Ii h e
   ·exact absurd h id
  |builtin b=>
   cases b<;>simp only at h ⊢ <;>(try exact h)
   case len=>
    split at h
    ·split at h
     ·exact JX h e
     ·exact absurd h id
    ·exact absurd h id
   case append=>
    split at h
    ·exact Dh h e
    ·exact absurd h id
theorem JZ{D:W}(o:Oper)(h:iT P o ev m (fun x=>x=D))(w:∀r∈D.reads,m' r=m r):iT P o ev m' (fun x=>x=D):=by
 obtain⟨M,op,J,N,F,guard⟩:=o;cases op<;>simp only[iT,fV]at h ⊢ <;>(try exact h)
 case store t a x=>
  split at h
  ·rename_i r E;split at h
   ·rename_i O l ty X d y;split at h
    ·rename_i R;rw[w r (by rw[<-h.2.2.2];simp),d,y]
     try simp only
     rw[dif_pos R];exact h
    ·exact absurd h id
   ·exact absurd h id
  ·rename_i r off E;split at h
   ·rename_i cells xs d y;split at h
    ·rename_i A;rw[w r (by rw[<-h];simp),d,y]
     try simp only
     rw[if_pos A];exact h
    ·exact absurd h id
   ·rename_i p ty n l q xs d y;split at h
    ·rename_i A;have G:r∈D.reads:=by
      unfold MX at h;split at h
      ·rw[<-h];simp
      ·split at h
       ·rw[<-h];simp
       ·exact absurd h id
     rw[w r G,d,y]
     try simp only
     rw[if_pos A];exact h
    ·exact absurd h id
   ·exact absurd h id
  ·rename_i r i j E;split at h
   ·rename_i ty l xs d y;split at h
    ·rename_i A;obtain⟨hi,h⟩:=h;split at h
     ·rename_i S H;rw[w r (by rw[<-h];simp),d,y]
      try simp only
      rw[if_pos A];refine⟨hi,?_⟩;rw[H];exact h
     ·exact absurd h id
    ·exact absurd h id
   ·rename_i p ty n l q xs d y;split at h
    ·rename_i A;obtain⟨hi,h⟩:=h;split at h
     ·rename_i S H;rw[w r (by rw[<-h];simp),d,y]
      try simp only
      rw[if_pos A];refine⟨hi,?_⟩;rw[H];exact h
     ·exact absurd h id
    ·exact absurd h id
   ·exact absurd h id
  ·exact absurd h id
 case mapUpdate t a x v=>
  split at h
  ·split at h
   ·rename_i u;rw[if_pos u];exact h
   ·exact absurd h id
  ·rename_i r K n B L;split at h
   ·rename_i mk l clk d;split at h
    ·rename_i u;split at h
     ·rename_i C k;rw[w r (by rw[<-h];simp),d]
      try simp only
      rw[if_pos u,k];exact h
     ·exact absurd h id
    ·exact absurd h id
   ·exact absurd h id
  ·exact absurd h id
 case insert t a x v=>
  split at h
  ·rename_i r K n B L;split at h
   ·rename_i mk l clk d;split at h
    ·rename_i u;split at h
     ·rename_i C k;rw[w r (by rw[<-h];simp),d]
      try simp only
      rw[if_pos u,k];exact h
     ·exact absurd h id
    ·exact absurd h id
   ·exact absurd h id
  ·exact absurd h id
 case mapEntry t a x=>
  split at h
  ·rename_i r B;split at h
   ·rename_i mk l clk d;split at h
    ·rename_i u;split at h
     ·rename_i C k;rw[w r (by rw[<-h];simp),d]
      try simp only
      rw[if_pos u,k];exact h
     ·exact absurd h id
    ·exact absurd h id
   ·exact absurd h id
  ·exact absurd h id
 case entryStore t a x v=>
  split at h
  ·rename_i r s K n B Y L;split at h
   ·rename_i mk l clk d;split at h
    ·rename_i u;rw[w r (by rw[<-h.2];simp),d]
     try simp only
     rw[if_pos u];exact h
    ·exact absurd h id
   ·exact absurd h id
  ·exact absurd h id
 case call c=>
  obtain⟨z,args,T⟩:=c;cases z with
  |invoke r n=>exact h
  |value g=>exact h
  |builtin b=>
   cases b<;>simp only at h ⊢ <;>(try exact h)
   case clear=>
    split at h
    ·split at h
     ·rename_i e r f U E;split at h
      ·rename_i ty l d;split at h
       ·rename_i u;rw[w r (by rw[<-h];simp),d]
        try simp only
        rw[if_pos u];exact h
       ·exact absurd h id
      ·exact absurd h id
     ·exact absurd h id
    ·exact absurd h id
   case copy=>
    split at h
    ·split at h
     ·rename_i e Z r f U V E;split at h
      ·rename_i ty l d;split at h
       ·rename_i ys rs I;split at h
        ·rename_i u;rw[w r (by rw[<-h];simp),d]
         try simp only
         rw[V9 I (fun r B=>w r (by rw[<-h];exact List.mem_cons_of_mem _ B))]
         try simp only
         rw[if_pos u];exact h
        ·exact absurd h id
       ·exact absurd h id
      ·exact absurd h id
     ·exact absurd h id
    ·exact absurd h id
end
end Go.Abs
end
section
namespace Go.Abs
section
variable {P:Program} {m:Mm} {nx:Nat} {ev:Operand->a7} {Γ:Env} {k:Q->Prop}
theorem UH{x:a7}(h:FG m x k):∃q,FG m x (fun b=>b=q)/\k q:=by
 unfold FG at h;cases x<;>try exact absurd h id
 case W2=>exact⟨_,rfl,h⟩
 case R9=>exact⟨_,rfl,h⟩
 case P5=>exact⟨_,rfl,h⟩
 case sub=>exact⟨_,rfl,h⟩
 case B6 r f=>
  simp only at h;split at h
  ·rename_i ty l g a;split at h
   ·exact absurd h id
   ·rename_i c;refine⟨_,?_,h⟩;simp[FG,a,c]
  ·exact absurd h id
theorem GA{r:Nat}{v:a7}(h:gK m r v k):∃q,gK m r v (fun b=>b=q)/\k q:=by
 unfold gK at h;split at h
 ·rename_i cs;split at h
  ·rename_i a;split at h
   ·rename_i v' e c;refine⟨_,?_,h⟩;simp[gK,a,c]
   ·exact absurd h id
  ·rename_i a;refine⟨_,?_,h⟩;simp[gK,a]
 ·rename_i d;refine⟨_,?_,h⟩;unfold gK;split
  ·rename_i cs;exact absurd rfl (d cs)
  ·rfl
theorem RN{t:TypeId}{x:a7}(h:gL P m t x k):∃q,gL P m t x (fun g=>g=q)/\k q:=by
 unfold gL at h;cases x<;>try exact absurd h id
 case ptr r off=>
  simp only at h;split at h
  ·rename_i cells f a;split at h
   ·exact absurd h id
   ·rename_i b;split at h
    ·rename_i v c;obtain⟨q,d,e⟩:=GA h;refine⟨q,?_,e⟩;simp only[gL,a,b,if_false,c];exact d
    ·exact absurd h id
  ·rename_i p ty n l o f a;split at h
   ·exact absurd h id
   ·rename_i b;split at h
    ·rename_i v c;obtain⟨q,d,e⟩:=GA h;refine⟨q,?_,e⟩;simp only[gL,a,b,if_false,c];exact d
    ·exact absurd h id
  ·exact absurd h id
 case L8 cells=>
  simp only at h;split at h
  ·rename_i v c;refine⟨_,?_,h⟩;simp[gL,c]
  ·exact absurd h id
 case P9 r i j=>
  simp only at h;split at h
  ·rename_i ty l f a;split at h
   ·exact absurd h id
   ·rename_i b;obtain⟨hi,h⟩:=h;split at h
    ·rename_i v c;refine⟨_,?_,h⟩;simp only[gL,a,b,if_false];exact⟨hi,by simp only[c]⟩
    ·exact absurd h id
  ·rename_i p ty n l o f a;split at h
   ·exact absurd h id
   ·rename_i b;obtain⟨hi,h⟩:=h;split at h
    ·rename_i v c;refine⟨_,?_,h⟩;simp only[gL,a,b,if_false];exact⟨hi,by simp only[c]⟩
    ·exact absurd h id
  ·exact absurd h id
 case O2 r=>
  simp only at h;split at h
  ·rename_i ty l f n u a s;split at h
   ·exact absurd h id
   ·rename_i b;refine⟨_,?_,h.2⟩;simp only[gL,a,s,b,if_false];exact⟨h.1,by first|rfl|trivial⟩
  ·exact absurd h id
theorem UI{op:BinOp}{t:TypeId}{x y:a7}{kk:a7->Prop}(h:W4 P op t x y kk):∃v,W4 P op t x y (fun v'=>v'=v)/\kk v:=by
 unfold W4 at h;split at h
 ·rename_i o a kb b;split at h
  ·exact⟨_,by simp only[W4];exact⟨h.1,by first|rfl|trivial⟩,h.2⟩
  ·exact⟨_,by simp only[W4];exact⟨h.1,by first|rfl|trivial⟩,h.2⟩
  ·rename_i p q;split at h
   ·rename_i f;subst f;cases op<;>simp only at h<;>(try exact absurd h id)<;>first
     |exact⟨_,by simp only[W4,if_true],h⟩
     |exact⟨_,by simp only[W4,if_true];exact⟨h.1,by first|rfl|trivial⟩,h.2⟩
   ·exact absurd h id
 ·rename_i a b;split at h
  ·rename_i g;cases op<;>simp only at h<;>(try exact absurd h id)<;>exact⟨_,by simp only[W4,g],h⟩
  ·exact absurd h id
 ·rename_i xs ys;split at h
  ·rename_i c;split at h
   ·rename_i e i;cases op<;>simp only at h<;>(try exact absurd h id)<;>exact⟨_,by simp only[W4,c,i,if_true],h⟩
   ·exact absurd h id
  ·exact absurd h id
 ·rename_i r s ty u;split at h
  ·rename_i c;split at h
   ·rename_i l w j d;obtain⟨n,g2,h⟩:=h;cases op<;>simp only at h<;>(try exact absurd h id)<;>refine⟨_,?_,h⟩<;>simp only[W4]<;>rw[if_pos c,j,d]<;>exact⟨n,g2,by first|rfl|trivial⟩
   ·exact absurd h id
  ·exact absurd h id
 ·exact absurd h id
theorem Ka{t u:TypeId}{x y:a7}(h:W5 P nx m t u x y k):∃q,W5 P nx m t u x y (fun p=>p=q)/\k q:=by
 unfold W5 at h;split at h
 ·rename_i e v j a;split at h
  ·rename_i b;split at h
   ·rename_i ty c;split at h
    ·rename_i n;split at h
     ·rename_i ys w d;split at h
      ·refine⟨_,?_,h.2⟩;simp only[W5];rw[j,a];simp only;rw[if_pos b,c];simp only;rw[if_pos n,d];exact⟨h.1,by first|rfl|trivial⟩
      ·rename_i o;split at h
       ·rename_i g;refine⟨_,?_,h.2⟩;simp only[W5];rw[j,a];simp only;rw[if_pos b,c];simp only;rw[if_pos n,d];simp only;rw[if_pos g];exact⟨h.1,by first|rfl|trivial⟩
       ·exact absurd h id
      ·split at h
       ·rename_i g;refine⟨_,?_,h.2.2⟩;simp only[W5];rw[j,a];simp only;rw[if_pos b,c];simp only;rw[if_pos n,d];simp only;rw[dif_pos g];exact⟨h.1,h.2.1,by first|rfl|trivial⟩
       ·exact absurd h id
      ·rename_i r f;split at h
       ·rename_i o l i;split at h
        ·rename_i g;refine⟨_,?_,h.2⟩;simp only[W5];rw[j,a];simp only;rw[if_pos b,c];simp only;rw[if_pos n,d];simp only;rw[i];simp only;rw[dif_pos g];exact⟨h.1,by first|rfl|trivial⟩
        ·exact absurd h id
       ·exact absurd h id
      ·rename_i r lo len;split at h
       ·rename_i o l f i;split at h
        ·rename_i g;split at h
         ·exact absurd h id
         ·rename_i s;refine⟨_,?_,h.2.2⟩;simp only[W5];rw[j,a];simp only;rw[if_pos b,c];simp only;rw[if_pos n,d];simp only;rw[i];simp only;rw[dif_pos g,if_neg s];exact⟨h.1,h.2.1,by first|rfl|trivial⟩
        ·exact absurd h id
       ·exact absurd h id
      ·exact absurd h id
     ·exact absurd h id
    ·exact absurd h id
   ·exact absurd h id
  ·exact absurd h id
 ·exact absurd h id
theorem NT{t:TypeId}{x:a7}{lo hi mx:Option a7}(h:eI P m t x lo hi mx k):∃q,eI P m t x lo hi mx (fun c=>c=q)/\k q:=by
 unfold eI at h;split at h
 ·split at h
  ·rename_i n e r b;split at h
   ·rename_i ty l f a;split at h
    ·exact absurd h id
    ·rename_i d;refine⟨_,?_,h.2⟩;simp only[eI];rw[b];simp only;rw[a];simp only;rw[if_neg d];exact⟨h.1,by first|rfl|trivial⟩
   ·exact absurd h id
  ·exact absurd h id
 all_goals (try exact absurd h id)
 all_goals
  split at h
  ·rename_i e ty l f b;split at h
   ·rename_i i;refine⟨_,?_,h.2⟩;simp only[eI];rw[b];simp only;rw[if_pos i];exact⟨h.1,by first|rfl|trivial⟩
   ·exact absurd h id
  ·rename_i e r f b;split at h
   ·rename_i ty l g a;split at h
    ·rename_i j;refine⟨_,?_,h.2⟩;simp only[eI];rw[b];simp only;rw[a];simp only;rw[if_pos j];exact⟨h.1,by first|rfl|trivial⟩
    ·exact absurd h id
   ·exact absurd h id
  ·exact absurd h id
theorem Di{t:TypeId}{x i:a7}(h:J3 P m t x i k):∃q,J3 P m t x i (fun j=>j=q)/\k q:=by
 unfold J3 at h;split at h
 ·rename_i ki a;split at h
  ·rename_i e d;split at h
   ·rename_i ty l f;split at h
    ·rename_i o;obtain⟨s,h⟩:=h;refine⟨_,?_,h⟩;simp only[J3];rw[d];simp only;rw[if_pos o];exact⟨s,by first|rfl|trivial⟩
    ·exact absurd h id
   ·rename_i r f;split at h
    ·rename_i ty l g b;split at h
     ·rename_i c;refine⟨_,?_,h.2⟩;simp only[J3];rw[d];simp only;rw[b];simp only;rw[if_pos c];exact⟨h.1,by first|rfl|trivial⟩
     ·exact absurd h id
    ·exact absurd h id
   ·rename_i r lo len f;split at h
    ·rename_i ty l g b;split at h
     ·rename_i c;refine⟨_,?_,h.2⟩;simp only[J3];rw[d];simp only;rw[b];simp only;rw[if_pos c];exact⟨h.1,by first|rfl|trivial⟩
     ·exact absurd h id
    ·exact absurd h id
   ·exact absurd h id
  ·rename_i n e d;split at h
   ·rename_i r;split at h
    ·rename_i ty l g b;split at h
     ·rename_i c;refine⟨_,?_,h.2⟩;simp only[J3];rw[d];simp only;rw[b];simp only;rw[if_pos c];exact⟨h.1,by first|rfl|trivial⟩
     ·exact absurd h id
    ·exact absurd h id
   ·rename_i r off;split at h
    ·rename_i p ty n l u g b;split at h
     ·rename_i c;refine⟨_,?_,h.2⟩;simp only[J3];rw[d];simp only;rw[b];simp only;rw[if_pos c];exact⟨h.1,by first|rfl|trivial⟩
     ·exact absurd h id
    ·exact absurd h id
   ·exact absurd h id
  ·exact absurd h id
 ·exact absurd h id
theorem RO{f:FuncId}{args:List a7}(h:sY Γ nx m f args k):∃q,sY Γ nx m f args (fun b=>b=q)/\k q:=by
 unfold sY at h;split at h
 ·rename_i vs i c d e;split at h
  rotate_left
  ·exact h.elim
  rename_i a;obtain⟨j,g,hd⟩:=(c.res vs []).det;refine⟨_,?_,(hd _).1 h.2⟩;simp only[sY];rw[d,e];simp only;rw[if_pos a];exact⟨h.1,(hd _).2 rfl⟩
 ·exact absurd h id
end
end Go.Abs
end
section
namespace Go.Abs
section
variable {P:Program} {m:Mm} {nx:Nat} {ev:Operand->a7} {Γ:Env} {k:Q->Prop}
theorem Kb(o:Oper)(h:O4 Γ P o ev nx m k):∃q,O4 Γ P o ev nx m (fun T=>T=q)/\k q:=by
 obtain⟨U,op,R,V,J,guard⟩:=o;cases op<;>simp only[O4]at h ⊢ <;>(try exact absurd h id)
 case move x=>
  unfold O4.Gn at h ⊢;split at h
  ·rename_i w;split at h
   ·rename_i t A;exact⟨_,by first|rfl|trivial,h⟩
   ·rename_i A;exact⟨_,by first|rfl|trivial,h⟩
  ·rename_i v w;refine⟨_,?_,h⟩
   first|rfl|trivial
 case assign x=>
  unfold O4.Gn at h ⊢;split at h
  ·rename_i w;split at h
   ·rename_i t A;exact⟨_,by first|rfl|trivial,h⟩
   ·rename_i A;exact⟨_,by first|rfl|trivial,h⟩
  ·rename_i v w;refine⟨_,?_,h⟩
   first|rfl|trivial
 case pick c a b=>
  split at h
  ·rename_i t A;cases t with
   |true=>exact⟨Q.pure (ev a),rfl,h⟩
   |false=>exact⟨Q.pure (ev b),rfl,h⟩
  ·exact absurd h id
 case alloc e=>
  split at h
  ·rename_i n a D;split at h
   ·rename_i t A;split at h
    ·rename_i p;refine⟨_,?_,h⟩;rw[if_pos p]
    ·exact absurd h id
   ·exact absurd h id
  ·rename_i K;split at h
   ·rename_i t A;split at h
    ·rename_i p;refine⟨_,?_,h⟩;rw[if_pos p]
    ·exact absurd h id
   ·split at h
    ·rename_i p;refine⟨_,?_,h⟩;rw[if_pos p]
    ·exact absurd h id
 case box e x=>
  split at h
  ·rename_i cells G;exact⟨_,by first|rfl|trivial,h⟩
  ·exact absurd h id
 case build t ps=>
  split at h
  ·rename_i n e D;split at h
   ·rename_i ty B;split at h
    ·rename_i p;refine⟨_,?_,h⟩;rw[if_pos p]
    ·exact absurd h id
   ·exact absurd h id
  ·rename_i K;split at h
   ·rename_i ty B;split at h
    ·rename_i p;split at h
     ·rename_i cells G;refine⟨_,?_,h⟩;rw[if_pos p]
     ·exact absurd h id
    ·exact absurd h id
   ·unfold tZ at h;split at h
    ·rename_i i fs hi hd;split at h
     ·rename_i v C;split at h
      ·rename_i E;split at h
       ·rename_i cells G;refine⟨_,?_,h⟩;simp only[tZ,hi,hd,C];rw[if_pos E,G]
       ·exact absurd h id
      ·exact absurd h id
     ·exact absurd h id
    ·exact absurd h id
 case buildSlice t n ps=>
  split at h
  ·rename_i e D;split at h
   ·rename_i ty B;split at h
    ·rename_i p;split at h
     ·rename_i cells rs hp;split at h
      ·rename_i l L;refine⟨_,?_,h⟩;rw[if_pos p]
      ·exact absurd h id
     ·exact absurd h id
    ·exact absurd h id
   ·exact absurd h id
  ·exact absurd h id
 case load t a=>exact RN h
 case nilCheck x=>
  split at h
  ·rename_i r i w;exact⟨_,by first|rfl|trivial,h⟩
  ·rename_i cs w;exact⟨_,by first|rfl|trivial,h⟩
  ·rename_i r w;exact⟨_,by first|rfl|trivial,h⟩
  ·rename_i f a b w;exact⟨_,by first|rfl|trivial,h⟩
  ·exact absurd h id
 case binOp op t x y u=>
  obtain⟨v,H,I⟩:=UI h;refine⟨_,?_,I⟩;have:(fun v'=>Q.pure v'=Q.pure v)=(fun v'=>v'=v):=by
   funext v';apply propext;constructor
   ·intro e;exact congrArg Q.val e
   ·intro e;rw[e]
  rw[this];exact H
 case unOp op t x=>
  split at h
  ·rename_i b w;exact⟨_,by first|rfl|trivial,h⟩
  ·rename_i M n w;exact⟨_,⟨h.1,by first|rfl|trivial⟩,h.2⟩
  ·exact absurd h id
 case convert s d x=>
  split at h
  ·rename_i ds M ki n H I h3;exact⟨_,⟨h.1,by first|rfl|trivial⟩,h.2⟩
  ·exact absurd h id
 case makeMap t r=>
  split at h
  ·rename_i p;obtain⟨F,h⟩:=h;refine⟨_,?_,h⟩;rw[if_pos p];exact⟨F,rfl⟩
  ·rename_i p;split at h
   ·rename_i mk hT;refine⟨_,?_,h⟩;rw[if_neg p]
   ·exact absurd h id
 case lookup t x i ck=>
  split at h
  ·rename_i r w;split at h
   ·rename_i mk l clk f X;split at h
    ·rename_i p;split at h
     ·rename_i Y S;refine⟨_,?_,h⟩;rw[if_pos p]
     ·exact absurd h id
    ·exact absurd h id
   ·exact absurd h id
  ·exact absurd h id
 case makeFunc fn a b=>exact⟨_,rfl,h⟩
 case makeSlice t l c=>
  split at h
  ·rename_i e a b D L G;split at h
   ·rename_i ty B;split at h
    ·rename_i p;refine⟨_,?_,h.2⟩;rw[if_pos p];exact⟨h.1,by first|rfl|trivial⟩
    ·exact absurd h id
   ·exact absurd h id
  ·exact absurd h id
 case slice t x lo hi mx=>exact NT h
 case fieldAddr s x f=>
  split at h
  ·rename_i off N r o E w;exact⟨_,by first|rfl|trivial,h⟩
  ·rename_i off N cs E w;exact⟨_,by first|rfl|trivial,h⟩
  ·rename_i off N r i j E w;exact⟨_,by first|rfl|trivial,h⟩
  ·exact absurd h id
 case field s x f=>
  split at h
  ·rename_i off N cs E w;split at h
   ·rename_i v C;refine⟨_,?_,h⟩
    first|rfl|rw[C]
   ·exact absurd h id
  ·exact absurd h id
 case indexAddr t x i=>exact Di h
 case index t x i=>
  split at h
  ·rename_i n e ty l ki a D w Z;split at h
   ·rename_i hs;obtain⟨O,H,I,h⟩:=h;split at h
    ·rename_i v C;refine⟨_,?_,h⟩;rw[if_pos hs];refine⟨O,H,I,?_⟩;rw[C]
    ·exact absurd h id
   ·exact absurd h id
  ·exact absurd h id
 case extract x i=>
  split at h
  ·rename_i vs w;split at h
   ·rename_i v C;refine⟨_,?_,h⟩
    first|rfl|rw[C]
   ·exact absurd h id
  ·exact absurd h id
 case call c=>
  obtain⟨z,args,tys⟩:=c;cases z with
  |invoke r n=>exact absurd h id
  |value g=>
   simp only at h ⊢;split at h
   ·rename_i f first cap hg
    skip
    exact RO h
   ·exact absurd h id
  |builtin b=>
   cases b<;>simp only at h ⊢ <;>(try exact absurd h id)
   case len=>
    split at h
    ·rename_i x t hx A;split at h
     ·rename_i e D
      first|rfl|trivial|skip
      exact UH h
     ·exact absurd h id
    ·exact absurd h id
   case append=>
    split at h
    ·rename_i x y t u hx A
     first|rfl|trivial|skip
     exact Ka h
    ·exact absurd h id
   case max=>
    split at h
    ·rename_i M a r L;split at h
     ·rename_i b O;refine⟨_,?_,h⟩
      first|rfl|trivial|skip
     ·exact absurd h id
    ·exact absurd h id
   case min=>
    split at h
    ·rename_i M a r L;split at h
     ·rename_i b O;refine⟨_,?_,h⟩
      first|rfl|trivial|skip
     ·exact absurd h id
    ·exact absurd h id
theorem UJ{L:W->Prop}(o:Oper)(h:iT P o ev m L):∃q,iT P o ev m (fun O=>O=q)/\L q:=by
 obtain⟨R,op,M,S,I,guard⟩:=o;cases op<;>simp only[iT,fV]at h ⊢ <;>(try exact absurd h id)
 case store t a x=>
  split at h
  ·rename_i r F;split at h
   ·rename_i T l ty l' d D;split at h
    ·rename_i G;refine⟨_,?_,h.2.2.2⟩;rw[dif_pos G];exact⟨h.1,h.2.1,h.2.2.1,by first|rfl|trivial⟩
    ·exact absurd h id
   ·exact absurd h id
  ·rename_i r off F;split at h
   ·rename_i cells xs d D;split at h
    ·rename_i B;refine⟨_,?_,h⟩;rw[if_pos B]
    ·exact absurd h id
   ·rename_i p ty n l q xs d D;split at h
    ·rename_i B;unfold MX at h;split at h
     ·rename_i z;refine⟨_,?_,h⟩;rw[if_pos B];unfold MX;rw[if_pos z]
     ·split at h
      ·rename_i z H;refine⟨_,?_,h⟩;rw[if_pos B];unfold MX;rw[if_neg z,if_pos H]
      ·exact absurd h id
    ·exact absurd h id
   ·exact absurd h id
  ·rename_i r i j F;split at h
   ·rename_i ty l xs d D;split at h
    ·rename_i B;obtain⟨hi,h⟩:=h;split at h
     ·rename_i U J;refine⟨_,?_,h⟩;rw[if_pos B];refine⟨hi,?_⟩;rw[J]
     ·exact absurd h id
    ·exact absurd h id
   ·rename_i p ty n l q xs d D;split at h
    ·rename_i B;obtain⟨hi,h⟩:=h;split at h
     ·rename_i U J;refine⟨_,?_,h⟩;rw[if_pos B];refine⟨hi,?_⟩;rw[J]
     ·exact absurd h id
    ·exact absurd h id
   ·exact absurd h id
  ·exact absurd h id
 case mapEntry t a x=>
  split at h
  ·rename_i r z;split at h
   ·rename_i mk l clk d;split at h
    ·rename_i w;split at h
     ·rename_i E C;refine⟨_,?_,h⟩;rw[if_pos w]
     ·exact absurd h id
    ·exact absurd h id
   ·exact absurd h id
  ·exact absurd h id
 case entryStore t a x v=>
  split at h
  ·rename_i r s N n z H K;split at h
   ·rename_i mk l clk d;split at h
    ·rename_i w;refine⟨_,?_,h.2⟩;rw[if_pos w];exact⟨h.1,by first|rfl|trivial⟩
    ·exact absurd h id
   ·exact absurd h id
  ·exact absurd h id
 case call c=>
  obtain⟨A,args,V⟩:=c;cases A with
  |invoke r n=>exact absurd h id
  |value g=>exact absurd h id
  |builtin b=>
   cases b<;>simp only at h ⊢ <;>(try exact absurd h id)
   case clear=>
    split at h
    ·rename_i x t D G;split at h
     ·rename_i e r f X F;split at h
      ·rename_i ty l d;split at h
       ·rename_i w;refine⟨_,?_,h⟩;rw[if_pos w]
       ·exact absurd h id
      ·exact absurd h id
     ·exact absurd h id
    ·exact absurd h id
   case copy=>
    split at h
    ·rename_i x y t u D G;split at h
     ·rename_i e e' r f X Y F;split at h
      ·rename_i ty l d;split at h
       ·rename_i ys rs Z;split at h
        ·rename_i w;refine⟨_,?_,h⟩;rw[if_pos w]
        ·exact absurd h id
       ·exact absurd h id
      ·exact absurd h id
     ·exact absurd h id
    ·exact absurd h id
   case delete=>
    simp only[Ya]at h ⊢;split at h
    ·rename_i x y t u D G;split at h
     ·rename_i p i z H;split at h
      ·rename_i w;refine⟨_,?_,h.2⟩;rw[if_pos w];exact⟨h.1,by first|rfl|trivial⟩
      ·exact absurd h id
     ·exact absurd h id
    ·exact absurd h id
 case mapUpdate t a x v=>
  split at h
  ·rename_i p i n z H K;split at h
   ·rename_i w;refine⟨_,?_,h.2⟩;rw[if_pos w];exact⟨h.1,by first|rfl|trivial⟩
   ·exact absurd h id
  ·rename_i r N n z K;split at h
   ·rename_i mk l clk d;split at h
    ·rename_i w;split at h
     ·rename_i E C;refine⟨_,?_,h⟩;rw[if_pos w]
     ·exact absurd h id
    ·exact absurd h id
   ·exact absurd h id
  ·exact absurd h id
 case insert t a x v=>
  split at h
  ·rename_i r N n z K;split at h
   ·rename_i mk l clk d;split at h
    ·rename_i w;split at h
     ·rename_i E C;refine⟨_,?_,h⟩;rw[if_pos w]
     ·exact absurd h id
    ·exact absurd h id
   ·exact absurd h id
  ·exact absurd h id
end
end Go.Abs
end
section
namespace Go.Abs
structure SS where
 T:Nat->a7
 nx:Nat
 m:Mm
def j9.z6(st:j9):SS:=⟨y9 st.tmps,st.nx,n9 st.M⟩
def Tq(T:Nat->a7):Operand->a7
 |.tmp t=>T t
 |.const v=>HH v
 |.global _=>.R3
 |.func f=>.fn (.func f) [] []
theorem pJ(b:List (Nat×a7)):As b=Tq (y9 b):=by
 funext x;cases x<;>rfl
def cV(T:Nat->a7):Option Tmp->a7->Nat->a7
 |some d,v=>fun t=>if t=d then v else T t
 |none,_=>T
theorem cK(b:Option Tmp)(v:a7)(c:List (Nat×a7)):y9 (cE b v c)=cV (y9 c) b v:=by
 cases b with
 |none=>rfl
 |some d=>
  funext t;simp only[cE,y9,cV];by_cases h:d=t
  ·rw[if_pos h,if_pos h.symm]
  ·rw[if_neg h,if_neg (Ne.symm h)]
theorem rE(tm:List (Nat×a7))(d:Nat)(v:a7)(h:y9 tm d=v):y9 ((d,v)::tm)=y9 tm:=by
 funext t;simp only[y9];by_cases e:d=t
 ·subst e;rw[if_pos rfl,h]
 ·rw[if_neg e]
theorem bR(M:Mem)(r:Nat)(x:c7×p8):n9 ((r,x)::M)=S0 (n9 M) r x:=by
 funext t;simp only[n9,S0];by_cases h:r=t
 ·rw[if_pos h,if_pos h.symm]
 ·rw[if_neg h,if_neg (Ne.symm h)]
theorem NU(M:Mem)(u:Nat×p8):n9 (Tx M u)=bN (n9 M) u:=by
 unfold Tx bN;split
 ·exact bR ..
 ·rfl
theorem jH:∀ (b:List (Nat×p8)) (M:Mem),n9 (oQ M b)=y7 (n9 M) b
 |[],_=>rfl
 |u::b,M=>by rw[oQ,y7,jH b,NU]
theorem zE:∀ (cs:List c7) (M:Mem) (n:Nat),n9 (Tz M n cs)=E8 (n9 M) n cs
 |[],_,_=>rfl
 |c::cs,M,n=>by rw[Tz,E8,zE cs,bR]
theorem Yt(q:Q)(n:Nat)(M:Mem):n9 (q.ml n M)=q.mm n (n9 M):=by
 rw[Q.ml,Q.mm,zE,jH]
theorem zF:∀ (b:List (Nat×(c7×p8))) (M:Mem),n9 (RA M b)=iS (n9 M) b
 |[],_=>rfl
 |(r,x)::b,M=>by rw[RA,iS,zF b,bR]
def M7.val:M7->a7
 |.skip=>.I9 []
 |.quiet _ q=>q.val
 |.write w=>w.val
 |.kQ _ v _ _ _=>v
def M7.mm:M7->Mm->Mm
 |.skip,m=>m
 |.quiet n q,m=>q.mm n m
 |.write w,m=>iS m w.set
 |.kQ n _ new set _,m=>E8 (bB m set) n (new.map .F8)
def M7.size:M7->Nat
 |.quiet _ q=>q.new.length
 |.kQ _ _ new _ _=>new.length
 |_=>0
structure Dj(F:Nat->Prop)(K:j0)(H:Nat->Option Hd)(w:World)(m:Mm)(nx:Nat)(v:a7)(new:List HO)(set:List (Nat×HO))(x:Value)(w':World)(K':j0)(H':Nat->Option Hd):Prop where
 le:K.le K'
 hle:bY H H'
 I2:∀r,H r=none->H' r≠none->nx<=r/\r<nx+new.length
 rep:c8 K' H' v x
 mem:j8 F K' H' w' (E8 (bB m set) nx (new.map .F8))
 ok:J0 F K' w'
 kept:Kept F w w'
 fix:Fix F K K'
def Ij(P:Program)(F:Nat->Prop)(K:j0)(H:Nat->Option Hd)(w:World)(m:Mm)(nx:Nat)(v:a7)(new:List HO)(set:List (Nat×HO)):Result Next->Prop
 |.ok (.value x) w'=>∃K' H',Dj F K H w m nx v new set x w' K' H'
 |.ok .skip w'=>∃K' H',Dj F K H w m nx v new set (.tuple #[]) w' K' H'
 |.ok (.enter f args) w'=>w'=w/\Calls P f args w (fun e b=>∃x K' H',e=.returned x/\Dj F K H w m nx v new set x b K' H')
 |_=>False
def UK(P:Program)(o:Oper)(T:Nat->a7)(nx:Nat)(m:Mm)(v:a7)(new:List HO)(set:List (Nat×HO))(rd:List Nat):Prop:=
 (∀c,o.op≠ .defer c)/\∀ (e:Nat->a7) (b:Mm),(∀t,Operand.tmp t∈o.op.operands.toList->e t=T t)->(∀r∈rd,b r=m r)->
  ∀ (F:Nat->Prop) (K:j0) (H:Nat->Option Hd) (w:World) (a:Act),J0 F K w->j8 F K H w b->(∀t,c8 K H (e t) (a.tmps.getD t undef))->(∀i,i<new.length->H (nx+i)=none)->Ij P F K H w b nx v new set ((execOp a.eval o).run P w)
def B7(all:Array Oper)(o:Oper)(T:Nat->a7)(c:Bool):Prop:=
 match o.guard with
 |none=>c=true
 |some (j,b)=>∃d,(all[j]?).bind (·.dst)=some d/\(T d=.bool (if c then b else !b)\/(c=false/\T d=.I9 []))
structure Y2(Γ:Env)(P:Program)(all:Array Oper)(n:Nat)(o:Oper)(s:SS)(d:M7)(s':SS):Prop where
 dst:cF n o.dst=true
 T:s'.T=cV s.T o.dst d.val
 nx:s'.nx=s.nx+d.size
 m:s'.m=d.mm s.m
 UL:match d with
  |.skip=>B7 all o s.T false
  |.quiet n q=>B7 all o s.T true/\n=s.nx/\O4 Γ P o (Tq s.T) s.nx s.m (fun q'=>q'=q)
  |.write w=>B7 all o s.T true/\iT P o (Tq s.T) s.m (fun w'=>w'=w)
  |.kQ n v new set rd=>B7 all o s.T true/\n=s.nx/\UK P o s.T s.nx s.m v new set rd
theorem pK{Γ:Env}{Y:Option Hand}{P:Program}{all:Array Oper}{o:Oper}{st:j9}{k:j9->M7->Prop}{X:Nat}(h:JJ Γ Y X P o st k)(i:B7 all o (y9 st.tmps) true):
  (∃d c,Y2 Γ P all st.n o st.z6 d c.z6/\c.n=st.n/\c.gh=st.gh/\c.s7=st.s7/\k c d)\/
  (∃args e,cF st.n o.dst=true/\kR P o.op (As st.tmps)=some args/\Y=some e/\e args st (fun b c=>k {c with tmps:=cE o.dst (.bool b) c.tmps} .skip))\/
  (cF st.n o.dst=true/\isX Γ P X o.op (As st.tmps)=true/\Ug Γ P o (As st.tmps) st.nx (n9 st.M) (fun q=>k {st with tmps:=cE o.dst q.val st.tmps,nx:=st.nx+q.new.length,M:=q.ml st.nx st.M} .skip)):=by
 unfold JJ at h;split at h
 ·rename_i hd;split at h
  ·rename_i j;exact .inr (.inr ⟨hd,j,h⟩)
  split at h
  ·obtain⟨w,f,g⟩:=UJ o h;refine .inl ⟨.write w,{st with tmps:=cE o.dst w.val st.tmps,M:=RA st.M w.set},⟨hd,cK _ _ _,rfl,zF _ _,i,?_⟩,rfl,rfl,rfl,g⟩;rw[pJ]at f;exact f
  ·split at h
   ·rename_i args l;split at h
    ·rename_i e;exact .inr (.inl ⟨args,e,hd,l,rfl,h⟩)
    ·exact absurd h id
   ·obtain⟨q,f,g⟩:=Kb o h;refine .inl ⟨.quiet st.nx q,{st with tmps:=cE o.dst q.val st.tmps,nx:=st.nx+q.new.length,M:=q.ml st.nx st.M},⟨hd,cK _ _ _,rfl,Yt _ _ _,i,rfl,?_⟩,rfl,rfl,rfl,g⟩;rw[pJ]at f;exact f
 ·exact absurd h id
theorem Dk{Γ:Env}{P:Program}{all:Array Oper}{o:Oper}{st:j9}{k:j9->M7->Prop}(h:JJ Γ none 0 P o st k)(c:B7 all o (y9 st.tmps) true):
  ∃d b,Y2 Γ P all st.n o st.z6 d b.z6/\b.n=st.n/\b.gh=st.gh/\b.s7=st.s7/\k b d:=by
 rcases pK h c with h|⟨_,_,_,_,h,_⟩|⟨_,h,_⟩
 ·exact h
 ·cases h
 ·cases h
structure V8(Γ:Env)(P:Program)(all:Array Oper)(n:Nat)(ops:List Oper)(S:Nat->SS)(D:List M7):Prop where
 len:D.length=ops.length
 step:∀i o d,ops[i]? =some o->D[i]? =some d->Y2 Γ P all n o (S i) d (S (i+1))
theorem V8.cons{Γ:Env}{P:Program}{all:Array Oper}{n:Nat}{o:Oper}{ops:List Oper}{S:Nat->SS}{D:List M7}{d:M7}{s:SS}(h:V8 Γ P all n ops S D)(c:Y2 Γ P all n o s d (S 0)):
  V8 Γ P all n (o::ops) (fun|0=>s|i+1=>S i) (d::D):=by
 refine⟨by simp[h.len],fun i o' e b hd=>?_⟩
 cases i with
 |zero=>
  simp only[List.getElem?_cons_zero,Option.some.injEq]at b hd;subst b;subst hd;exact c
 |succ i=>
  simp only[List.getElem?_cons_succ]at b hd;exact h.step i o' e b hd
theorem zG{Γ:Env}{P:Program}{all:Array Oper}:∀ (ops:List Oper) (st:j9) (t:List M7) (k:j9->List M7->Prop),aG Γ none 0 P all ops st t k->
  ∃S D c,S 0=st.z6/\S ops.length=c.z6/\c.n=st.n/\c.gh=st.gh/\c.s7=st.s7/\V8 Γ P all st.n ops S D/\k c (D.reverse++t)
 |[],st,t,k,h=>⟨fun _=>st.z6,[],st,rfl,rfl,rfl,rfl,rfl,⟨rfl,fun i o d N=>by simp at N⟩,h⟩
 |o::ops,st,t,k,h=>by
  have E:∀ (q f:j9) (d:M7),q.z6=st.z6->q.n=st.n->Y2 Γ P all st.n o st.z6 d f.z6->f.n=q.n->f.gh=st.gh->f.s7=st.s7->aG Γ none 0 P all ops f (d::t) k->
    ∃S D c,S 0=st.z6/\S (o::ops).length=c.z6/\c.n=st.n/\c.gh=st.gh/\c.s7=st.s7/\V8 Γ P all st.n (o::ops) S D/\k c (D.reverse++t):=by
   intro q f d Z y x G g l z;obtain⟨S,D,c,O,R,J,U,V,L,Y⟩:=zG ops f (d::t) k z;have I:f.n=st.n:=G.trans y;rw[I]at J L;refine⟨_,_,c,rfl,?_,J,U.trans g,V.trans l,L.cons (s:=st.z6) (d:=d) (by rw[O];exact x),?_⟩
   ·exact R
   ·simpa using Y
  unfold aG at h;split at h
  ·rename_i A;obtain⟨d,f,x,y,g,l,z⟩:=Dk (all:=all) h (by simp[B7,A])
   exact E st f d rfl rfl x y g l z
  ·rename_i j want A;split at h
   ·rename_i u v;split at h
    ·rename_i b C;split at h
     ·rename_i p;rw[tY]at h;cases r:(b==want)with
      |true=>
       have e:b=want:=by simpa using r
       subst e;have M:({st with tmps:=(u,.bool b)::st.tmps}:j9).z6=st.z6:=by
        simp only[j9.z6,rE _ _ _ C]
       obtain⟨d,f,x,y,g,l,z⟩:=Dk (all:=all) (h.1 r) (by
        simp only[B7,A]
        exact⟨u,v,.inl (by simp[y9])⟩)
       rw[M]at x;exact E _ f d M rfl x y g l z
      |false=>
       have e:b= !want:=by revert r;cases b<;>cases want<;>simp
       refine E st {st with tmps:=cE o.dst (.I9 []) ((u,.bool (!want))::st.tmps)} .skip rfl rfl ⟨p,?_,rfl,rfl,?_⟩ rfl rfl rfl (h.2 r)
       ·show y9 (cE o.dst (.I9 []) ((u,.bool (!want))::st.tmps))=cV (y9 st.tmps) o.dst (.I9 []);rw[cK,rE _ _ _ (by rw[C,e])]
       ·simp only[B7,A];exact⟨u,v,.inl (by
         show y9 st.tmps u=_
         rw[C,e];simp)⟩
     ·exact absurd h id
    ·rename_i C;split at h
     ·rename_i p;refine E st {st with tmps:=cE o.dst (.I9 []) st.tmps} .skip rfl rfl ⟨p,?_,rfl,rfl,?_⟩ rfl rfl rfl h
      ·exact cK _ _ _
      ·simp only[B7,A];exact⟨u,v,.inr ⟨trivial,C⟩⟩
     ·exact absurd h id
    ·exact absurd h id
   ·exact absurd h id
abbrev iW:=(Nat->Prop)->j0->(Nat->Option Hd)->World->Prop
structure iW.Ok(X:iW):Prop where
 grow:∀ (F F':Nat->Prop) (K K':j0) (H H':Nat->Option Hd) (w w':World),X F K H w->(∀b,F b->F' b)->K.le K'->bY H H'->Kept F w w'->X F' K' H' w'
def mark(D:Nat):Deferred:= {target:=.collected D,args:= #[]}
def Marks(B:Option Nat)(F:Nat->Prop)(e:List Deferred)(w:World):Prop:=
 match B with
 |none=>e=[]
 |some b=>b<=w.heap.size/\∃c:List Nat,e=c.map mark/\c.Nodup/\∀D∈c,b<=D/\F D/\w.heap[D]? =some (.deferred (some []))
theorem Marks.kept{B:Option Nat}{F:Nat->Prop}{f:List Deferred}{w w':World}(h:Marks B F f w)(g:Kept F w w'):Marks B F f w':=by
 cases B with
 |none=>exact h
 |some b=>
  obtain⟨i,j,k,l,c⟩:=h;exact⟨Nat.le_trans i g.size,j,k,l,fun D e=>⟨(c D e).1,(c D e).2.1,by rw[g.block D (c D e).2.1];exact(c D e).2.2⟩⟩
structure St(X:iW)(B:Option Nat)(F:Nat->Prop)(n:Nat)(K:j0)(H:Nat->Option Hd)(T:Nat->a7)(m:Mm)(a:Act)(w:World):Prop where
 ok:J0 F K w
 mem:j8 F K H w m
 size:n<=a.tmps.size
 defers:Marks B F a.defers w
 tmp:∀t,c8 K H (T t) (a.tmps.getD t undef)
 x:X F K H w
theorem St.ev{X:iW}{B:Option Nat}{F:Nat->Prop}{n:Nat}{K:j0}{H:Nat->Option Hd}{T:Nat->a7}{m:Mm}{a:Act}{w:World}(h:St X B F n K H T m a w)(x:Operand):c8 K H (Tq T x) (a.eval x):=by
 cases x with
 |tmp t=>exact h.tmp t
 |const v=>exact NI v
 |global g=>simp[Tq,c8]
 |func f=>simp[Tq,c8,Act.eval,c9]
structure a8u(X:iW)(B:Option Nat)(F:Nat->Prop)(n:Nat)(K:j0)(H:Nat->Option Hd)(T:Nat->a7)(nx:Nat)(m:Mm)(w:World)(o:Oper)(d:M7)(a':Act)(w':World):Prop where
 st:∃K' H',St X B F n K' H' (cV T o.dst d.val) (d.mm m) a' w'/\K.le K'/\bY H H'/\(∀r,H r=none->H' r≠none->nx<=r/\r<nx+d.size)/\Fix F K K'
 kept:Kept F w w'
theorem UM(a:Act)(b:Option Tmp)(v:Value)(t:Nat)(c:∀d,b=some d->d<a.tmps.size):
  (a.put b v).tmps.getD t undef=if b=some t then v else a.tmps.getD t undef:=by
 cases b with
 |none=>simp[Act.put]
 |some d=>
  have hd:=c d rfl;by_cases h:d=t
  ·subst h;simp[Act.put,hd]
  ·simp[Act.put,h,Array.getElem?_setIfInBounds_ne h]
theorem UN(a:Act)(b:Option Tmp)(v:Value):(a.put b v).tmps.size=a.tmps.size:=by
 cases b<;>simp[Act.put]
theorem Kc(a:Act)(b:Option Tmp)(v:Value):(a.put b v).defers=a.defers:=by
 cases b<;>rfl
section
variable {X:iW} {B:Option Nat} {Γ:Env} {P:Program} {all:Array Oper} {F:Nat->Prop} {n:Nat} {K:j0} {H:Nat->Option Hd} {T:Nat->a7} {m:Mm} {a:Act} {w:World} {o:Oper} {d:M7} {s s':SS}
theorem St.put(h:St X B F n K H T m a w)(hd:cF n o.dst=true){K':j0}{H':Nat->Option Hd}{f:Mm}{w':World}{v:Value}{x:a7}(k:X.Ok)(g:K.le K')(i:bY H H')(b:Kept F w w')(l:J0 F K' w')(p:j8 F K' H' w' f)(q:c8 K' H' x v):
  St X B F n K' H' (cV T o.dst x) f (a.put o.dst v) w':=by
 refine⟨l,p,by rw[UN];exact h.size,by rw[Kc];exact h.defers.kept b,fun t=>?_,k.grow _ _ _ _ _ _ _ _ h.x (fun _ h=>h) g i b⟩
 have c:∀d,o.dst=some d->d<a.tmps.size:=fun d e=>by
  rw[e]at hd;have:d<n:=by simpa [cF]using hd
  exact Nat.lt_of_lt_of_le this h.size
 rw[UM _ _ _ _ c];have old:c8 K' H' (T t) (a.tmps.getD t undef):=c8.mono g i _ _ (h.tmp t);cases j:o.dst with
 |none=>simpa [cV]using old
 |some d=>
  by_cases e:t=d
  ·subst e;simpa [cV]using q
  ·have:¬(some d=some t):=fun r=>e (Option.some.inj r).symm
   rw[if_neg this];simp only[cV,if_neg e];exact old
theorem N8(h:St X B F n K H T m a w){yes:Bool}(p:∀ (j:Nat) (d:Tmp),(all[j]?).bind (·.dst)=some d->d<a.tmps.size)(g:B7 all o T yes):Region.wanted o (yielded all a.tmps)=yes:=by
 unfold B7 at g;unfold Region.wanted;split at g
 ·rename_i e;simp only[e];exact g.symm
 ·rename_i j c e;obtain⟨i,k,f⟩:=g;have b:=h.tmp i;have l:=p j i k;simp only[e,yielded,k,Option.bind_some];rw[Array.getElem?_eq_getElem l];simp only[Array.getD_eq_getD_getElem?,Array.getElem?_eq_getElem l,Option.getD_some]at b;rcases f with f|⟨rfl,f⟩
  ·rw[f]at b;simp only[c8]at b;rw[b];cases yes<;>cases c<;>rfl
  ·rw[f]at b;simp only[c8]at b;obtain⟨cs,q,_⟩:=b;rw[q];rfl
def Wd(ro:Option Nat):Fence:= {Fence.wide with round:=ro}
theorem eU(ro:Option Nat)(f:FuncId):(Wd ro).fn f:=trivial
theorem lH(ro:Option Nat):(Wd ro).depth.isSome=true->1<=0:=fun h=>by simp[Wd,Fence.wide]at h
theorem uL{P:Program}{f:FuncId}{args:Array Value}{w:World}{R:Ending->World->Prop}(ro:Option Nat)(n:Nat)(h:Calls P f args w R):CallsIn (Wd ro) n P f args w R:=
 show CallsIn Fence.wide n P f args w R from callsIn_wide.2 h
theorem Dl{P:Program}{f:FuncId}{args:Array Value}{w:World}{R:Ending->World->Prop}{n:Nat}(h:CallsIn (Wd none) n P f args w R):Calls P f args w R:=
 (callsIn_wide (n:=n)).1 h
theorem UO{ro:Option Nat}(E:X.Ok){Q:Exit->Act->World->Prop}{K0:Act->World->Prop}(V:Good P Γ)(g:St X B F n K H s.T s.m a w)(A:Y2 Γ P all n o s d s')(C:∀ (j:Nat) (d:Tmp),(all[j]?).bind (·.dst)=some d->d<n)
  (O:∀i,i<d.size->H (s.nx+i)=none)(G:∀R w',a8u X B F n K H s.T s.nx s.m w o d R w'->K0 R w'):
  if Region.wanted o (yielded all a.tmps)then o.wpIn (Wd ro) 0 P a w K0 Q else(∀f,o.about P w a.eval=some f->(Wd ro).fn f)/\K0 (a.put o.dst undef) w:=by
 have l:∀ (j:Nat) (d:Tmp),(all[j]?).bind (·.dst)=some d->d<a.tmps.size:=fun j d h=>Nat.lt_of_lt_of_le (C j d h) g.size
 have t:=A.UL;cases d with
 |skip=>
  simp only at t;rw[N8 g l t,if_neg (by simp)]
  exact⟨fun f _=>eU ro f,G _ _ ⟨⟨K,H,g.put A.dst E (.refl K) (.refl H) (.refl F w) g.ok g.mem (by simp[M7.val,c8,undef,c9]),.refl K,.refl H,fun r J L=>absurd J L,.refl F K⟩,.refl F w⟩⟩
 |quiet nx q=>
  obtain⟨k,rfl,y⟩:=t;rw[N8 g l k,if_pos rfl];have u:∀c,o.op≠ .defer c:=fun c e=>by simp[O4,e]at y
  have k:=Dg V g.ok g.mem g.ev (fun I e i hi=>by subst e;exact O i hi) o y
  refine⟨fun f _=>eU ro f,?_⟩
  rw[Oper.semAt_eq _ _ _ u];have p:∀v w' K' H',bP F K H w s.m s.nx q v w' K' H'->K0 (a.put o.dst v) w':=fun v w' K' H' b=>
   G _ _ ⟨⟨K',H',g.put A.dst E b.le b.hle b.kept b.ok b.mem b.rep,b.le,b.hle,b.I2,b.fix⟩,b.kept⟩
  generalize S:(execOp a.eval o).run P w=r at k ⊢;cases r with
  |ok x w'=>
   cases x<;>simp only[I0]at k<;>simp only[Oper.uponIn]<;>try exact k.elim
   case value v=>
    obtain⟨I,K',H',e,b⟩:=k;subst e;exact p v w' K' H' b
   case enter f args=>
    obtain⟨rfl,M⟩:=k;refine⟨lH ro,uL ro _ (M.mono fun e z N=>?_)⟩
    obtain⟨v,I,K',H',rfl,Y,b⟩:=N;subst Y;exact p v z K' H' b
  |halt x w'=>simp only[I0]at k
 |write U=>
  obtain⟨k,y⟩:=t;rw[N8 g l k,if_pos rfl];have u:∀c,o.op≠ .defer c:=fun c e=>by simp[iT,e]at y
  have k:=NQ g.ok g.mem g.ev o y;refine⟨fun f _=>eU ro f,?_⟩
  rw[Oper.semAt_eq _ _ _ u];have p:∀v w',De F K H w s.m U w'->c8 K H U.val v->K0 (a.put o.dst v) w':=fun v w' b D=>
   G _ _ ⟨⟨K,H,g.put A.dst E (.refl K) (.refl H) b.kept b.ok b.mem D,.refl K,.refl H,fun r J L=>absurd J L,.refl F K⟩,b.kept⟩
  generalize S:(execOp a.eval o).run P w=r at k ⊢;cases r with
  |ok x w'=>
   cases x<;>simp only[gZ]at k<;>simp only[Oper.uponIn]<;>try exact k.elim
   case value v=>
    obtain⟨I,e,b,D⟩:=k;subst e;exact p v w' b D
   case skip=>
    obtain⟨I,e,b,D⟩:=k;subst e;exact p _ w' b (by rw[D];simp[c8])
  |halt x w'=>simp only[gZ]at k
 |kQ nx v new set rd=>
  obtain⟨k,rfl,u,y⟩:=t;rw[N8 g l k,if_pos rfl];have k:=y s.T s.m (fun _ _=>rfl) (fun _ _=>rfl) F K H w a g.ok g.mem g.tmp O
  refine⟨fun f _=>eU ro f,?_⟩
  rw[Oper.semAt_eq _ _ _ u];have p:∀x w' K' H',Dj F K H w s.m s.nx v new set x w' K' H'->K0 (a.put o.dst x) w':=fun x w' K' H' b=>
   G _ _ ⟨⟨K',H',g.put A.dst E b.le b.hle b.kept b.ok b.mem b.rep,b.le,b.hle,b.I2,b.fix⟩,b.kept⟩
  generalize S:(execOp a.eval o).run P w=r at k ⊢;cases r with
  |ok x w'=>
   cases x<;>simp only[Ij]at k<;>simp only[Oper.uponIn]<;>try exact k.elim
   case value x=>
    obtain⟨K',H',b⟩:=k;exact p x w' K' H' b
   case skip=>
    obtain⟨K',H',b⟩:=k;exact p _ w' K' H' b
   case enter f args=>
    obtain⟨rfl,M⟩:=k;refine⟨lH ro,uL ro _ (M.mono fun e z N=>?_)⟩
    obtain⟨x,K',H',rfl,b⟩:=N;exact p x z K' H' b
  |halt x w'=>simp only[Ij]at k
end
structure Kd(X:iW)(B:Option Nat)(F:Nat->Prop)(n:Nat)(K:j0)(w:World)(s:SS)(a':Act)(w':World):Prop where
 st:∃K' H',St X B F n K' H' s.T s.m a' w'/\K.le K'/\(∀r,s.nx<=r->H' r=none)/\Fix F K K'
 kept:Kept F w w'
theorem Kd.trans{X:iW}{B:Option Nat}{F:Nat->Prop}{n:Nat}{K f:j0}{w g w2:World}{s:SS}{i:Act}(h:Kd X B F n f g s i w2)(j:K.le f)(k:Fix F K f)(l:Kept F w g):Kd X B F n K w s i w2:=by
 obtain⟨⟨K',H',a,b,c,d⟩,e⟩:=h;exact⟨⟨K',H',a,j.trans b,c,k.trans d⟩,l.trans e⟩
end Go.Abs
end
section
namespace Go.Abs
theorem mS:∀ (k n r:Nat),r∈uA n k↔n<=r/\r<n+k
 |0,n,r=>by simp[uA]
 |k+1,n,r=>by
  simp only[uA,List.mem_cons,mS k];omega
theorem W0(m:Mm)(u:Nat×p8)(r:Nat):bN m u r=if r=u.1 then(m r).map (fun x=>(x.1,u.2))else m r:=by
 unfold bN;cases h:m u.1 with
 |none=>
  simp only;by_cases e:r=u.1
  ·rw[if_pos e,e,h];rfl
  ·rw[if_neg e]
 |some x=>
  simp only;by_cases e:r=u.1
  ·rw[if_pos e,e,j6,h];rfl
  ·rw[if_neg e,n6 _ _ _ _ e]
theorem Dm{r:Nat}:∀ (a:List (Nat×p8)) (m b:Mm),m r=b r->y7 m a r=y7 b a r
 |[],_,_,h=>h
 |u::a,m,b,h=>by
  refine Dm a _ _ ?_;rw[W0,W0,h]
theorem mT{r:Nat}:∀ (a:List (Nat×p8)) (m:Mm),r ∉ a.map (·.1)->y7 m a r=m r
 |[],_,_=>rfl
 |u::a,m,h=>by
  simp only[List.map_cons,List.mem_cons,not_or]at h;rw[y7,mT a _ h.2,W0,if_neg h.1]
theorem Kf{r:Nat}(cs:List c7)(n:Nat)(m a:Mm)(h:m r=a r):E8 m n cs r=E8 a n cs r:=by
 rw[u6,u6];split
 ·rfl
 ·exact h
theorem Kg{r:Nat}:∀ (a:List (Nat×(c7×p8))) (m b:Mm),m r=b r->iS m a r=iS b a r
 |[],_,_,h=>h
 |(c,x)::a,m,b,h=>by
  refine Kg a _ _ ?_;by_cases e:r=c
  ·subst e;rw[j6,j6]
  ·rw[n6 _ _ _ _ e,n6 _ _ _ _ e,h]
theorem Dp{r:Nat}:∀ (a:List (Nat×(c7×p8))) (m:Mm),r ∉ a.map (·.1)->iS m a r=m r
 |[],_,_=>rfl
 |(b,x)::a,m,h=>by
  simp only[List.map_cons,List.mem_cons,not_or]at h;rw[iS,Dp a _ h.2,n6 _ _ _ _ h.1]
theorem rF{m:Mm}{r:Nat}{o:HO}{us:List (Nat×HO)}(a:o≠ .z):bB m ((r,o)::us)=bB (S0 m r (.F8 o,.own)) us:=by
 cases o<;>first|rfl|exact absurd rfl a
theorem wR{r:Nat}:∀ (a:List (Nat×HO)) (m b:Mm),m r=b r->bB m a r=bB b a r
 |[],_,_,h=>h
 |(d,o)::a,m,b,h=>by
  by_cases c:o=.z
  ·subst c;refine wR a _ _ ?_;rw[W0,W0,h]
  ·rw[rF c,rF c];refine wR a _ _ ?_;by_cases e:r=d
   ·subst e;rw[j6,j6]
   ·rw[n6 _ _ _ _ e,n6 _ _ _ _ e,h]
theorem hE{r:Nat}:∀ (a:List (Nat×HO)) (m:Mm),r ∉ a.map (·.1)->bB m a r=m r
 |[],_,_=>rfl
 |(c,o)::a,m,h=>by
  simp only[List.map_cons,List.mem_cons,not_or]at h;by_cases b:o=.z
  ·subst b;show bB (bN m (c,.dead)) a r=m r;rw[hE a _ h.2,W0,if_neg h.1]
  ·rw[rF b,hE a _ h.2,n6 _ _ _ _ h.1]
theorem a1W(d:M7){m a:Mm}{r:Nat}(h:m r=a r):d.mm m r=d.mm a r:=by
 cases d with
 |skip=>exact h
 |quiet n q=>exact Kf _ _ _ _ (Dm _ _ _ h)
 |write w=>exact Kg _ _ _ h
 |kQ n v new set rd=>exact Kf _ _ _ _ (wR _ _ _ h)
theorem Kh(d:M7){m:Mm}{r:Nat}(h:r ∉ d.wr):d.mm m r=m r:=by
 cases d with
 |skip=>rfl
 |quiet n q=>
  simp only[M7.wr,List.mem_append,not_or]at h;simp only[M7.mm,Q.mm];rw[u6,dif_neg (fun e=>h.2 ((mS _ _ _).2 e)),mT _ _ h.1]
 |write w=>exact Dp _ _ h
 |kQ n v new set rd=>
  simp only[M7.wr,List.mem_append,not_or]at h;simp only[M7.mm];rw[u6,dif_neg (fun e=>h.2 ((mS _ _ _).2 (by simpa using e))),hE _ _ h.1]
theorem lI{a b:List Nat}(h:By a b=true){r:Nat}(c:r∈a)(d:r∈b):False:=by
 have:=List.all_eq_true.1 h r c;simp only[Bool.not_eq_true',List.contains_eq_mem,decide_eq_false_iff_not]at this;exact this d
def GC(all:Array Oper)(a:Oper)(b:M7)(c:Oper)(d:M7):Bool:=a.apart all c && oJ b d
theorem AH{R:Oper->M7->Oper->M7->Bool}{i:Nat}{p:Oper}{q:M7}:∀ (l:List Oper) (m:List M7) (c:List Nat),eK R i p q l m c=true->
  ∀ (b:Nat) (e:Oper) (f:M7) (a:Nat),l[b]? =some e->m[b]? =some f->c[b]? =some a->a.testBit i=true\/R p q e f=true
 |[],_,_,_,b,e,f,a,g,_,_=>by simp at g
 |_::_,[],_,_,b,e,f,a,_,j,_=>by simp at j
 |_::_,_::_,[],_,b,e,f,a,_,_,k=>by simp at k
 |o::l,d::m,a0::c,h,b,e,f,a,g,j,k=>by
  simp only[eK,Bool.and_eq_true,Bool.or_eq_true]at h;cases b with
  |zero=>
   simp only[List.getElem?_cons_zero,Option.some.injEq]at g j k;subst g;subst j;subst k;exact h.1
  |succ b=>exact AH l m c h.2 b e f a (by simpa using g) (by simpa using j) (by simpa using k)
theorem mU{R:Oper->M7->Oper->M7->Bool}:∀ (i:Nat) (m:List Oper) (p:List M7) (c:List Nat),Z4 R i m p c=true->
  ∀ (a b:Nat) (j:Oper) (k:M7) (f:Oper) (g:M7) (l x:Nat),a<b->m[a]? =some j->p[a]? =some k->m[b]? =some f->p[b]? =some g->c[a]? =some x->c[b]? =some l->l.testBit (i+a)=true\/R j k f g=true
 |_,[],_,_,_,a,b,j,k,f,g,l,x,_,q,_,_,_,_,_=>by simp at q
 |_,_::_,[],_,_,a,b,j,k,f,g,l,x,_,_,r,_,_,_,_=>by simp at r
 |_,_::_,_::_,[],_,a,b,j,k,f,g,l,x,_,_,_,_,_,s,_=>by simp at s
 |i,o::m,d::p,a0::c,h,a,b,j,k,f,g,l,x,w,q,r,t,u,s,v=>by
  simp only[Z4,Bool.and_eq_true]at h;cases b with
  |zero=>omega
  |succ b=>
   simp only[List.getElem?_cons_succ]at t u v;cases a with
   |zero=>
    simp only[List.getElem?_cons_zero,Option.some.injEq]at q r;subst q;subst r;exact AH m p c h.1 b f g l t u v
   |succ a=>
    simp only[List.getElem?_cons_succ]at q r s;have:=mU (i+1) m p c h.2 a b j k f g l x (by omega) q r t u s v
    have e:i+1+a=i+(a+1):=by omega
    rw[<-e];exact this
theorem cL:∀ (b:List Oper) (i:Nat),mI b i=true->∀ (a:Nat) (o:Oper),b[a]? =some o->∀e∈o.after,Region.binds .any e=true->e.on<i+a
 |[],_,_,a,o,h,_,_,_=>by simp at h
 |o0::b,i,h,a,o,c,e,d,f=>by
  simp only[mI,Bool.and_eq_true]at h;cases a with
  |zero=>
   simp only[List.getElem?_cons_zero,Option.some.injEq]at c;subst c;have:=List.all_eq_true.1 h.1 e (by simpa using d)
   simpa [f]using this
  |succ a=>
   have:=cL b (i+1) h.2 a o (by simpa using c) e d f
   omega
def zH(all:List Oper)(L:Nat->Prop):Prop:=∀ (i:Nat) (o:Oper),L i->all[i]? =some o->∀e∈o.after,Region.binds .any e=true->L e.on
theorem AI{acc:List Nat}{x:Nat}:∀ (d:List Nat) (m:Nat),(HM acc d m).testBit x=true->m.testBit x=true\/∃j∈d,x=j\/(acc.getD j 0).testBit x=true
 |[],m,h=>Or.inl h
 |j::d,m,h=>by
  unfold HM at h;rw[yV]at h;rcases AI d _ h with h|⟨a,b,c⟩
  ·have h:(m|||(2^j|||acc.getD j 0)).testBit x=true:=h;rw[Nat.testBit_or,Nat.testBit_or,Bool.or_eq_true,Bool.or_eq_true,Nat.testBit_two_pow,decide_eq_true_eq]at h;rcases h with h|h|h
   ·exact Or.inl h
   ·exact Or.inr ⟨j,by simp,Or.inl h.symm⟩
   ·exact Or.inr ⟨j,by simp,Or.inr h⟩
  ·exact Or.inr ⟨a,List.mem_cons_of_mem _ b,c⟩
theorem pL{all:List Oper}{L:Nat->Prop}(F:zH all L):∀ (t:List Oper) (c:List Nat),(∀a:Nat,t[a]? =all[c.length+a]?)->
  (∀ (b:Nat) (l:Nat) (o:Oper),c[b]? =some l->all[b]? =some o->(∀e∈o.after,Region.binds .any e=true->L e.on)->∀j,l.testBit j=true->L j)->
  ∀ (b:Nat) (l:Nat) (o:Oper),(yW t c)[b]? =some l->all[b]? =some o->(∀e∈o.after,Region.binds .any e=true->L e.on)->∀j,l.testBit j=true->L j
 |[],c,_,u=>u
 |o0::t,c,q,u=>by
  unfold yW;rw[yV];refine pL F t _ (fun a=>?_) ?_
  ·have:=q (a+1);simp only[List.getElem?_cons_succ]at this;rw[this,List.length_append,List.length_singleton];congr 1;omega
  ·intro b l o h v i j m;have w:all[c.length]? =some o0:=by simpa using(q 0).symm
   rw[List.getElem?_append]at h;split at h
   ·exact u b l o h v i j m
   ·rename_i x;have y:b=c.length:=by
     rcases Nat.lt_or_ge (b- c.length) 1 with g|g
     ·omega
     ·rw[List.getElem?_eq_none (by simpa using g)]at h;cases h
    subst y;simp only[Nat.sub_self,List.getElem?_cons_zero,Option.some.injEq]at h;rw[w]at v;cases v;subst h;have hd:∀j∈(o0.after.toList.filter (Region.binds .any)).map (·.on),L j:=by
     intro j m;obtain⟨e,z,rfl⟩:=List.mem_map.1 m;obtain⟨A,C⟩:=List.mem_filter.1 z;exact i e (by simpa using A) C
    rcases AI _ _ m with m|⟨p,E,d⟩
    ·rw[Nat.zero_testBit]at m;cases m
    ·have k:=hd p E;rcases d with d|d
     ·rw[d];exact k
     rw[List.getD_eq_getElem?_getD]at d;cases f:c[p]? with
     |none=>rw[f]at d;simp at d
     |some G=>
      rw[f]at d;simp only[Option.getD_some]at d;have x:p<c.length:=by
       rcases Nat.lt_or_ge p c.length with g|g
       ·exact g
       ·rw[List.getElem?_eq_none g]at f;cases f
      have r:∃o',all[p]? =some o':=by
       have:c.length<all.length:=by
        rcases Nat.lt_or_ge c.length all.length with g|g
        ·exact g
        ·rw[List.getElem?_eq_none g]at w;cases w
       exact⟨_,List.getElem?_eq_getElem (by omega)⟩
      obtain⟨o',s⟩:=r;exact u p G o' f s (fun e z h=>F p o' k s e z h) j d
theorem kF:∀ (b:List Oper) (a:List Nat),(yW b a).length=a.length+b.length
 |[],a=>rfl
 |o::b,a=>by
  unfold yW;rw[yV,kF b];simp;omega
theorem Ki(a:List Nat):By a []=true:=by simp[By]
theorem GD{all:Array Oper}{D:List M7}{L:Nat->Prop}(u:S2 all=true)(h:bC all D=true)(A:zH all.toList L){a b:Nat}{m f:Oper}{i j:M7}(p:a<b)
  (s:all.toList[a]? =some m)(v:D[a]? =some i)(k:all.toList[b]? =some f)(w:D[b]? =some j)(C:¬L a)(E:∀e∈f.after,Region.binds .any e=true->L e.on):GC all m i f j=true:=by
 simp only[S2,Bool.and_eq_true]at u;have t:b<all.toList.length:=by
  rcases Nat.lt_or_ge b all.toList.length with q|q
  ·exact q
  ·rw[List.getElem?_eq_none q]at k;cases k
 have y:∀c,c<all.toList.length->∃x,(FI all.toList)[c]? =some x:=fun c F=>⟨_,List.getElem?_eq_getElem (by rw[FI,kF];simpa using F)⟩
 obtain⟨x,r⟩:=y a (by omega)
 obtain⟨l,g⟩:=y b t;have z:¬l.testBit (0+a)=true:=fun q=>by
  refine C (pL A all.toList [] (fun a=>by simp) (fun b l o h=>by simp at h) b l f g k E a ?_)
  simpa using q
 have G:m.apart all f=true:=by
  have H:(all.toList.map fun _=>M7.skip)[a]? =some .skip:=by rw[List.getElem?_map,s];rfl
  have g2:(all.toList.map fun _=>M7.skip)[b]? =some .skip:=by rw[List.getElem?_map,k];rfl
  exact(mU 0 _ _ _ u.2 a b m .skip f .skip l x p s H k g2 r g).resolve_left z
 have I:oJ i j=true:=by
  unfold bC at h;split at h
  ·rename_i d;have J:i.wr=[]:=by simpa using List.all_eq_true.1 d i (List.mem_of_getElem? v)
   have K:j.wr=[]:=by simpa using List.all_eq_true.1 d j (List.mem_of_getElem? w)
   simp only[oJ,J,K,Ki,Bool.and_true];rfl
  ·exact(mU 0 _ _ _ h a b m i f j l x p s v k w r g).resolve_left z
 simp only[GC,G,I,Bool.and_self]
theorem NV{Γ:Env}{P:Program}{all:Array Oper}{n:Nat}{o:Oper}{s u:SS}{d:M7}(h:Y2 Γ P all n o s d u){T:Nat->a7}{m:Mm}(i:∀t∈o.looksAt all,T t=s.T t)(k:∀r∈d.rd,m r=s.m r):
  Y2 Γ P all n o ⟨T,s.nx,m⟩ d ⟨cV T o.dst d.val,u.nx,d.mm m⟩:=by
 have f:∀x∈o.op.operands.toList,Tq s.T x=Tq T x:=by
  intro x E;cases x with
  |tmp t=>exact(i t (List.mem_append_left _ (List.mem_filterMap.2 ⟨.tmp t,E,rfl⟩))).symm
  |_=>rfl
 have a:∀yes,B7 all o s.T yes->B7 all o T yes:=by
  intro yes a;unfold B7 at a ⊢;cases e:o.guard with
  |none=>rw[e]at a;exact a
  |some F=>
   obtain⟨j,y⟩:=F;rw[e]at a;obtain⟨z,b,g⟩:=a;refine⟨z,b,?_⟩;rw[i z (List.mem_append_right _ (by simp[e,b]))]
   exact g
 refine⟨h.dst,rfl,h.nx,rfl,?_⟩;have hd:=h.UL;cases d with
 |skip=>exact a _ hd
 |quiet nx q=>
  obtain⟨b,g,c⟩:=hd;refine⟨a _ b,g,?_⟩;rw[NR o f]at c;exact JY o c k
 |write w=>
  obtain⟨b,c⟩:=hd;refine⟨a _ b,?_⟩;rw[NS o f]at c;exact JZ o c k
 |kQ nx v new set rd=>
  obtain⟨b,g,G,c⟩:=hd;refine⟨a _ b,g,G,fun H I l p=>c H I (fun t A=>?_) (fun r C=>(p r C).trans (k r C))⟩
  rw[l t A];exact i t (List.mem_append_left _ (List.mem_filterMap.2 ⟨.tmp t,A,rfl⟩))
section
variable {X:iW} {B:Option Nat} {ro:Option Nat} {Γ:Env} {P:Program} {all:Array Oper} {n:Nat} {S:Nat->SS} {D:List M7}
theorem V8.UL(h:V8 Γ P all n all.toList S D){i:Nat}{o:Oper}(b:all.toList[i]? =some o):∃d,D[i]? =some d/\Y2 Γ P all n o (S i) d (S (i+1)):=by
 have c:i<all.toList.length:=by
  rcases Nat.lt_or_ge i all.toList.length with e|e
  ·exact e
  ·rw[List.getElem?_eq_none e]at b;cases b
 have a:i<D.length:=by rw[h.len];exact c
 have hd:D[i]? =some D[i]:=List.getElem?_eq_getElem a;exact⟨_,hd,h.step i o _ b hd⟩
theorem V8.Yu(h:V8 Γ P all n all.toList S D)(j:Nat)(d:Tmp)(a:(all[j]?).bind (·.dst)=some d):d<n:=by
 cases b:all[j]? with
 |none=>rw[b]at a;cases a
 |some o=>
  rw[b]at a;simp only[Option.bind_some]at a;obtain⟨e,_,c⟩:=h.UL (i:=j) (o:=o) (by simpa using b)
  have:=c.dst;rw[a]at this;simpa [cF]using this
theorem V8.wS(h:V8 Γ P all n all.toList S D){t:Nat}:∀ (k i:Nat),i+k<=all.toList.length->(∀j o,i<=j->j<i+k->all.toList[j]? =some o->o.dst≠some t)->(S (i+k)).T t=(S i).T t
 |0,i,_,_=>rfl
 |k+1,i,c,a=>by
  have e:all.toList[i+k]? =some all.toList[i+k]:=List.getElem?_eq_getElem (by omega)
  obtain⟨d,_,f⟩:=h.UL e;have b:=a (i+k) _ (by omega) (by omega) e
  rw[<-Nat.add_assoc,f.T];have:cV (S (i+k)).T (all.toList[i+k]).dst d.val t=(S (i+k)).T t:=by
   cases hd:(all.toList[i+k]).dst with
   |none=>rfl
   |some l=>
    rw[hd]at b;simp only[cV];rw[if_neg (fun e=>b (by rw[e]))]
  rw[this];exact h.wS k i (by omega) (fun j o g m=>a j o g (by omega))
theorem V8.wT(h:V8 Γ P all n all.toList S D){r:Nat}:∀ (k i:Nat),i+k<=all.toList.length->(∀j d,i<=j->j<i+k->D[j]? =some d->r ∉ d.wr)->(S (i+k)).m r=(S i).m r
 |0,i,_,_=>rfl
 |k+1,i,b,a=>by
  have e:all.toList[i+k]? =some all.toList[i+k]:=List.getElem?_eq_getElem (by omega)
  obtain⟨d,hd,c⟩:=h.UL e;rw[<-Nat.add_assoc,c.m,Kh d (a (i+k) d (by omega) (by omega) hd)]
  exact h.wT k i (by omega) (fun j d f g=>a j d f (by omega))
theorem V8.Qc(h:V8 Γ P all n all.toList S D):∀ (k i:Nat),i+k<=all.toList.length->(S i).nx<=(S (i+k)).nx
 |0,i,_=>Nat.le_refl _
 |k+1,i,a=>by
  have e:all.toList[i+k]? =some all.toList[i+k]:=List.getElem?_eq_getElem (by omega)
  obtain⟨d,hd,b⟩:=h.UL e;rw[<-Nat.add_assoc,b.nx];have:=h.Qc k i (by omega)
  omega
structure Inv(all:Array Oper)(S:Nat->SS)(D:List M7)(L:Nat->Prop)(H:Nat->Option Hd)(T:Nat->a7)(m:Mm):Prop where
 tmp:∀i t,i<=all.toList.length->(∀ (j:Nat) o,j<i->all.toList[j]? =some o->o.dst=some t->L j)->(∀ (j:Nat) o,i<=j->all.toList[j]? =some o->o.dst=some t->¬L j)->T t=(S i).T t
 mem:∀i r,i<=all.toList.length->(∀ (j:Nat) d,j<i->D[j]? =some d->r∈d.wr->L j)->(∀ (j:Nat) d,i<=j->D[j]? =some d->r∈d.wr->¬L j)->m r=(S i).m r
 closed:zH all.toList L
 fresh:∀r,H r≠none->r<(S 0).nx\/∃j,j<all.toList.length/\L j/\(S j).nx<=r/\r<(S (j+1)).nx
theorem Y3{c d:Oper}{a b:M7}(h:GC all c a d b=true):c.apart all d=true/\By a.wr b.rd=true/\By a.wr b.wr=true/\By a.rd b.wr=true:=by
 simp only[GC,oJ,Bool.and_eq_true]at h;exact⟨h.1,h.2.1.1,h.2.1.2,h.2.2⟩
theorem Z7{α:Type}{l:List α}{i:Nat}{x:α}(h:l[i]? =some x):i<l.length:=by
 rcases Nat.lt_or_ge i l.length with a|a
 ·exact a
 ·rw[List.getElem?_eq_none a]at h;cases h
theorem UP(M:V8 Γ P all n all.toList S D)(E:S2 all=true)(F:bC all D=true){L:Nat->Prop}{H:Nat->Option Hd}{T:Nat->a7}{m:Mm}(hI:Inv all S D L H T m){i:Nat}{o:Oper}{d:M7}
  (O:all.toList[i]? =some o)(hd:D[i]? =some d)(R:Y2 Γ P all n o (S i) d (S (i+1)))(hi:¬L i)(K:∀e∈o.after,Region.binds .any e=true->L e.on):
  Y2 Γ P all n o ⟨T,(S i).nx,m⟩ d ⟨cV T o.dst d.val,(S (i+1)).nx,d.mm m⟩/\(∀k,k<d.size->H ((S i).nx+k)=none)/\
  ∀H',(∀r,H r=none->H' r≠none->(S i).nx<=r/\r<(S i).nx+d.size)->Inv all S D (fun j=>L j\/j=i) H' (cV T o.dst d.val) (d.mm m):=by
 have Z:=Z7 O;have w:∀ (j:Nat) oj l,j<i->all.toList[j]? =some oj->D[j]? =some l->¬L j->GC all oj l o d=true:=fun j oj l s p q g=>GD E F hI.closed s p q O hd g K
 have u:∀ (j:Nat) oj l,i<j->all.toList[j]? =some oj->D[j]? =some l->L j->GC all o d oj l=true:=fun j oj l s p q g=>
  GD E F hI.closed s O hd p q hi (fun e V Y=>hI.closed j oj g p e V Y)
 have y:∀ (j:Nat) l,D[j]? =some l->∃oj,all.toList[j]? =some oj:=fun j l h=>⟨_,List.getElem?_eq_getElem (by rw[<-M.len];exact Z7 h)⟩
 have G:∀j,i<=j->L j->i<j:=fun j p q=>by
  rcases Nat.lt_or_ge i j with z|z
  ·exact z
  ·have:i=j:=by omega
   subst this;exact absurd q hi
 have hT:∀t∈o.looksAt all,T t=(S i).T t:=fun t ht=>by
  refine hI.tmp i t (by omega) (fun j oj s p q=>Classical.byContradiction fun g=>?_) (fun j oj s p q g=>?_)
  ·obtain⟨l,f,_⟩:=M.UL p;exact(Oper.apart_spec (Y3 (w j oj l s p f g)).1).1 t q ht
  ·obtain⟨l,f,_⟩:=M.UL p;exact(Oper.apart_spec (Y3 (u j oj l (G j s g) p f g)).1).2.2 t q ht
 have hR:∀r∈d.rd,m r=(S i).m r:=fun r C=>by
  refine hI.mem i r (by omega) (fun j l s p q=>Classical.byContradiction fun g=>?_) (fun j l s p q g=>?_)
  ·obtain⟨oj,c⟩:=y j l p;exact lI (Y3 (w j oj l s c p g)).2.1 q C
  ·obtain⟨oj,c⟩:=y j l p;exact lI (Y3 (u j oj l (G j s g) c p g)).2.2.2 C q
 have hW:∀r∈d.wr,m r=(S i).m r:=fun r C=>by
  refine hI.mem i r (by omega) (fun j l s p q=>Classical.byContradiction fun g=>?_) (fun j l s p q g=>?_)
  ·obtain⟨oj,c⟩:=y j l p;exact lI (Y3 (w j oj l s c p g)).2.2.1 q C
  ·obtain⟨oj,c⟩:=y j l p;exact lI (Y3 (u j oj l (G j s g) c p g)).2.2.1 C q
 have I:∀a b,a<=b->b<=all.toList.length->(S a).nx<=(S b).nx:=fun a b p q=>by
  have:=M.Qc (b- a) a (by omega)
  rwa [Nat.add_sub_cancel' p]at this
 refine⟨NV R hT hR,fun k hk=>?_,fun H' hH'=>⟨fun i' t N p q=>?_,fun i' r N p q=>?_,?_,fun r C=>?_⟩⟩
 ·cases hh:H ((S i).nx+k)with
  |none=>rfl
  |some x=>
   exfalso;have Ik:=R.nx;rcases hI.fresh _ (by rw[hh];simp)with z|⟨j,s,J,p,q⟩
   ·have:=I 0 i (by omega) (by omega);omega
   ·rcases Nat.lt_trichotomy j i with z|z|z
    ·have:=I (j+1) i (by omega) (by omega);omega
    ·subst z;exact hi J
    ·have:=I (i+1) j (by omega) (by omega);omega
 ·by_cases v:o.dst=some t
  ·have AD:i<i':=by
    rcases Nat.lt_or_ge i i' with z|z
    ·exact z
    ·exact absurd (Or.inr rfl) (q i o z O v)
   have e:(S i').T t=(S (i+1)).T t:=by
    have:=M.wS (t:=t) (i'- (i+1)) (i+1) (by omega) (fun j oj hj1 hj2 c f=>by
     obtain⟨l,U,_⟩:=M.UL c;rcases p j oj (by omega) c f with g|g
     ·exact(Oper.apart_spec (Y3 (u j oj l (by omega) c U g)).1).2.1 t v f
     ·omega)
    rwa [Nat.add_sub_cancel' (by omega)]at this
   rw[e,R.T,v];simp[cV]
  ·have e:cV T o.dst d.val t=T t:=by
    cases W3:o.dst with
    |none=>rfl
    |some t'=>
     rw[W3]at v;simp only[cV];rw[if_neg (fun e=>v (by rw[e]))]
   rw[e];refine hI.tmp i' t N (fun j oj s c f=>?_) (fun j oj s c f g=>q j oj s c f (.inl g))
   rcases p j oj s c f with g|g
   ·exact g
   ·subst g;rw[O]at c;cases c;exact absurd f v
 ·by_cases C:r∈d.wr
  ·have AD:i<i':=by
    rcases Nat.lt_or_ge i i' with z|z
    ·exact z
    ·exact absurd (Or.inr rfl) (q i d z hd C)
   have e:(S i').m r=(S (i+1)).m r:=by
    have:=M.wT (r:=r) (i'- (i+1)) (i+1) (by omega) (fun j l hj1 hj2 f A=>by
     obtain⟨oj,c⟩:=y j l f;rcases p j l (by omega) f A with g|g
     ·exact lI (Y3 (u j oj l (by omega) c f g)).2.2.1 C A
     ·omega)
    rwa [Nat.add_sub_cancel' (by omega)]at this
   rw[e,R.m];exact a1W d (hW r C)
  ·rw[Kh d C];refine hI.mem i' r N (fun j l s f A=>?_) (fun j l s f A g=>q j l s f A (.inl g))
   rcases p j l s f A with g|g
   ·exact g
   ·subst g;rw[hd]at f;cases f;exact absurd A C
 ·intro j oj J c e V Y;rcases J with g|g
  ·exact .inl (hI.closed j oj g c e V Y)
  ·subst g;rw[O]at c;cases c;exact .inl (K e V Y)
 ·have Ik:=R.nx;cases hh:H r with
  |none=>
   have:=hH' r hh C;exact .inr ⟨i,Z,.inr rfl,this.1,by omega⟩
  |some x=>
   rcases hI.fresh r (by rw[hh];simp)with z|⟨j,s,J,p,q⟩
   ·exact .inl z
   ·exact .inr ⟨j,s,.inl J,p,q⟩
theorem Dq(a:S2 all=true){L:Array Bool}(k:L.size=all.size)(h:Region.ready .any all L=[]):∀i,i<all.size->L.getD i false=true:=by
 simp only[S2,Bool.and_eq_true]at a;intro i
 induction i using Nat.strongRecOn with
 |ind i f=>
  intro hi;have d:all[i]? =some all[i]:=Array.getElem?_eq_getElem hi;cases b:L.getD i false with
  |true=>rfl
  |false=>
   exfalso;have:i∈Region.ready .any all L:=by
    rw[mem_ready];refine⟨?_,all[i],d,fun e g c=>?_⟩
    ·simp only[Array.getD_eq_getD_getElem?]at b ⊢;rw[Array.getElem?_eq_getElem (by omega)]at b ⊢
     simpa using b
    ·have j:=cL all.toList 0 a.1 i all[i] (by simp[d]) e g c
     exact f e.on (by omega) (by omega)
   rw[h]at this;cases this
theorem AK{F:Nat->Prop}{Q:Exit->Act->World->Prop}(hX:X.Ok)(hG:Good P Γ)(C:V8 Γ P all n all.toList S D)(g:S2 all=true)(v:bC all D=true):
  ∀ (b:Nat) (U:List Nat) (L:Array Bool) (K:j0) (H:Nat->Option Hd) (T:Nat->a7) (m:Mm) (a:Act) (w:World),L.size=all.size->U.length<=b->(∀j,j<all.size->L.getD j false=false->j∈U)->
   Inv all S D (fun j=>L.getD j false=true) H T m->St X B F n K H T m a w->
   (∀V w',Kd X B F n K w (S all.toList.length) V w'->Q .normal V w')->wpAnyIn (Wd ro) 0 P .any all Q b L a w:=by
 have E:∀ (L:Array Bool) (K:j0) (H:Nat->Option Hd) (T:Nat->a7) (m:Mm) (a:Act) (w:World),(∀i,i<all.size->L.getD i false=true)->Inv all S D (fun j=>L.getD j false=true) H T m->St X B F n K H T m a w->
   Kd X B F n K w (S all.toList.length) a w:=by
  intro L K H T m a w c hI f;have e1:T=(S all.toList.length).T:=funext fun t=>hI.tmp _ t (Nat.le_refl _) (fun j o q _ _=>c j (by simpa using q)) (fun j o q y _=>by have:=Z7 y;omega)
  have e2:m=(S all.toList.length).m:=funext fun r=>hI.mem _ r (Nat.le_refl _) (fun j o q _ _=>c j (by simpa using q)) (fun j d q hd _=>by have:=Z7 hd;rw[C.len]at this;omega)
  refine⟨⟨K,H,e1▸e2▸f,.refl K,fun r hr=>?_,.refl F K⟩,.refl F w⟩
  cases hh:H r with
  |none=>rfl
  |some x=>
   exfalso;rcases hI.fresh r (by rw[hh];simp)with h'|⟨j,q,_,l,u⟩
   ·have:=C.Qc all.toList.length 0 (by omega)
    simp only[Nat.zero_add]at this;omega
   ·have:=C.Qc (all.toList.length- (j+1)) (j+1) (by omega)
    rw[Nat.add_sub_cancel' (by omega)]at this
    omega
 intro b
 induction b with
 |zero=>
  intro U L K H T m a w G hU p hI f Y;have Z:U=[]:=List.length_eq_zero_iff.1 (Nat.le_zero.1 hU);have c:∀i,i<all.size->L.getD i false=true:=fun i hi=>by
   cases hb:L.getD i false with
   |true=>rfl
   |false=>have:=p i hi hb;rw[Z]at this;cases this
  refine⟨?_,Y a w (E L K H T m a w c hI f)⟩;rw[List.eq_nil_iff_forall_not_mem];intro i hi;rw[mem_ready]at hi;obtain⟨l,o,y,_⟩:=hi;have k:=(Array.getElem?_eq_some_iff.1 y).1;have u:=c i k;simp only[Array.getD_eq_getD_getElem?]at l u;rw[Array.getElem?_eq_getElem (by omega)]at l u
  simp only[Option.getD_some]at l u;rw[l]at u;cases u
 |succ b ih=>
  intro U L K H T m a w G hU p hI f Y;refine⟨fun hr=>Y a w (E L K H T m a w (Dq g G hr) hI f),fun i hi=>?_⟩
  rw[mem_ready]at hi;obtain⟨l,o,y,I⟩:=hi;have k:=(Array.getElem?_eq_some_iff.1 y).1;have J:L.getD i false=false:=by
   simp only[Array.getD_eq_getD_getElem?]at l ⊢;rw[Array.getElem?_eq_getElem (by omega)]at l ⊢
   simpa using l
  have M:all.toList[i]? =some o:=by simpa using y
  obtain⟨d,hd,hs⟩:=C.UL M;obtain⟨hs',hf,N⟩:=UP C g v hI M hd hs (by rw[J];simp) (fun e he hb=>I e he hb)
  have:=UO (ro:=ro) hX (Q:=Q) (K0:=wpAnyIn (Wd ro) 0 P .any all Q b (L.setIfInBounds i true)) (s:=⟨T,(S i).nx,m⟩) hG f hs' C.Yu hf (fun V w' hD=>by
   obtain⟨⟨K',H',O,hK,hH,I2,R⟩,z⟩:=hD;refine ih (U.erase i) _ K' H' _ _ V w' (by simpa using G) ?_ ?_ ?_ O (fun a2 w2 u=>Y a2 w2 (u.trans hK R z))
   ·rw[List.length_erase_of_mem (p i k J)];omega
   ·intro j q A;by_cases e:i=j
    ·subst e;simp[G,k]at A
    ·rw[getD_set_ne false e]at A;exact(List.mem_erase_of_ne (Ne.symm e)).2 (p j q A)
   ·have h3:=N H' I2;have e:(fun j=>(L.setIfInBounds i true).getD j false=true)=(fun j=>L.getD j false=true\/j=i):=by
     funext j;apply propext;by_cases e:i=j
     ·subst e;constructor
      ·intro _;exact .inr rfl
      ·intro _;simp[G,k]
     ·rw[getD_set_ne false e];constructor
      ·intro h;exact .inl h
      ·intro h;exact h.resolve_right (fun e'=>e e'.symm)
    rw[e]
    exact h3)
  unfold wpOpIn;rw[y];exact this
theorem St.drawn{F:Nat->Prop}{K:j0}{H:Nat->Option Hd}{T:Nat->a7}{m:Mm}{a:Act}{w:World}(c:X.Ok)(h:St X B F n K H T m a w)(d:Nat)(hd:w.drawn<=d):St X B F n K H T m a {w with drawn:=d}:=
 ⟨⟨⟨fun b cs e=>h.ok.y6.1 b cs e,fun b p f=>h.ok.y6.2 b p f⟩,fun b g=>h.ok.lt b g,h.ok.inv,h.ok.apart⟩,
   h.mem.world (fun _ _ _ _ _ _ _ _ _=>rfl),h.size,h.defers.kept (Kept.of_heap (.refl F w) rfl rfl rfl rfl hd),h.tmp,
   c.grow _ _ _ _ _ _ _ _ h.x (fun _ h=>h) (.refl K) (.refl H) (Kept.of_heap (.refl F w) rfl rfl rfl rfl hd)⟩
theorem Dr{F:Nat->Prop}{K:j0}{H:Nat->Option Hd}{Q:Exit->Act->World->Prop}{id:Nat}{a:Act}{w:World}(v:X.Ok)(x:P.follows .mixedOrders=true)(y:Good P Γ)(p:V8 Γ P all n all.toList S D)(e:S2 all=true)(f:bC all D=true)
  (q:St X B F n K H (S 0).T (S 0).m a w)(z:∀r,(S 0).nx<=r->H r=none)(A:∀l w',Kd X B F n K w (S all.toList.length) l w'->Q .normal l w'):(Code.region id all true).wpIn (Wd ro) 0 P Q a w:=by
 refine wpIn_region_any x ?_;have b:∀j,(Array.replicate all.size false).getD j false=false:=fun j=>by
  simp only[Array.getD_eq_getD_getElem?];rcases Nat.lt_or_ge j all.size with g|g
  ·rw[Array.getElem?_eq_getElem (by simpa using g)];simp
  ·rw[Array.getElem?_eq_none (by simpa using g)];rfl
 refine AK v y p e f all.size (List.range all.size) _ K H (S 0).T (S 0).m a _ (by simp) (by simp) (fun j s _=>by simpa using s) ⟨?_,?_,?_,?_⟩ (q.drawn v _ (Nat.le_succ _)) ?_
 ·intro i t hi k c;have:=p.wS (t:=t) i 0 (by omega) (fun j o _ s C hd=>by
   have:=k j o (by omega) C hd
   rw[b]at this
   cases this)
  rw[Nat.zero_add]at this;exact this.symm
 ·intro i r hi k c;have:=p.wT (r:=r) i 0 (by omega) (fun j d _ s hd u=>by
   have:=k j d (by omega) hd u
   rw[b]at this
   cases this)
  rw[Nat.zero_add]at this;exact this.symm
 ·intro i o h;rw[b]at h;cases h
 ·intro r u;rcases Nat.lt_or_ge r (S 0).nx with g|g
  ·exact .inl g
  ·exact absurd (z r g) u
 ·intro l w' h;refine A l w' ?_;obtain⟨k,c⟩:=h;exact⟨k,⟨c.os,c.tape,c.output,c.size,c.block,Nat.le_trans (Nat.le_succ _) c.drawn⟩⟩
end
end Go.Abs
end
section
namespace Go.Abs
section
variable {F:Nat->Prop} {K:j0} {w:World}
theorem Kj:∀ (l:List Nat) (r k i:Nat),idx l r k=some i->k<=i/\l[i- k]? =some r
 |[],r,k,i,h=>by simp[idx]at h
 |a::l,r,k,i,h=>by
  simp only[idx]at h;split at h
  ·rename_i e;simp only[Option.some.injEq]at h;subst h;subst e;simp
  ·obtain⟨c,b⟩:=Kj l r (k+1) i h;refine⟨by omega,?_⟩
   have e:i- k=(i- (k+1))+1:=by omega
   rw[e,List.getElem?_cons_succ];exact b
theorem Qd{l:List Nat}{r i:Nat}(h:idx l r 0=some i):l[i]? =some r:=by
 have:=(Kj l r 0 i h).2;simpa using this
def aK(l:List Nat)(H:Nat->Option Hd):Nat->Option Hd:=fun i=>(l[i]?).bind H
theorem hO{l:List Nat}{H:Nat->Option Hd}{r i:Nat}(h:idx l r 0=some i):aK l H i=H r:=by
 simp[aK,Qd h]
mutual
theorem BP{l:List Nat}{H:Nat->Option Hd}:∀ (a:a7) (v:Value),c8 K H a v->c8 K (aK l H) (a.dW l) v
 |.B6 r f,v,h=>by
  simp only[a7.dW];split
  ·rename_i i hi;simp only[c8]at h ⊢;obtain⟨hd,d,e,_⟩:=h;exact⟨hd,by rw[hO hi];exact d,e,by simp⟩
  ·simp[c8]
 |.sub r lo len f,v,h=>by
  simp only[a7.dW];split
  ·rename_i i hi;simp only[c8]at h ⊢;obtain⟨hd,cap,base,d,e⟩:=h;exact⟨hd,cap,base,by rw[hO hi];exact d,e⟩
  ·simp[c8]
 |.ptr r o,v,h=>by
  simp only[a7.dW];split
  ·rename_i i hi;simp only[c8]at h ⊢;obtain⟨hd,b,d,e⟩:=h;exact⟨hd,b,by rw[hO hi];exact d,e⟩
  ·simp[c8]
 |.P9 r a o,v,h=>by
  simp only[a7.dW];split
  ·rename_i i hi;simp only[c8]at h ⊢;obtain⟨hd,b,d,e⟩:=h;exact⟨hd,b,by rw[hO hi];exact d,e⟩
  ·simp[c8]
 |.O2 r,v,h=>by
  simp only[a7.dW];split
  ·rename_i i hi;simp only[c8]at h ⊢;obtain⟨hd,b,d,e⟩:=h;exact⟨hd,b,by rw[hO hi];exact d,e⟩
  ·simp[c8]
 |.z8 r,v,h=>by
  simp only[a7.dW];split
  ·rename_i i hi;simp only[c8]at h ⊢;obtain⟨hd,b,d,e⟩:=h;exact⟨hd,b,by rw[hO hi];exact d,e⟩
  ·simp[c8]
 |.P5 t x f,v,h=>by
  simp only[a7.dW,c8]at h ⊢;obtain⟨base,cap,d,e,_,j⟩:=h;exact⟨base,cap,d,e,by simp,j⟩
 |.L8 cs,v,h=>by
  simp only[a7.dW,c8]at h ⊢;obtain⟨b,off,arr,d,e,g⟩:=h;refine⟨b,off,arr,d,e,?_⟩;have:=O8 (l:=l) cs _ g;rwa [show(N5 l cs).length=cs.length from AL l cs]
 |.agg cs,v,h=>by
  simp only[a7.dW,c8]at h ⊢;obtain⟨c,d,e⟩:=h;exact⟨c,d,O8 cs _ e⟩
 |.I9 cs,v,h=>by
  simp only[a7.dW,c8]at h ⊢;obtain⟨c,d,e⟩:=h;exact⟨c,d,O8 cs _ e⟩
 |.fn f a b,v,h=>by
  simp only[a7.dW,c8]at h ⊢;obtain⟨k,m,d,e,g⟩:=h;exact⟨k,m,d,O8 a _ e,O8 b _ g⟩
 |.R3,v,h=>by simp[a7.dW,c8]
 |.bool _,v,h=>by simpa [a7.dW,c8]using h
 |.int _ _,v,h=>by simpa [a7.dW,c8]using h
 |.W2,v,h=>by simpa [a7.dW,c8]using h
 |.R9 _,v,h=>by simpa [a7.dW,c8]using h
 |.V5 _ _,v,h=>by simpa [a7.dW,c8]using h
 |.U0,v,h=>by simpa [a7.dW,c8]using h
 |.J2,v,h=>by simpa [a7.dW,c8]using h
 |.z6 _,v,h=>by simpa [a7.dW,c8]using h
 |.Bu _ _,v,h=>by simp[a7.dW,c8]
theorem O8{l:List Nat}{H:Nat->Option Hd}:∀ (b:List a7) (vs:List Value),c9 K H b vs->c9 K (aK l H) (N5 l b) vs
 |[],vs,h=>by simpa [N5,c9]using h
 |a::b,vs,h=>by
  simp only[N5,c9]at h ⊢;obtain⟨c,d,e,f,g⟩:=h;exact⟨c,d,e,BP a c f,O8 b d g⟩
theorem AL(l:List Nat):∀ (cs:List a7),(N5 l cs).length=cs.length
 |[]=>rfl
 |c::cs=>by simp[N5,AL l cs]
end
theorem pM{l:List Nat}{H:Nat->Option Hd}{hd:Hd}{c:c7}(h:o8 K H w hd c):o8 K (aK l H) w hd (c.dW l):=by
 cases c with
 |box cells=>
  obtain⟨b,cs,e,g,a,d,f⟩:=h;exact⟨b,cs,e,g,a,d,O8 _ _ f⟩
 |bx p t n l q=>
  obtain⟨j,g2,b,cs,e,g,z,A,B,a,d,f,k,s,u⟩:=h;exact⟨j,g2,b,cs,e,g,z,A,B,a,d,f,O8 _ _ k,s,O8 _ _ u⟩
 |sl t x=>exact h
 |mp mk x clk=>exact h
 |it m v seen y=>
  obtain⟨a,d,f,b,C,k,s,u⟩:=h;refine⟨a,d,f,b,C,k,s,fun i hi=>?_⟩
  cases m with
  |none=>cases hi
  |some r=>
   obtain⟨D,j,g2⟩:=u r rfl;exact⟨D,by rw[hO hi];exact j,g2⟩
 |F8 o=>exact BM h
 |any=>exact h
theorem pN(c:c7)(l:List Nat)(h:(c.dW l).isCells=true):c.isCells=true:=by cases c<;>first|exact h|cases h
theorem Dt(l:List Nat)(M:Mem):∀ (b:List Nat) (k i:Nat),n9 (mJ l M b k) i=if k<=i then(b[i- k]?).bind (fun r=>(n9 M r).map (fun x=>(x.1.dW l,x.2)))else none
 |[],k,i=>by simp[mJ,n9]
 |r::b,k,i=>by
  have c:=Dt l M b (k+1) i;have a:k≠i->n9 (mJ l M b (k+1)) i=if k<=i then((r::b)[i- k]?).bind (fun r=>(n9 M r).map (fun x=>(x.1.dW l,x.2)))else none:=by
   intro f;rw[c];by_cases h:k<=i
   ·have e:i- k=(i- (k+1))+1:=by omega
    rw[if_pos h,if_pos (by omega),e,List.getElem?_cons_succ]
   ·rw[if_neg h,if_neg (by omega)]
  simp only[mJ];cases d:n9 M r with
  |none=>
   simp only;by_cases e:k=i
   ·subst e;rw[c,if_neg (by omega)]
    simp[d]
   ·exact a e
  |some x=>
   simp only[n9];by_cases e:k=i
   ·subst e;simp[d]
   ·rw[if_neg e];exact a e
theorem UQ{l:List Nat}{H:Nat->Option Hd}{M:Mem}(z:l.Nodup)(h:j8 F K H w (n9 M)):j8 F K (aK l H) w (n9 (mJ l M l 0)):=by
 have get:∀i c f,n9 (mJ l M l 0) i=some (c,f)->∃r a,l[i]? =some r/\n9 M r=some (a,f)/\c=a.dW l:=by
  intro i c f hi;rw[Dt,if_pos (Nat.zero_le _),Nat.sub_zero]at hi;cases o:l[i]? with
  |none=>rw[o]at hi;cases hi
  |some r=>
   rw[o]at hi;simp only[Option.bind_some]at hi;cases p:n9 M r with
   |none=>rw[p]at hi;cases hi
   |some x=>
    rw[p]at hi;simp only[Option.map_some,Option.some.injEq,Prod.mk.injEq]at hi;obtain⟨rfl,rfl⟩:=hi;exact⟨r,x.1,rfl,p,rfl⟩
 have m:∀i r,l[i]? =some r->aK l H i=H r:=fun i r o=>by simp[aK,o]
 refine⟨?_,?_,?_,?_⟩
 ·intro i c f hd k d g;obtain⟨r,a,j,g2,rfl⟩:=get i c f k;rw[m i r j]at g;exact pM (h.cont r a f hd g2 d g)
 ·intro i c hd b k d g;obtain⟨r,a,j,g2,rfl⟩:=get i c _ k;rw[m i r j]at d;obtain⟨y1,A,B,C⟩:=h.own r a hd b g2 d g;exact⟨y1,A,B,fun D=>C (pN _ _ D)⟩
 ·intro i c hd b k d g;obtain⟨r,a,j,g2,rfl⟩:=get i c _ k;rw[m i r j]at d;exact h.aQ r a hd b g2 d g
 ·intro i u c c' hd q b k d g v E G;obtain⟨r,a,j,g2,rfl⟩:=get i c _ k;obtain⟨y,s,n,t,rfl⟩:=get u c' _ d;rw[m i r j]at g;rw[m u y n]at v;have e:=h.inj r y a s hd q b g2 t g v E G;subst e;exact(List.getElem?_inj (Z7 j) z).1 (j.trans n.symm)
theorem bI:∀ (l b:List Nat),b.Nodup->(uniq l b).Nodup
 |[],b,h=>h
 |a::l,b,h=>by
  simp only[uniq];split
  ·exact bI l b h
  ·rename_i d;refine bI l _ ?_;rw[List.nodup_append];refine⟨h,by simp,?_⟩
   intro x f y c;simp only[List.mem_singleton]at c;subst c;intro e;subst e;exact d (by simpa using f)
theorem AO(M:Mem):∀ (d:Nat) (l:List Nat),l.Nodup->(reach M d l).Nodup
 |0,_,h=>h
 |d+1,_,h=>AO M d _ (bI _ _ h)
def Il(K:j0)(H:Nat->Option Hd)(b:List (Nat×a7))(a:Act):Prop:=∀u∈b,c8 K H u.2 (a.tmps.getD u.1 undef)
theorem Il.y9{H:Nat->Option Hd}{a:Act}:∀ {b:List (Nat×a7)},Il K H b a->∀t,c8 K H (Abs.y9 b t) (a.tmps.getD t undef)
 |[],_,t=>by simp[Abs.y9,c8]
 |(i,v)::r,h,t=>by
  simp only[Abs.y9];split
  ·rename_i e;subst e;exact h (i,v) (by simp)
  ·exact Il.y9 (fun u c=>h u (List.mem_cons_of_mem _ c)) t
theorem Du{H:Nat->Option Hd}{M:Mem}{n:Nat}{ty:Ty}(c:j8 F K H w (n9 M))(a:∀r,n<=r->H r=none):
  ∃H',bY H H'/\j8 F K H' w (n9 ((n,(.sl ty [],.own))::M))/\(∀r,n+1<=r->H' r=none)/\c8 K H' (.B6 n false) (.slice none 0 0):=by
 let hd:Hd:=⟨none,ty.size,0,0⟩
 refine⟨S0 H n hd,L9 (a n (Nat.le_refl _)),?_,fun r e=>?_,?_⟩
 ·rw[bR];exact c.new n (a n (Nat.le_refl _)) (.sl ty []) hd ⟨rfl,rfl,⟨Nat.le_refl _,Nat.zero_le _⟩,.inl ⟨rfl,rfl⟩⟩ (fun b d=>by cases d)
 ·rw[n6 _ _ _ _ (by omega)]
  exact a r (by omega)
 ·simp only[c8];exact⟨hd,j6 _ _ _,rfl,by simp⟩
theorem uM{a:Act}:∀ (d:List (Nat×a7)) (n:Nat) (M:Mem) (H:Nat->Option Hd),Il K H d a->j8 F K H w (n9 M)->(∀r,n<=r->H r=none)->
  ∃H',bY H H'/\Il K H' (gP d n M).1 a/\j8 F K H' w (n9 (gP d n M).2.2)/\(∀r,(gP d n M).2.1<=r->H' r=none)
 |[],n,M,H,e,f,g=>⟨H,.refl H,e,f,g⟩
 |(t,v)::r,n,M,H,e,f,g=>by
  have m:Il K H r a:=fun u hu=>e u (List.mem_cons_of_mem _ hu)
  have h:c8 K H v (a.tmps.getD t undef):=e (t,v) (by simp)
  have b:∃H',bY H H'/\Il K H' ((t,v)::(gP r n M).1) a/\j8 F K H' w (n9 (gP r n M).2.2)/\(∀i,(gP r n M).2.1<=i->H' i=none):=by
   obtain⟨H',c,j,k,l⟩:=uM r n M H m f g;refine⟨H',c,fun u hu=>?_,k,l⟩
   rcases List.mem_cons.1 hu with rfl|hu
   ·exact c8.mono (.refl K) c _ _ h
   ·exact j u hu
  cases v
  case R9 ty=>
   simp only[gP];obtain⟨p,o,g2,q,s⟩:=Du (ty:=ty) f g;obtain⟨H',c,j,k,l⟩:=uM r (n+1) _ p (fun u hu=>c8.mono (.refl K) o _ _ (m u hu)) g2 q
   refine⟨H',o.trans c,fun u hu=>?_,k,l⟩
   rcases List.mem_cons.1 hu with rfl|hu
   ·simp only[c8]at h;simp only;rw[h];exact c8.mono (.refl K) c _ _ s
   ·exact j u hu
  all_goals exact b
theorem Kk{H:Nat->Option Hd}{M:Mem}{n:Nat}{ty:Ty}(c:j8 F K H w (n9 M))(a:∀r,n<=r->H r=none):
  ∃H',bY H H'/\j8 F K H' w (n9 ((n,(.sl ty [],.own))::M))/\(∀r,n+1<=r->H' r=none)/\c8 K H' (.B6 n false) (.slice none 0 0)/\(∀r,r<n->H' r=H r):=by
 let hd:Hd:=⟨none,ty.size,0,0⟩
 refine⟨S0 H n hd,L9 (a n (Nat.le_refl _)),?_,fun r d=>?_,?_,fun r d=>n6 _ _ _ _ (by omega)⟩
 ·rw[bR];exact c.new n (a n (Nat.le_refl _)) (.sl ty []) hd ⟨rfl,rfl,⟨Nat.le_refl _,Nat.zero_le _⟩,.inl ⟨rfl,rfl⟩⟩ (fun b e=>by cases e)
 ·rw[n6 _ _ _ _ (by omega)]
  exact a r (by omega)
 ·simp only[c8];exact⟨hd,j6 _ _ _,rfl,by simp⟩
theorem jI:∀ (cells:List a7) (n:Nat) (M:Mem) (H:Nat->Option Hd),j8 F K H w (n9 M)->(∀r,n<=r->H r=none)->
  ∃H',bY H H'/\(∀vs,c9 K H cells vs->c9 K H' (N7 cells n M).1 vs)/\j8 F K H' w (n9 (N7 cells n M).2.2)/\(∀r,(N7 cells n M).2.1<=r->H' r=none)/\n<=(N7 cells n M).2.1/\
   (∀r,r<n->n9 (N7 cells n M).2.2 r=n9 M r)/\(∀r,r<n->H' r=H r)
 |[],n,M,H,e,f=>⟨H,.refl H,fun _ h=>h,e,f,Nat.le_refl _,fun _ _=>rfl,fun _ _=>rfl⟩
 |v::cells,n,M,H,e,f=>by
  have a:∃H',bY H H'/\(∀vs,c9 K H (v::cells) vs->c9 K H' (v::(N7 cells n M).1) vs)/\j8 F K H' w (n9 (N7 cells n M).2.2)/\(∀i,(N7 cells n M).2.1<=i->H' i=none)/\n<=(N7 cells n M).2.1/\
    (∀r,r<n->n9 (N7 cells n M).2.2 r=n9 M r)/\(∀r,r<n->H' r=H r):=by
   obtain⟨H',d,j,k,l,q,m,o⟩:=jI cells n M H e f;refine⟨H',d,fun vs p=>?_,k,l,q,m,o⟩
   obtain⟨c,cs,rfl,g,b⟩:=c9.inv p;exact .cons (c8.mono (.refl K) d _ _ g) (j _ b)
  cases v
  case R9 ty=>
   simp only[N7];obtain⟨t,s,g2,u,x,y⟩:=Kk (ty:=ty) e f;obtain⟨H',d,j,k,l,q,m,o⟩:=jI cells (n+1) _ t g2 u;refine⟨H',s.trans d,fun vs p=>?_,k,l,by omega,fun r b=>?_,fun r b=>?_⟩
   ·obtain⟨c,cs,rfl,g,b⟩:=c9.inv p;refine .cons ?_ (j _ (c9.mono (.refl K) s _ _ b));simp only[c8]at g;rw[g];exact c8.mono (.refl K) d _ _ x
   ·rw[m r (by omega),bR,n6 _ _ _ _ (by omega)]
   ·rw[o r (by omega),y r b]
  all_goals exact a
theorem j8.a0q{H:Nat->Option Hd}{m:Mm}(h:j8 F K H w m){r:Nat}{c c':c7}(k:c.isCells=true)(o:m r=some (c,.own))(s:∀hd,H r=some hd->o8 K H w hd c'):
  j8 F K H w (S0 m r (c',.own)):=by
 refine⟨?_,?_,?_,?_⟩
 ·intro f c' t d a i g;by_cases e:f=r
  ·subst e;rw[j6]at a;cases a;exact s d g
  ·rw[n6 _ _ _ _ e]at a;exact h.cont f c' t d a i g
 ·intro f c' d b a i g;by_cases e:f=r
  ·subst e;rw[j6]at a;cases a;obtain⟨u,v,k3,k4⟩:=h.own f _ d b o i g;exact⟨u,v,k3,fun _=>k4 k⟩
  ·rw[n6 _ _ _ _ e]at a;exact h.own f c' d b a i g
 ·intro f c' d b a i g;by_cases e:f=r
  ·subst e;rw[j6]at a;cases a
  ·rw[n6 _ _ _ _ e]at a;exact h.aQ f c' d b a i g
 ·intro p q x j l n b a i g y z A;have old:∀f j,S0 m r (c',p8.own) f=some (j,.own)->∃B,m f=some (B,.own):=by
   intro f j a;by_cases e:f=r
   ·subst e;exact⟨_,o⟩
   ·rw[n6 _ _ _ _ e]at a;exact⟨_,a⟩
  obtain⟨_,C⟩:=old p x a;obtain⟨_,g2⟩:=old q j i;exact h.inj p q _ _ l n b C g2 g y z A
theorem Z8:∀ (f:List Nat) (n:Nat) (M:Mem) (H:Nat->Option Hd),j8 F K H w (n9 M)->(∀r,n<=r->H r=none)->
  ∃H',bY H H'/\j8 F K H' w (n9 (aS f n M).2)/\(∀r,(aS f n M).1<=r->H' r=none)
 |[],n,M,H,d,g=>⟨H,.refl H,d,g⟩
 |r::f,n,M,H,d,g=>by
  simp only[aS];split
  ·rename_i cells i;split
   ·rename_i a;obtain⟨k,j,g2,m,o,B,s,u⟩:=jI cells n M H d g;have h:=(s r a).trans i;obtain⟨H',v,x,y⟩:=Z8 f _ ((r,(.box (N7 cells n M).1,.own))::(N7 cells n M).2.2) k (by
     rw[bR];refine m.a0q rfl h (fun hd hh=>?_)
     rw[u r a]at hh;obtain⟨b,cs,e,z,A,C,D⟩:=d.cont r _ _ hd i (by simp) hh
     exact⟨b,cs,e,z,A,C,g2 _ D⟩) o
    exact⟨H',j.trans v,x,y⟩
   ·exact Z8 f n M H d g
  ·rename_i p t c l q i;split
   ·rename_i a;obtain⟨k,j,g2,m,o,B,s,u⟩:=jI q n M H d g;have h:=(s r a).trans i;obtain⟨H',v,x,y⟩:=Z8 f _ ((r,(.bx p t c l (N7 q n M).1,.own))::(N7 q n M).2.2) k (by
     rw[bR];refine m.a0q rfl h (fun hd hh=>?_)
     rw[u r a]at hh;obtain⟨E,A,b,cs,e,z,G,I,J,L,N,O,P,R,S⟩:=d.cont r _ _ hd i (by simp) hh
     exact⟨E,A,b,cs,e,z,G,I,J,L,N,O,c9.mono (.refl K) j _ _ P,R,g2 _ S⟩) o
    exact⟨H',j.trans v,x,y⟩
   ·exact Z8 f n M H d g
  ·exact Z8 f n M H d g
abbrev Ctx:=(Nat->Prop)->j0->(Nat->Option Hd)->List a7->Option I3->World->Prop
def Ctx.bA(X:Ctx)(a:List a7)(p:Option I3):iW:=fun F K H w=>X F K H a p w
structure Ctx.Ok(X:Ctx):Prop where
 grow:∀gh p,(X.bA gh p).Ok
 dW:∀ (F:Nat->Prop) (K:j0) (H:Nat->Option Hd) (l:List Nat) (gh:List a7) (p:Option I3) (w:World),X F K H gh p w->X F K (aK l H) (N5 l gh) p w
theorem Dv{X:Ctx}{B:Option Nat}(f:X.Ok){n:Nat}{H:Nat->Option Hd}{st:j9}{a:Act}(ks:List Nat)(h:St (X.bA st.gh st.s7) B F n K H st.z6.T st.z6.m a w)(j:∀r,st.nx<=r->H r=none):
  ∃H',St (X.bA (canon ks st).gh (canon ks st).s7) B F n K H' (canon ks st).z6.T (canon ks st).z6.m a w/\∀r,(canon ks st).nx<=r->H' r=none:=by
 have k:Il K H (PO st.tmps ks) a:=by
  intro u b;obtain⟨t,_,rfl⟩:=List.mem_map.1 b;exact h.tmp t
 obtain⟨o,p,g2,q,s⟩:=uM (PO st.tmps ks) st.nx st.M H k h.mem j
 let x:=gP (PO st.tmps ks) st.nx st.M
 let c:=uniq ((x.1.map fun u=>refs 3 u.2).flatten++(st.gh.map (refs 3)).flatten) []
 obtain⟨g,i,v,k3⟩:=Z8 c x.2.1 x.2.2 o q s
 let y:=aS c x.2.1 x.2.2
 let l:=reach y.2 2 c
 have z:l.Nodup:=AO _ _ _ (bI _ _ List.nodup_nil);refine⟨aK l g,⟨h.ok,UQ z v,h.size,h.defers,?_,?_⟩,fun r A=>?_⟩
 ·have:Il K (aK l g) (x.1.map fun u=>(u.1,u.2.dW l)) a:=by
   intro u b;obtain⟨C,d,rfl⟩:=List.mem_map.1 b;exact BP _ _ (c8.mono (.refl K) i _ _ (g2 C d))
  exact this.y9
 ·exact f.dW _ _ _ l _ _ _ ((f.grow _ _).grow _ _ _ _ _ _ _ _ h.x (fun _ h=>h) (.refl K) (p.trans i) (.refl F w))
 ·have e:l.length<=r:=A;simp[aK,List.getElem?_eq_none e]
theorem Yv{X:Ctx}{B:Option Nat}(o:X.Ok){n:Nat}{H:Nat->Option Hd}{st:j9}{a:Act}(t:Nat)(h:St (X.bA st.gh st.s7) B F n K H st.z6.T st.z6.m a w):
  ∃K',St (X.bA (JK t st).gh (JK t st).s7) B F n K' H (JK t st).z6.T (JK t st).z6.m a w/\K.le K'/\Fix F K K'/\(JK t st).n=st.n/\(JK t st).nx=st.nx:=by
 unfold JK;split
 ·split
  ·rename_i v d k;have k:view st.z6.m 6 (st.z6.T t)=some (v,d):=k;have g:=(dD st.z6.m 6).1 _ _ _ k;obtain⟨l,_⟩:=h.mem.freeze h.ok.y6 d g;obtain⟨i,j⟩:=h.ok.frozen h.mem d g;have c:=K.M9 w (R8 H d);refine⟨_,⟨i,?_,h.size,h.defers,?_,(o.grow _ _).grow _ _ _ _ _ _ _ _ h.x (fun _ h=>h) c (.refl H) (.refl F w)⟩,c,j,rfl,rfl⟩
   ·have:(j9.z6 {st with tmps:=(t,v)::st.tmps,M:=oQ st.M (J9 d)}).m=y7 st.z6.m (J9 d):=jH _ _;rw[this];exact l
   ·intro t';have:(j9.z6 {st with tmps:=(t,v)::st.tmps,M:=oQ st.M (J9 d)}).T t'=if t=t' then v else st.z6.T t':=rfl
    rw[this];by_cases e:t=t'
    ·subst e;rw[if_pos rfl];exact(kY h.mem c H (.refl H) 6).1 _ _ _ _ k (fun r f hd b cs e y p q s u=>gT (dC p q s) h.ok.y6 u) (h.tmp t)
    ·rw[if_neg e];exact c8.mono c (.refl H) _ _ (h.tmp t')
  ·exact⟨K,h,.refl K,.refl F K,rfl,rfl⟩
 ·exact⟨K,h,.refl K,.refl F K,rfl,rfl⟩
theorem Im{X:Ctx}{B:Option Nat}(b:X.Ok){n:Nat}{H:Nat->Option Hd}{st:j9}{a:Act}:∀ (ks:List Nat),St (X.bA st.gh st.s7) B F n K H st.z6.T st.z6.m a w->
  ∃K',St (X.bA (sJ ks st).gh (sJ ks st).s7) B F n K' H (sJ ks st).z6.T (sJ ks st).z6.m a w/\K.le K'/\Fix F K K'/\(sJ ks st).n=st.n/\(sJ ks st).nx=st.nx
 |[],h=>⟨K,h,.refl K,.refl F K,rfl,rfl⟩
 |k::ks,h=>by
  obtain⟨i,c,d,e,f,g⟩:=Im b ks h;unfold sJ;split
  ·obtain⟨j,l,g2,o,p,q⟩:=Yv b (k- 2000000) c;exact⟨j,l,d.trans g2,e.trans o,p.trans f,q.trans g⟩
  ·exact⟨i,c,d,e,f,g⟩
end
end Go.Abs
end
section
namespace Go.Abs
theorem dJ{A B:Type}{x:Option A}{f:A->Option B}{b:B}(h:VS.Bz x f=some b):∃a,x=some a/\f a=some b:=by
 cases x with
 |none=>cases h
 |some a=>exact⟨a,rfl,h⟩
theorem Kl{v l:List a7}(h:VS.HP v=some l):v=[.L8 l]:=by
 unfold VS.HP at h;split at h
 ·cases h;rfl
 ·cases h
theorem NW{v l:List a7}(h:VS.PQ v=some l):v=[.agg l]:=by
 unfold VS.PQ at h;split at h
 ·cases h;rfl
 ·cases h
theorem NX{v l:List a7}(h:VS.PS v=some l):v=[.I9 l]:=by
 unfold VS.PS at h;split at h
 ·cases h;rfl
 ·cases h
theorem RP{f:FuncId}{v:List a7}{l:List a7×List a7}(h:VS.Yb f v=some l):v=[.fn (.func f) l.1 l.2]:=by
 unfold VS.Yb at h;split at h
 ·split at h
  ·rename_i e;subst e;cases h;rfl
  ·cases h
 ·cases h
theorem Km{v:List a7}{l:a7×List a7}(h:VS.HQ v=some l):v=l.1::l.2:=by
 unfold VS.HQ at h;split at h
 ·cases h;rfl
 ·cases h
theorem NY{R:Type}(k:IntKind){v:List a7}{r:R}{x:Int×R}(h:VS.Uj k v r=some x):(([.int k x.1],x.2):List a7×R)=(v,r):=by
 unfold VS.Uj at h;split at h
 ·split at h
  ·rename_i e;subst e;cases h;rfl
  ·cases h
 ·cases h
theorem Ko{R:Type}{v:List a7}{r:R}{x:Bool×R}(h:VS.Na v r=some x):(([.bool x.1],x.2):List a7×R)=(v,r):=by
 unfold VS.Na at h;split at h
 ·cases h;rfl
 ·cases h
theorem Kq{R:Type}(t:Ty){v:List a7}{r:R}{x:List t.den×R}(h:VS.Nb t v r=some x):(([.V5 t x.1],x.2):List a7×R)=(v,r):=by
 unfold VS.Nb at h;split at h
 ·split at h
  ·rename_i e;subst e;cases h;rfl
  ·cases h
 ·cases h
theorem NZ{R:Type}(i:Nat)(f:Bool){v:List a7}{r:R}{x:R}(h:VS.Uk i f v r=some x):(([.B6 i f],x):List a7×R)=(v,r):=by
 unfold VS.Uk at h;split at h
 ·split at h
  ·rename_i e;obtain⟨rfl,rfl⟩:=e;cases h;rfl
  ·cases h
 ·cases h
theorem Oa{R:Type}(i:Nat)(f:Bool){v:List a7}{r:R}{x:Nat×Nat×R}(h:VS.Ul i f v r=some x):(([.sub i x.1 x.2.1 f],x.2.2):List a7×R)=(v,r):=by
 unfold VS.Ul at h;split at h
 ·split at h
  ·rename_i e;obtain⟨rfl,rfl⟩:=e;cases h;rfl
  ·cases h
 ·cases h
theorem Ob{R:Type}(i o:Nat){v:List a7}{r:R}{x:R}(h:VS.Um i o v r=some x):(([.ptr i o],x):List a7×R)=(v,r):=by
 unfold VS.Um at h;split at h
 ·split at h
  ·rename_i e;obtain⟨rfl,rfl⟩:=e;cases h;rfl
  ·cases h
 ·cases h
theorem Kr{R:Type}(i o:Nat){v:List a7}{r:R}{x:Nat×R}(h:VS.Nc i o v r=some x):(([.P9 i x.1 o],x.2):List a7×R)=(v,r):=by
 unfold VS.Nc at h;split at h
 ·split at h
  ·rename_i e;obtain⟨rfl,rfl⟩:=e;cases h;rfl
  ·cases h
 ·cases h
theorem Kt{R:Type}(i:Nat){v:List a7}{r:R}{x:R}(h:VS.Nd i v r=some x):(([.O2 i],x):List a7×R)=(v,r):=by
 unfold VS.Nd at h;split at h
 ·split at h
  ·rename_i e;subst e;cases h;rfl
  ·cases h
 ·cases h
theorem Ku{R:Type}(i:Nat){v:List a7}{r:R}{x:R}(h:VS.Nf i v r=some x):(([.z8 i],x):List a7×R)=(v,r):=by
 unfold VS.Nf at h;split at h
 ·split at h
  ·rename_i e;subst e;cases h;rfl
  ·cases h
 ·cases h
theorem Kv{R:Type}{v:List a7}{r:R}{x:R}(h:VS.Ng v r=some x):(([.W2],x):List a7×R)=(v,r):=by
 unfold VS.Ng at h;split at h
 ·cases h;rfl
 ·cases h
theorem Kw{R:Type}(t:Ty){v:List a7}{r:R}{x:R}(h:VS.Nh t v r=some x):(([.R9 t],x):List a7×R)=(v,r):=by
 unfold VS.Nh at h;split at h
 ·split at h
  ·rename_i e;subst e;cases h;rfl
  ·cases h
 ·cases h
theorem Io{R:Type}{v:List a7}{r:R}{x:R}(h:VS.HN v r=some x):(([.U0],x):List a7×R)=(v,r):=by
 unfold VS.HN at h;split at h
 ·cases h;rfl
 ·cases h
theorem FR{R:Type}{v:List a7}{r:R}{x:R}(h:VS.Cz v r=some x):(([.J2],x):List a7×R)=(v,r):=by
 unfold VS.Cz at h;split at h
 ·cases h;rfl
 ·cases h
theorem Oc{R:Type}{v:List a7}{r:R}{x:JD×R}(h:VS.Un v r=some x):(([.z6 x.1],x.2):List a7×R)=(v,r):=by
 unfold VS.Un at h;split at h
 ·cases h;rfl
 ·cases h
theorem Od{R:Type}{v:List a7}{r:R}{x:R}(h:VS.Uo v r=some x):(([.R3],x):List a7×R)=(v,r):=by
 unfold VS.Uo at h;split at h
 ·cases h;rfl
 ·cases h
theorem RQ{R:Type}{v:List a7}{r:R}{x:R}(h:VS.a1w v r=some x):(([],x):List a7×R)=(v,r):=by
 unfold VS.a1w at h;split at h
 ·cases h;rfl
 ·cases h
theorem Oe{R:Type}(t:Ty)(f:Bool){v:List a7}{r:R}{x:List t.den×R}(h:VS.Up t f v r=some x):(([.P5 t x.1 f],x.2):List a7×R)=(v,r):=by
 unfold VS.Up at h;split at h
 ·split at h
  ·rename_i e;split at h
   ·rename_i a;subst e;subst a;cases h;rfl
   ·cases h
  ·cases h
 ·cases h
theorem VS.W8(s:VS):∀ (v:List a7) (R:Type) (r:R) (x:s.den R),s.dec v R r=some x->s.enc R x=(v,r):=by
 induction s with
 |int k=>exact fun v R r x h=>NY k h
 |bool=>exact fun v R r x h=>Ko h
 |V5 t=>exact fun v R r x h=>Kq t h
 |B6 i f=>exact fun v R r x h=>NZ i f h
 |sub i f=>exact fun v R r x h=>Oa i f h
 |ptr i o=>exact fun v R r x h=>Ob i o h
 |P9 i o=>exact fun v R r x h=>Kr i o h
 |O2 i=>exact fun v R r x h=>Kt i h
 |z8 i=>exact fun v R r x h=>Ku i h
 |W2=>exact fun v R r x h=>Kv h
 |R9 t=>exact fun v R r x h=>Kw t h
 |U0=>exact fun v R r x h=>Io h
 |J2=>exact fun v R r x h=>FR h
 |z6=>exact fun v R r x h=>Oc h
 |R3=>exact fun v R r x h=>Od h
 |nl=>exact fun v R r x h=>RQ h
 |P5 t f=>exact fun v R r x h=>Oe t f h
 |L8 l p=>
  intro v R r x h;obtain⟨c,d,e⟩:=dJ (x:=VS.HP v) (f:=fun c=>l.dec c R r) h
  have g:l.enc R x=(c,r):=p c R r x e;have j:=Kl d;subst j;show([a7.L8 (l.enc R x).1],(l.enc R x).2)=_;rw[g]
 |agg l p=>
  intro v R r x h;obtain⟨c,d,e⟩:=dJ (x:=VS.PQ v) (f:=fun c=>l.dec c R r) h
  have g:l.enc R x=(c,r):=p c R r x e;have j:=NW d;subst j;show([a7.agg (l.enc R x).1],(l.enc R x).2)=_;rw[g]
 |I9 l p=>
  intro v R r x h;obtain⟨c,d,e⟩:=dJ (x:=VS.PS v) (f:=fun c=>l.dec c R r) h
  have g:l.enc R x=(c,r):=p c R r x e;have j:=NX d;subst j;show([a7.I9 (l.enc R x).1],(l.enc R x).2)=_;rw[g]
 |fn f a b m n=>
  intro v R r x h;obtain⟨c,d,e⟩:=dJ (x:=VS.Yb f v) (f:=fun c=>VS.Bz (b.dec c.2 R r) fun y=>a.dec c.1 (b.den R) y) h
  obtain⟨y,g,j⟩:=dJ e;have q:a.enc (b.den R) x=(c.1,y):=m _ _ _ x j;have u:b.enc R y=(c.2,r):=n _ _ _ y g;have w:=RP d;subst w;show([a7.fn (.func f) (a.enc (b.den R) x).1 (b.enc R (a.enc (b.den R) x).2).1],(b.enc R (a.enc (b.den R) x).2).2)=_;rw[q];simp only;rw[u]
 |cs a l m n=>
  intro v R r x h;obtain⟨c,d,e⟩:=dJ (x:=VS.HQ v) (f:=fun c=>VS.Bz (l.dec c.2 R r) fun y=>a.dec [c.1] (l.den R) y) h
  obtain⟨y,g,j⟩:=dJ e;have q:a.enc (l.den R) x=([c.1],y):=m _ _ _ x j;have u:l.enc R y=(c.2,r):=n _ _ _ y g;have w:=Km d;subst w;show((a.enc (l.den R) x).1++(l.enc R (a.enc (l.den R) x).2).1,(l.enc R (a.enc (l.den R) x).2).2)=_;rw[q];simp only;rw[u];rfl
theorem CS.W8(c:CS)(v:c7)(R:Type)(r:R)(x:c.den R)(h:c.dec v R r=some x):c.enc R x=(v,r):=by
 cases c with
 |box l=>
  cases v with
  |F8 o=>cases h
  |any=>cases h
  |box f=>
   have z:l.enc R x=(f,r):=VS.W8 l _ R r x h;show(c7.box (l.enc R x).1,(l.enc R x).2)=_;rw[z]
  |sl t f=>cases h
  |mp mk f c=>cases h
  |it m a b c=>cases h
  |bx a b c d e=>cases h
 |sl t=>
  cases v with
  |F8 o=>cases h
  |any=>cases h
  |box f=>cases h
  |sl i f=>
   have g:(if h:i=t then some ((Cy h f,r):List t.den×R)else none)=some x:=h
   split at g
   ·rename_i e;subst e;cases g;rfl
   ·cases g
  |mp mk f c=>cases h
  |it m a b c=>cases h
  |bx a b c d e=>cases h
 |mp mk=>
  cases v with
  |F8 o=>cases h
  |any=>cases h
  |box f=>cases h
  |sl i f=>cases h
  |mp j f clk=>
   have g:(if h:j=mk then some ((Y' h f,clk,r):l6 mk.kt×Nat×R)else none)=some x:=h
   split at g
   ·rename_i e;subst e;cases g;rfl
   ·cases g
  |it m a b c=>cases h
  |bx a b c d e=>cases h
 |bx p t n q=>
  cases v with
  |F8 o=>cases h
  |any=>cases h
  |box f=>cases h
  |sl i f=>cases h
  |mp mk f c=>cases h
  |it m a b c=>cases h
  |bx s i u f w=>
   have g:(if h:i=t then(if u=n then VS.Bz (q.dec w (List t.den×R) (Cy h f,r)) fun y=>p.dec s (q.den (List t.den×R)) y else none)else none)=some x:=h
   split at g
   ·rename_i A;subst A;split at g
    ·rename_i B;subst B;cases k:q.dec w (List i.den×R) (Cy rfl f,r)with
     |none=>rw[k]at g;cases g
     |some y=>
      rw[k]at g;have C:p.dec s (q.den (List i.den×R)) y=some x:=g;have a1:=VS.W8 p _ _ y x C;have D:=VS.W8 q _ _ _ y k;show(c7.bx (p.enc (q.den (List i.den×R)) x).1 i u (q.enc (List i.den×R) (p.enc (q.den (List i.den×R)) x).2).2.1 (q.enc (List i.den×R) (p.enc (q.den (List i.den×R)) x).2).1,(q.enc (List i.den×R) (p.enc (q.den (List i.den×R)) x).2).2.2)=_;rw[a1];simp only;rw[D];rfl
    ·cases g
   ·cases g
 |it m=>
  cases v with
  |F8 o=>cases h
  |any=>cases h
  |box f=>cases h
  |bx a b c d e=>cases h
  |sl i f=>cases h
  |mp j f clk=>cases h
  |it E a b c=>
   have g:(if E=m then some ((a,b,c,r):Nat×List Nat×Nat×R)else none)=some x:=h
   split at g
   ·rename_i e;subst e;cases g;rfl
   ·cases g
theorem Kx:∀ (l:List (Nat×(CS×p8))) (vs:Mem) (R:Type) (r:R) (x:eX l R),Yc l vs R r=some x->Ni l R x=(vs,r)
 |[],vs,R,r,x,h=>by
  cases vs with
  |nil=>
   have a:some r=some x:=h;cases a;rfl
  |cons v vs=>cases h
 |u::l,vs,R,r,x,h=>by
  cases vs with
  |nil=>cases h
  |cons v vs=>
   have a:(if v.1=u.1/\v.2.2=u.2.2 then(match Yc l vs R r with
    |some y=>u.2.1.dec v.2.1 (eX l R) y
    |none=>none)else none)=some x:=h
   split at a
   ·rename_i e;split at a
    ·rename_i y b;have c:u.2.1.enc (eX l R) x=(v.2.1,y):=CS.W8 u.2.1 v.2.1 (eX l R) y x a;have d:Ni l R y=(vs,r):=Kx l vs R r y b;show((u.1,((u.2.1.enc (eX l R) x).1,u.2.2))::(Ni l R (u.2.1.enc (eX l R) x).2).1,(Ni l R (u.2.1.enc (eX l R) x).2).2)=_;rw[c];simp only;rw[d,<-e.1,<-e.2]
    ·cases a
   ·cases a
theorem zip_unzip:∀ (l:List (Nat×a7)),iU (l.map (·.1)) (l.map (·.2))=l
 |[]=>rfl
 |u::l=>by simp[iU,zip_unzip l]
theorem Shape.W8{S:Shape}{st:j9}{x:S.den}(h:S.dec st=some x):S.enc x=st:=by
 unfold Shape.dec at h;split at h
 ·rename_i e;split at h
  ·rename_i y a;split at h
   ·rename_i z b;have c:=Kx S.M st.M Unit () y a;have d:=VS.W8 S.gh _ (eX S.M Unit) y z b;have f:=VS.W8 S.vs _ (S.gh.den (eX S.M Unit)) z x h;unfold Shape.enc;rw[f];simp only[d,c];rw[<-e.1,<-e.2.1,<-e.2.2.1,zip_unzip,<-e.2.2.2]
   ·cases h
  ·cases h
 ·cases h
end Go.Abs
end
section
namespace Go.Abs
mutual
theorem Ip{K:j0}{H:Nat->Option Hd}(y:Option Nat):∀ (a:a7) (v:Value),a.yX=true->c8 K H a v->c8 (K.aZ y) H a v
 |.R3,_,_,_=>by simp[c8]
 |.bool _,_,_,h=>by simpa [c8]using h
 |.int _ _,_,_,h=>by simpa [c8]using h
 |.W2,_,_,h=>by simpa [c8]using h
 |.R9 _,_,_,h=>by simpa [c8]using h
 |.P5 t l g,v,_,h=>by
  simp only[c8]at h ⊢;have m:∀ (t:Ty) (x:t.den) (cs:List Value),s9 K t x cs->s9 (K.aZ y) t x cs:=bJ y;obtain⟨base,cap,d,e,j,k⟩:=h;exact⟨base,cap,d,e,j,by
   rcases k with k|⟨b,off,arr,o,g2,q⟩
   ·exact .inl k
   ·exact .inr ⟨b,off,arr,o,g2,fun i hi=>m _ _ _ (q i hi)⟩⟩
 |.B6 r g,v,_,h=>by simp only[c8]at h ⊢;exact h
 |.sub r lo len g,v,_,h=>by simp only[c8]at h ⊢;exact h
 |.ptr r off,v,_,h=>by simp only[c8]at h ⊢;exact h
 |.P9 r i off,v,_,h=>by simp only[c8]at h ⊢;exact h
 |.O2 r,v,_,h=>by simp only[c8]at h ⊢;exact h
 |.z8 r,v,_,h=>by simp only[c8]at h ⊢;exact h
 |.L8 cells,v,c,h=>by
  simp only[c8]at h ⊢;simp only[a7.yX]at c;obtain⟨b,off,arr,d,e,j⟩:=h;exact⟨b,off,arr,d,e,S7 y cells _ c j⟩
 |.agg cells,v,c,h=>by
  simp only[c8]at h ⊢;simp only[a7.yX]at c;obtain⟨cs,d,e⟩:=h;exact⟨cs,d,S7 y cells _ c e⟩
 |.V5 t l,v,_,h=>by
  simp only[c8]at h ⊢;obtain⟨cs,d,e,j⟩:=h;exact⟨cs,d,e,fun i hi=>bJ y _ _ _ (j i hi)⟩
 |.I9 vs,v,c,h=>by
  simp only[c8]at h ⊢;simp only[a7.yX]at c;obtain⟨cs,d,e⟩:=h;exact⟨cs,d,S7 y vs _ c e⟩
 |.fn f first cap,v,c,h=>by
  simp only[c8]at h ⊢;simp only[a7.yX,Bool.and_eq_true]at c;obtain⟨s,u,d,e,j⟩:=h;exact⟨s,u,d,S7 y first _ c.1 e,S7 y cap _ c.2 j⟩
 |.U0,_,_,h=>by simpa [c8]using h
 |.J2,_,c,_=>by simp[a7.yX]at c
 |.z6 p,v,_,h=>by
  simp only[c8]at h ⊢;exact p.mono K _ _ ⟨fun _ _ h=>h,fun _ _ h=>h⟩ h
 |.Bu w n,v,_,h=>by
  simp only[c8]at h ⊢;exact h
theorem S7{K:j0}{H:Nat->Option Hd}(y:Option Nat):∀ (b:List a7) (cs:List Value),eY b=true->c9 K H b cs->c9 (K.aZ y) H b cs
 |[],_,_,h=>by simpa [c9]using h
 |a::b,cs,d,h=>by
  simp only[eY,Bool.and_eq_true]at d;obtain⟨c,e,rfl,f,g⟩:=h.inv;exact .cons (Ip y a c d.1 f) (S7 y b e d.2 g)
theorem bJ{K:j0}(y:Option Nat):∀ (t:Ty) (x:t.den) (cs:List Value),s9 K t x cs->s9 (K.aZ y) t x cs
 |.int _,_,_,h=>h
 |.bool,_,_,h=>h
 |.slice e,l,cs,h=>by
  obtain⟨base,cap,c,d,f⟩:=h;refine⟨base,cap,c,d,?_⟩;rcases f with g|⟨b,off,arr,j,g2,k⟩
  ·exact .inl g
  ·exact .inr ⟨b,off,arr,j,g2,fun i hi=>bJ y e _ _ (k i hi)⟩
 |.pair a b,x,cs,h=>by
  obtain⟨m,n,c,d,f⟩:=h;exact⟨m,n,c,bJ y a _ _ d,bJ y b _ _ f⟩
end
theorem J0.aZ{F:Nat->Prop}{K:j0}{w:World}(y:Option Nat)(h:J0 F K w):J0 F (K.aZ y) w:=⟨⟨h.y6.1,h.y6.2⟩,h.lt,h.inv,h.apart⟩
theorem pP:∀ {M:Mem} {r:Nat} {c:c7} {f:p8},CB M=true->n9 M r=some (c,f)->c.yX=true
 |[],r,c,f,_,h=>by simp[n9]at h
 |(i,x)::M,r,c,f,a,h=>by
  simp only[CB,Bool.and_eq_true]at a;simp only[n9]at h;split at h
  ·cases h;exact a.1
  ·exact pP a.2 h
theorem Ky{K:j0}{H:Nat->Option Hd}{w:World}{hd:Hd}{c:c7}(y:Option Nat)(r:c.yX=true)(h:o8 K H w hd c):o8 (K.aZ y) H w hd c:=by
 cases c with
 |box cells=>
  obtain⟨b,cs,e,d,f,g,j⟩:=h;exact⟨b,cs,e,d,f,g,S7 y _ _ (by simpa [c7.yX]using r) j⟩
 |bx p t n l q=>
  obtain⟨s,g2,b,cs,e,d,v,x,z,f,g,j,k,u,A⟩:=h;simp only[c7.yX,Bool.and_eq_true]at r;exact⟨s,g2,b,cs,e,d,v,x,z,f,g,j,S7 y _ _ r.1 k,⟨u.1,fun i hi=>bJ y _ _ _ (u.2 i hi)⟩,S7 y _ _ r.2 A⟩
 |sl t l=>
  obtain⟨f,g,j,k⟩:=h;refine⟨f,g,j,?_⟩;rcases k with k|⟨b,cs,e,d,s,g2,B,C⟩
  ·exact .inl k
  ·exact .inr ⟨b,cs,e,d,s,g2,B,fun i hi=>bJ y _ _ _ (C i hi)⟩
 |mp mk l clk=>exact h
 |it m a b c=>exact h
 |F8 o=>cases o<;>exact h
 |any=>exact h
theorem j8.aZ{F:Nat->Prop}{K:j0}{H:Nat->Option Hd}{w:World}{m:Mm}(y:Option Nat)(hn:∀r c f,m r=some (c,f)->c.yX=true)(h:j8 F K H w m):j8 F (K.aZ y) H w m where
 cont:=fun r c f hd h1 h2 h3=>Ky y (hn r c f h1) (h.cont r c f hd h1 h2 h3)
 own:=h.own
 aQ:=h.aQ
 inj:=h.inj
theorem Kept.less{F G:Nat->Prop}{w w':World}(h:Kept F w w')(a:∀b,G b->F b):Kept G w w':=h.mono a
theorem J0.less{F G:Nat->Prop}{K:j0}{w:World}(h:J0 F K w)(c:∀b,G b->F b):J0 G K w:=⟨h.y6,fun b a=>h.lt b (c b a),fun b p d a=>h.inv b p d (c b a),h.apart⟩
theorem j8.less{F G:Nat->Prop}{K:j0}{H:Nat->Option Hd}{w:World}{m:Mm}(h:j8 F K H w m)(hg:∀b,G b->F b):j8 G K H w m where
 cont:=h.cont
 own:=fun r c hd b h1 h2 h3=>by
  obtain⟨g1,g2⟩:=h.own r c hd b h1 h2 h3;exact⟨fun hb=>g1 (hg b hb),g2⟩
 aQ:=h.aQ
 inj:=h.inj
theorem Fix.less{F G:Nat->Prop}{A B:j0}(h:Fix F A B)(a:∀b,G b->F b):Fix G A B:=fun b c=>h b (a b c)
theorem BQ{F:Nat->Prop}{K:j0}{H:Nat->Option Hd}{w:World}{m:Mm}{l:Nat}{o o':Obj}(A:j8 F K H w m)(h:w.heap[l]? =some o)(u:∀cs e v,o≠ .cells cs e v)(k:∀B c,o≠ .map B c)(s:∀a b c d,o≠ .mapIter a b c d):j8 F K H (w.putObj l o') m:=by
 refine A.world (fun r c f hd b C D E j=>?_)
 rw[L5 h,if_neg];intro G;subst G;have:=A.cont r c f hd C D E;cases c with
 |box cells=>
  obtain⟨y,cs,e,v,i,g2,_⟩:=this;rw[j]at i;cases i;rw[h]at g2;exact u _ _ _ (Option.some.inj g2)
 |bx p t n l q=>
  obtain⟨_,_,y,cs,e,v,_,_,_,i,g2,_⟩:=this;rw[j]at i;cases i;rw[h]at g2;exact u _ _ _ (Option.some.inj g2)
 |sl t x=>
  obtain⟨_,_,_,g⟩:=this;rcases g with⟨g,_⟩|⟨y,cs,e,v,i,g2,_⟩
  ·rw[j]at g;cases g
  ·rw[j]at i;cases i;rw[h]at g2;exact u _ _ _ (Option.some.inj g2)
 |mp mk l clk=>
  obtain⟨_,_,_,y,i,g2⟩:=this;rw[j]at i;cases i;rw[h]at g2;exact k _ _ (Option.some.inj g2)
 |it x a b c=>
  obtain⟨_,_,_,y,J,i,g2,_⟩:=this;rw[j]at i;cases i;rw[h]at g2;exact s _ _ _ _ (Option.some.inj g2)
 |any=>
  obtain⟨I,g2,z⟩:=this _ j;rw[h]at g2;cases g2;cases o with
  |cells a b c=>exact u _ _ _ rfl
  |map a b=>exact k _ _ rfl
  |mapIter a b c d=>exact s _ _ _ _ rfl
  |_=>cases z
 |F8 L=>
  obtain⟨I,g2,z⟩:=BM (K':=K) (H':=H) this _ j;rw[h]at g2;cases g2;cases o with
  |cells a b c=>exact u _ _ _ rfl
  |map a b=>exact k _ _ rfl
  |mapIter a b c d=>exact s _ _ _ _ rfl
  |_=>cases z
theorem UR{F i:Nat->Prop}{K:j0}{w w2:World}(a:J0 F K w)(f:Kept (fun b=>b<w.heap.size) w w2)(j:∀b,i b->F b\/w.heap.size<=b/\b<w2.heap.size):J0 i K w2:=by
 refine⟨⟨fun b cs k=>?_,fun b p d=>?_⟩,fun b g=>?_,fun b p d g=>?_,a.apart⟩
 ·obtain⟨e,l,c⟩:=a.y6.1 b cs k;exact⟨e,l,by rw[f.block b (u5 c)];exact c⟩
 ·obtain⟨o,c,m⟩:=a.y6.2 b p d;exact⟨o,by rw[f.block b (u5 c)];exact c,m⟩
 ·rcases j b g with h|h
  ·exact Nat.lt_of_lt_of_le (a.lt b h) f.size
  ·exact h.2
 ·rcases j b g with h|h
  ·exact a.inv b p d h
  ·obtain⟨o,c,_⟩:=a.y6.2 b p d;have:=u5 c;omega
theorem RR{F g:Nat->Prop}{K:j0}{H:Nat->Option Hd}{w d:World}{m:Mm}(e:j8 F K H w m)(k:Kept (fun b=>b<w.heap.size) w d)(l:∀b,g b->F b\/w.heap.size<=b/\b<d.heap.size):j8 g K H d m:=by
 have a:j8 F K H d m:=e.world (fun r c f hd b a n o p=>k.block b (U4 e a n o p))
 refine⟨a.cont,fun r c hd b i g2 j=>?_,a.aQ,a.inj⟩
 obtain⟨q,s⟩:=a.own r c hd b i g2 j;refine⟨fun t=>?_,s⟩
 rcases l b t with h|h
 ·exact q h
 ·have:=U4 e i (by simp) g2 j
  omega
theorem wU{K:j0}{H:Nat->Option Hd}(f:Nat->Value):∀ (N6:List Nat) (vs:List a7),c9 K H vs (N6.map f)->∀t,c8 K H (y9 (iU N6 vs) t) (f t)
 |[],vs,_,t=>by simp[iU,y9,c8]
 |i::N6,[],h,t=>by simp[c9]at h
 |i::N6,v::vs,h,t=>by
  obtain⟨a,b⟩:=c9.Tw.1 h;simp only[iU,y9];split
  ·rename_i e;subst e;exact a
  ·exact wU f N6 vs b t
theorem Iq{K:j0}{H:Nat->Option Hd}(f:Nat->Value)(g:Nat->a7)(h:∀t,c8 K H (g t) (f t)):∀ (N6:List Nat),c9 K H (N6.map g) (N6.map f)
 |[]=>.nil
 |i::N6=>.cons (h i) (Iq f g h N6)
theorem Dw{n:Nat}:∀ {l:List Nat},Gp n l=true->∀a∈l,a<n
 |[],_,a,c=>by simp at c
 |b::l,h,a,c=>by
  simp only[Gp,Bool.and_eq_true,decide_eq_true_eq]at h;rcases List.mem_cons.1 c with rfl|c
  ·exact h.1
  ·exact Dw h.2 a c
theorem AP{K:j0}{H:Nat->Option Hd}:∀ (ps:List Nat) (args:List a7) (vs:List Value) (a:List (Nat×a7)) (arr:Array Value),args.length=ps.length->c9 K H args vs->(∀p∈ps,p<arr.size)->
  (∀t,c8 K H (y9 a t) (arr.getD t undef))->∀t,c8 K H (y9 (setArgs ps args a) t) (((ps.zip vs).foldl (fun b (x:Nat×Value)=>b.setIfInBounds x.1 x.2) arr).getD t undef)
 |[],args,vs,a,arr,_,_,_,h=>by simpa [setArgs]using h
 |p::ps,[],vs,a,arr,d,_,_,h=>by simp at d
 |p::ps,v::args,vs,a,arr,d,i,g,h=>by
  obtain⟨c,cs,rfl,j,k⟩:=i.inv;simp only[setArgs,List.zip_cons_cons,List.foldl_cons];refine AP ps args cs ((p,v)::a) (arr.setIfInBounds p c) (by simpa using d) k (fun q l=>by simpa using g q (List.mem_cons_of_mem _ l)) (fun t=>?_)
  have f:=g p (by simp)
  simp only[y9];by_cases e:p=t
  ·subst e;rw[if_pos rfl];simpa [f]using j
  ·rw[if_neg e];have:=h t;simpa [Array.getElem?_setIfInBounds_ne e]using this
theorem wV:∀ (l:List (Nat×Value)) (arr:Array Value),(l.foldl (fun a (x:Nat×Value)=>a.setIfInBounds x.1 x.2) arr).size=arr.size
 |[],_=>rfl
 |x::l,arr=>by simp[wV l]
end Go.Abs
end
section
namespace Go.Abs
theorem tF{c:Nat}:∀ {a:List Oper},vU c a=true->∀ (i:Nat) (o:Oper),a[i]? =some o->∀j w,o.guard=some (j,w)->j<c
 |[],_,i,o,h,_,_,_=>by simp at h
 |o0::a,h,i,o,b,j,w,d=>by
  simp only[vU,Bool.and_eq_true]at h;cases i with
  |zero=>
   simp only[List.getElem?_cons_zero,Option.some.injEq]at b;subst b;have:=h.1;rw[d]at this;simpa using this
  |succ i=>exact tF h.2 i o (by simpa using b) j w d
theorem pQ:∀ {i:Nat} {b:List Nat},qO i b=true->∀ (a m:Nat),b[a]? =some m->∀j,j<i+a->m.testBit j=true
 |_,[],_,a,m,h,_,_=>by simp at h
 |i,d::b,h,a,m,c,j,f=>by
  simp only[qO,Bool.and_eq_true]at h;cases a with
  |zero=>
   simp only[List.getElem?_cons_zero,Option.some.injEq]at c;subst c;have e:d &&& (2^i- 1)=2^i- 1:=Nat.eq_of_beq_eq_true h.1;have:(d &&& (2^i- 1)).testBit j=true:=by
    rw[e,Nat.testBit_two_pow_sub_one];simpa using f
   rw[Nat.testBit_and,Bool.and_eq_true]at this;exact this.1
  |succ a=>exact pQ h.2 a m (by simpa using c) j (by omega)
theorem AQ:∀ {a:List Oper} {i c:Nat},oU a i=some c->i<=c/\c<i+a.length
 |[],_,_,h=>by simp[oU]at h
 |o::a,i,c,h=>by
  unfold oU at h;split at h
  ·cases h;simp
  ·have:=AQ h;simp only[List.length_cons];omega
structure Qe(ops:Array Oper)(c:Nat):Prop where
 le:c<=ops.size
 guards:∀ (i:Nat) (o:Oper),i<c->ops[i]? =some o->∀j w,o.guard=some (j,w)->j<c
 chain:∀ (L:Nat->Prop),zH ops.toList L->∀ (i:Nat) (o:Oper),c<=i->ops[i]? =some o->(∀e∈o.after,Region.binds .any e=true->L e.on)->∀j,j<i->L j
theorem Dx{ops:Array Oper}{c:Nat}(h:Au ops=some c):Qe ops c:=by
 unfold Au at h;split at h
 ·rename_i c' q;split at h
  ·rename_i g;cases h;simp only[Bool.and_eq_true]at g;have d:=AQ q;simp only[Array.length_toList,Nat.zero_add]at d;refine⟨Nat.le_of_lt d.2,fun i o hi f j w r=>tF g.1 i o ?_ j w r,fun L s i o hi f e j t=>?_⟩
   ·rw[List.getElem?_take,if_pos hi];simpa using f
   ·have k:ops.toList[i]? =some o:=by simpa using f
    have m:i<(FI ops.toList).length:=by
     rw[FI,kF];simpa using(Array.getElem?_eq_some_iff.1 f).1
    have p:(FI ops.toList)[i]? =some (FI ops.toList)[i]:=List.getElem?_eq_getElem m;refine pL s ops.toList [] (fun a=>by simp) (fun b l o h=>by simp at h) i _ o p k e j ?_
    refine pQ g.2 (i- c) _ ?_ j (by omega)
    rw[List.getElem?_drop,Nat.add_sub_cancel' hi];exact p
  ·cases h
 ·cases h
theorem Of{ops:Array Oper}{c:Nat}{o:Oper}{T:Array Value}(a:∀j w,o.guard=some (j,w)->j<c):Region.wanted o (yielded (Q4 ops c) T)=Region.wanted o (yielded ops T):=by
 unfold Region.wanted;cases e:o.guard with
 |none=>rfl
 |some b=>
  obtain⟨j,w⟩:=b;have:=a j w e;have d:(Q4 ops c)[j]? =ops[j]? :=by
   unfold Q4;rw[List.getElem?_toArray,List.getElem?_take,if_pos this,Array.getElem?_toList]
  simp only[yielded,d]
section
variable {F:Fence} {n:Nat} {P:Program} {ops:Array Oper} {Q:Exit->Act->World->Prop}
def Dy(F:Fence)(n:Nat)(P:Program)(ops:Array Oper)(Q:Exit->Act->World->Prop)(rest:List Oper):Exit->Act->World->Prop
 |.normal,a,w=>wpListIn F n P ops Q rest a w
 |e,a,w=>Q e a w
theorem FT{o:Oper}{a:Act}{w:World}{rest:List Oper}{K K':Act->World->Prop}(h:∀a w,K a w->K' a w)
  (hh:o.wpIn F n P a w K (Dy F n P ops Q rest)):o.wpIn F n P a w K' Q:=by
 unfold Oper.wpIn at*
 refine⟨hh.1,?_⟩;have hh:=hh.2;generalize (o.semAt F.round a.eval).run P w=r at*
 cases r with
 |ok x w'=>
  cases x<;>simp only[Oper.uponIn]at hh ⊢ <;>
   first
    |exact h _ _ hh
    |exact⟨hh.1,CallsIn.mono hh.2 (fun e c b=>by cases e<;>first|exact h _ _ b|exact b)⟩
    |exact⟨hh.1,RowsIn.mono hh.2 (fun _ _ b=>h _ _ b)⟩
    |exact⟨hh.1,RoundIn.mono hh.2 (fun e c b=>by cases e<;>first|exact h _ _ b|exact b)⟩
 |halt x w'=>cases x<;>simp only[Oper.uponIn]at hh ⊢ <;>exact hh
theorem Og{c:Nat}(R:Qe ops c)(v:mI ops.toList 0=true):∀ (d i:Nat) (L:Array Bool) (a:Act) (w:World),ops.size- i<=d->c<=i->i<=ops.size->L.size=ops.size->(∀j,j<ops.size->(L.getD j false=true↔j<i))->
  wpListIn F n P ops Q (ops.toList.drop i) a w->wpAnyIn F n P .any ops Q d L a w:=by
 have b:∀ (L:Array Bool),L.size=ops.size->(∀j,j<ops.size->(L.getD j false=true↔j<ops.size))->Region.ready .any ops L=[]:=by
  intro L s l;rw[List.eq_nil_iff_forall_not_mem];intro i hi;rw[mem_ready]at hi;obtain⟨q,o,H,_⟩:=hi;have f:=(Array.getElem?_eq_some_iff.1 H).1;have m:=(l i f).2 f;simp only[Array.getD_eq_getD_getElem?]at q m;rw[Array.getElem?_eq_getElem (by omega)]at q m
  simp only[Option.getD_some]at q m;rw[q]at m;cases m
 intro d
 induction d with
 |zero=>
  intro i L a w T I hi s l h;have e:i=ops.size:=by omega
  subst e;refine⟨b L s l,?_⟩;rw[List.drop_eq_nil_of_le (by simp)]at h
  exact h
 |succ d U=>
  intro i L a w T I hi s l h;rcases Nat.lt_or_ge i ops.size with f|V
  ·have H:ops[i]? =some ops[i]:=Array.getElem?_eq_getElem f;have J:ops.toList[i]? =some ops[i]:=by simp
   have g:∀e∈ops[i].after,Region.binds .any e=true->e.on<i:=fun e t p=>by
    have:=cL ops.toList 0 v i _ J e t p;omega
   have K:L.getD i true=false:=by
    have:=(l i f);cases p:L.getD i false with
    |true=>exact absurd (this.1 p) (Nat.lt_irrefl _)
    |false=>
     simp only[Array.getD_eq_getD_getElem?]at p ⊢;rw[Array.getElem?_eq_getElem (by omega)]at p ⊢
     simpa using p
   have r:i∈Region.ready .any ops L:=mem_ready.2 ⟨K,_,H,fun e t p=>(l _ (by have:=g e t p;omega)).2 (g e t p)⟩
   refine⟨fun Y=>(by rw[Y]at r;cases r),fun j x=>?_⟩
   have y:j=i:=by
    rw[mem_ready]at x;obtain⟨q,o,z,A⟩:=x;have C:=(Array.getElem?_eq_some_iff.1 z).1;have y:i<=j:=by
     rcases Nat.lt_or_ge j i with u|u
     ·have m:=(l j C).2 u;simp only[Array.getD_eq_getD_getElem?]at q m;rw[Array.getElem?_eq_getElem (by omega)]at q m
      simp only[Option.getD_some]at q m;rw[q]at m;cases m
     ·exact u
    rcases Nat.lt_or_ge i j with u|u
    ·have M:zH ops.toList (fun k=>L.getD k false=true):=by
      intro k Z N E e t p;have G:k<ops.size:=by simpa using Z7 E
      have h3:=(l k G).1 N;have h4:=cL ops.toList 0 v k _ E e t p;exact(l _ (by omega)).2 (by omega)
     have:=R.chain _ M j o (by omega) z A i u
     exact absurd ((l i f).1 this) (Nat.lt_irrefl _)
    ·omega
   subst y;rw[List.drop_eq_getElem_cons (by simpa using f)]at h
   simp only[wpListIn,Array.getElem_toList]at h;unfold wpOpIn;rw[H];have next:∀a w,wpListIn F n P ops Q (ops.toList.drop (j+1)) a w->wpAnyIn F n P .any ops Q d (L.setIfInBounds j true) a w:=fun a w h=>by
    refine U (j+1) _ a w (by omega) (by omega) (by omega) (by simpa using s) (fun k N=>?_) h
    by_cases e:j=k
    ·subst e;constructor
     ·intro _;omega
     ·intro _;simp[s,f]
    ·rw[getD_set_ne false e];have:=l k N;constructor
     ·intro h;have:=this.1 h;omega
     ·intro h;exact this.2 (by omega)
   simp only;split
   ·rename_i O;rw[if_pos O]at h;exact Oper.wpIn_mono next h
   ·rename_i O;rw[if_neg O]at h;exact⟨h.1,next _ _ h.2⟩
  ·have e:i=ops.size:=by omega
   subst e;rw[List.drop_eq_nil_of_le (by simp)]at h
   refine⟨fun _=>h,fun j x=>?_⟩
   rw[b L s l]at x;cases x
theorem Qf{c i:Nat}(h:i<c):(Q4 ops c)[i]? =ops[i]? :=by
 unfold Q4;rw[List.getElem?_toArray,List.getElem?_take,if_pos h,Array.getElem?_toList]
theorem wW{c:Nat}(h:c<=ops.size):(Q4 ops c).size=c:=by
 simp[Q4,Nat.min_eq_left h]
theorem RT{c:Nat}(s:Qe ops c)(H:mI ops.toList 0=true)(U:S2 (Q4 ops c)=true):∀ (b:Nat) (d L:Array Bool) (a:Act) (w:World),d.size=c->L.size=ops.size->(∀j,j<c->L.getD j false=d.getD j false)->(∀j,c<=j->L.getD j false=false)->
  zH ops.toList (fun j=>L.getD j false=true)->
  wpAnyIn F n P .any (Q4 ops c) (Dy F n P ops Q (ops.toList.drop c)) b d a w->wpAnyIn F n P .any ops Q (b+(ops.size- c)) L a w:=by
 have done:∀ (b:Nat) (d L:Array Bool) (a:Act) (w:World),ops.size- c<=b->d.size=c->L.size=ops.size->(∀j,j<c->L.getD j false=d.getD j false)->(∀j,c<=j->L.getD j false=false)->Region.ready .any (Q4 ops c) d=[]->
   wpListIn F n P ops Q (ops.toList.drop c) a w->wpAnyIn F n P .any ops Q b L a w:=by
  intro b d L a w hf f g t E I h;have y:=Dq U (L:=d) (by rw[f,wW s.le]) I
  rw[wW s.le]at y;refine Og s H b c L a w hf (Nat.le_refl _) s.le g (fun j u=>⟨fun h=>?_,fun h=>?_⟩) h
  ·rcases Nat.lt_or_ge j c with A|A
   ·exact A
   ·rw[E j A]at h;cases h
  ·rw[t j h];exact y j h
 intro b
 induction b with
 |zero=>
  intro d L a w f g t E _ h;exact done _ d L a w (by omega) f g t E h.1 h.2
 |succ b ih=>
  intro d L a w f g t E J h;by_cases I:Region.ready .any (Q4 ops c) d=[]
  ·exact done _ d L a w (by omega) f g t E I (h.1 I)
  ·have e:b+1+(ops.size- c)=(b+(ops.size- c))+1:=by omega
   rw[e];obtain⟨R,K⟩:=List.exists_mem_of_ne_nil _ I;have m:∀ (i:Nat) (o:Oper),ops[i]? =some o->∀e∈o.after,Region.binds .any e=true->e.on<i:=fun i o l e q r=>by
    have:=cL ops.toList 0 H i o (by simpa using l) e q r
    omega
   have un:∀j,j<c->(d.getD j true=false↔L.getD j true=false):=fun j u=>by
    have:=t j u;have V:=s.le;simp only[Array.getD_eq_getD_getElem?]at this ⊢;rw[Array.getElem?_eq_getElem (by omega),Array.getElem?_eq_getElem (by omega)]at this ⊢
    simp only[Option.getD_some]at this ⊢;rw[this]
   have M:=mem_ready.1 K;obtain⟨Y,o0,Z,_⟩:=M;have z:R<c:=by
    have:=(Array.getElem?_eq_some_iff.1 Z).1;rwa [wW s.le]at this
   have N:∀j,j<c->(j∈Region.ready .any (Q4 ops c) d↔j∈Region.ready .any ops L):=fun j u=>by
    rw[mem_ready,mem_ready,un j u,Qf u];constructor
    ·rintro⟨g1,o,l,g2⟩;refine⟨g1,o,l,fun e q r=>?_⟩
     rw[t e.on (by have:=m j o l e q r;omega)]
     exact g2 e q r
    ·rintro⟨g1,o,l,g2⟩;refine⟨g1,o,l,fun e q r=>?_⟩
     rw[<-t e.on (by have:=m j o l e q r;omega)]
     exact g2 e q r
   refine⟨fun Yw=>?_,fun j u=>?_⟩
   ·have:=(N R z).1 K;rw[Yw]at this;cases this
   ·have v:j<c:=by
     rcases Nat.lt_or_ge j c with A|A
     ·exact A
     ·exfalso;obtain⟨_,o,l,p⟩:=mem_ready.1 u;have:=s.chain _ J j o A l p R (by omega)
      have T:=(un R z).1 Y;have V:=s.le;simp only[Array.getD_eq_getD_getElem?]at this T;rw[Array.getElem?_eq_getElem (by omega)]at this T
      simp only[Option.getD_some]at this T;rw[T]at this;cases this
    have hjr:=(N j v).2 u;have x:=h.2 j hjr;obtain⟨_,o,l,p⟩:=mem_ready.1 u;have hjs:=(Array.getElem?_eq_some_iff.1 l).1;have next:∀a w,wpAnyIn F n P .any (Q4 ops c) (Dy F n P ops Q (ops.toList.drop c)) b (d.setIfInBounds j true) a w->wpAnyIn F n P .any ops Q (b+(ops.size- c)) (L.setIfInBounds j true) a w:=fun a w h=>by
     refine ih _ _ a w (by simpa using f) (by simpa using g) (fun k G=>?_) (fun k G=>?_) ?_ h
     ·by_cases e:j=k
      ·subst e;simp[f,g,v,hjs]
      ·rw[getD_set_ne false e,getD_set_ne false e];exact t k G
     ·rw[getD_set_ne false (by omega)];exact E k G
     ·intro k ok G O e q r;by_cases ek:j=k
      ·subst ek;have:ok=o:=by
        have h3:ops[j]? =some ok:=by simpa using O
        rw[l]at h3;exact(Option.some.inj h3).symm
       subst this;exact getD_set_true (p e q r)
      ·simp only[getD_set_ne false ek]at G;exact getD_set_true (J k ok G O e q r)
    unfold wpOpIn at x ⊢;rw[Qf v,l]at x;rw[l];simp only at x ⊢;rw[Of (s.guards j o v l)]at x;split
    ·rename_i C;rw[if_pos C]at x;exact FT next x
    ·rename_i C;rw[if_neg C]at x;exact⟨x.1,next _ _ x.2⟩
end
section
variable {X:iW} {B:Option Nat} {ro:Option Nat} {Γ:Env} {P:Program} {ops:Array Oper} {n:Nat} {S:Nat->SS} {D:List M7}
theorem US{F:Nat->Prop}{K:j0}{H:Nat->Option Hd}{Q:Exit->Act->World->Prop}{id c:Nat}{a:Act}{w:World}(I:X.Ok)(J:P.follows .mixedOrders=true)(L:Good P Γ)(z:Qe ops c)(s:S2 ops=true)(A:V8 Γ P (Q4 ops c) n (Q4 ops c).toList S D)(e:S2 (Q4 ops c)=true)(l:bC (Q4 ops c) D=true)
  (C:St X B F n K H (S 0).T (S 0).m a w)(M:∀r,(S 0).nx<=r->H r=none)(N:∀x w',Kd X B F n K w (S (Q4 ops c).toList.length) x w'->wpListIn (Wd ro) 0 P ops Q (ops.toList.drop c) x w'):(Code.region id ops true).wpIn (Wd ro) 0 P Q a w:=by
 refine wpIn_region_any J ?_;have b:∀ (k j:Nat),(Array.replicate k false).getD j false=false:=fun k j=>by
  simp only[Array.getD_eq_getD_getElem?];rcases Nat.lt_or_ge j k with p|p
  ·rw[Array.getElem?_eq_getElem (by simpa using p)];simp
  ·rw[Array.getElem?_eq_none (by simpa using p)];rfl
 have u:mI ops.toList 0=true:=by
  simp only[S2,Bool.and_eq_true]at s;exact s.1
 have E:ops.size=c+(ops.size- c):=by have:=z.le;omega
 have f:wpAnyIn (Wd ro) 0 P .any ops Q (c+(ops.size- c)) (Array.replicate ops.size false) a {w with drawn:=w.drawn+1}:=by
  refine RT z u e c (Array.replicate c false) _ a _ (by simp) (by simp) (fun j _=>by rw[b,b]) (fun j _=>b _ j) (fun i o h=>by simp only[b]at h;cases h) ?_
  have q:=wW (ops:=ops) z.le;have O:(Q4 ops c).toList.length=c:=by rw[Array.length_toList,q]
  refine AK I L A e l c (List.range c) _ K H (S 0).T (S 0).m a _ (by simp[q]) (by simp) (fun j y _=>by rw[q]at y;simpa using y) ⟨?_,?_,?_,?_⟩ (C.drawn I _ (Nat.le_succ _)) ?_
  ·intro i t hi v g;have:=A.wS (t:=t) i 0 (by omega) (fun j o _ y R hd=>by
    have:=v j o (by omega) R hd
    rw[b]at this
    cases this)
   rw[Nat.zero_add]at this;exact this.symm
  ·intro i r hi v g;have:=A.wT (r:=r) i 0 (by omega) (fun j d _ y hd G=>by
    have:=v j d (by omega) hd G
    rw[b]at this
    cases this)
   rw[Nat.zero_add]at this;exact this.symm
  ·intro i o h;simp only[b]at h;cases h
  ·intro r G;rcases Nat.lt_or_ge r (S 0).nx with p|p
   ·exact .inl p
   ·exact absurd (M r p) G
  ·intro x w' h;refine N x w' ?_;obtain⟨v,g⟩:=h;exact⟨v,⟨g.os,g.tape,g.output,g.size,g.block,Nat.le_trans (Nat.le_succ _) g.drawn⟩⟩
 rw[<-E]at f;exact f
end
end Go.Abs
end
section
namespace Go.Abs
structure eN(F:Nat->Prop)(K:j0)(H:Nat->Option Hd)(w:World)(m:Mm)(nx:Nat)(q:XQ)(v:Value)(w':World)(K':j0)(H':Nat->Option Hd):Prop where
 le:K.le K'
 hle:bY H H'
 I2:∀r,H r=none->H' r≠none->nx<=r/\r<nx+q.new.length
 rep:c8 K' H' q.val v
 mem:j8 F K' H' w' (q.mm nx m)
 ok:J0 F K' w'
 kept:Kept F w w'
 fix:Fix F K K'
def cM(P:Program)(F:Nat->Prop)(K:j0)(H:Nat->Option Hd)(w:World)(m:Mm)(nx:Nat)(k:XQ->Prop):Result Next->Prop
 |.ok (.value v) w'=>∃q K' H',k q/\eN F K H w m nx q v w' K' H'
 |.ok (.enter f args) w'=>w'=w/\Calls P f args w (fun e a=>∃v q K' H',e=.returned v/\k q/\eN F K H w m nx q v a K' H')
 |_=>False
section
variable {P:Program} {F:Nat->Prop} {K:j0} {H:Nat->Option Hd} {w:World} {m:Mm} {nx:Nat} {k:XQ->Prop} {ev:Operand->a7} {ρ:Operand->Value} {Γ:Env}
theorem mV(l9:J0 F K w)(hm:j8 F K H w m)(n:H nx=none)(o:Obj)(c:c7)(g:c.isCells=false)
  (t:o8 K (S0 H nx ⟨some w.heap.size,0,0,0⟩) (w.alloc o) ⟨some w.heap.size,0,0,0⟩ c){a:a7}{v:Value}(u:c8 K (S0 H nx ⟨some w.heap.size,0,0,0⟩) a v):
  eN F K H w m nx ⟨a,[],[],[c]⟩ v (w.alloc o) K (S0 H nx ⟨some w.heap.size,0,0,0⟩):=by
 refine⟨.refl K,L9 n,fun r e d=>?_,u,?_,l9.alloc _,uG l9 _,.refl F K⟩
 ·by_cases p:r=nx
  ·subst p;simp
  ·rw[n6 _ _ _ _ p]at d;exact absurd e d
 ·have y:j8 F K H (w.alloc o) m:=hm.world (fun r c f hd b e d j z=>RowKit.Below.heap_alloc w _ b (U4 hm e d j z))
  refine y.new nx n c _ t (fun b l=>?_)
  cases l;have s:=l9.y6.new (Nat.le_refl w.heap.size);refine⟨fun A=>?_,s.1,s.2,(fun h=>by rw[g]at h;cases h),fun C c' B e d j=>?_⟩
  ·have:=l9.lt _ A;omega
  ·have:=U4 hm e (by simp) d j;omega
theorem lJ(l9:J0 F K w)(hm:j8 F K H w m){a:a7}{v:Value}(b:c8 K H a v):eN F K H w m nx ⟨a,[],[],[]⟩ v w K H:=
 ⟨.refl K,.refl H,fun _ h c=>absurd h c,b,hm,l9,.refl F w,.refl F K⟩
theorem zI(l9:J0 F K w)(hm:j8 F K H w m){r:Nat}{c c':c7}{hd:Hd}{b:Nat}{o o':Obj}(d:m r=some (c,.own))(g:H r=some hd)(j:hd.base=some b)
  (hh:w.heap[b]? =some o)(l:∀cs e n,o≠ .cells cs e n)(f:c'.isCells=false)(p:o8 K H (w.putObj b o') hd c'){a:a7}{v:Value}(s:c8 K H a v):
  eN F K H w m nx ⟨a,[(r,c')],[],[]⟩ v (w.putObj b o') K H:=by
 obtain⟨t,u,q3⟩:=bH l9 hm d g j hh l f p;exact⟨.refl K,.refl H,fun _ h y=>absurd h y,s,t,u,q3,.refl F K⟩
theorem eN.drew{q:XQ}{v:Value}{w':World}{K':j0}{H':Nat->Option Hd}(h:eN F K H w.drew m nx q v w' K' H'):eN F K H w m nx q v w' K' H':=
 ⟨h.le,h.hle,h.I2,h.rep,h.mem,h.ok,⟨h.kept.os,h.kept.tape,h.kept.output,h.kept.size,h.kept.block,Nat.le_trans (Nat.le_succ _) h.kept.drawn⟩,h.fix⟩
variable (l9:J0 F K w) (hm:j8 F K H w m) (n0:∀x,c8 K H (ev x) (ρ x)) (H7:∀q,k q->∀i,i<q.new.length->H (nx+i)=none)
include l9 hm H7 in
theorem RU(o:Oper){t:TypeId}{mk:MK}(b:o.op=.makeMap t none)(h:k ⟨.z8 nx,[],[],[.mp mk [] 0]⟩):cM P F K H w m nx k ((execOp ρ o).run P w):=by
 have a:(execOp ρ o).run P w=.ok (.value (.map (some w.heap.size))) (w.alloc (.map #[] 0)):=by
  simp only[execOp,b];refine j1 ?_;simp only[Instr.makeMap,Option.map_none,Sem.run_bind,run_newObj_alloc,Result.andThen_ok,Sem.run_pure]
 rw[a];have c:H nx=none:=by simpa using H7 _ h 0 (by simp)
 refine⟨_,K,_,h,mV l9 hm c (.map #[] 0) _ rfl ?_ ?_⟩
 ·exact⟨rfl,rfl,rfl,_,rfl,L7 w _⟩
 ·simp only[c8];exact⟨_,_,j6 _ _ _,rfl,rfl⟩
include l9 hm n0 in
theorem UT(o:Oper){t:TypeId}{x i:Operand}{c:Bool}(p:o.op=.lookup t x i c){r:Nat}{mk:MK}{l:l6 mk.kt}{clk:Nat}{f:p8}{a:mk.kt.den}(s:ev x=.z8 r)(g:m r=some (.mp mk l clk,f))(u:f≠ .dead)
  (j:gM P t=some mk)(d:mk.PL (ev i)=some a)(h:k ⟨At mk l a c,[],[],[]⟩):cM P F K H w m nx k ((execOp ρ o).run P w):=by
 obtain⟨_,_,_,_,hint,_⟩:=S6 j;have n:=n0 x;rw[s]at n;obtain⟨hd,b,A,g2,v,y,_⟩:=wM hm g u n;have z:=rD hint d (n0 i);have e:=tA j y a c;have:(execOp ρ o).run P w=.ok (.value (if c then .tuple #[.int mk.kv (y8 mk.kt l a),.bool (J4 mk.kt l a)]else .int mk.kv (y8 mk.kt l a))) w:=by
  simp only[execOp,p,v,z];exact j1 e
 rw[this];refine⟨_,K,H,h,lJ l9 hm ?_⟩;cases c
 ·simp[At,c8]
 ·simp only[At,c8,if_true];exact⟨_,rfl,.cons (by simp[c8]) (.cons (by simp[c8]) .nil)⟩
include l9 hm n0 in
theorem UU(o:Oper){c:Call}{x y:Operand}{t u:TypeId}(v:o.op=.call c)(z:c.callee=.builtin .delete)(d:c.args.toList=[x,y])(e:c.argTypes.toList=[t,u])
  {r:Nat}{mk:MK}{l:l6 mk.kt}{clk:Nat}{a:mk.kt.den}(A:ev x=.z8 r)(f:m r=some (.mp mk l clk,.own))
  (p:gM P t=some mk)(g:mk.PL (ev y)=some a)(h:k ⟨.I9 [],[(r,.mp mk (Bx mk.kt a l) clk)],[],[]⟩):cM P F K H w m nx k ((execOp ρ o).run P w):=by
 obtain⟨_,_,_,_,hint,_⟩:=S6 p;have s:=n0 x;rw[A]at s;obtain⟨hd,b,B,g2,C,n,D,E,G⟩:=wM hm f (by simp) s
 have I:=rD hint g (n0 y);have j:=FM (u:=u) (ty:=o.type) p n a;have J:c.args= #[x,y]:=by apply Array.ext';simpa using d
 have L:c.argTypes= #[t,u]:=by apply Array.ext';simpa using e
 have:(execOp ρ o).run P w=.ok (.value (.tuple #[])) (w.putObj b (.map ((Bx mk.kt a l).map mk.cU).toArray clk)):=by
  simp[execOp,v,resolve,z,J,L,C,I,invoke,builtin,j,go_sem]
 rw[this];exact⟨_,K,H,h,zI (c':=.mp mk (Bx mk.kt a l) clk) (o':=.map ((Bx mk.kt a l).map mk.cU).toArray clk) l9 hm f B g2 n (fun _ _ _ h=>by cases h) rfl ⟨D,E,G,b,g2,by rw[L5 n,if_pos rfl]⟩ (by simp only[c8];exact⟨_,rfl,.nil⟩)⟩
include l9 hm n0 H7 in
theorem Yx(o:Oper){t:TypeId}{x:Operand}(j:o.op=.range t x){r:Nat}{mk:MK}{l:l6 mk.kt}{clk:Nat}{f:p8}(n:ev x=.z8 r)(d:m r=some (.mp mk l clk,f))(p:f≠ .dead)
  (s:gM P t=some mk)(h:k ⟨.ptr nx 0,[],[],[.it (some r) clk [] clk]⟩):cM P F K H w m nx k ((execOp ρ o).run P w):=by
 obtain⟨kt,A,_,u,_⟩:=S6 s;have g:=n0 x;rw[n]at g;obtain⟨hd,b,v,g2,y,z,_⟩:=wM hm d p g;have a:(execOp ρ o).run P w=.ok (.value (.pointer (some ⟨w.heap.size,0,none⟩))) (w.alloc (.mapIter (some b) clk #[] clk)):=by
  simp only[execOp,j,y];refine j1 ?_;simp only[Instr.range,Sem.run_bind,run_underlying u,Result.andThen_ok,C0 z,run_newObj_alloc,Sem.run_pure]
 rw[a];have c:H nx=none:=by simpa using H7 _ h 0 (by simp)
 refine⟨_,K,_,h,mV l9 hm c (.mapIter (some b) clk #[] clk) _ rfl ?_ ?_⟩
 ·refine⟨rfl,rfl,rfl,_,b,rfl,L7 w _,fun B e=>?_⟩
  cases e;exact⟨hd,L9 c _ _ v,g2⟩
 ·simp only[c8];exact⟨_,_,j6 _ _ _,rfl,rfl⟩
theorem Qg{mk:MK}(l:l6 mk.kt)(seen:List Nat):(leftOf (l.map mk.cU).toArray seen.toArray).toList=(mleft mk.kt l seen).map mk.cU:=by
 simp only[leftOf,mleft,Array.toList_filter];rw[List.filter_map];congr 1;apply List.filter_congr;intro e _;simp[MK.cU];exact decide_eq_decide.2 Iff.rfl
theorem Kz{e:Nat}{v:Value}{r a d:Nat}{seen:List Nat}{mk:MK}{l:l6 mk.kt}{clk:Nat}{f:p8}(hm:j8 F K H w m)(g:m e=some (.it (some r) a seen d,.own))(j:m r=some (.mp mk l clk,f))(u:f≠ .dead)(h:c8 K H (.ptr e 0) v):
  ∃hd b mb,H e=some hd/\hd.base=some b/\v=.pointer (some ⟨b,0,none⟩)/\w.heap[b]? =some (.mapIter (some mb) a seen.toArray d)/\w.heap[mb]? =some (.map (l.map mk.cU).toArray clk)/\hd.sz=0/\hd.len=0/\hd.cap=0/\∃c,H r=some c/\c.base=some mb:=by
 simp only[c8]at h;obtain⟨hd,b,n,g2,y⟩:=h;obtain⟨z,A,B,G,mb,o,C,D⟩:=hm.cont e _ .own hd g (by simp) n
 rw[g2]at o;cases o;obtain⟨c,p,s⟩:=D r rfl;obtain⟨_,_,_,I,t,E⟩:=hm.cont r _ f c j u p;rw[s]at t;cases t;exact⟨hd,b,mb,n,g2,y,C,E,z,A,B,c,p,s⟩
include l9 hm n0 in
theorem a1Y(o:Oper){i:Operand}(J:o.op=.next i false){z r since c:Nat}{seen:List Nat}{mk:MK}{l:l6 mk.kt}{clk:Nat}{f:p8}(A:ev i=.ptr z 0)(p:m z=some (.it (some r) since seen c,.own))(B:m r=some (.mp mk l clk,f))(R:f≠ .dead)
  (hint:mk.kt.ints=true)(h:((∀e∈l,e.1<since)/\since<=c)/\(mleft mk.kt l seen=[]->k ⟨.I9 [.bool false],[],[],[]⟩)/\
   ∀e,e∈mleft mk.kt l seen->k ⟨.I9 [.bool true,mk.Q2 e.2.1,.int mk.kv e.2.2],[(z,.it (some r) since (seen++ [e.1]) clk)],[],[]⟩):cM P F K H w m nx k ((execOp ρ o).run P w):=by
 have L:=n0 i;rw[A]at L;obtain⟨hd,b,n,S,g2,M,N,T,U,V,X,C,Y,Z⟩:=Kz hm p B R L;obtain⟨⟨h1,h2⟩,h3,h4⟩:=h;have s:∀x∈((l.map mk.cU).toArray).toList,x.born<since:=by
  intro x O;simp only[List.mem_map]at O;obtain⟨e,A,rfl⟩:=O;exact h1 e A
 rcases run_next_at (P:=P) w o.type b n since c seen.toArray (l.map mk.cU).toArray clk N T s h2 with⟨hz,d⟩|⟨e,g,j,D,d⟩
 ·have hl:mleft mk.kt l seen=[]:=by
   have:=Qg (mk:=mk) l seen;rw[Array.eq_empty_of_size_eq_zero hz]at this;simpa using this.symm
  have:(execOp ρ o).run P w=.ok (.value (.tuple #[.bool false])) w:=by
   simp only[execOp,J,M];exact j1 d
  rw[this];exact⟨_,K,H,h3 hl,lJ l9 hm (by simp only[c8];exact⟨_,rfl,.cons (by simp[c8]) .nil⟩)⟩
 ·rw[Qg]at g;simp only[List.mem_map]at g;obtain⟨a,E,rfl⟩:=g;have:(execOp ρ o).run P w=.ok (.value (.tuple #[.bool true,mk.key a.2.1,.int mk.kv a.2.2])) (j.putObj b (.mapIter (some n) since (seen++ [a.1]).toArray clk)):=by
   simp only[execOp,J,M];refine j1 ?_;rw[d];simp[MK.cU,ChangeMaps.setBlock,World.putObj]
  rw[this];refine⟨_,K,H,h4 a E,?_⟩;have t:c8 K H (.I9 [.bool true,mk.Q2 a.2.1,.int mk.kv a.2.2]) (.tuple #[.bool true,mk.key a.2.1,.int mk.kv a.2.2]):=by
   simp only[c8];exact⟨_,rfl,.cons (by simp[c8]) (.cons (Qa hint _) (.cons (by simp[c8]) .nil))⟩
  have u:∀j:World,j.heap=w.heap->J0 F K j->j8 F K H j m->eN F K H j m nx ⟨.I9 [.bool true,mk.Q2 a.2.1,.int mk.kv a.2.2],[(z,.it (some r) since (seen++ [a.1]) clk)],[],[]⟩ (.tuple #[.bool true,mk.key a.2.1,.int mk.kv a.2.2]) (j.putObj b (.mapIter (some n) since (seen++ [a.1]).toArray clk)) K H:=by
   intro j hw v G;have y:j.heap[b]? =some (.mapIter (some n) since seen.toArray c):=by rw[hw];exact N
   refine zI (c':=.it (some r) since (seen++ [a.1]) clk) (o':=.mapIter (some n) since (seen++ [a.1]).toArray clk) v G p S g2 y (fun _ _ _ h=>by cases h) rfl ⟨U,V,X,b,n,g2,by rw[L5 y,if_pos rfl],fun r' I=>?_⟩ t
   cases I;exact⟨C,Y,Z⟩
  rcases D with rfl|rfl
  ·exact u _ rfl l9 hm
  ·exact(u w.drew rfl (l9.heap rfl) (hm.heap rfl)).drew
include l9 hm n0 in
theorem Yy(o:Oper){i:Operand}(B:o.op=.entry i){y r a g:Nat}{seen:List Nat}{mk:MK}{l:l6 mk.kt}{clk:Nat}{f:p8}(C:ev i=.ptr y 0)(s:m y=some (.it (some r) a seen g,.own))(t:m r=some (.mp mk l clk,f))(D:f≠ .dead)
  (hint:mk.kt.ints=true)(h:(clk=g/\(l.map (·.1)).Nodup)/\∃e,(e∈l/\seen.getLast?=some e.1)/\k ⟨.I9 [mk.Q2 e.2.1,.int mk.kv e.2.2],[],[],[]⟩):cM P F K H w m nx k ((execOp ρ o).run P w):=by
 have z:=n0 i;rw[C]at z;obtain⟨hd,b,A,M,g2,E,G,I,N,O,R,J,S,T⟩:=Kz hm s t D z;obtain⟨⟨rfl,u⟩,j,⟨n,d⟩,L⟩:=h;obtain⟨c,rfl⟩:∃c,seen=c++ [j.1]:=by
  rw[List.getLast?_eq_some_iff]at d;exact d
 have v:w.heap[b]? =some (.mapIter (some A) a (c.toArray.push (mk.cU j).born) clk):=by
  rw[G];simp[MK.cU]
 have p:=run_entry_at (P:=P) w b A a c.toArray (l.map mk.cU).toArray clk (mk.cU j) v I (by simp only[List.mem_map];exact⟨j,n,rfl⟩) (by
  have:((l.map mk.cU).toArray.toList.map (·.born))=l.map (·.1):=by simp[MK.cU,Function.comp_def]
  rw[this];exact u)
 have:(execOp ρ o).run P w=.ok (.value (.tuple #[mk.key j.2.1,.int mk.kv j.2.2])) w:=by
  simp only[execOp,B,E];exact j1 p
 rw[this];refine⟨_,K,H,L,lJ l9 hm ?_⟩;simp only[c8];exact⟨_,rfl,.cons (Qa hint _) (.cons (by simp[c8]) .nil)⟩
end
end Go.Abs
end
section
namespace Go.Abs
def c7.plain:c7->Bool
 |.sl _ _=>true
 |.mp _ _ _=>true
 |_=>false
section
variable {P:Program} {F:Nat->Prop} {K:j0} {H:Nat->Option Hd} {w:World} {m:Mm} {nx:Nat} {k:XQ->Prop} {ev:Operand->a7} {ρ:Operand->Value} {Γ:Env}
theorem kG{K':j0}{H':Nat->Option Hd}{hd:Hd}{c:c7}(f:c.plain=true)(i:K.le K')(h:o8 K H w hd c):o8 K' H' w hd c:=by
 cases c with
 |box cells=>cases f
 |sl t l=>
  obtain⟨j,n,p,g⟩:=h;refine⟨j,n,p,?_⟩;rcases g with g|⟨b,cs,e,q,r,g2,s,u⟩
  ·exact .inl g
  ·exact .inr ⟨b,cs,e,q,r,g2,s,u.mono i⟩
 |mp mk l clk=>exact h
 |it a b c d=>cases f
 |bx a b c d e=>cases f
 |F8 o=>cases f
 |any=>cases f
theorem wX{j:Nat}{v v':a7}{r:Nat}{c:c7}(h:HL m j v=some (v',r,c)):
  m r=some (c,.own)/\c.plain=true/\(∀ (K K':j0) (H H0:Nat->Option Hd) (x:Value),c8 K H v x->H0 j=H r->c8 K' H0 v' x)/\∀ (K:j0) (H:Nat->Option Hd) (x:Value),c8 K H v x->∃hd,H r=some hd:=by
 unfold HL at h;split at h
 ·rename_i n f;split at h
  ·rename_i t l d;simp only[Option.some.injEq,Prod.mk.injEq]at h;obtain⟨rfl,rfl,rfl⟩:=h;refine⟨d,rfl,fun K K' H H0 x a e=>?_,fun K H x a=>?_⟩
   ·simp only[c8]at a ⊢;obtain⟨hd,g,i⟩:=a;exact⟨hd,by rw[e];exact g,i⟩
   ·simp only[c8]at a;obtain⟨hd,g,i⟩:=a;exact⟨hd,g⟩
  ·cases h
 ·rename_i n;split at h
  ·rename_i mk l clk d;simp only[Option.some.injEq,Prod.mk.injEq]at h;obtain⟨rfl,rfl,rfl⟩:=h;refine⟨d,rfl,fun K K' H H0 x a e=>?_,fun K H x a=>?_⟩
   ·simp only[c8]at a ⊢;obtain⟨hd,b,g,i⟩:=a;exact⟨hd,b,by rw[e];exact g,i⟩
   ·simp only[c8]at a;obtain⟨hd,b,g,i⟩:=a;exact⟨hd,g⟩
  ·cases h
 ·cases h
theorem RV(i:j8 F K H w m){a:j0}(c:K.le a){b:Bool}{v v':a7}{x:Value}{d:List (Nat×p8)}(h:JH m b v=some (v',d))
  (j:∀r f hd b cs e l,(r,f)∈d->H r=some hd->hd.base=some b->w.heap[b]? =some (.cells cs e l)->a.cells b=some cs)(g:c8 K H v x):c8 a H v' x:=by
 unfold JH at h;split at h
 ·simp only[Option.some.injEq,Prod.mk.injEq]at h;obtain⟨rfl,rfl⟩:=h;simpa [c8]using g
 ·exact(kY i c H (.refl H) 6).1 _ _ _ _ h j g
theorem KA{b:Bool}{v v':a7}{d:List (Nat×p8)}(h:JH m b v=some (v',d)):∀r f,(r,f)∈d->f≠ .dead/\∃c,m r=some (c,f)/\c.isCells=true:=by
 unfold JH at h;split at h
 ·simp only[Option.some.injEq,Prod.mk.injEq]at h;obtain⟨rfl,rfl⟩:=h;intro r f a;simp at a
 ·exact(dD m 6).1 _ _ _ h
theorem mW(E:j8 F K H w m){A:j0}(d:K.le A){s:List Nat}:∀ (args:List a7) (xs:List Value) (i j:Nat) (vs:List a7) (t:List Nat) (cs:List c7) (B:List (Nat×p8)),cD m s i j args=some (vs,t,cs,B)->
  (∀r f hd b cs e u,(r,f)∈B->H r=some hd->hd.base=some b->w.heap[b]? =some (.cells cs e u)->A.cells b=some cs)->c9 K H args xs->
  ∀H0:Nat->Option Hd,(∀q,q<t.length->H0 (j+q)=H (t.getD q 0))->c9 A H0 vs xs
 |[],xs,i,j,vs,t,cs,B,h,C,G,H0,D=>by
  simp only[cD,Option.some.injEq,Prod.mk.injEq]at h;obtain⟨rfl,rfl,rfl,rfl⟩:=h;rw[c9.H8.1 G];exact .nil
 |v::args,xs,i,j,vs,t,cs,B,h,C,G,H0,D=>by
  obtain⟨x,y,rfl,L,M⟩:=G.inv;simp only[cD]at h;split at h
  ·split at h
   ·rename_i v' r c z;split at h
    ·rename_i g l n o a;simp only[Option.some.injEq,Prod.mk.injEq]at h;obtain⟨rfl,rfl,rfl,rfl⟩:=h;obtain⟨_,_,N,_⟩:=wX z;refine .cons (N K A H H0 x L (by have:=D 0 (by simp);simpa using this)) ?_
     refine mW E d args y (i+1) (j+1) g l n o a C M H0 (fun q O=>?_)
     have:=D (q+1) (by simpa using O)
     rw[show j+1+q=j+(q+1)by omega,this]
     simp
    ·cases h
   ·cases h
  ·split at h
   ·rename_i v' R p;split at h
    ·rename_i I;split at h
     ·rename_i g l n o a;simp only[Option.some.injEq,Prod.mk.injEq]at h;obtain⟨rfl,rfl,rfl,rfl⟩:=h;refine .cons (PZ _ _ I (RV E d p (fun r f hd b cs e u J=>C r f hd b cs e u (by simp[J])) L)) ?_
      exact mW E d args y (i+1) j g l n o a (fun r f hd b cs e u J=>C r f hd b cs e u (by simp[J])) M H0 D
     ·cases h
    ·cases h
   ·cases h
theorem kH{o:List Nat}:∀ (args:List a7) (xs:List Value) (i j:Nat) (vs:List a7) (b:List Nat) (cs:List c7) (t:List (Nat×p8)),cD m o i j args=some (vs,b,cs,t)->c9 K H args xs->
  cs.length=b.length/\(∀q,q<b.length->∃c,cs[q]? =some c/\m (b.getD q 0)=some (c,.own)/\c.plain=true/\∃hd,H (b.getD q 0)=some hd)/\(∀r f,(r,f)∈t->f≠ .dead/\∃c,m r=some (c,f)/\c.isCells=true)
 |[],xs,i,j,vs,b,cs,t,h,B=>by
  simp only[cD,Option.some.injEq,Prod.mk.injEq]at h;obtain⟨rfl,rfl,rfl,rfl⟩:=h;exact⟨rfl,fun q u=>by simp at u,fun r f h=>by simp at h⟩
 |v::args,xs,i,j,vs,b,cs,t,h,B=>by
  obtain⟨x,p,rfl,D,C⟩:=B.inv;simp only[cD]at h;split at h
  ·split at h
   ·rename_i v' r c s;split at h
    ·rename_i d e g l a;simp only[Option.some.injEq,Prod.mk.injEq]at h;obtain⟨rfl,rfl,rfl,rfl⟩:=h;obtain⟨E,G,_,I⟩:=wX s;obtain⟨a1,y,z⟩:=kH args p (i+1) (j+1) d e g l a C;refine⟨by simp[a1],fun q u=>?_,z⟩
     cases q with
     |zero=>exact⟨c,rfl,by simpa using E,G,by simpa using I K H x D⟩
     |succ q=>
      obtain⟨c',J,L,M,N⟩:=y q (by simpa using u)
      exact⟨c',by simpa using J,by simpa using L,M,by simpa using N⟩
    ·cases h
   ·cases h
  ·split at h
   ·rename_i v' R n;split at h
    ·rename_i O;split at h
     ·rename_i d e g l a;simp only[Option.some.injEq,Prod.mk.injEq]at h;obtain⟨rfl,rfl,rfl,rfl⟩:=h;obtain⟨a1,y,z⟩:=kH args p (i+1) j d e g l a C;refine⟨a1,y,fun r f A=>?_⟩
      rcases List.mem_append.1 A with h|h
      ·exact KA n r f h
      ·exact z r f h
     ·cases h
    ·cases h
   ·cases h
theorem j8.sub{m2:Mm}(h:j8 F K H w m)(hs:∀r x,m2 r=some x->m r=some x):j8 F K H w m2 where
 cont:=fun r c f hd h1 h2 h3=>h.cont r c f hd (hs _ _ h1) h2 h3
 own:=fun r c hd b h1 h2 h3=>h.own r c hd b (hs _ _ h1) h2 h3
 aQ:=fun r c hd b h1 h2 h3=>h.aQ r c hd b (hs _ _ h1) h2 h3
 inj:=fun r r' c c' hd W3 b h1 h2 h3 h4 h5 h6=>h.inj r r' c c' hd W3 b (hs _ _ h1) (hs _ _ h2) h3 h4 h5 h6
theorem j8.UW{m2 M':Mm}{t H':Nat->Option Hd}{z:List c7}{ρ:Nat->Nat}(G:Nat->Prop)(h:j8 F K H w m2)(A:j8 F K t w (E8 (fun _=>none) 0 z))
  (j:∀r c f hd b,m2 r=some (c,f)->f≠ .dead->H r=some hd->hd.base=some b->G b)(I2:∀r c hd b,E8 (fun _=>none) 0 z r=some (c,.own)->t r=some hd->hd.base=some b->¬G b)
  (B:∀r hd,t r=some hd->H' (ρ r)=some hd)(C:bY H H')
  (look:∀r c f hd,M' r=some (c,f)->H' r=some hd->(∃i o,E8 (fun _=>none) 0 z i=some (o,.own)/\r=ρ i/\c=o.X5 ρ/\f=.own/\t i=some hd)\/(m2 r=some (c,f)/\H r=some hd)):j8 F K H' w M':=by
 refine⟨?_,?_,?_,?_⟩
 ·intro r c f hd p l n;rcases look r c f hd p n with⟨i,o,a,rfl,rfl,_,g2⟩|⟨a,g2⟩
  ·exact Gw B (A.cont i o .own hd a (by simp) g2)
  ·exact(h.cont r c f hd a l g2).mono (.refl K) C (fun _ _=>rfl)
 ·intro r c hd b p l n;rcases look r c _ hd p l with⟨i,o,a,rfl,rfl,_,g2⟩|⟨a,g2⟩
  ·obtain⟨y1,O,R,S⟩:=A.own i o hd b a g2 n;exact⟨y1,O,R,fun T=>S (wF _ _ T)⟩
  ·exact h.own r c hd b a g2 n
 ·intro r c hd b p l n;rcases look r c _ hd p l with⟨i,o,a,_,_,g,g2⟩|⟨a,g2⟩
  ·cases g
  ·exact h.aQ r c hd b a g2 n
 ·intro D u E v e d b p l n L x y;rcases look D E _ e p n with⟨M,N,a,rfl,rfl,_,g2⟩|⟨a,g2⟩
  ·rcases look u v _ d l L with⟨I,J,q,rfl,rfl,_,s⟩|⟨q,s⟩
   ·rw[A.inj M I N J e d b a q g2 s x y]
   ·exact absurd (j u v .own d b q (by simp) s y) (I2 M N e b a g2 x)
  ·rcases look u v _ d l L with⟨I,J,q,rfl,rfl,_,s⟩|⟨q,s⟩
   ·exact absurd (j D E .own e b a (by simp) g2 x) (I2 I J d b q s y)
   ·exact h.inj D u E v e d b a q g2 s x y
def kill(a:List Nat)(m:Mm):Mm:=fun r=>if r∈a then none else m r
theorem S8{a:List Nat}{m:Mm}{r:Nat}{x:c7×p8}(h:kill a m r=some x):r ∉ a/\m r=some x:=by
 unfold kill at h;split at h
 ·cases h
 ·rename_i b;exact⟨b,h⟩
theorem mX:∀ (a:List (Nat×c7)) (m:Mm) (r:Nat),r ∉ a.map (·.1)->iS m (oT a) r=m r
 |[],_,_,_=>rfl
 |u::a,m,r,h=>by
  simp only[List.map_cons,List.mem_cons,not_or]at h;simp only[oT,iS];rw[mX a _ r h.2,n6 _ _ _ _ h.1]
theorem Dz:∀ (b:List Nat) (cs:List c7) (r:Nat),r∈(FH b cs).map (·.1)->r∈b
 |[],cs,r,h=>by cases cs<;>simp[FH]at h
 |a::b,[],r,h=>by simp[FH]at h
 |a::b,c::cs,r,h=>by
  simp only[FH,List.map_cons,List.mem_cons]at h;rcases h with rfl|h
  ·simp
  ·exact List.mem_cons_of_mem _ (Dz b cs r h)
theorem KB:∀ (b:List Nat) (cs:List c7) (m:Mm),b.Nodup->∀q c,q<b.length->cs[q]? =some c->iS m (oT (FH b cs)) (b.getD q 0)=some (c,.own)
 |[],cs,m,_,q,c,e,_=>by simp at e
 |a::b,[],m,_,q,c,_,d=>by simp at d
 |a::b,j::cs,m,f,q,c,e,d=>by
  obtain⟨g,i⟩:=List.nodup_cons.1 f;simp only[FH,oT,iS];cases q with
  |zero=>
   simp only[List.getElem?_cons_zero,Option.some.injEq]at d;subst d;simp only[List.getD_cons_zero];rw[mX _ _ _ (fun h=>g (Dz b cs a h)),j6]
  |succ q=>
   simp only[List.getElem?_cons_succ]at d;simp only[List.getD_cons_succ];exact KB b cs _ i q c (by simpa using e) d
theorem jJ:∀ {l:List Nat},yT l=true->l.Nodup
 |[],_=>List.nodup_nil
 |a::l,h=>by
  simp only[yT,Bool.and_eq_true,Bool.not_eq_true']at h;exact List.nodup_cons.2 ⟨by simpa using h.1,jJ h.2⟩
theorem Oh{a b:List Nat}(h:Ue a b=true){x:Nat}(c:x∈a):x ∉ b:=by
 simp only[Ue,List.all_eq_true]at h;simpa using h x c
theorem KD{r:Nat}{f:p8}:∀ {b:List (Nat×p8)},(r,f)∈b->r∈N6 b
 |(a,g)::b,h=>by
  simp only[N6];rcases List.mem_cons.1 h with h|h
  ·cases h;simp
  ·exact List.mem_cons_of_mem _ (KD h)
end
end Go.Abs
end
section
namespace Go.Abs
theorem wY:∀ (l b:List Nat) (x:Nat),x∈uniq l b->x∈l\/x∈b
 |[],b,x,h=>.inr h
 |a::l,b,x,h=>by
  unfold uniq at h;split at h
  ·rcases wY l b x h with h|h
   ·exact .inl (List.mem_cons_of_mem _ h)
   ·exact .inr h
  ·rcases wY l _ x h with h|h
   ·exact .inl (List.mem_cons_of_mem _ h)
   ·rcases List.mem_append.1 h with h|h
    ·exact .inr h
    ·simp at h;subst h;exact .inl (List.mem_cons_self ..)
theorem mY(M:Mm):∀ (d:Nat) (l:List Nat),l.Nodup->(gN M d l).Nodup
 |0,_,h=>h
 |d+1,l,h=>mY M d _ (bI _ _ h)
theorem Ir(M:Mm)(vs:List a7):(gO M vs).Nodup:=mY M 6 _ (bI _ _ List.nodup_nil)
theorem U6{K:j0}{H:Nat->Option Hd}{d:Nat}(e:∀ (a:a7) (v:Value),c8 K H a v->∀r∈refs d a,∃hd,H r=some hd):∀ (b:List a7) (vs:List Value),c9 K H b vs->∀r∈(b.map (refs d)).flatten,∃hd,H r=some hd
 |[],_,_,r,c=>by simp at c
 |a::b,vs,h,r,c=>by
  obtain⟨x,xs,rfl,f,g⟩:=h.inv;rw[List.map_cons,List.flatten_cons,List.mem_append]at c;rcases c with c|c
  ·exact e a x f r c
  ·exact U6 e b xs g r c
theorem rG{K:j0}{H:Nat->Option Hd}:∀ (d:Nat) (a:a7) (v:Value),c8 K H a v->∀r∈refs d a,∃hd,H r=some hd
 |0,_,_,_,r,c=>by simp[refs]at c
 |d+1,a,v,h,r,c=>by
  have e:=rG (K:=K) (H:=H) d;cases a
  case B6 j f=>simp only[refs,List.mem_singleton]at c;subst c;simp only[c8]at h;obtain⟨hd,g,_⟩:=h;exact⟨hd,g⟩
  case sub j lo len f=>simp only[refs,List.mem_singleton]at c;subst c;simp only[c8]at h;obtain⟨hd,_,_,g,_⟩:=h;exact⟨hd,g⟩
  case ptr j o=>simp only[refs,List.mem_singleton]at c;subst c;simp only[c8]at h;obtain⟨hd,_,g,_⟩:=h;exact⟨hd,g⟩
  case P9 j i o=>simp only[refs,List.mem_singleton]at c;subst c;simp only[c8]at h;obtain⟨hd,_,g,_⟩:=h;exact⟨hd,g⟩
  case O2 j=>simp only[refs,List.mem_singleton]at c;subst c;simp only[c8]at h;obtain⟨hd,_,g,_⟩:=h;exact⟨hd,g⟩
  case z8 j=>simp only[refs,List.mem_singleton]at c;subst c;simp only[c8]at h;obtain⟨hd,_,g,_⟩:=h;exact⟨hd,g⟩
  case L8 cs=>simp only[refs]at c;simp only[c8]at h;obtain⟨_,_,_,_,_,g⟩:=h;exact U6 e _ _ g r c
  case agg cs=>simp only[refs]at c;simp only[c8]at h;obtain⟨_,_,g⟩:=h;exact U6 e _ _ g r c
  case I9 cs=>simp only[refs]at c;simp only[c8]at h;obtain⟨_,_,g⟩:=h;exact U6 e _ _ g r c
  case fn f a b=>
   simp only[refs,List.mem_append]at c;simp only[c8]at h;obtain⟨_,_,_,l,g2⟩:=h;rcases c with c|c
   ·exact U6 e _ _ l r c
   ·exact U6 e _ _ g2 r c
  all_goals simp[refs]at c
section
variable {P:Program} {F:Nat->Prop} {K:j0} {H:Nat->Option Hd} {w:World} {m:Mm} {nx:Nat} {k:XQ->Prop} {ev:Operand->a7} {ρ:Operand->Value} {Γ:Env}
theorem FU{c:c7}{hd:Hd}(h:o8 K H w hd c):∀r∈bO c,∃W3,H r=some W3:=by
 intro r e;cases c with
 |box cells=>
  obtain⟨_,_,_,_,_,_,g⟩:=h;exact U6 (rG 8) _ _ g r e
 |bx p t n l q=>
  obtain⟨_,_,_,_,_,_,_,_,_,_,_,_,f,_,g2⟩:=h;exact U6 (rG 8) _ _ (c9.append f g2) r e
 |sl t l=>simp[bO]at e
 |mp mk l clk=>simp[bO]at e
 |it a b c d=>
  cases a with
  |none=>simp[bO]at e
  |some j=>
   simp only[bO,List.mem_singleton]at e;subst e;obtain⟨_,_,_,_,_,_,_,g⟩:=h;obtain⟨i,f,_⟩:=g r rfl;exact⟨i,f⟩
 |F8 o=>simp[bO]at e
 |any=>simp[bO]at e
theorem KF(g:j8 F K H w m):∀ (d:Nat) (l:List Nat),(∀r∈l,∃hd,H r=some hd)->∀r∈gN m d l,∃hd,H r=some hd:=by
 intro d
 induction d with
 |zero=>intro l h;exact h
 |succ d i=>
  intro l h;unfold gN;refine i _ (fun r b=>?_)
  rcases wY _ _ r b with b|b
  ·obtain⟨L,j,a⟩:=List.mem_flatten.1 b;obtain⟨f,e,rfl⟩:=List.mem_map.1 j;unfold BO at a;split at a
   ·rename_i c n;obtain⟨hd,hh⟩:=h f e;exact FU (g.cont f c .own hd n (by simp) hh) r a
   ·simp at a
  ·exact h r b
theorem KG(b:j8 F K H w m){vs:List a7}{xs:List Value}(h:c9 K H vs xs):∀r∈gO m vs,∃hd,H r=some hd:=by
 refine KF b 6 _ (fun r a=>?_)
 rcases wY _ _ r a with a|a
 ·exact U6 (rG 8) _ _ h r a
 ·simp at a
theorem dR{L:List Nat}:∀ (a:List Nat) (cs:List c7),dX m L a=some cs->cs.length=a.length/\∀q,q<a.length->∃c,m (a.getD q 0)=some (c,.own)/\cs[q]? =some (c.dW L)
 |[],cs,h=>by
  simp only[dX,Option.some.injEq]at h;subst h;exact⟨rfl,fun q b=>by simp at b⟩
 |r::a,cs,h=>by
  simp only[dX]at h;split at h
  ·rename_i c f;split at h
   ·rename_i d e;simp only[Option.some.injEq]at h;subst h;obtain⟨g,i⟩:=dR a d e;refine⟨by simp[g],fun q b=>?_⟩
    cases q with
    |zero=>exact⟨c,by simpa using f,rfl⟩
    |succ q=>
     obtain⟨j,l,g2⟩:=i q (by simpa using b)
     exact⟨j,by simpa using l,by simpa using g2⟩
   ·cases h
  ·cases h
theorem pS{a:List Nat}{q:Nat}(h:q<a.length):a.getD q 0=a[q]:=by simp[List.getD,h]
theorem pT{hs:List Nat}{q:Nat}(h:q<hs.length):hs.getD q 0∈hs:=by
 rw[pS h];exact List.getElem_mem h
theorem getD_inj{a:List Nat}(hd:a.Nodup){q q':Nat}(h:q<a.length)(b:q'<a.length)(e:a.getD q 0=a.getD q' 0):q=q':=by
 rw[pS h,pS b]at e;exact(List.getElem?_inj h hd).1 (by rw[List.getElem?_eq_getElem h,List.getElem?_eq_getElem b,e])
theorem wZ{L:List Nat}{q:Nat}(h:q<L.length):aK L H q=H (L.getD q 0):=by
 unfold aK;rw[List.getElem?_eq_getElem h];simp[List.getD,h]
theorem KH{L:List Nat}{q:Nat}(h:L.length<=q):aK L H q=none:=by
 unfold aK;rw[List.getElem?_eq_none h];rfl
theorem pU{hs:List Nat}{cs:List c7}(c:dX m hs hs=some cs){r:Nat}{c':c7}{f:p8}(b:E8 (fun _=>none) 0 cs r=some (c',f)):
  r<hs.length/\f=.own/\aK hs H r=H (hs.getD r 0)/\∃g,m (hs.getD r 0)=some (g,.own)/\c'=g.dW hs:=by
 obtain⟨h,d⟩:=dR _ _ c;rw[u6]at b;split at b
 ·rename_i j;simp only[Option.some.injEq,Prod.mk.injEq]at b;have a:r<hs.length:=by omega
  obtain⟨i,l,a1⟩:=d r a;have e:cs[r- 0]'(by omega)=i.dW hs:=by
   rw[List.getElem?_eq_getElem (by omega)]at a1
   simpa using a1
  rw[e]at b;obtain⟨rfl,rfl⟩:=b;exact⟨a,rfl,wZ a,i,l,rfl⟩
 ·cases b
theorem Oi(j:j8 F K H w m){h:List Nat}{cs:List c7}(e:h.Nodup)(a:dX m h h=some cs):j8 F K (aK h H) w (E8 (fun _=>none) 0 cs):=by
 refine⟨?_,?_,?_,?_⟩
 ·intro r c' z hd c d q3;obtain⟨a1,i,f,l,g,rfl⟩:=pU (H:=H) a c;rw[f]at q3;exact pM (j.cont _ l .own hd g (by simp) q3)
 ·intro r c' hd b c d q3;obtain⟨a1,i,f,l,g,rfl⟩:=pU (H:=H) a c;rw[f]at d;obtain⟨y1,o,p,q⟩:=j.own _ l hd b g d q3;exact⟨y1,o,p,fun s=>q (pN _ _ s)⟩
 ·intro r c' hd b c d q3;obtain⟨_,i,_⟩:=pU (H:=H) a c;cases i
 ·intro r A B C hd n b c d q3 q4 q5 q6;obtain⟨a1,i,f,t,g,rfl⟩:=pU (H:=H) a c;obtain⟨u,D,v,x,y,rfl⟩:=pU (H:=H) a d;rw[f]at q3;rw[v]at q4;exact getD_inj e a1 u (j.inj _ _ t x hd n b g y q3 q4 q5 q6)
theorem jK:∀ (l b:List Nat),∃t,uniq l b=b++t
 |[],b=>⟨[],by simp[uniq]⟩
 |a::l,b=>by
  unfold uniq;split
  ·exact jK l b
  ·obtain⟨t,h⟩:=jK l (b++ [a]);exact⟨a::t,by rw[h];simp⟩
theorem tG(M:Mm):∀ (d:Nat) (l:List Nat),∃t,gN M d l=l++t
 |0,l=>⟨[],by simp[gN]⟩
 |d+1,l=>by
  unfold gN;obtain⟨t,h⟩:=jK (l.map (BO M)).flatten l;obtain⟨a,b⟩:=tG M d (uniq (l.map (BO M)).flatten l);exact⟨t++a,by rw[b,h,List.append_assoc]⟩
theorem KI(M:Mm)(vs:List a7){a:List Nat}(h:a.Nodup):∃L,graphR M vs a=L/\L.Nodup/\∃t,L=a++t:=by
 obtain⟨g,b⟩:=jK ((vs.map (refs 8)).flatten) a;have e:graphR M vs a=gN M 6 (uniq ((vs.map (refs 8)).flatten) a):=by unfold graphR;rfl
 have d:(uniq ((vs.map (refs 8)).flatten) a).Nodup:=bI _ _ h;rw[e];generalize uniq ((vs.map (refs 8)).flatten) a=u at b d;obtain⟨i,c⟩:=tG M 6 u;have f:=mY M 6 u d;generalize gN M 6 u=L at c f;exact⟨L,rfl,f,g++i,by rw[c,b,List.append_assoc]⟩
end
end Go.Abs
end
section
namespace Go.Abs
section
variable {P:Program} {F:Nat->Prop} {K:j0} {H:Nat->Option Hd} {w:World} {m:Mm} {nx:Nat} {k:XQ->Prop} {ev:Operand->a7} {ρ:Operand->Value} {Γ:Env}
theorem zJ{a:List Nat}{b:List c7}{t:Nat->Option Hd}(n:a.Nodup)(A:a.length<=b.length)(l:∀r,r<a.length->t r=H (a.getD r 0))(u:Mm)(r:Nat)(c:c7)(f:p8)(hd:Hd)
  (d:E8 (iS u (oT (FH a (cW (Q3 a nx) b)))) nx (cW (Q3 a nx) (b.drop a.length)) r=some (c,f))
  (o:(if nx<=r/\r<nx+(b.length- a.length)then t (r- nx+a.length)else H r)=some hd):
  (∃i z,E8 (fun _=>none) 0 b i=some (z,.own)/\r=Q3 a nx i/\c=z.X5 (Q3 a nx)/\f=.own/\t i=some hd)\/(kill a u r=some (c,f)/\H r=some hd):=by
 rw[u6]at d;have j:(cW (Q3 a nx) (b.drop a.length)).length=b.length- a.length:=by rw[U5,List.length_drop]
 by_cases p:nx<=r/\r<nx+(b.length- a.length)
 ·rw[dif_pos (by rw[j];exact p)]at d
  rw[if_pos p]at o;simp only[Option.some.injEq,Prod.mk.injEq]at d;left;refine⟨r- nx+a.length,b[r- nx+a.length]'(by omega),?_,?_,?_,d.2.symm,o⟩
  ·rw[u6,dif_pos (by omega)];simp
  ·unfold Q3;rw[if_neg (by omega)]
   omega
  ·rw[<-d.1,rA _ _ _ (by rw[List.length_drop];omega)]
   congr 1;rw[List.getElem_drop];congr 1;omega
 ·rw[dif_neg (by rw[j];exact p)]at d
  rw[if_neg p]at o;by_cases v:r∈a
  ·left;obtain⟨q,s,e⟩:=List.getElem_of_mem v;have y:a.getD q 0=r:=by rw[pS s];exact e
   have g:q<b.length:=by omega
   have:=KB a (cW (Q3 a nx) b) u n q ((b[q]'g).X5 (Q3 a nx)) s (by rw[List.getElem?_eq_getElem (by rw[U5];exact g),rA _ _ _ g])
   rw[y]at this;rw[this]at d;simp only[Option.some.injEq,Prod.mk.injEq]at d;refine⟨q,b[q]'g,?_,?_,d.1.symm,d.2.symm,?_⟩
   ·rw[u6,dif_pos (by omega)];simp
   ·unfold Q3;rw[if_pos s,y]
   ·rw[l q s,y];exact o
  ·right;rw[mX _ _ _ (fun h=>v (Dz _ _ _ h))]at d
   refine⟨?_,o⟩;unfold kill;rw[if_neg v];exact d
variable (l9:J0 F K w) (hm:j8 F K H w m) (n0:∀x,c8 K H (ev x) (ρ x)) (H7:∀q,k q->∀i,i<q.new.length->H (nx+i)=none)
include l9 hm n0 H7 in
theorem Oj(hG:Good P Γ)(o:Oper){c:Call}{g:Operand}{f:FuncId}{first cap:List a7}(ho:o.op=.call c)(hc:c.callee=.value g)(hg:ev g=.fn (.func f) first cap)
  (h:Cw Γ nx m f (first++K8 P c.argTypes.toList (c.args.toList.map ev)++cap) k):cM P F K H w m nx k ((execOp ρ o).run P w):=by
 unfold Cw at h;split at h
 rotate_left
 ·exact h.elim
 rename_i ct hct;split at h
 rotate_left
 ·exact h.elim
 rename_i vs a cs I hha;split at h
 rotate_left
 ·exact h.elim
 rename_i Jx;simp only[Bool.and_eq_true]at Jx;have N:=jJ Jx.1;have Yp:=n0 g;rw[hg]at Yp;simp only[c8]at Yp;obtain⟨fi,ca,e1,h1,h2⟩:=Yp;have O:c9 K H (first++K8 P c.argTypes.toList (c.args.toList.map ev)++cap) (fi++c.args.map ρ++ca).toList:=by
  have:=c9.append (c9.append h1 (bG P c.argTypes.toList _ _ (dZ n0 c.args.toList))) h2;simpa using this
 have pD:(execOp ρ o).run P w=.ok (.enter f (fi++c.args.map ρ++ca)) w:=by
  simp only[execOp,ho,resolve,hc,e1,Deferred.ofValue,Sem.run_bind,Sem.run_pure,Result.andThen_ok,invoke];exact hG.call f ct hct _ _
 rw[pD];refine⟨rfl,?_⟩;obtain⟨hlen,UX,hrs⟩:=kH _ _ 0 0 vs a cs I hha O
 let Kp:=K.plus w (R8 H I)
 have hB:∀r f hd b cs e fz,(r,f)∈I->H r=some hd->hd.base=some b->w.heap[b]? =some (.cells cs e fz)->Kp.cells b=some cs:=
  fun r f hd b cs e fz h1 h2 h3 h4=>gT (dC h1 h2 h3) l9.y6 h4
 let H0:Nat->Option Hd:=fun i=>if i<a.length then H (a.getD i 0)else none
 have PX:=mW hm (K.M9 w (R8 H I)) _ _ 0 0 vs a cs I hha hB O H0 (fun q hq=>by show(if 0+q<a.length then H (a.getD (0+q) 0)else none)=_;rw[Nat.zero_add,if_pos hq])
 obtain⟨a4z,lE⟩:=l9.frozen hm I hrs;obtain⟨hmF,_⟩:=hm.freeze l9.y6 I hrs
 let Hb:Nat->Prop:=fun b=>∃q hd,q<a.length/\H (a.getD q 0)=some hd/\hd.base=some b
 let Fc:Nat->Prop:=fun b=>b<w.heap.size/\K.inv b=none/\¬Hb b
 have R:∀b,F b->Fc b:=fun b n=>⟨l9.lt b n,by
  cases hi:K.inv b with
  |none=>rfl
  |some p=>exact absurd n (l9.inv b p hi),fun⟨q,hd,hq,M,g2⟩=>by
  obtain⟨c',_,b2,_,_⟩:=UX q hq
  exact(hm.own _ c' hd b b2 M g2).1 n⟩
 have NO:J0 Fc Kp w:=by
  refine⟨a4z.y6,fun b n=>n.1,fun b p hp n=>?_,a4z.apart⟩
  have h1:K.inv b=some p:=hp;rw[n.2.1]at h1;cases h1
 have S:∀r c' t,E8 (fun _=>none) 0 cs r=some (c',t)->r<a.length/\m (a.getD r 0)=some (c',.own)/\c'.plain=true/\t=.own/\H0 r=H (a.getD r 0):=by
  intro r c' t u;rw[u6]at u;split at u
  ·rename_i z;simp only[Option.some.injEq,Prod.mk.injEq]at u;have E:r<a.length:=by omega
   obtain⟨c2,a1,a2,a3,_⟩:=UX r E;have e:cs[r- 0]'(by omega)=c2:=by
    rw[List.getElem?_eq_getElem (by omega)]at a1
    simpa using a1
   rw[e]at u;obtain⟨rfl,rfl⟩:=u;exact⟨E,a2,a3,rfl,by show(if r<a.length then _ else _)=_;rw[if_pos E]⟩
  ·cases u
 have a8v:∀q hd b c',q<a.length->m (a.getD q 0)=some (c',.own)->H (a.getD q 0)=some hd->hd.base=some b->R8 H I b=false:=by
  intro q hd b c' hq M g2 g3;cases n:R8 H I b with
  |false=>rfl
  |true=>
   exfalso;obtain⟨r2,f2,Ax,d,j,q3⟩:=mL n;obtain⟨q4,c2,q5,_⟩:=hrs r2 f2 d;cases f2 with
   |dead=>exact q4 rfl
   |own=>
    have e:=hm.inj r2 _ c2 c' Ax hd b q5 M j g2 q3 g3;exact Oh Jx.2 (pT hq) (e▸KD d)
   |aQ=>
    obtain⟨cs2,q6⟩:=hm.aQ r2 c2 Ax b q5 j q3;rw[(hm.own _ c' hd b M g2 g3).2.1]at q6;cases q6
 have HZ:j8 Fc Kp H0 w (E8 (fun _=>none) 0 cs):=by
  refine⟨?_,?_,?_,?_⟩
  ·intro r c' t hd d j q3;obtain⟨a1,a2,a3,a4,a5⟩:=S r c' t d;rw[a5]at q3;exact kG a3 (K.M9 w _) (hm.cont _ c' .own hd a2 (by simp) q3)
  ·intro r c' hd b d j q3;obtain⟨a1,a2,a3,a4,a5⟩:=S r c' _ d;rw[a5]at j;obtain⟨M,g2,g3,g4⟩:=hm.own _ c' hd b a2 j q3;exact⟨fun n=>n.2.2 ⟨r,hd,a1,j,q3⟩,by rw[kX (a8v r hd b c' a1 a2 j q3)];exact g2,g3,g4⟩
  ·intro r c' hd b d j q3;obtain⟨_,_,_,a4,_⟩:=S r c' _ d;cases a4
  ·intro r l c1 c2 hd W3 b d j q3 q4 q5 q6;obtain⟨a1,a2,a3,a4,a5⟩:=S r c1 _ d;obtain⟨b1,b2,b3,b4,b5⟩:=S l c2 _ j;rw[a5]at q3;rw[b5]at q4;exact getD_inj N a1 b1 (hm.inj _ _ c1 c2 hd W3 b a2 b2 q3 q4 q5 q6)
 have T:=hG.spec f ct hct vs cs _ h Fc Kp H0 w (fi++c.args.map ρ++ca).toList NO PX HZ (fun r u=>by show(if r<a.length then _ else _)=_;rw[if_neg (by omega)]) (fun r u=>by
  obtain⟨_,_,_,_,hd,g⟩:=UX r (by omega)
  exact⟨hd,by show(if r<a.length then _ else _)=_;rw[if_pos (by omega)];exact g⟩)
 rw[show(fi++c.args.map ρ++ca).toList.toArray=fi++c.args.map ρ++ca from rfl]at T;refine Calls.mono T ?_;rintro e w' ⟨v,r,A,K',HR,rfl,hk,L,xA,B,hz,C,s,U,Jw,V⟩;rw[hlen]at Jw V;have y:∀r,r<a.length->HR r=H (a.getD r 0):=fun r u=>by
  rw[V r u];show(if r<a.length then _ else _)=_;rw[if_pos u]
 have RW:(cW (Q3 a nx) (A.drop a.length)).length=A.length- a.length:=by rw[U5,List.length_drop]
 have hf:∀i,i<A.length- a.length->H (nx+i)=none:=fun i hi=>H7 _ hk i (by rw[RW];exact hi)
 let H':Nat->Option Hd:=fun r=>if nx<=r/\r<nx+(A.length- a.length)then HR (r- nx+a.length)else H r
 have D:bY H H':=by
  intro r hd u;show(if nx<=r/\r<nx+(A.length- a.length)then _ else H r)=_
  by_cases z:nx<=r/\r<nx+(A.length- a.length)
  ·have:=hf (r- nx) (by omega)
   rw[show nx+(r- nx)=r by omega]at this
   rw[this]at u;cases u
  ·rw[if_neg z];exact u
 have hHR:∀r hd,HR r=some hd->H' (Q3 a nx r)=some hd:=by
  intro r hd u;by_cases E:r<a.length
  ·have e:Q3 a nx r=a.getD r 0:=by unfold Q3;rw[if_pos E]
   rw[e];refine D _ _ ?_;rw[<-y r E];exact u
  ·have a8w:r<A.length:=by
    rcases Nat.lt_or_ge r A.length with h'|h'
    ·exact h'
    ·rw[hz r h']at u;cases u
   have e:Q3 a nx r=nx+(r- a.length):=by unfold Q3;rw[if_neg E]
   rw[e];show(if nx<=nx+(r- a.length)/\nx+(r- a.length)<nx+(A.length- a.length)then HR (nx+(r- a.length) - nx+a.length)else _)=_
   rw[if_pos (by omega),show nx+(r- a.length) - nx+a.length=r by omega]
   exact u
 have I2:∀l,H l=none->H' l≠none->nx<=l/\l<nx+(cW (Q3 a nx) (A.drop a.length)).length:=by
  intro l d j;by_cases z:nx<=l/\l<nx+(A.length- a.length)
  ·rw[RW];exact z
  ·exact absurd (by show(if nx<=l/\l<nx+(A.length- a.length)then _ else H l)=none;rw[if_neg z];exact d) j
 have X:∀r c f hd b,m r=some (c,f)->f≠ .dead->r ∉ a->H r=some hd->hd.base=some b->Fc b:=by
  intro r c f hd b d j q3 q4 q5;refine⟨U4 hm d j q4 q5,?_,?_⟩
  ·cases f with
   |dead=>exact absurd rfl j
   |own=>exact(hm.own r c hd b d q4 q5).2.2.1
   |aQ=>
    obtain⟨cs,g⟩:=hm.aQ r c hd b d q4 q5;cases hi:K.inv b with
    |none=>rfl
    |some p=>have:=l9.apart b p hi;rw[g]at this;cases this
  ·rintro⟨q,W3,hq,M,g2⟩;obtain⟨c',_,b2,_,_⟩:=UX q hq;cases f with
   |dead=>exact absurd rfl j
   |own=>
    have e:=hm.inj r _ c c' hd W3 b d b2 q4 M q5 g2;exact q3 (e▸pT hq)
   |aQ=>
    obtain⟨cs2,q6⟩:=hm.aQ r c hd b d q4 q5;rw[(hm.own _ c' W3 b b2 M g2).2.1]at q6;cases q6
 have Y:∀r c hd b,E8 (fun _=>none) 0 A r=some (c,.own)->HR r=some hd->hd.base=some b->¬Fc b:=fun r c hd b d j q3=>(B.own r c hd b d j q3).1
 have J:Kept F w w':=s.mono R;by_cases Z:(r.flat && U2 A)=true
 ·rw[if_pos Z]at hk;simp only[Bool.and_eq_true]at Z;have UY:j8 F K HR w' (E8 (fun _=>none) 0 A):=by
   refine⟨?_,?_,?_,?_⟩
   ·intro l c' t hd d j q3;refine Gx ?_ (B.cont l c' t hd d j q3);rw[u6]at d;split at d
    ·rename_i z;simp only[Option.some.injEq,Prod.mk.injEq]at d;rw[<-d.1];exact lD A _ _ Z.2
    ·cases d
   ·intro l c' hd b d j q3;obtain⟨M,g2,g3,g4⟩:=B.own l c' hd b d j q3;refine⟨fun n=>M (R b n),?_,?_,g4⟩
    ·cases z:K.cells b with
     |none=>rfl
     |some cs=>
      have:=L.cells b cs ((K.M9 w _).cells b cs z);rw[g2]at this;cases this
    ·cases hi:K.inv b with
     |none=>rfl
     |some p=>have:=L.inv b p hi;rw[g3]at this;cases this
   ·intro l c' hd b d j q3;rw[u6]at d;split at d
    ·cases d
    ·cases d
   ·exact B.inj
  have CP:J0 F K w':=by
   refine⟨⟨fun b cs n=>C.y6.1 b cs (L.cells b cs ((K.M9 w _).cells b cs n)),fun b p n=>C.y6.2 b p (L.inv b p n)⟩,fun b n=>Nat.lt_of_lt_of_le (l9.lt b n) s.size,l9.inv,l9.apart⟩
  have PY:j8 F K H w' (kill a m):=(hm.sub (m2:=kill a m) (fun r x h=>(S8 h).2)).world (fun l c' t hd b d j q3 q4=>s.block b (X l c' t hd b (S8 d).2 j (S8 d).1 q3 q4))
  refine⟨v,_,K,H',rfl,hk,.refl K,D,I2,lC hHR r v (CQ r v Z.1 xA),?_,CP,J,.refl F K⟩;exact PY.UW Fc UY (fun l c' t hd b d j q3 q4=>X l c' t hd b (S8 d).2 j (S8 d).1 q3 q4) Y hHR D (fun l c' t hd d j=>zJ N Jw y m l c' t hd d j)
 ·rw[if_neg Z]at hk;have G:∀l c' t hd b,kill a (y7 m (J9 I)) l=some (c',t)->t≠ .dead->H l=some hd->hd.base=some b->Fc b:=by
   intro l c' t hd b d j q3 q4;obtain⟨k1,k2⟩:=S8 d;rw[fD]at k2;cases KJ:m l with
   |none=>rw[KJ]at k2;cases k2
   |some x=>
    obtain⟨c2,g2⟩:=x;rw[KJ]at k2;simp only[Option.some.injEq,Prod.mk.injEq]at k2;refine X l c2 g2 hd b KJ ?_ k1 q3 q4;intro e;subst e;by_cases RX:(l,p8.own)∈I
    ·obtain⟨_,c3,UD,_⟩:=hrs l _ RX;rw[KJ]at UD;cases UD
    ·rw[if_neg RX]at k2;exact j k2.2.symm
  have PY:j8 F Kp H w' (kill a (y7 m (J9 I))):=(hmF.sub (m2:=kill a (y7 m (J9 I))) (fun r x h=>(S8 h).2)).world (fun l c' t hd b d j q3 q4=>s.block b (G l c' t hd b d j q3 q4))
  have XM:j8 F K' H w' (kill a (y7 m (J9 I))):=PY.Ry L (fun l c' hd b d j q3=>by
   have n:=G l c' _ hd b d (by simp) j q3
   obtain⟨_,g2,g3,_⟩:=PY.own l c' hd b d j q3;have:=U b n;rw[g2,g3]at this
   exact this)
  have UY:j8 F K' HR w' (E8 (fun _=>none) 0 A):=by
   refine⟨B.cont,?_,B.aQ,B.inj⟩;intro l c' hd b d j q3;obtain⟨M,g2,g3,g4⟩:=B.own l c' hd b d j q3;exact⟨fun n=>M (R b n),g2,g3,g4⟩
  have CP:J0 F K' w':=by
   refine⟨C.y6,fun b n=>Nat.lt_of_lt_of_le (l9.lt b n) s.size,fun b p n hF=>C.inv b p n (R b hF),C.apart⟩
  have CU:Fix F K K':=fun b n=>by
   have h1:=lE b n;have h2:=U b (R b n);exact⟨h2.1.trans h1.1,h2.2.trans h1.2⟩
  refine⟨v,_,K',H',rfl,hk,(K.M9 w _).trans L,D,I2,lC hHR r v xA,?_,CP,J,CU⟩;exact XM.UW Fc UY G Y hHR D (fun l c' t hd d j=>zJ N Jw y _ l c' t hd d j)
include l9 hm n0 H7 in
theorem KK(hG:Good P Γ)(o:Oper){c:Call}{g:Operand}{f:FuncId}{first cap:List a7}(ho:o.op=.call c)(hc:c.callee=.value g)(hg:ev g=.fn (.func f) first cap)
  (h:yU Γ nx m f (first++K8 P c.argTypes.toList (c.args.toList.map ev)++cap) k):cM P F K H w m nx k ((execOp ρ o).run P w):=by
 unfold yU at h;split at h
 rotate_left
 ·exact h.elim
 rename_i ct hct;split at h
 rotate_left
 ·exact h.elim
 rename_i cs hha;have Y:=n0 g;rw[hg]at Y;simp only[c8]at Y;obtain⟨fi,ca,e1,h1,h2⟩:=Y;have D:c9 K H (first++K8 P c.argTypes.toList (c.args.toList.map ev)++cap) (fi++c.args.map ρ++ca).toList:=by
  have:=c9.append (c9.append h1 (bG P c.argTypes.toList _ _ (dZ n0 c.args.toList))) h2;simpa using this
 have pD:(execOp ρ o).run P w=.ok (.enter f (fi++c.args.map ρ++ca)) w:=by
  simp only[execOp,ho,resolve,hc,e1,Deferred.ofValue,Sem.run_bind,Sem.run_pure,Result.andThen_ok,invoke];exact hG.call f ct hct _ _
 rw[pD];refine⟨rfl,?_⟩;have z:=KG hm D;have E:=Ir m (first++K8 P c.argTypes.toList (c.args.toList.map ev)++cap)
 generalize gO m (first++K8 P c.argTypes.toList (c.args.toList.map ev)++cap)=hs at h hha z E
 obtain⟨hlen,a8x⟩:=dR _ _ hha;have S:∀q,q<hs.length->∃c,m (hs.getD q 0)=some (c,.own)/\cs[q]? =some (c.dW hs)/\∃hd,H (hs.getD q 0)=some hd:=fun q Z=>by
  obtain⟨c,a,b⟩:=a8x q Z;exact⟨c,a,b,z _ (pT Z)⟩
 let H0:Nat->Option Hd:=aK hs H
 have PX:c9 K H0 (N5 hs (first++K8 P c.argTypes.toList (c.args.toList.map ev)++cap)) (fi++c.args.map ρ++ca).toList:=O8 _ _ D
 let Hb:Nat->Prop:=fun b=>∃q hd,q<hs.length/\H (hs.getD q 0)=some hd/\hd.base=some b
 let X:Nat->Prop:=fun b=>b<w.heap.size/\K.inv b=none/\¬Hb b
 have T:∀b,F b->X b:=fun b s=>⟨l9.lt b s,by
  cases hi:K.inv b with
  |none=>rfl
  |some p=>exact absurd s (l9.inv b p hi),fun⟨q,hd,Z,g1,g2⟩=>by
  obtain⟨c',b2,_,_⟩:=S q Z
  exact(hm.own _ c' hd b b2 g1 g2).1 s⟩
 have NO:J0 X K w:=by
  refine⟨l9.y6,fun b s=>s.1,fun b p hp s=>?_,l9.apart⟩
  have h1:K.inv b=some p:=hp;rw[s.2.1]at h1;cases h1
 have G:∀r c' A,E8 (fun _=>none) 0 cs r=some (c',A)->r<hs.length/\A=.own/\H0 r=H (hs.getD r 0)/\∃c0,m (hs.getD r 0)=some (c0,.own)/\c'=c0.dW hs:=by
  intro r c' A n;rw[u6]at n;split at n
  ·rename_i I;simp only[Option.some.injEq,Prod.mk.injEq]at n;have t:r<hs.length:=by omega
   obtain⟨c2,a2,a1,_⟩:=S r t;have e:cs[r- 0]'(by omega)=c2.dW hs:=by
    rw[List.getElem?_eq_getElem (by omega)]at a1
    simpa using a1
   rw[e]at n;obtain⟨rfl,rfl⟩:=n;exact⟨t,rfl,wZ t,c2,a2,rfl⟩
  ·cases n
 have HZ:j8 X K H0 w (E8 (fun _=>none) 0 cs):=by
  refine⟨?_,?_,?_,?_⟩
  ·intro r c' A hd d j q3;obtain⟨a1,a4,a5,c0,a2,rfl⟩:=G r c' A d;rw[a5]at q3;exact pM (hm.cont _ c0 .own hd a2 (by simp) q3)
  ·intro r c' hd b d j q3;obtain⟨a1,a4,a5,c0,a2,rfl⟩:=G r c' _ d;rw[a5]at j;obtain⟨g1,g2,g3,g4⟩:=hm.own _ c0 hd b a2 j q3;exact⟨fun s=>s.2.2 ⟨r,hd,a1,j,q3⟩,g2,g3,fun hc=>g4 (pN _ _ hc)⟩
  ·intro r c' hd b d j q3;obtain⟨_,a4,_⟩:=G r c' _ d;cases a4
  ·intro r l c1 c2 hd U b d j q3 q4 q5 q6;obtain⟨a1,a4,a5,d1,a2,rfl⟩:=G r c1 _ d;obtain⟨b1,b4,b5,d2,b2,rfl⟩:=G l c2 _ j;rw[a5]at q3;rw[b5]at q4;exact getD_inj E a1 b1 (hm.inj _ _ d1 d2 hd U b a2 b2 q3 q4 q5 q6)
 have J:=hG.spec f ct hct _ cs _ h X K H0 w (fi++c.args.map ρ++ca).toList NO PX HZ (fun r n=>KH (by omega)) (fun r n=>by
  obtain⟨_,_,_,hd,g⟩:=S r (by omega)
  exact⟨hd,by show aK hs H r=_;rw[wZ (by omega)];exact g⟩)
 rw[show(fi++c.args.map ρ++ca).toList.toArray=fi++c.args.map ρ++ca from rfl]at J;refine Calls.mono J ?_;rintro e w' ⟨v,r,B,K',HR,rfl,hk,hle,xA,L,hz,M,u,N,Jw,O⟩;rw[hlen]at Jw O;have C:∀r,r<hs.length->HR r=H (hs.getD r 0):=fun r n=>by
  rw[O r n];exact wZ n
 have RW:(cW (Q3 hs nx) (B.drop hs.length)).length=B.length- hs.length:=by rw[U5,List.length_drop]
 have hf:∀i,i<B.length- hs.length->H (nx+i)=none:=fun i hi=>H7 _ hk i (by rw[RW];exact hi)
 let H':Nat->Option Hd:=fun r=>if nx<=r/\r<nx+(B.length- hs.length)then HR (r- nx+hs.length)else H r
 have R:bY H H':=by
  intro r hd n;show(if nx<=r/\r<nx+(B.length- hs.length)then _ else H r)=_
  by_cases I:nx<=r/\r<nx+(B.length- hs.length)
  ·have:=hf (r- nx) (by omega)
   rw[show nx+(r- nx)=r by omega]at this
   rw[this]at n;cases n
  ·rw[if_neg I];exact n
 have hHR:∀r hd,HR r=some hd->H' (Q3 hs nx r)=some hd:=by
  intro r hd n;by_cases t:r<hs.length
  ·have e:Q3 hs nx r=hs.getD r 0:=by unfold Q3;rw[if_pos t]
   rw[e];refine R _ _ ?_;rw[<-C r t];exact n
  ·have a8w:r<B.length:=by
    rcases Nat.lt_or_ge r B.length with h'|h'
    ·exact h'
    ·rw[hz r h']at n;cases n
   have e:Q3 hs nx r=nx+(r- hs.length):=by unfold Q3;rw[if_neg t]
   rw[e];show(if nx<=nx+(r- hs.length)/\nx+(r- hs.length)<nx+(B.length- hs.length)then HR (nx+(r- hs.length) - nx+hs.length)else _)=_
   rw[if_pos (by omega),show nx+(r- hs.length) - nx+hs.length=r by omega]
   exact n
 have I2:∀l,H l=none->H' l≠none->nx<=l/\l<nx+(cW (Q3 hs nx) (B.drop hs.length)).length:=by
  intro l d j;by_cases I:nx<=l/\l<nx+(B.length- hs.length)
  ·rw[RW];exact I
  ·exact absurd (by show(if nx<=l/\l<nx+(B.length- hs.length)then _ else H l)=none;rw[if_neg I];exact d) j
 have a10:∀r c f hd b,m r=some (c,f)->f≠ .dead->r ∉ hs->H r=some hd->hd.base=some b->X b:=by
  intro r c f hd b d j q3 q4 q5;refine⟨U4 hm d j q4 q5,?_,?_⟩
  ·cases f with
   |dead=>exact absurd rfl j
   |own=>exact(hm.own r c hd b d q4 q5).2.2.1
   |aQ=>
    obtain⟨cs,g⟩:=hm.aQ r c hd b d q4 q5;cases hi:K.inv b with
    |none=>rfl
    |some p=>have:=l9.apart b p hi;rw[g]at this;cases this
  ·rintro⟨q,U,Z,g1,g2⟩;obtain⟨c',b2,_,_⟩:=S q Z;cases f with
   |dead=>exact absurd rfl j
   |own=>
    have e:=hm.inj r _ c c' hd U b d b2 q4 g1 q5 g2;exact q3 (e▸pT Z)
   |aQ=>
    obtain⟨cs2,q6⟩:=hm.aQ r c hd b d q4 q5;rw[(hm.own _ c' U b b2 g1 g2).2.1]at q6;cases q6
 have a4A:∀r c hd b,E8 (fun _=>none) 0 B r=some (c,.own)->HR r=some hd->hd.base=some b->¬X b:=fun r c hd b d j q3=>(L.own r c hd b d j q3).1
 have V:Kept F w w':=u.mono T;have y:∀l c' A hd b,kill hs m l=some (c',A)->A≠ .dead->H l=some hd->hd.base=some b->X b:=by
  intro l c' A hd b d j q3 q4;obtain⟨k1,k2⟩:=S8 d;exact a10 l c' A hd b k2 j k1 q3 q4
 have PY:j8 F K H w' (kill hs m):=(hm.sub (m2:=kill hs m) (fun r x h=>(S8 h).2)).world (fun l c' A hd b d j q3 q4=>u.block b (y l c' A hd b d j q3 q4))
 have XM:j8 F K' H w' (kill hs m):=PY.Ry hle (fun l c' hd b d j q3=>by
  have s:=y l c' _ hd b d (by simp) j q3
  obtain⟨_,g2,g3,_⟩:=PY.own l c' hd b d j q3;have:=N b s;rw[g2,g3]at this
  exact this)
 have UY:j8 F K' HR w' (E8 (fun _=>none) 0 B):=by
  refine⟨L.cont,?_,L.aQ,L.inj⟩;intro l c' hd b d j q3;obtain⟨g1,g2,g3,g4⟩:=L.own l c' hd b d j q3;exact⟨fun s=>g1 (T b s),g2,g3,g4⟩
 have CP:J0 F K' w':=by
  refine⟨M.y6,fun b s=>Nat.lt_of_lt_of_le (l9.lt b s) u.size,fun b p s hF=>M.inv b p s (T b hF),M.apart⟩
 have CU:Fix F K K':=fun b s=>N b (T b s)
 refine⟨v,_,K',H',rfl,hk,hle,R,I2,lC hHR r v xA,?_,CP,V,CU⟩;exact XM.UW X UY y a4A hHR R (fun l c' A hd d j=>zJ E Jw C _ l c' A hd d j)
include l9 hm n0 in
theorem Yz(o:Oper){t e J:TypeId}{x y:Operand}(L:o.op=.binOp .eql t x y J)(M:P.underlying t=some (.slice e))(N:ev y=.W2){p:Prop}(d:Cx m (ev x)=some p)
  (h:∀b:Bool,(b=true->p)->k ⟨.bool b,[],[],[]⟩):cM P F K H w m nx k ((execOp ρ o).run P w):=by
 have D:=n0 y;rw[N]at D;simp only[c8]at D;have E:∃a l c,ρ x=.slice a l c/\(a=none->p):=by
  have g:=n0 x;unfold Cx at d;split at d
  ·rename_i ty l j u;rw[u]at g;simp only[c8]at g;obtain⟨base,cap,A,B,O,n⟩:=g;cases d;refine⟨_,_,_,A,fun s=>?_⟩
   rcases n with n|⟨b,off,arr,n,_⟩
   ·exact n
   ·rw[s]at n;cases n
  ·rename_i r j u;rw[u]at g;simp only[c8]at g;obtain⟨hd,A,B,_⟩:=g;split at d
   ·rename_i ty l f G;split at d
    ·cases d
    ·rename_i R;cases d;refine⟨_,_,_,B,fun s=>?_⟩
     obtain⟨U,V,X,C⟩:=hm.cont r _ f hd G R A;rcases C with⟨C,Y⟩|⟨b,cs,Z,fz,C,_⟩
     ·exact List.eq_nil_of_length_eq_zero (by omega)
     ·rw[C]at s;cases s
   ·cases d
  ·rename_i r lo len j u;rw[u]at g;simp only[c8]at g;obtain⟨hd,cap,base,A,B,O,n,h5,h6,v⟩:=g;cases d;refine⟨_,_,_,B,fun s=>?_⟩
   rcases v with v|⟨b,_,v⟩
   ·omega
   ·rw[s]at v;cases v
  ·cases d
 obtain⟨a,l,c,S,I⟩:=E;have z:(execOp ρ o).run P w=.ok (.value (.bool a.isNone)) w:=by
  simp only[execOp,L,S,D];refine j1 ?_;have:=run_equal_slice_nil (P:=P) w t e a l c M;simp[eqGuard,binOp,this]
 rw[z];refine⟨_,K,H,h a.isNone (fun T=>I (by simpa using T)),lJ l9 hm (by simp[c8])⟩
include l9 hm n0 in
theorem YA(o:Oper){c:Call}(ho:o.op=.call c)(hc:c.callee=.builtin .clear)(h:MY P m c ev k):cM P F K H w m nx k ((execOp ρ o).run P w):=by
 unfold MY at h;split at h
 rotate_left
 ·exact h.elim
 rename_i x t z D;have U:=n0 x;split at h
 rotate_left
 ·exact h.elim
 rename_i e r lo len full hu he;rw[he]at U;simp only[c8]at U;obtain⟨hd,cap,base,V,e1,g1,g2,g3,_,g4⟩:=U;split at h
 rotate_left
 ·exact h.elim
 rename_i ty l f;split at h
 rotate_left
 ·exact h.elim
 rename_i hz;obtain⟨X,h⟩:=h;obtain⟨i,v,hi,hv,E⟩:=Y1 hz;obtain⟨c1,c2,c3,Y⟩:=hm.cont r _ .own hd f (by simp) V
 have Z:c.args.map ρ= #[ρ x]:=by apply Array.toList_inj.1;simp[z]
 have ha2:c.argTypes= #[t]:=by apply Array.toList_inj.1;simp[D]
 rw[B9 o ho hc,Z,ha2,e1];simp only[builtin];have A:v.cells.size=ty.size:=by
  have:=s9.length ty _ _ (I4 (K:=K) ty);rw[<-E]at this;simpa using this
 by_cases G:len=0
 ·have a:(Builtin.clear_ #[t] o.type #[.slice base len cap]).run P w=.ok (.tuple #[]) w:=by
   rw[G];cases base<;>simp[Builtin.clear_,u3 hu]
  rw[j1 a];refine⟨_,K,H,h,.refl K,.refl H,fun _ h h'=>absurd h h',?_,?_,l9,.refl F w,.refl F K⟩
  ·simp only[c8];exact⟨_,rfl,.nil⟩
  ·have:iS m [(r,(c7.sl ty (l.take lo++List.replicate len ty.zero++l.drop (lo+len)),p8.own))]=m:=by
    funext r';simp only[iS,G,List.replicate_zero,Nat.add_zero,List.append_nil,List.take_append_drop];by_cases I:r'=r
    ·subst I;rw[j6,f]
    ·rw[n6 _ _ _ _ I]
   show j8 F K H w (iS m [(r,(c7.sl ty (l.take lo++List.replicate len ty.zero++l.drop (lo+len)),p8.own))]);rw[this];exact hm
 ·rcases g4 with g4|⟨b,C,q1'⟩
  ·omega
  ·obtain⟨_,_,_,hcl⟩:=hm.own r _ hd b f V C;obtain⟨cs,e2,hh⟩:=hcl rfl;rcases Y with⟨Y,c5⟩|⟨b',BL,e',fz,J,q2,q3,q4⟩
   ·rw[Y]at C;cases C
   rw[C]at J;cases J;rw[hh]at q2;cases q2;have B:(Builtin.zeroCells v.cells len).toList=(List.replicate len (zeroV ty)).flatten:=by
    have d:=(B5.replicate (I4 (K:=K) ty) len).1;simp only[List.length_replicate]at d;apply List.ext_getElem?;intro j;by_cases L:j<len*ty.size
    ·rw[oZ (zeroV ty) ty.size (s9.length ty _ _ (I4 (K:=K) ty)) len j L,<-E];have g:j % ty.size<v.cells.size:=by rw[A];exact Nat.mod_lt _ ty.size_pos
     simp[Builtin.zeroCells,L,A,getElem!_pos v.cells (j % ty.size) g]
    ·rw[List.getElem?_eq_none (by simp[Builtin.zeroCells,A];omega),List.getElem?_eq_none (by omega)]
   have d:=B5.replicate (I4 (K:=K) ty) len;have p:(Builtin.zeroCells v.cells len).toList.length=len*ty.size:=by
    rw[B];have:=d.1;simpa using this
   have M:(lo+len)*ty.size<=l.length*ty.size:=Nat.mul_le_mul_right _ X;have b2d:l.length*ty.size<=hd.cap*ty.size:=Nat.mul_le_mul_right _ (by omega)
   have s:lo*ty.size+len*ty.size<=cs.size:=by rw[Nat.add_mul]at M;omega
   obtain⟨w',hr,N⟩:=Abs.G9 P b (lo*ty.size) _ (Builtin.zeroCells v.cells len).toList w cs 0 hh (by omega) (fun y hy=>by
    rw[B]at hy
    exact wB (dG d y hy))
   have a:(Builtin.clear_ #[t] o.type #[.slice base len cap]).run P w=.ok (.tuple #[]) w':=by
    rw[q1',c1];obtain⟨n,hn⟩:∃n,len=n+1:=⟨len- 1,by omega⟩
    rw[hn]at hr ⊢;simp[Builtin.clear_,u3 hu,aJ hi hv,hr]
   rw[j1 a];have hL:B5 K ty l (u0 cs 0 (l.length*ty.size)):=q4.zB (by omega)
   have I2:o8 K H w' hd (.sl ty (l.take lo++List.replicate len ty.zero++l.drop (lo+len))):=by
    refine⟨c1,by rw[c2];simp;omega,c3,.inr ⟨b,_,_,(0,0),C,by simpa using N.here,by rw[J7];exact q3,?_⟩⟩
    intro i hi';have O:i<l.length:=by simp at hi';omega
    have hmi:(i+1)*ty.size<=l.length*ty.size:=Nat.mul_le_mul_right _ O;rw[Nat.add_mul]at hmi;rw[Nat.zero_add];by_cases R:lo<=i/\i<lo+len
    ·have hml:lo*ty.size<=i*ty.size:=Nat.mul_le_mul_right _ R.1;have S:(i+1)*ty.size<=(lo+len)*ty.size:=Nat.mul_le_mul_right _ R.2;rw[Nat.add_mul,Nat.add_mul]at S;have e0:(l.take lo++List.replicate len ty.zero++l.drop (lo+len))[i]=ty.zero:=by
      rw[List.getElem_append_left (by simp;omega),List.getElem_append_right (by simp;omega)]
      simp
     rw[e0];have T:=d.elems (rest:=[]) (i- lo) (by simp;omega)
     simp only[List.getElem_replicate,List.append_nil,Nat.zero_add]at T;have es:u0 (G1 cs (lo*ty.size) (Builtin.zeroCells v.cells len).toList) (i*ty.size) ty.size=u0 ((List.replicate len (zeroV ty)).flatten).toArray ((i- lo)*ty.size) ty.size:=by
      apply List.ext_getElem?;intro j;by_cases L:j<ty.size
      ·rw[O3 L,O3 L,gG _ _ _ _ (by rw[p];exact s),if_pos (by rw[p];omega),B]
       simp only[List.getElem?_toArray];congr 1;rw[Nat.sub_mul];omega
      ·rw[List.getElem?_eq_none (by simp[u0];omega),List.getElem?_eq_none (by simp[u0];omega)]
     rw[es];exact T
    ·have e0:(l.take lo++List.replicate len ty.zero++l.drop (lo+len))[i]=l[i]:=by
      by_cases g:i<lo
      ·rw[List.getElem_append_left (by simp;omega),List.getElem_append_left (by simp;omega)]
       simp
      ·rw[List.getElem_append_right (by simp;omega)]
       simp;congr 1;omega
     rw[e0];have u:=q4 i O;rw[Nat.zero_add]at u;rw[cJ (by rw[p];exact s)]
     ·exact u
     ·rw[p];by_cases g:i<lo
      ·left;have:(i+1)*ty.size<=lo*ty.size:=Nat.mul_le_mul_right _ g;rw[Nat.add_mul]at this;omega
      ·right;have:(lo+len)*ty.size<=i*ty.size:=Nat.mul_le_mul_right _ (by omega)
       rw[Nat.add_mul]at this;omega
   have hA:=Q7 l9 hm f V C N I2 [r] .R3;refine⟨_,K,H,h,.refl K,.refl H,fun _ h h'=>absurd h h',?_,hA.mem,hA.ok,hA.kept,.refl F K⟩
   simp only[c8];exact⟨_,rfl,.nil⟩
include l9 hm n0 H7 in
theorem a4C(o:Oper){t:TypeId}{x hi:Operand}(O:o.op=.slice t x none (some hi) none)(h:a1v P nx m t (ev x) (ev hi) k):cM P F K H w m nx k ((execOp ρ o).run P w):=by
 unfold a1v at h;split at h
 rotate_left
 ·exact h.elim
 rename_i e r f b R S T;split at h
 rotate_left
 ·exact h.elim
 rename_i ty l c;split at h
 rotate_left
 ·exact h.elim
 rename_i B;obtain⟨⟨U,h1⟩,h⟩:=h;have M:H nx=none:=by simpa using H7 _ h 0 (by simp)
 have C:=n0 x;rw[S]at C;simp only[c8]at C;obtain⟨hd,D,V,_⟩:=C;have g:=n0 hi;rw[T]at g;simp only[c8]at g;obtain⟨X,Y,Z,c4⟩:=hm.cont r _ .own hd c (by simp) D
 obtain⟨i,E,his⟩:=Y0 B;have G:(Instr.sliceBounds true l.length hd.cap none (some (.int .i64 b)) none).run P w=.ok (0,b.toNat,hd.cap) w:=by
  simp[Instr.sliceBounds,M4 (n:=hd.cap) U (by omega)]
 have u:=kZ (P:=P) (w:=w) R E (hd.base.map fun b=>⟨b,0,none⟩) l.length hd.cap _ _ _ _ _ _ G
 have v:y7 m [(r,p8.dead)]=S0 m r (.sl ty l,.dead):=by simp[y7,bN,c]
 have I:j8 F K H w (y7 m [(r,p8.dead)]):=by
  rw[v];exact hm.flag r _ .own .dead c (by simp) (by simp)
 simp only[execOp,O,V,Y,Option.map_none,Option.map_some,g];rw[j1 u]
 let d:Hd:=⟨hd.base,hd.sz,b.toNat,hd.cap⟩
 have J:(l.take b.toNat).length=b.toNat:=by rw[List.length_take];omega
 refine⟨_,K,S0 H nx d,h,.refl K,L9 M,?_,?_,?_,l9,.refl F w,.refl F K⟩
 ·intro z p A;by_cases s:z=nx
  ·subst s;simp
  ·rw[n6 _ _ _ _ s]at A;exact absurd p A
 ·simp only[c8];refine⟨d,j6 _ _ _,?_,by simp⟩
  have hz:(fun a:Addr=>a.add (0*i.size)) ∘ (fun b=>(⟨b,0,none⟩:Addr))=fun b=>⟨b,0,none⟩:=by
   funext b;simp[G5]
  simp only[d,Nat.sub_zero,Option.map_map,hz,ite_self]
 ·show j8 F K _ w (E8 (y7 m [(r,p8.dead)]) nx [.sl ty (l.take b.toNat)]);refine I.new nx M _ d ⟨X,J.symm,⟨by show b.toNat<=hd.cap;omega,Z.2⟩,?_⟩ (fun N y=>?_)
  ·rcases c4 with h4|⟨bb,cs,eb,fz,k1,k2,k3,k4⟩
   ·exact .inl h4
   ·refine .inr ⟨bb,cs,eb,fz,k1,k2,k3,?_⟩;intro j hj;rw[List.length_take]at hj;have:=k4 j (by omega)
    rw[List.getElem_take];exact this
  ·obtain⟨o1,o2,o3,o4⟩:=hm.own r _ hd N c D y;refine⟨o1,o2,o3,fun _=>o4 rfl,fun z c' L p A q3=>?_⟩
   rw[v]at p;by_cases s:z=r
   ·subst s;rw[j6]at p;cases p
   ·rw[n6 _ _ _ _ s]at p;exact s (hm.inj z r c' _ L hd N p c A D q3 y)
include l9 hm n0 H7 in
theorem Ol(C:Good P Γ)(o:Oper)(h:Ug Γ P o ev nx m k):cM P F K H w m nx k ((execOp ρ o).run P w):=by
 unfold Ug at h;split at h
 ·rename_i t r j;split at h
  ·rename_i mk D;exact RU l9 hm H7 o j h
  ·exact h.elim
 ·rename_i t x i O j;split at h
  ·rename_i r s;split at h
   ·rename_i mk l clk f d;split at h
    ·rename_i a;split at h
     ·rename_i A n;exact UT l9 hm n0 o j s d a.2 a.1 n h
     ·exact h.elim
    ·exact h.elim
   ·exact h.elim
  ·exact h.elim
 ·rename_i t x lo hi mx j;split at h
  ·rename_i hh;exact a4C l9 hm n0 H7 o j h
  ·exact h.elim
 ·rename_i t x j;split at h
  ·rename_i r s;split at h
   ·rename_i mk l clk f d;split at h
    ·rename_i a;exact Yx l9 hm n0 H7 o j s d a.2 a.1 h
    ·exact h.elim
   ·exact h.elim
  ·exact h.elim
 ·rename_i i JI j;split at h
  ·rename_i G s;split at h
   ·rename_i r B seen z v;split at h
    ·rename_i mk l clk f d;split at h
     ·exact h.elim
     ·rename_i a;simp only[not_or,Bool.not_eq_false]at a;exact a1Y l9 hm n0 o j s v d a.1 a.2 h
    ·exact h.elim
   ·exact h.elim
  ·exact h.elim
 ·rename_i i j;split at h
  ·rename_i G s;split at h
   ·rename_i r _ seen z v;split at h
    ·rename_i mk l clk f d;split at h
     ·exact h.elim
     ·rename_i a;simp only[not_or,Bool.not_eq_false]at a;exact Yy l9 hm n0 o j s v d a.1 a.2 h
    ·exact h.elim
   ·exact h.elim
  ·exact h.elim
 ·rename_i c j;split at h
  ·rename_i a;split at h
   ·rename_i x i t u I J;split at h
    ·rename_i r s;split at h
     ·rename_i mk l clk d;split at h
      ·rename_i D;split at h
       ·rename_i A n;exact UU l9 hm n0 o j a I J s d D n h
       ·exact h.elim
      ·exact h.elim
     ·exact h.elim
    ·exact h.elim
   ·exact h.elim
  ·rename_i a;exact YA l9 hm n0 o j a h
  ·rename_i g a;split at h
   ·rename_i f first cap E
    split at h
    ·exact KK l9 hm n0 H7 C o j a E h
    ·exact Oj l9 hm n0 H7 C o j a E h
   ·exact h.elim
  ·exact h.elim
 ·rename_i b t x y R j;split at h
  ·rename_i e p L M N;exact Yz l9 hm n0 o j L M N h
  ·exact h.elim
 ·exact h.elim
end
end Go.Abs
end
section
namespace Go.Abs
def I3.out:I3->Exit
 |.normal=>.normal
 |.exit id=>.exit id
 |.ret=>.ret
def I3.code:I3->Code
 |.normal=>.skip
 |.exit id=>.exit id
 |.ret=>.ret
structure sN(X:Ctx)(B:Option Nat)(F0 F:Nat->Prop)(n:Nat)(K:j0)(w:World)(st:j9)(a':Act)(w':World):Prop where
 st:∃F' K' H',(∀b,F b->F' b)/\St (X.bA st.gh st.s7) B F' n K' H' st.z6.T st.z6.m a' w'/\K.le K'/\(∀r,st.nx<=r->H' r=none)/\Fix F0 K K'
 kept:Kept F0 w w'
theorem sN.trans{X:Ctx}{B:Option Nat}{F0 F i:Nat->Prop}{n:Nat}{K f:j0}{w j w2:World}{st:j9}{k:Act}(h:sN X B F0 i n f j st k w2)(l:∀b,F b->i b)(m:K.le f)(o:Fix F0 K f)(p:Kept F0 w j):sN X B F0 F n K w st k w2:=by
 obtain⟨⟨q,K',H',g,a,b,c,d⟩,e⟩:=h;exact⟨⟨q,K',H',fun b r=>g b (l b r),a,m.trans b,c,o.trans d⟩,p.trans e⟩
theorem sN.Qh{X:Ctx}{B:Option Nat}{F0 F:Nat->Prop}{n:Nat}{K:j0}{w w':World}{st f:j9}{g:Act}(h:Kd (X.bA st.gh st.s7) B F n K w f.z6 g w')(j:f.gh=st.gh)(k:f.s7=st.s7)(i:∀b,F0 b->F b):sN X B F0 F n K w f g w':=by
 obtain⟨⟨K',H',a,b,c,d⟩,e⟩:=h;exact⟨⟨F,K',H',fun _ l=>l,by rw[j,k];exact a,b,c,d.less i⟩,e.less i⟩
theorem Y4{X:Ctx}{B:Option Nat}{F0 F:Nat->Prop}{n:Nat}{K:j0}{H:Nat->Option Hd}{w:World}{st:j9}{a:Act}(h:St (X.bA st.gh st.s7) B F n K H st.z6.T st.z6.m a w)(b:∀r,st.nx<=r->H r=none):sN X B F0 F n K w st a w:=
 ⟨⟨F,K,H,fun _ h=>h,h,.refl K,b,.refl F0 K⟩,.refl F0 w⟩
def Is(P:Program)(X:Ctx)(F0:Nat->Prop)(l:Nat)(h:Hand):Prop:=
 ∀ (n:Nat) (args:List a7) (st:j9) (kk:Bool->j9->Prop) (F:Nat->Prop) (K:j0) (H:Nat->Option Hd) (a:Act) (w:World) (vs:List Value),h args st kk->st.n=n->(∀b,F0 b->F b)->K.y=some l->
  St (X.bA st.gh st.s7) none F n K H st.z6.T st.z6.m a w->(∀r,st.nx<=r->H r=none)->c9 K H args vs->
  ∃f d c g,(Instr.yield l vs.toArray).run P w=.ok (.round l f d c g) w/\
   RoundIn (Wd none) 0 P l f d c g w (fun e w'=>∃b i,e=.returned (.bool b)/\kk b i/\i.n=n/\sN X none F0 F n K w i a w')
def YOk(P:Program)(X:Ctx)(B:Option Nat)(F0:Nat->Prop)(ro yl:Option Nat):Option Hand->Prop
 |none=>True
 |some h=>B=none/\ro=none/\∃l,yl=some l/\Is P X F0 l h
def a4E(P:Program)(X:Ctx)(B:Option Nat)(F0:Nat->Prop)(ro yl:Option Nat)(Y:Av):Prop:=
 YOk P X B F0 ro yl Y.hand/\(Y.flat=true->ro=none)
def Sound(P:Program)(X:Ctx)(B:Option Nat)(F0:Nat->Prop)(ro yl:Option Nat)(n:Nat)(J:j9->(I3->j9->Prop)->Prop)(c:Code):Prop:=
 ∀ (st:j9) (k:I3->j9->Prop) (F:Nat->Prop) (K:j0) (H:Nat->Option Hd) (a:Act) (w:World) (Q:Exit->Act->World->Prop),J st k->st.n=n->(∀b,F0 b->F b)->(∀l,yl=some l->K.y=some l)->
  St (X.bA st.gh st.s7) B F n K H st.z6.T st.z6.m a w->(∀r,st.nx<=r->H r=none)->
  (∀e d f w',k e d->d.n=n->sN X B F0 F n K w d f w'->Q e.out f w')->c.wpIn (Wd ro) 0 P Q a w
def oK(X:Ctx)(ro:Option Nat):Prop:=∀l,ro=some l->∀F K H a p w,X F K H a p w->∃r,w.heap[l]? =some (.loop r)
section
variable {Γ:Env} {P:Program}
theorem DA{op:Op}{ev:Operand->a7}{args:List a7}(h:kR P op ev=some args):∃c g,op=.call c/\c.callee=.value g/\ev g=.J2/\args=K8 P c.argTypes.toList (c.args.toList.map ev):=by
 unfold kR at h;split at h
 ·rename_i c;split at h
  ·rename_i g a;split at h
   ·rename_i b;exact⟨c,g,rfl,a,b,(Option.some.inj h).symm⟩
   ·cases h
  ·cases h
 ·cases h
theorem DB{ρ:Operand->Value}{o:Oper}{c:Call}{g:Operand}{l:Nat}{w:World}(a:o.op=.call c)(b:c.callee=.value g)(d:ρ g=.func (.yield l) #[] #[]):
  (execOp ρ o).run P w=(Instr.yield l (c.args.map ρ)).run P w:=by
 simp[execOp,a,resolve,b,d,go_sem]
theorem bS{n:Nat}:∀ {ops:List Oper},G6 n ops=true->∀ (j:Nat) (d:Tmp),(ops[j]?).bind (·.dst)=some d->d<n
 |[],_,j,d,h=>by simp at h
 |o::b,h,j,d,a=>by
  simp only[G6,Bool.and_eq_true]at h;cases j with
  |zero=>
   simp only[List.getElem?_cons_zero,Option.bind_some]at a;have:=h.1;rw[a]at this;simpa [cF]using this
  |succ j=>exact bS h.2 j d (by simpa using a)
variable {X:Ctx} {B:Option Nat} {F0:Nat->Prop} {ro yl:Option Nat} {n:Nat} {Y:Option Hand}
theorem UZ(q:XQ)(n:Nat)(M:Mem):n9 (q.ml n M)=q.mm n (n9 M):=by
 rw[XQ.ml,XQ.mm,zE,zF,jH]
theorem lK{all:Array Oper}{xm:Nat}{Q:Exit->Act->World->Prop}(hX:X.Ok)(hG:Good P Γ)(hY:YOk P X B F0 ro yl Y)(E:∀ (j:Nat) (d:Tmp),(all[j]?).bind (·.dst)=some d->d<n):
  ∀ (ops:List Oper) (st:j9) (tr:List M7) (k:j9->List M7->Prop) (F:Nat->Prop) (K:j0) (H:Nat->Option Hd) (a:Act) (w:World),aG Γ Y xm P all ops st tr k->st.n=n->(∀b,F0 b->F b)->(∀l,yl=some l->K.y=some l)->
   St (X.bA st.gh st.s7) B F n K H st.z6.T st.z6.m a w->(∀r,st.nx<=r->H r=none)->
   (∀z tr' a' w',k z tr'->z.n=n->sN X B F0 F n K w z a' w'->Q .normal a' w')->wpListIn (Wd ro) 0 P all Q ops a w
 |[],st,tr,k,F,K,H,a,w,h,hn,hF,hy,G,I,hQ=>hQ st tr a w h hn (Y4 G I)
 |o::ops,st,tr,k,F,K,H,a,w,h,hn,hF,hy,G,I,hQ=>by
  have Z:∀ (j:Nat) (d:Tmp),(all[j]?).bind (·.dst)=some d->d<a.tmps.size:=fun j d h=>Nat.lt_of_lt_of_le (E j d h) G.size
  have go:∀ (t:j9) (d:M7) (u:List M7),Y2 Γ P all n o st.z6 d t.z6->t.n=n->t.gh=st.gh->t.s7=st.s7->aG Γ Y xm P all ops t u k->wpListIn (Wd ro) 0 P all Q (o::ops) a w:=by
   intro t d u hs RY hg1 hp1 D;refine UO (ro:=ro) (hX.grow st.gh st.s7) hG G hs E (fun i _=>I _ (by show st.nx<=_;exact Nat.le_add_right _ _)) (fun a' w' hD=>?_)
   obtain⟨⟨K',H',C,hK,hH,I2,lE⟩,J⟩:=hD;rw[<-hs.T,<-hs.m,<-hg1,<-hp1]at C;refine lK hX hG hY E ops t u k F K' H' a' w' D RY hF (fun l e=>hK.y l (hy l e)) C (fun r hr=>?_) (fun sP tr2 a2 w2 sQ Qb pV=>hQ sP tr2 a2 w2 sQ Qb (pV.trans (fun _ h=>h) hK (lE.less hF) (J.less hF)))
   have e:t.nx=st.nx+d.size:=hs.nx;cases hH':H' r with
   |none=>rfl
   |some x=>
    have D:=I r (by omega)
    have S:=I2 r D (by rw[hH'];simp)
    have V:st.z6.nx=st.nx:=rfl;omega
  have yi:∀ (p:j9) (args:List a7) (A:Hand) (u:List M7),p.n=n->p.nx=st.nx->St (X.bA p.gh p.s7) B F n K H p.z6.T p.z6.m a w->B7 all o (y9 p.tmps) true->cF p.n o.dst=true->kR P o.op (As p.tmps)=some args->Y=some A->
    A args p (fun b z=>aG Γ Y xm P all ops {z with tmps:=cE o.dst (.bool b) z.tmps} u k)->wpListIn (Wd ro) 0 P all Q (o::ops) a w:=by
   intro p args A u XN hx0 s hg hd ha hYe hh;have hY0:=hY;rw[hYe]at hY;obtain⟨hB,DC,l,hl,Va⟩:=hY;have hKy:=hy l hl;obtain⟨c,g,ho,hc,Yp,rfl⟩:=DA ha;have n0:=s.ev;have hg':=n0 g;rw[<-show As p.tmps=Tq p.z6.T from pJ _,Yp]at hg';simp only[c8]at hg';obtain⟨l',e1,e2⟩:=hg';rw[hKy]at e1;cases e1;have wG:c9 K H (K8 P c.argTypes.toList (c.args.toList.map (As p.tmps))) (c.args.toList.map a.eval):=
    bG P c.argTypes.toList _ _ (dZ (fun x=>by rw[pJ];exact n0 x) c.args.toList)
   have O:=s;rw[hB]at O;obtain⟨f,tmps,assign,body,pD,DD⟩:=Va n _ p _ F K H a w _ hh XN hF hKy O (fun r hr=>I r (by omega)) wG
   simp only[wpListIn];rw[N8 s Z hg,if_pos rfl];refine⟨fun f _=>eU ro f,?_⟩
   have Vb:(execOp a.eval o).run P w=.ok (.round l f tmps assign body) w:=by
    rw[DB ho hc e2,<-pD];congr 2;apply Array.ext';simp
   have A:∀c,o.op≠ .defer c:=fun c e=>by rw[ho]at e;cases e
   rw[Oper.semAt_eq _ _ _ A,Vb];refine⟨lH ro,?_⟩;rw[DC];refine DD.mono (fun e w' he=>?_)
   obtain⟨b,z,rfl,hk,hn',ht⟩:=he;show wpListIn (Wd none) 0 P all Q ops (a.put o.dst (.bool b)) w';obtain⟨⟨F',K',H',uN,C,hK,It,lE⟩,J⟩:=ht;have iX:St (X.bA z.gh z.s7) none F' n K' H' (y9 (cE o.dst (.bool b) z.tmps)) z.z6.m (a.put o.dst (.bool b)) w':=by
    rw[cK];exact C.put (by rw[<-XN];exact hd) (hX.grow _ _) (.refl K') (.refl H') (.refl F' w') C.ok C.mem (by simp[c8])
   rw[<-hB]at iX;rw[<-DC];exact lK hX hG hY0 E ops _ u k F' K' H' (a.put o.dst (.bool b)) w' hk hn' (fun b hb=>uN b (hF b hb)) (fun l e=>hK.y l (hy l e)) iX It
    (fun sP tr2 a2 w2 sQ Qb pV=>hQ sP tr2 a2 w2 sQ Qb (pV.trans uN hK lE J))
  have xo:∀ (p:j9) (u:List M7),p.n=n->p.nx=st.nx->St (X.bA p.gh p.s7) B F n K H p.z6.T p.z6.m a w->B7 all o (y9 p.tmps) true->cF p.n o.dst=true->isX Γ P xm o.op (As p.tmps)=true->
    Ug Γ P o (As p.tmps) p.nx (n9 p.M) (fun q=>aG Γ Y xm P all ops {p with tmps:=cE o.dst q.val p.tmps,nx:=p.nx+q.new.length,M:=q.ml p.nx p.M} u k)->wpListIn (Wd ro) 0 P all Q (o::ops) a w:=by
   intro p u XN hx0 s hg hd R hx;have n0:∀x,c8 K H (As p.tmps x) (a.eval x):=fun x=>by
    have:=s.ev x;rw[show Tq p.z6.T=As p.tmps from(pJ _).symm]at this;exact this
   have U:=Ol (ρ:=a.eval) s.ok s.mem n0 (fun q _ i hi=>I _ (by omega)) hG o hx
   have A:∀c,o.op≠ .defer c:=fun c e=>by
    rw[e]at R;unfold isX at R;split at R<;>simp at R
   simp only[wpListIn];rw[N8 s Z hg,if_pos rfl];refine⟨fun f _=>eU ro f,?_⟩
   rw[Oper.semAt_eq _ _ _ A];have fin:∀q v w' K' H',aG Γ Y xm P all ops {p with tmps:=cE o.dst q.val p.tmps,nx:=p.nx+q.new.length,M:=q.ml p.nx p.M} u k->eN F K H w (n9 p.M) p.nx q v w' K' H'->wpListIn (Wd ro) 0 P all Q ops (a.put o.dst v) w':=by
    intro q v w' K' H' hk L;have O:St (X.bA p.gh p.s7) B F n K' H' (y9 (cE o.dst q.val p.tmps)) (n9 (q.ml p.nx p.M)) (a.put o.dst v) w':=by
     rw[cK,UZ];exact s.put (by rw[<-XN];exact hd) (hX.grow _ _) L.le L.hle L.kept L.ok L.mem L.rep
    refine lK hX hG hY E ops _ u k F K' H' (a.put o.dst v) w' hk XN hF (fun l e=>L.le.y l (hy l e)) O (fun r hr=>?_) (fun sP tr2 a2 w2 sQ Qb pV=>hQ sP tr2 a2 w2 sQ Qb (pV.trans (fun _ h=>h) L.le (L.fix.less hF) (L.kept.less hF)))
    have hr':p.nx+q.new.length<=r:=hr;cases hH':H' r with
    |none=>rfl
    |some x=>
     have D:=I r (by omega)
     have S:=L.I2 r D (by rw[hH'];simp)
     omega
   generalize hr:(execOp a.eval o).run P w=rr at U ⊢;cases rr with
   |ok x w'=>
    cases x<;>simp only[cM]at U<;>simp only[Oper.uponIn]<;>try exact U.elim
    case value v=>
     obtain⟨q,K',H',hk,L⟩:=U;exact fin q v w' K' H' hk L
    case enter f args=>
     obtain⟨rfl,hc⟩:=U;refine⟨lH ro,uL ro _ (hc.mono fun e w'' he=>?_)⟩
     obtain⟨v,q,K',H',rfl,hk,L⟩:=he;exact fin q v w'' K' H' hk L
   |halt x w'=>simp only[cM]at U
  subst hn;unfold aG at h;split at h
  ·rename_i hg;have N:B7 all o (y9 st.tmps) true:=by simp[B7,hg]
   rcases pK (all:=all) h N with⟨d,t,D,S,V,h4,h5⟩|⟨args,A,D,S,V,h4⟩|⟨D,S,V⟩
   ·exact go t d _ D S V h4 h5
   ·exact yi st args A _ rfl rfl G N D S V h4
   ·exact xo st _ rfl rfl G N D S V
  ·rename_i j want hg;split at h
   ·rename_i dd hdd;split at h
    ·rename_i b hb;split at h
     ·rename_i KM;rw[tY]at h;cases hbw:(b==want)with
      |true=>
       have e:b=want:=by simpa using hbw
       subst e;have es:({st with tmps:=(dd,.bool b)::st.tmps}:j9).z6=st.z6:=by
        simp only[j9.z6,rE _ _ _ hb]
       have N:B7 all o (y9 ({st with tmps:=(dd,.bool b)::st.tmps}:j9).tmps) true:=by
        simp only[B7,hg];exact⟨dd,hdd,.inl (by simp[y9])⟩
       rcases pK (all:=all) (h.1 hbw) N with⟨d,t,D,S,V,h4,h5⟩|⟨args,A,D,S,V,h4⟩|⟨D,S,V⟩
       ·rw[es]at D;exact go t d _ D S V h4 h5
       ·exact yi {st with tmps:=(dd,.bool b)::st.tmps} args A _ rfl rfl (by rw[es];exact G) N D S V h4
       ·exact xo {st with tmps:=(dd,.bool b)::st.tmps} _ rfl rfl (by rw[es];exact G) N D S V
      |false=>
       have e:b= !want:=by revert hbw;cases b<;>cases want<;>simp
       refine go {st with tmps:=cE o.dst (.I9 []) ((dd,.bool (!want))::st.tmps)} .skip _ ⟨KM,?_,rfl,rfl,?_⟩ rfl rfl rfl (h.2 hbw)
       ·show y9 (cE o.dst (.I9 []) ((dd,.bool (!want))::st.tmps))=cV (y9 st.tmps) o.dst (.I9 []);rw[cK,rE _ _ _ (by rw[hb,e])]
       ·simp only[B7,hg];exact⟨dd,hdd,.inl (by
         show y9 st.tmps dd=_
         rw[hb,e];simp)⟩
     ·exact absurd h id
    ·rename_i hb;split at h
     ·rename_i KM;refine go {st with tmps:=cE o.dst (.I9 []) st.tmps} .skip _ ⟨KM,?_,rfl,rfl,?_⟩ rfl rfl rfl h
      ·exact cK _ _ _
      ·simp only[B7,hg];exact⟨dd,hdd,.inr ⟨trivial,hb⟩⟩
     ·exact absurd h id
    ·exact absurd h id
   ·exact absurd h id
theorem Om{o:Oper}(a:HS o.op=true)(ρ:Operand->Value):∃s:Sem Value,Still s/\execOp ρ o=(s>>=fun v=>(pure (.value v):Sem Next)):=by
 unfold HS at a;split at a
 ·rename_i x h;exact⟨pure (ρ x),trivial,by simp only[execOp,h];rfl⟩
 ·rename_i x h;exact⟨pure (ρ x),trivial,by simp only[execOp,h];rfl⟩
 ·rename_i t x h;exact⟨_,Ib t (ρ x),by simp only[execOp,h]⟩
 ·rename_i t x f h;exact⟨_,FO t (ρ x) f,by simp only[execOp,h]⟩
 ·rename_i x f h;exact⟨_,FP (ρ x) f,by simp only[execOp,h]⟩
 ·cases a
theorem YB{K:j0}{H:Nat->Option Hd}{o:Oper}{x:Operand}{ρ:Operand->Value}{a:a7}(d:o.op=.nilCheck x)(c:Nj a=true)(h:c8 K H a (ρ x))(w:World):(execOp ρ o).run P w=.ok (.value (ρ x)) w:=by
 have:∃ad,ρ x=.pointer (some ad):=by
  unfold Nj at c;split at c
  ·simp only[c8]at h;obtain⟨_,b,_,_,e⟩:=h;exact⟨_,e⟩
  ·simp only[c8]at h;obtain⟨b,off,_,e,_⟩:=h;exact⟨_,e⟩
  ·simp only[c8]at h;obtain⟨_,b,_,_,_,e⟩:=h;exact⟨_,e⟩
  ·cases c
 obtain⟨ad,e⟩:=this;simp[execOp,d,e]
theorem AR{all:Array Oper}{Q:Act->Prop}(hX:X.Ok)(hG:Good P Γ){w:World}:
  ∀ (ops:List Oper) (st:j9) (k:j9->Prop) (F:Nat->Prop) (K:j0) (H:Nat->Option Hd) (a:Act),gR Γ P ops st k->st.n=n->(∀b,F0 b->F b)->
   St (X.bA st.gh st.s7) B F n K H st.z6.T st.z6.m a w->(∀r,st.nx<=r->H r=none)->
   (∀y a',k y->y.n=n->sN X B F0 F n K w y a' w->Q a')->wpQuiet P all (fun w'=>∃d,w.drawn<=d/\w'= {w with drawn:=d}) Q ops a
 |[],st,k,F,K,H,a,h,U,Z,f,j,hQ=>hQ st a h U (Y4 f j)
 |o::ops,st,k,F,K,H,a,h,U,Z,f,j,hQ=>by
  unfold gR at h;split at h
  ·rename_i hd;simp only[Bool.and_eq_true]at hd;have hg:o.guard=none:=by simpa using hd.2
   have hw:Region.wanted o (yielded all a.tmps)=true:=by unfold Region.wanted;rw[hg]
   unfold wpQuiet;rw[if_pos hw];have E:cF n o.dst=true:=by rw[<-U];exact hd.1
   have l:∀x,c8 K H (As st.tmps x) (a.eval x):=fun x=>by rw[pJ];exact f.ev x
   have step:∀ (x:a7) (v:Value) (K':j0) (H':Nat->Option Hd),(∀d,(execOp a.eval o).run P {w with drawn:=d}=.ok (.value v) {w with drawn:=d})->c8 K' H' x v->K.le K'->bY H H'->(∀r,st.nx<=r->H' r=none)->J0 F K' w->j8 F K' H' w (n9 st.M)->Fix F K K'->
     gR Γ P ops {st with tmps:=cE o.dst x st.tmps} k->o.quiet P a (fun w'=>∃d,w.drawn<=d/\w'= {w with drawn:=d}) (wpQuiet P all (fun w'=>∃d,w.drawn<=d/\w'= {w with drawn:=d}) Q ops):=by
    intro x v K' H' u hx hK hH G I hm' J L;refine⟨v,fun w2 hw2=>?_,?_⟩
    ·obtain⟨d,hd,rfl⟩:=hw2;unfold Oper.quietAt;rw[u d];exact⟨rfl,rfl⟩
    ·have N:St (X.bA st.gh st.s7) B F n K' H' (y9 (cE o.dst x st.tmps)) (n9 st.M) (a.put o.dst v) w:=by
      rw[cK];exact f.put E (hX.grow _ _) hK hH (.refl F w) I hm' hx
     exact AR hX hG ops {st with tmps:=cE o.dst x st.tmps} k F K' H' (a.put o.dst v) L U Z N G
      (fun sP a2 sQ Qb pV=>hQ sP a2 sQ Qb (pV.trans (fun _ h=>h) hK (J.less Z) (.refl F0 w)))
   split at h
   ·rename_i t x i ck ho;unfold X' at h;split at h
    ·rename_i p z h1 V;split at h
     ·rename_i hT;simp only[Bool.and_eq_true]at hT;obtain⟨O,rfl,h⟩:=h;have r1:=l x;have r2:=l i;rw[h1]at r1;rw[V]at r2;simp only[c8]at r1 r2;obtain⟨b,e1,hi⟩:=r1;obtain⟨cs,e2,Qi⟩:=r2;have ecs:cs= #[.int .i64 z]:=by
       obtain⟨c,BL,e,hc,A⟩:=c9.inv Qi;simp only[c8]at hc;rw[c9.H8.1 A]at e;apply Array.ext';rw[e,hc]
      subst ecs;obtain⟨ob,hob,hmo⟩:=f.ok.y6.2 b _ hi;obtain⟨C,u⟩:=CW hT.1 hob hmo z;have hck:ck=true:=hT.2;subst hck;refine step _ (.tuple #[.int .i64 (cond C (O z) 0),.bool C]) K H (fun d=>?_) ?_ (.refl K) (.refl H) j f.ok f.mem (.refl F K) (h C)
      ·have:=u {w with drawn:=d} rfl;simp only[execOp,ho,e1,e2,Sem.run_bind,this,Result.andThen_ok,Sem.run_pure]
      ·simp only[c8];exact⟨_,rfl,.cons (by simp[c8]) (.cons (by simp[c8]) .nil)⟩
     ·exact h.elim
    ·exact h.elim
   ·rename_i x ho;split at h
    ·rename_i hp;exact step _ (a.eval x) K H (fun d=>YB ho hp (l x) _) (l x) (.refl K) (.refl H) j f.ok f.mem (.refl F K) h
    ·exact h.elim
   ·split at h
    ·rename_i hs;obtain⟨q,hq,L⟩:=Kb o h;split at L
     ·rename_i I2;simp only[Bool.and_eq_true,List.isEmpty_iff]at I2;have g:=Dg hG f.ok f.mem l (fun q' e i hi=>by subst e;rw[I2.1]at hi;simp at hi) o hq
      obtain⟨s,hs1,R⟩:=Om hs a.eval;rw[R,Sem.run_bind]at g;cases A:s.run P w with
      |halt e w'=>
       rw[A]at g;exact g.elim
      |ok v w'=>
       rw[A]at g;obtain⟨rfl,S⟩:=fW s hs1 A;simp only[Result.andThen_ok,Sem.run_pure,I0]at g;obtain⟨q',K',H',e,D⟩:=g;subst e;have hmm:j8 F K' H' w' (n9 st.M):=by
        have:=D.mem;unfold Go.Abs.Q.mm at this;rw[I2.1,I2.2]at this;exact this
       refine step q'.val v K' H' (fun d=>?_) D.rep D.le D.hle (fun r A=>?_) D.ok hmm D.fix L
       ·rw[R,Sem.run_bind,S d];simp
       ·cases hh:H' r with
        |none=>rfl
        |some x=>
         have h1:=j r A;have V:=D.I2 r h1 (by rw[hh];simp)
         rw[I2.1]at V;simp at V;omega
     ·exact L.elim
    ·exact h.elim
  ·exact h.elim
theorem Iu(J:X.Ok)(o7:P.follows .mixedOrders=true)(L:Good P Γ)(M:Nat->List Nat)(IT:Iter){Y:Av}(hY:a4E P X B F0 ro yl Y)(id:Nat)(ops:Array Oper)(g:Bool)(N:Code.j3 (.region id ops g)=true):
  Sound P X B F0 ro yl n (Gq Γ P M IT (.region id ops g) Y) (.region id ops g):=by
 intro st k F K H a w Q h O R hy p v hQ;simp only[Gq]at h;split at h
 ·rename_i hds;have A:∀ (j:Nat) (d:Tmp),(ops[j]?).bind (·.dst)=some d->d<n:=fun j d hj=>by
   rw[<-O];exact bS hds j d (by simpa using hj)
  split at h
  ·rename_i hl;simp only[Bool.and_eq_true]at hl;obtain⟨rfl,UC,_⟩:=hl;have DC:=hY.2 UC;subst DC;split at h
   ·rename_i hB;refine wpIn_wide.2 (wp_region_quiet (C:=fun w'=>∃d,w.drawn<=d/\w'= {w with drawn:=d}) o7 hB ⟨_,Nat.le_succ _,rfl⟩ ?_)
    refine AR J L ops.toList st _ F K H a h O R p v ?_;intro m G q I x w' hw';obtain⟨d,hd,rfl⟩:=hw';obtain⟨⟨F',K',H',z,s,hK,i,t⟩,o⟩:=x;refine hQ .normal m G _ q I ⟨⟨F',K',H',z,s.drawn (J.grow _ _) d hd,hK,i,t⟩,Kept.of_heap o rfl rfl rfl rfl hd⟩
   ·exact h.elim
  split at h
  ·rename_i hd c f;have Yq:g=true/\Y.hand=some hd/\Au ops=some c:=by
    cases g with
    |false=>simp[vV]at f
    |true=>
     cases u:Y.hand with
     |none=>rw[u]at f;simp[vV]at f
     |some h0=>
      cases T:Au ops with
      |none=>rw[u]at f;simp[vV,T]at f
      |some c0=>
       rw[u]at f;simp only[vV,T,Option.some.injEq,Prod.mk.injEq]at f;obtain⟨rfl,rfl⟩:=f;exact⟨rfl,rfl,rfl⟩
   obtain⟨rfl,u,T⟩:=Yq;obtain⟨S,D,m,U,e1,V,eg,ep,Z,q⟩:=zG _ st [] _ h;rw[O]at Z V;rw[<-U]at p;have i:∀r,(S 0).nx<=r->H r=none:=fun r hr=>v r (by rw[U]at hr;exact hr)
   simp only[List.append_nil,List.reverse_reverse]at q;have E:S2 ops=true/\S2 (Q4 ops c)=true:=by
    simpa [Code.j3,Uh,T]using N
   split at q
   ·rename_i hd;refine US (J.grow _ _) o7 L (Dx T) E.1 Z E.2 hd p i (fun G w' x=>?_)
    rw[e1]at x;have pV:=sN.Qh x eg ep R;obtain⟨⟨F',K',H',z,s,hK,Iv,t⟩,o⟩:=pV;have hY2:=hY.1;rw[u]at hY2;exact lK J L hY2 A _ m [] _ F' K' H' G w' q V (fun b hb=>z b (R b hb)) (fun l e=>hK.y l (hy l e)) s Iv
     (fun sP tr2 a2 w2 sQ Qb XO=>hQ .normal sP a2 w2 sQ Qb (XO.trans z hK t o))
   ·exact q.elim
  cases g with
  |true=>
   simp only[if_true]at h;obtain⟨S,D,m,U,e1,V,eg,ep,Z,q⟩:=zG ops.toList st [] _ h;rw[O]at Z V;rw[<-U]at p;have i:∀r,(S 0).nx<=r->H r=none:=fun r hr=>v r (by rw[U]at hr;exact hr)
   simp only[List.append_nil,List.reverse_reverse]at q;split at q
   ·rename_i hd;refine Dr (J.grow _ _) o7 L Z (by have:=N;simp[Code.j3]at this;exact this.1) hd p i (fun G w' x=>?_)
    rw[e1]at x;exact hQ .normal m G w' q V (sN.Qh x eg ep R)
   ·exact q.elim
  |false=>
   simp only[Bool.false_eq_true,if_false]at h;exact wpIn_region_list (lK J L hY.1 A ops.toList st [] _ F K H a w h O R hy p v (fun m tr' G w' q I x=>hQ .normal m G w' q I x))
 ·exact h.elim
end
end Go.Abs
end
