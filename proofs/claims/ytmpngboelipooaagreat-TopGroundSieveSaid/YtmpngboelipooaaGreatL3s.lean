/- The statement about TopGroundSieve: the function returns true at whatever input, and leaves it as it was. Its contract is carried over to the given statement. No condition. -/
import Derived.Test.YtmpngboelipooaaGreatRows
import Derived.WalkKit
import Derived.ProofKit
import Derived.OpenShut
import Derived.ShutString
import Derived.ChangeOld
import Derived.Below
import Derived.Test.YtmpngboelipooaaGreatW17
set_option linter.all false
namespace Go.Proofs.YtmpngboelipooaaGreat.topGroundSieveLaw
open Go.ChangeShapes Go.WideShapes Go.ChangeAt Go.RowKit Go.Abs
set_option linter.unusedVariables false
theorem own:ownKnob Tryz.prog.godebug=none:=by kernel_rfl
theorem laidOut:laidOutB Tryz.prog=true:=by kernel_rfl
set_option maxRecDepth 100000 in
theorem lifted(z:Os)(a:z.Started)(H:Type)(enc:TypeId×Value->H):
  ReturnsInHanded {} Tryz.checked z 3 .any (Rows.topGroundSieveSpec.pre6 enc Tryz.prog Tryz.f3 Rows.topGroundSieveRow.domain false) (Rows.topGroundSieveSpec.post enc Tryz.prog Tryz.f3 false true false false):=by
 refine returnsInHanded_of_change (C:=Tryz.checked) own a (by kernel_rfl) Tryz.func3
  (ChangeSpec.witness6 (enc:=enc) (C:=Tryz.checked) false ⟨#[],#[.agg #[.int .i64 0,.int .i64 0,.int .i64 0,.int .i64 0,.slice none 0 0],.int .u16 0],[]⟩ 8 (by kernel_rfl) (by kernel_rfl) (by kernel_rfl) (by kernel_rfl)) ?_
 intro W base args J gs k c A B _;have b:∀ (j:Nat) t v,Tryz.f3.params[j]? =some t->args[j]? =some v->Value.okWide Tryz.prog W .any base t v:=c;have l:=A;obtain⟨p,q,n,K,rfl,L,M⟩:=A;have D:DataW.TrodAll enc Tryz.prog W 0 (fun _=>true) true Tryz.f3.params.toList args.toList J p:=n
 rw[Tryz.params3]at D b;obtain⟨o,N,d0,O,R,q0,r,rfl,rfl,E,r0⟩:=trodAll_cons D;obtain⟨s,S,d1,T,U,q1,rfl,rfl,rfl,F,V⟩:=trodAll_cons r0;obtain⟨rfl,rfl,rfl⟩:=trodAll_nil V;obtain rfl:args= #[o,s]:=by cases args;simp_all
 obtain⟨rfl,rfl⟩:=trodVars_none K;have G:=E;have u:∀x∈R,x.block<W.heap.size:=by obtain⟨m,w⟩:=G;exact DataW.trod_lt m _ _ _ w
 obtain⟨y0,X,w0⟩:=QV (d:=8) (.pair (.int .i64) (.pair (.int .i64) (.pair (.int .i64) (.pair (.int .i64) (.slice (.pair (.pair (.int .i64) (.int .i64)) (.int .i64))))))) (by kernel_rfl) (by kernel_rfl) (b 0 _ o rfl rfl) E (fun _=>none)
 have I:=F;have y:∀x∈U,x.block<W.heap.size:=by obtain⟨m,w⟩:=I;exact DataW.trod_lt m _ _ _ w
 obtain⟨y1,Y,Z⟩:=a1O .u16 (by kernel_rfl) (b 1 _ s rfl rfl) F (fun _=>none)
 have g:=UU (P:=Tryz.prog) (f:=3) (W:=W) (vs:=[o,s]) (T2.q3.one (y0.1,y0.2.1,y0.2.2.1,y0.2.2.2.1,y0.2.2.2.2,y1,()) (a1P Z) _ rfl) (.cons X (.cons Y .nil));refine g.mono fun e W' ⟨he,i⟩=>?_
 subst he;exact⟨_,rfl,_,_,_,[],_,[],l,trodAll_mk1 (shut_bool (by kernel_rfl) _),(trodAll_cons_mk (Below.trod laidOut (by kernel_rfl) (mo (by kernel_rfl)) G i u) (trodAll_cons_mk (Below.trod laidOut (by kernel_rfl) (mo (by kernel_rfl)) I i y) trodAll_mk0)),rfl,i.frame _,fun h=>by cases h⟩
theorem b3y:Rows.topGroundSieveRow.holds Tryz.pinned (OpenSpec.ofChange Rows.topGroundSieveSpec):=
 OpenClaim.holds_of_wide 3 Tryz.f3 rfl rfl rfl rfl rfl rfl rfl ⟨rfl,rfl,rfl,rfl,rfl⟩ rfl rfl rfl rfl rfl (by kernel_rfl) Tryz.func3 (by kernel_rfl)
  (mo (by kernel_rfl)) (by unfold Func.isWrapper;first|(rw[aj (by decide+kernel)];kernel_rfl)|(rw[ai (by decide+kernel)];exact⟨rfl,rfl⟩))
  (fun b a H enc _=>lifted b a H enc)
end Go.Proofs.YtmpngboelipooaaGreat.topGroundSieveLaw
namespace Go.Proofs.YtmpngboelipooaaGreat
theorem topGroundSieve_holds:Rows.TopGroundSieveSaid:=topGroundSieveLaw.b3y
end Go.Proofs.YtmpngboelipooaaGreat
#print axioms Go.Proofs.YtmpngboelipooaaGreat.topGroundSieve_holds
