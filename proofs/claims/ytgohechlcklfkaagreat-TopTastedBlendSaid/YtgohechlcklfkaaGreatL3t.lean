/- The statement about TopTastedBlend: the function returns true at whatever input, and leaves it asL it was. Its contract (TGo) is carried over to the given statement. No condition. -/
import Derived.Test.YtgohechlcklfkaaGreatRows
import Derived.WalkKit
import Derived.ProofKit
import Derived.OpenShut
import Derived.ShutString
import Derived.ChangeOld
import Derived.Below
import Derived.Test.YtgohechlcklfkaaGreatW11
set_option linter.all false
namespace Go.Proofs.YtgohechlcklfkaaGreat.topTastedBlendLaw
open Go.ChangeShapes Go.WideShapes Go.ChangeAt Go.RowKit Go.Abs
set_option linter.unusedVariables false
theorem own:ownKnob Tryz.prog.godebug=none:=by kernel_rfl
theorem laidOut:laidOutB Tryz.prog=true:=by kernel_rfl
set_option maxRecDepth 100000 in
theorem lifted(E:Os)(b:E.Started)(H:Type)(enc:TypeId×Value->H):
  ReturnsInHanded {} Tryz.checked E 3 .any (Rows.topTastedBlendSpec.pre6 enc Tryz.prog Tryz.f3 Rows.topTastedBlendRow.domain false) (Rows.topTastedBlendSpec.post enc Tryz.prog Tryz.f3 false true false false):=by
 refine returnsInHanded_of_change (C:=Tryz.checked) own b (by kernel_rfl) Tryz.func3
  (ChangeSpec.witness6 (enc:=enc) (C:=Tryz.checked) false ⟨#[],#[.agg #[.int .i64 0,.int .i64 0,.int .i64 0,.slice none 0 0],.slice none 0 0,.slice none 0 0,.int .u8 0],[]⟩ 8 (by kernel_rfl) (by kernel_rfl) (by kernel_rfl) (by kernel_rfl)) ?_
 intro W base args T gs l g F G _;have a:∀ (j:Nat) t v,Tryz.f3.params[j]? =some t->args[j]? =some v->Value.okWide Tryz.prog W .any base t v:=g;have n:=F;obtain⟨p,q,o,U,rfl,V,X⟩:=F;have I:DataW.TrodAll enc Tryz.prog W 0 (fun _=>true) true Tryz.f3.params.toList args.toList T p:=o
 rw[Tryz.params3]at I a;obtain⟨r,Y,d0,Z,p0,q0,s,rfl,rfl,J,r0⟩:=trodAll_cons I;obtain⟨u,vs1,d1,ds1,p1,q1,rfl,rfl,rfl,K,r1⟩:=trodAll_cons r0;obtain⟨w,vs2,d2,ds2,p2,q2,rfl,rfl,rfl,L,r2⟩:=trodAll_cons r1;obtain⟨v3,vs3,d3,ds3,p3,q3,rfl,rfl,rfl,M,r3⟩:=trodAll_cons r2;obtain⟨rfl,rfl,rfl⟩:=trodAll_nil r3;obtain rfl:args= #[r,u,w,v3]:=by cases args;simp_all
 obtain⟨rfl,rfl⟩:=trodVars_none U;have N:=J;have y:∀x∈p0,x.block<W.heap.size:=by obtain⟨m,i⟩:=N;exact DataW.trod_lt m _ _ _ i
 obtain⟨y0,e0,w0⟩:=OH (d:=8) (.pair (.pair (.int .i64) (.int .i64)) (.pair (.int .i64) (.slice (.slice (.pair (.int .i64) (.pair (.int .i64) (.int .i64))))))) (by kernel_rfl) (by kernel_rfl) (a 0 _ r rfl rfl) J (fun _=>none)
 have O:=K;have z:∀x∈p1,x.block<W.heap.size:=by obtain⟨m,i⟩:=O;exact DataW.trod_lt m _ _ _ i
 obtain⟨y1,e1,w1⟩:=GV (d:=8) (.int .u16) (by kernel_rfl) (by kernel_rfl) (a 1 _ u rfl rfl) K (fun _=>none)
 have R:=L;have A:∀x∈p2,x.block<W.heap.size:=by obtain⟨m,i⟩:=R;exact DataW.trod_lt m _ _ _ i
 obtain⟨y2,e2,w2⟩:=GV (d:=8) (.int .u16) (by kernel_rfl) (by kernel_rfl) (a 2 _ w rfl rfl) L (fun _=>none)
 have k3:=M;have B:∀x∈p3,x.block<W.heap.size:=by obtain⟨m,i⟩:=k3;exact DataW.trod_lt m _ _ _ i
 obtain⟨y3,e3,S⟩:=Za .u8 (by kernel_rfl) (a 3 _ v3 rfl rfl) M (fun _=>none)
 have k:=So (P:=Tryz.prog) (f:=3) (W:=W) (vs:=[r,u,w,v3]) (T1.q3.one (y0.1.1,y0.1.2,y0.2.1,y0.2.2,y1,y2,y3,()) ⟨fun x D=>QJ (w1 x D),fun x D=>QJ (w2 x D),(QI S).1,(QI S).2⟩ _ rfl) (.cons e0 (.cons e1 (.cons e2 (.cons e3 .nil))))
 refine k.mono fun e W' ⟨he,c⟩=>?_
 subst he;exact⟨_,rfl,_,_,_,[],_,[],n,trodAll_mk1 (shut_bool (by kernel_rfl) _),(trodAll_cons_mk (Below.trod laidOut (by kernel_rfl) (of_decide_eq_true (by kernel_rfl)) N c y) (trodAll_cons_mk (Below.trod laidOut (by kernel_rfl) (of_decide_eq_true (by kernel_rfl)) O c z) (trodAll_cons_mk (Below.trod laidOut (by kernel_rfl) (of_decide_eq_true (by kernel_rfl)) R c A) (trodAll_cons_mk (Below.trod laidOut (by kernel_rfl) (of_decide_eq_true (by kernel_rfl)) k3 c B) trodAll_mk0)))),rfl,c.frame _,fun h=>by cases h⟩
theorem b1S:Rows.topTastedBlendRow.holds Tryz.pinned (OpenSpec.ofChange Rows.topTastedBlendSpec):=
 OpenClaim.holds_of_wide 3 Tryz.f3 rfl rfl rfl rfl rfl rfl rfl ⟨rfl,rfl,rfl,rfl,rfl⟩ rfl rfl rfl rfl rfl (by kernel_rfl) Tryz.func3 (by kernel_rfl)
  (of_decide_eq_true (by kernel_rfl)) (by unfold Func.isWrapper;first|(rw[if_pos (by decide+kernel)];kernel_rfl)|(rw[if_neg (by decide+kernel)];exact⟨rfl,rfl⟩))
  (fun b a H enc _=>lifted b a H enc)
end Go.Proofs.YtgohechlcklfkaaGreat.topTastedBlendLaw
namespace Go.Proofs.YtgohechlcklfkaaGreat
theorem topTastedBlend_holds:Rows.TopTastedBlendSaid:=topTastedBlendLaw.b1S
end Go.Proofs.YtgohechlcklfkaaGreat
#print axioms Go.Proofs.YtgohechlcklfkaaGreat.topTastedBlend_holds
