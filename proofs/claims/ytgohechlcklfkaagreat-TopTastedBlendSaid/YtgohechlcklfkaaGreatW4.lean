/- Part 4 of the road to this seat's statements: lemmas about a small interpreter over the model's code, and about the functions that it is used on. No condition of its own. -/
import Derived.Test.YtgohechlcklfkaaGreatProg
import Derived.Shelf.SlLaysE
import Derived.Shelf.Lays8
import Derived.ProofKit
import Derived.OpenShut
import Derived.Carry
import Derived.Deep.Slices
import Derived.Shelf.Spec.SlicesGrow
import Derived.Test.YtgohechlcklfkaaGreatW3
set_option linter.all false
section
open Go.Proofs
set_option maxRecDepth 100000
set_option linter.unusedVariables false
namespace Go.Abs.T1
def a4U(lo hi a b:Int)(k:a7->List c7->Prop):Prop:=
  br (((decide (lo>=a))==true))
 (br (((decide (lo<=hi))==true))
 ((k (rB (decide (hi<=b))) []))
 ((k (rB false) [])))
 ((k (rB false) []))
 theorem a82(lo hi a b:Int)(k:a7->List c7->Prop):awpF (m4 []) Tryz.prog kt 12 false Tryz.f12 (v12.args (lo,hi,a,b,())) (v12.B2 (lo,hi,a,b,())) k=a4U lo hi a b k:=by kernel_rfl
theorem a83:(Tryz.f12.body.map Code.j3).getD true=true:=by kernel_rfl
def a4V(lo hi lots:Int)(g:List (List m9))(k:a7->List c7->Prop):Prop:=
  LP ((0:Int),lo,hi,lots,g,([]:List (Int×(Int×Int))),()) (fun i (a,b,c,d,e,f,())=>
 br ((decide (a<(((List.length e):Nat):Int))))
 (∃h:(((0:Int)<=a)/\((Int.toNat a)<(List.length e))),
 (((List.length f)+(List.length (e[(Int.toNat a)]'h.2)))<=iR)/\
 (fI (a+(1:Int)))/\
 (i ((a+(1:Int)),b,c,d,e,(f++(e[(Int.toNat a)]'h.2)),())))
 ((k (a7.B6 0 false) ((c7.sl (Ty.pair tI tP) f)::[]))))
 theorem a84(lo hi lots:Int)(g:List (List m9))(k:a7->List c7->Prop):awpF (m4 []) Tryz.prog kt 13 false Tryz.f13 (v13.args (lo,hi,lots,g,())) (v13.B2 (lo,hi,lots,g,())) k=a4V lo hi lots g k:=by kernel_rfl
theorem a85:(Tryz.f13.body.map Code.j3).getD true=true:=by kernel_rfl
def a4W(l:List Int)(i:Int)(k:a7->List c7->Prop):Prop:=
  br (((((List.length l):Nat):Int)==(0:Int)))
 ((k (rI (0:Int)) []))
 ((((0:Int)<=i)/\((0:Int)<(((List.length l):Nat):Int)))/\
 ∃a:(((0:Int)<=(HMod.hMod i (((List.length l):Nat):Int)))/\((Int.toNat (HMod.hMod i (((List.length l):Nat):Int)))<(List.length l))),
 (fI (l[(Int.toNat (HMod.hMod i (((List.length l):Nat):Int)))]'a.2))/\
 (k (rI (l[(Int.toNat (HMod.hMod i (((List.length l):Nat):Int)))]'a.2)) []))
 theorem a86(l:List Int)(i:Int)(k:a7->List c7->Prop):awpF (m4 []) Tryz.prog kt 17 false Tryz.f17 (v17.args (l,i,())) (v17.B2 (l,i,())) k=a4W l i k:=by kernel_rfl
theorem a87:(Tryz.f17.body.map Code.j3).getD true=true:=by kernel_rfl
def a4X(a b:Int)(k:a7->List c7->Prop):Prop:=
  (k (a7.agg ((rI a)::((rI b)::[]))) [])
 theorem a88(a b:Int)(k:a7->List c7->Prop):awpF (m4 []) Tryz.prog kt 18 false Tryz.f18 (v18.args (a,b,())) (v18.B2 (a,b,())) k=a4X a b k:=by kernel_rfl
theorem a89:(Tryz.f18.body.map Code.j3).getD true=true:=by kernel_rfl
def a0w(n lo hi:Int)(k:a7->List c7->Prop):Prop:=
  br (((decide (n<lo))==false))
 ((k (rB (decide (n>hi))) []))
 ((k (rB true) []))
 theorem a4Y(n lo hi:Int)(k:a7->List c7->Prop):awpF (m4 []) Tryz.prog kt 126 false Tryz.f126 (JM.args (n,lo,hi,())) (JM.B2 (n,lo,hi,())) k=a0w n lo hi k:=by kernel_rfl
theorem a4Z:(Tryz.f126.body.map Code.j3).getD true=true:=by kernel_rfl
def a0x(n lo hi:Int)(k:a7->List c7->Prop):Prop:=
  br (((decide (n<lo))==false))
 ((k (rB (decide (n>hi))) []))
 ((k (rB true) []))
 theorem a40(n lo hi:Int)(k:a7->List c7->Prop):awpF (m4 []) Tryz.prog kt 143 false Tryz.f143 (Nm.args (n,lo,hi,())) (Nm.B2 (n,lo,hi,())) k=a0x n lo hi k:=by kernel_rfl
theorem a41:(Tryz.f143.body.map Code.j3).getD true=true:=by kernel_rfl
def Vn(l:List Int)(lo hi:Int)(k:a7->List c7->Prop):Prop:=
  LP (l,lo,hi,(((List.length l):Nat):Int),(0:Int),()) (fun g (a,b,c,d,e,())=>
 br ((decide (e<d)))
 (∃f:(((0:Int)<=e)/\((Int.toNat e)<(List.length a))),
 (JM.p ((a[(Int.toNat e)]'f.2),b,c,()))/\
 br ((I8 b c (a[(Int.toNat e)]'f.2)))
 ((k (rI e) []))
 ((fI (e+(1:Int)))/\
 (g (a,b,c,d,(e+(1:Int)),()))))
 ((k (rI (-(1:Int):Int)) [])))
 theorem a13(l:List Int)(lo hi:Int)(k:a7->List c7->Prop):awpF (m4 [(126,N9 [JM])]) Tryz.prog kt 148 false Tryz.f148 (CF.args (l,lo,hi,())) (CF.B2 (l,lo,hi,())) k=Vn l lo hi k:=by kernel_rfl
theorem a0y:(Tryz.f148.body.map Code.j3).getD true=true:=by kernel_rfl
def Vo(l:List Int)(lo hi:Int)(k:a7->List c7->Prop):Prop:=
  (CF.p (l,lo,hi,()))/\
 (k (rB (decide ((indexOf (I8 lo hi) l)>=(0:Int)))) [])
 theorem a14(l:List Int)(lo hi:Int)(k:a7->List c7->Prop):awpF (m4 [(148,N9 [CF])]) Tryz.prog kt 125 false Tryz.f125 (CG.args (l,lo,hi,())) (CG.B2 (l,lo,hi,())) k=Vo l lo hi k:=by kernel_rfl
theorem a0z:(Tryz.f125.body.map Code.j3).getD true=true:=by kernel_rfl
def Vp(l:List Int)(lo hi:Int)(k:a7->List c7->Prop):Prop:=
  LP (l,lo,hi,(((List.length l):Nat):Int),(0:Int),()) (fun g (a,b,c,d,e,())=>
 br ((decide (e<d)))
 (∃f:(((0:Int)<=e)/\((Int.toNat e)<(List.length a))),
 (Nm.p ((a[(Int.toNat e)]'f.2),b,c,()))/\
 br ((I8 b c (a[(Int.toNat e)]'f.2)))
 ((k (rI e) []))
 ((fI (e+(1:Int)))/\
 (g (a,b,c,d,(e+(1:Int)),()))))
 ((k (rI (-(1:Int):Int)) [])))
 theorem a15(l:List Int)(lo hi:Int)(k:a7->List c7->Prop):awpF (m4 [(143,N9 [Nm])]) Tryz.prog kt 148 false Tryz.f148 (CH.args (l,lo,hi,())) (CH.B2 (l,lo,hi,())) k=Vp l lo hi k:=by kernel_rfl
def Vq(l:List Int)(lo hi:Int)(k:a7->List c7->Prop):Prop:=
  (CH.p (l,lo,hi,()))/\
 (k (rB (decide ((indexOf (I8 lo hi) l)>=(0:Int)))) [])
 theorem a16(l:List Int)(lo hi:Int)(k:a7->List c7->Prop):awpF (m4 [(148,N9 [CH])]) Tryz.prog kt 125 false Tryz.f125 (CI.args (l,lo,hi,())) (CI.B2 (l,lo,hi,())) k=Vq l lo hi k:=by kernel_rfl
def a42(lo hi:Int)(l:List Int)(k:a7->List c7->Prop):Prop:=
  (CG.p (l,lo,hi,()))/\
 (k (rB (Bool.not (D7 lo hi l))) [])
 theorem a9a(lo hi:Int)(l:List Int)(k:a7->List c7->Prop):awpF (m4 [(125,N9 [CG])]) Tryz.prog kt 72 false Tryz.f72 (PW.args (lo,hi,l,())) (PW.B2 (lo,hi,l,())) k=a42 lo hi l k:=by kernel_rfl
theorem a9b:(Tryz.f72.body.map Code.j3).getD true=true:=by kernel_rfl
def a0A(lo hi:Int)(l:List Int)(k:a7->List c7->Prop):Prop:=
  (CI.p (l,lo,hi,()))/\
 (k (rB (Bool.not (D7 lo hi l))) [])
 theorem a43(lo hi:Int)(l:List Int)(k:a7->List c7->Prop):awpF (m4 [(125,N9 [CI])]) Tryz.prog kt 108 false Tryz.f108 (vW.args (lo,hi,l,())) (vW.B2 (lo,hi,l,())) k=a0A lo hi l k:=by kernel_rfl
theorem a44:(Tryz.f108.body.map Code.j3).getD true=true:=by kernel_rfl
def a0B(lo hi a b:Int)(k:a7->List c7->Prop):Prop:=
  (PW.p (a,b,(lo::(hi::([]:List Int))),()))/\
 br (((Bool.not (D7 a b (lo::(hi::([]:List Int)))))==true))
 ((k (rB (decide (lo<=hi))) []))
 ((k (rB false) []))
 theorem a45(lo hi a b:Int)(k:a7->List c7->Prop):awpF (m4 [(72,N9 [PW])]) Tryz.prog kt 121 false Tryz.f121 (FK.args (lo,hi,a,b,())) (FK.B2 (lo,hi,a,b,())) k=a0B lo hi a b k:=by kernel_rfl
theorem a46:(Tryz.f121.body.map Code.j3).getD true=true:=by kernel_rfl
def a47(a b c d:Int)(k:a7->List c7->Prop):Prop:=
  (fI (a*d))/\
 (fI (c*b))/\
 (k (rB (decide ((a*d)<(c*b)))) [])
 theorem a9c(a b c d:Int)(k:a7->List c7->Prop):awpF (m4 []) Tryz.prog kt 11 false Tryz.f11 (v11.args (a,b,c,d,())) (v11.B2 (a,b,c,d,())) k=a47 a b c d k:=by kernel_rfl
theorem a9d:(Tryz.f11.body.map Code.j3).getD true=true:=by kernel_rfl
def a48(l m:List Int)(k:a7->List c7->Prop):Prop:=
  LP (l,m,(0:Int),([]:List (Int×Int)),()) (fun f (a,b,c,d,())=>
 br ((decide (c<(((List.length a):Nat):Int))))
 (br ((decide ((((List.length b):Nat):Int)>(0:Int))))
 ((((0:Int)<=c)/\((0:Int)<(((List.length b):Nat):Int)))/\
 ∃e:(((0:Int)<=(HMod.hMod c (((List.length b):Nat):Int)))/\((Int.toNat (HMod.hMod c (((List.length b):Nat):Int)))<(List.length b))),
 (fI (b[(Int.toNat (HMod.hMod c (((List.length b):Nat):Int)))]'e.2))/\
 (((0:Int)<=(b[(Int.toNat (HMod.hMod c (((List.length b):Nat):Int)))]'e.2))/\((0:Int)<(1001:Int)))/\
 ∃g:(((0:Int)<=c)/\((Int.toNat c)<(List.length a))),
 (((List.length d)+(List.length (((a[(Int.toNat c)]'g.2),(HMod.hMod (b[(Int.toNat (HMod.hMod c (((List.length b):Nat):Int)))]'e.2) (1001:Int)))::([]:List (Int×Int)))))<=iR)/\
 (fI (c+(1:Int)))/\
 (f (a,b,(c+(1:Int)),(d++(((a[(Int.toNat c)]'g.2),(HMod.hMod (b[(Int.toNat (HMod.hMod c (((List.length b):Nat):Int)))]'e.2) (1001:Int)))::([]:List (Int×Int)))),())))
 (∃e:(((0:Int)<=c)/\((Int.toNat c)<(List.length a))),
 (((List.length d)+(List.length (((a[(Int.toNat c)]'e.2),(0:Int))::([]:List (Int×Int)))))<=iR)/\
 (fI (c+(1:Int)))/\
 (f (a,b,(c+(1:Int)),(d++(((a[(Int.toNat c)]'e.2),(0:Int))::([]:List (Int×Int)))),()))))
 ((k (a7.B6 0 false) ((c7.sl tP d)::[]))))
 theorem a9e(l m:List Int)(k:a7->List c7->Prop):awpF (m4 []) Tryz.prog kt 10 false Tryz.f10 (v10.args (l,m,())) (v10.B2 (l,m,())) k=a48 l m k:=by kernel_rfl
theorem a9f:(Tryz.f10.body.map Code.j3).getD true=true:=by kernel_rfl
def a0C(a b:Int)(k:a7->List c7->Prop):Prop:=
  (vW.p ((0:Int),(100:Int),(a::([]:List Int)),()))/\
 br (((Bool.not (Bool.not (D7 (0:Int) (100:Int) (a::([]:List Int)))))==false))
 ((vW.p ((0:Int),(1000:Int),(b::([]:List Int)),()))/\
 (k (rB (Bool.not (Bool.not (D7 (0:Int) (1000:Int) (b::([]:List Int)))))) []))
 ((k (rB true) []))
 theorem a49(a b:Int)(k:a7->List c7->Prop):awpF (m4 [(108,N9 [vW])]) Tryz.prog kt 149 false Tryz.f149 (Nn.args (a,b,())) (Nn.B2 (a,b,())) k=a0C a b k:=by kernel_rfl
theorem a5a:(Tryz.f149.body.map Code.j3).getD true=true:=by kernel_rfl
def a0D(l:List (Int×Int))(k:a7->List c7->Prop):Prop:=
  LP (l,(((List.length l):Nat):Int),(0:Int),()) (fun e (a,b,c,())=>
 br ((decide (c<b)))
 (∃d:(((0:Int)<=c)/\((Int.toNat c)<(List.length a))),
 (Nn.p ((a[(Int.toNat c)]'d.2).1,(a[(Int.toNat c)]'d.2).2,()))/\
 br ((P4 ((a[(Int.toNat c)]'d.2).1,(a[(Int.toNat c)]'d.2).2)))
 ((k (rI c) []))
 ((fI (c+(1:Int)))/\
 (e (a,b,(c+(1:Int)),()))))
 ((k (rI (-(1:Int):Int)) [])))
 theorem a5b(l:List (Int×Int))(k:a7->List c7->Prop):awpF (m4 [(149,N9 [Nn])]) Tryz.prog kt 144 false Tryz.f144 (No.args (l,())) (No.B2 (l,())) k=a0D l k:=by kernel_rfl
theorem a5c:(Tryz.f144.body.map Code.j3).getD true=true:=by kernel_rfl
def a0E(l:List (Int×Int))(k:a7->List c7->Prop):Prop:=
  (No.p (l,()))/\
 (k (rB (decide ((indexOf P4 l)>=(0:Int)))) [])
 theorem a5d(l:List (Int×Int))(k:a7->List c7->Prop):awpF (m4 [(144,N9 [No])]) Tryz.prog kt 111 false Tryz.f111 (Np.args (l,())) (Np.B2 (l,())) k=a0E l k:=by kernel_rfl
theorem a5e:(Tryz.f111.body.map Code.j3).getD true=true:=by kernel_rfl
def a0F(l:List (Int×Int))(k:a7->List c7->Prop):Prop:=
  (vW.p ((1:Int),(8:Int),((((List.length l):Nat):Int)::([]:List Int)),()))/\
 br ((Bool.not (Bool.not (D7 (1:Int) (8:Int) ((((List.length l):Nat):Int)::([]:List Int))))))
 ((k (rI (6:Int)) []))
 ((Np.p (l,()))/\
 br ((List.any l P4))
 ((k (rI (3:Int)) []))
 ((k (rI (0:Int)) [])))
 theorem a5f(l:List (Int×Int))(k:a7->List c7->Prop):awpF (m4 [(108,N9 [vW]),(111,N9 [Np])]) Tryz.prog kt 129 false Tryz.f129 (Nq.args (l,())) (Nq.B2 (l,())) k=a0F l k:=by kernel_rfl
theorem a5g:(Tryz.f129.body.map Code.j3).getD true=true:=by kernel_rfl
def a0G(a b c d e f g h i:Int)(k:a7->List c7->Prop):Prop:=
  (fI (e- b))/\
 (fI (g- a))/\
 (fI ((e- b)*(g- a)))/\
 (fI (h- b))/\
 (fI (d- a))/\
 (fI ((h- b)*(d- a)))/\
 (k (rB (decide (((e- b)*(g- a))<((h- b)*(d- a))))) [])
 theorem a5h(a b c d e f g h i:Int)(k:a7->List c7->Prop):awpF (m4 []) Tryz.prog kt 150 false Tryz.f150 (Nr.args (a,b,c,d,e,f,g,h,i,())) (Nr.B2 (a,b,c,d,e,f,g,h,i,())) k=a0G a b c d e f g h i k:=by kernel_rfl
theorem a5i:(Tryz.f150.body.map Code.j3).getD true=true:=by kernel_rfl
def a0H(a b:Int)(k:a7->List c7->Prop):Prop:=
  (fI (-a:Int))/\
 LP (a,b,(ite ((-a:Int)>a) (-a:Int) a),b,(0:Int),(0:Int),()) (fun g (a,b,c,d,e,f,())=>
 br ((decide (d>(0:Int))))
 ((((0:Int)<=c)/\((0:Int)<d))/\
 (g (a,b,d,(HMod.hMod c d),e,f,())))
 ((((0:Int)<=a)/\(((0:Int)<c)/\(fI (HDiv.hDiv a c))))/\
 (((0:Int)<=b)/\(((0:Int)<c)/\(fI (HDiv.hDiv b c))))/\
 (k (a7.agg ((rI (HDiv.hDiv a c))::((rI (HDiv.hDiv b c))::[]))) [])))
 theorem a5j(a b:Int)(k:a7->List c7->Prop):awpF (m4 []) Tryz.prog kt 109 false Tryz.f109 (Ns.args (a,b,())) (Ns.B2 (a,b,())) k=a0H a b k:=by kernel_rfl
theorem a5k:(Tryz.f109.body.map Code.j3).getD true=true:=by kernel_rfl
end Go.Abs.T1
end
section
open Go.Proofs
set_option maxRecDepth 100000
set_option linter.unusedVariables false
namespace Go.Abs.T1
def vc3(lo hi lots:Int)(h:List (List m9))(l m:List Int)(t:Int)(k:a7->List c7->Prop):Prop:=
  br (((decide ((((List.length h):Nat):Int)>(4:Int)))==false))
 (br (((decide ((((List.length l):Nat):Int)>(30:Int)))==false))
 (br (((decide ((((List.length m):Nat):Int)>(30:Int)))==false))
 ((v4.p (lo,hi,lots,h,()))/\
 br (((S4 lo hi lots h) !=(0:Int)))
 ((v5.p ())/\
 (k (rB true) []))
 ((v6.p (lo,hi,lots,h,l,()))/\
 (v7.p (lo,hi,lots,(L4 lo hi lots l h),()))/\
 (v8.p (lo,hi,lots,(L4 lo hi lots l h),()))/\
 br ((((((List.length (O7 (dB (nN lots (L4 lo hi lots l h)) (G7 lo hi lots (L4 lo hi lots l h))) lots)):Nat):Int) !=lots)==false))
 (br (((((List.length (O7 (S5 (nN lots (L4 lo hi lots l h)) (G7 lo hi lots (L4 lo hi lots l h))) lots)):Nat):Int) !=lots))
 ((k (rB false) []))
 (LP (m,t,(0:Int),lo,hi,lots,h,(B1 lots l),(O7 (dB (nN lots (L4 lo hi lots l h)) (G7 lo hi lots (L4 lo hi lots l h))) lots),(O7 (S5 (nN lots (L4 lo hi lots l h)) (G7 lo hi lots (L4 lo hi lots l h))) lots),()) (fun w (a,b,c,d,e,f,g,i,j,l,())=>
 br ((decide (c<f)))
 ((((0:Int)<=c)/\((Int.toNat c)<(List.length j)))/\
 ∃o:((Int.toNat c)<(List.length j)),
 br (((decide ((j[(Int.toNat c)]'o)<(0:Int)))==false))
 ((((0:Int)<=c)/\((Int.toNat c)<(List.length j)))/\
 ∃q:((Int.toNat c)<(List.length j)),
 (((0:Int)<=c)/\((Int.toNat c)<(List.length i)))/\
 ∃n:((Int.toNat c)<(List.length i)),
 br (((decide ((j[(Int.toNat c)]'q)>(i[(Int.toNat c)]'n)))==false))
 ((((0:Int)<=c)/\((Int.toNat c)<(List.length l)))/\
 ∃r:((Int.toNat c)<(List.length l)),
 (((0:Int)<=c)/\((Int.toNat c)<(List.length i)))/\
 ∃s:((Int.toNat c)<(List.length i)),
 br (((decide ((l[(Int.toNat c)]'r)<(i[(Int.toNat c)]'s)))==false))
 ((((0:Int)<=c)/\((Int.toNat c)<(List.length l)))/\
 ∃u:((Int.toNat c)<(List.length l)),
 br ((decide ((l[(Int.toNat c)]'u)>(1000:Int))))
 ((k (rB false) []))
 ((fI (c+(1:Int)))/\
 (w (a,b,(c+(1:Int)),d,e,f,g,i,j,l,()))))
 ((k (rB false) [])))
 ((k (rB false) [])))
 ((k (rB false) [])))
 (LP (a,b,(0:Int),d,e,f,g,i,j,l,()) (fun v (a,b,c,d,e,f,g,i,j,l,())=>
 br ((decide (c<f)))
 ((((0:Int)<=c)/\((Int.toNat c)<(List.length l)))/\
 ∃n:((Int.toNat c)<(List.length l)),
 br ((decide ((l[(Int.toNat c)]'n)>(100:Int))))
 ((v5.p ())/\
 (k (rB true) []))
 ((fI (c+(1:Int)))/\
 (v (a,b,(c+(1:Int)),d,e,f,g,i,j,l,()))))
 ((fI b)/\
 (((0:Int)<=b)/\((0:Int)<(101:Int)))/\
 (v10.p (j,a,()))/\
 (v9.p ((j4 j a),(HMod.hMod b (101:Int)),()))/\
 (v10.p (i,a,()))/\
 (v9.p ((j4 i a),(HMod.hMod b (101:Int)),()))/\
 (v10.p (l,a,()))/\
 (v9.p ((j4 l a),(HMod.hMod b (101:Int)),()))/\
 br (((Bool.not (Uw (j4 j a) (HMod.hMod b (101:Int))))==false))
 (br (((Bool.not (Uw (j4 i a) (HMod.hMod b (101:Int))))==false))
 (br (((Bool.not (Uw (j4 l a) (HMod.hMod b (101:Int))))==false))
 (br (((oL (j4 j a) (HMod.hMod b (101:Int)))==true))
 (br (((Bool.not (oL (j4 i a) (HMod.hMod b (101:Int))))==false))
 (br (((oL (j4 i a) (HMod.hMod b (101:Int)))==true))
 (br ((Bool.not (oL (j4 l a) (HMod.hMod b (101:Int)))))
 ((k (rB false) []))
 (br (((Bool.not (oL (j4 j a) (HMod.hMod b (101:Int))))==false))
 ((v11.p ((R7 (j4 j a) (HMod.hMod b (101:Int))),(P6 (j4 j a) (HMod.hMod b (101:Int))),(R7 (j4 i a) (HMod.hMod b (101:Int))),(P6 (j4 i a) (HMod.hMod b (101:Int))),()))/\
 br (((Bool.not (eT (R7 (j4 j a) (HMod.hMod b (101:Int))) (P6 (j4 j a) (HMod.hMod b (101:Int))) (R7 (j4 i a) (HMod.hMod b (101:Int))) (P6 (j4 i a) (HMod.hMod b (101:Int)))))==true))
 (br (((Bool.not (oL (j4 i a) (HMod.hMod b (101:Int))))==false))
 ((v11.p ((R7 (j4 i a) (HMod.hMod b (101:Int))),(P6 (j4 i a) (HMod.hMod b (101:Int))),(R7 (j4 l a) (HMod.hMod b (101:Int))),(P6 (j4 l a) (HMod.hMod b (101:Int))),()))/\
 br (((Bool.not (eT (R7 (j4 i a) (HMod.hMod b (101:Int))) (P6 (j4 i a) (HMod.hMod b (101:Int))) (R7 (j4 l a) (HMod.hMod b (101:Int))) (P6 (j4 l a) (HMod.hMod b (101:Int)))))==true))
 ((v5.p ())/\
 (k (rB true) []))
 ((k (rB false) [])))
 ((v5.p ())/\
 (k (rB true) [])))
 ((k (rB false) [])))
 (br (((Bool.not (oL (j4 i a) (HMod.hMod b (101:Int))))==false))
 ((v11.p ((R7 (j4 i a) (HMod.hMod b (101:Int))),(P6 (j4 i a) (HMod.hMod b (101:Int))),(R7 (j4 l a) (HMod.hMod b (101:Int))),(P6 (j4 l a) (HMod.hMod b (101:Int))),()))/\
 br (((Bool.not (eT (R7 (j4 i a) (HMod.hMod b (101:Int))) (P6 (j4 i a) (HMod.hMod b (101:Int))) (R7 (j4 l a) (HMod.hMod b (101:Int))) (P6 (j4 l a) (HMod.hMod b (101:Int)))))==true))
 ((v5.p ())/\
 (k (rB true) []))
 ((k (rB false) [])))
 ((v5.p ())/\
 (k (rB true) [])))))
 (br (((Bool.not (oL (j4 j a) (HMod.hMod b (101:Int))))==false))
 ((v11.p ((R7 (j4 j a) (HMod.hMod b (101:Int))),(P6 (j4 j a) (HMod.hMod b (101:Int))),(R7 (j4 i a) (HMod.hMod b (101:Int))),(P6 (j4 i a) (HMod.hMod b (101:Int))),()))/\
 br (((Bool.not (eT (R7 (j4 j a) (HMod.hMod b (101:Int))) (P6 (j4 j a) (HMod.hMod b (101:Int))) (R7 (j4 i a) (HMod.hMod b (101:Int))) (P6 (j4 i a) (HMod.hMod b (101:Int)))))==true))
 (br (((Bool.not (oL (j4 i a) (HMod.hMod b (101:Int))))==false))
 ((v11.p ((R7 (j4 i a) (HMod.hMod b (101:Int))),(P6 (j4 i a) (HMod.hMod b (101:Int))),(R7 (j4 l a) (HMod.hMod b (101:Int))),(P6 (j4 l a) (HMod.hMod b (101:Int))),()))/\
 br (((Bool.not (eT (R7 (j4 i a) (HMod.hMod b (101:Int))) (P6 (j4 i a) (HMod.hMod b (101:Int))) (R7 (j4 l a) (HMod.hMod b (101:Int))) (P6 (j4 l a) (HMod.hMod b (101:Int)))))==true))
 ((v5.p ())/\
 (k (rB true) []))
 ((k (rB false) [])))
 ((v5.p ())/\
 (k (rB true) [])))
 ((k (rB false) [])))
 (br (((Bool.not (oL (j4 i a) (HMod.hMod b (101:Int))))==false))
 ((v11.p ((R7 (j4 i a) (HMod.hMod b (101:Int))),(P6 (j4 i a) (HMod.hMod b (101:Int))),(R7 (j4 l a) (HMod.hMod b (101:Int))),(P6 (j4 l a) (HMod.hMod b (101:Int))),()))/\
 br (((Bool.not (eT (R7 (j4 i a) (HMod.hMod b (101:Int))) (P6 (j4 i a) (HMod.hMod b (101:Int))) (R7 (j4 l a) (HMod.hMod b (101:Int))) (P6 (j4 l a) (HMod.hMod b (101:Int)))))==true))
 ((v5.p ())/\
 (k (rB true) []))
 ((k (rB false) [])))
 ((v5.p ())/\
 (k (rB true) [])))))
 ((k (rB false) [])))
 (br (((oL (j4 i a) (HMod.hMod b (101:Int)))==true))
 (br ((Bool.not (oL (j4 l a) (HMod.hMod b (101:Int)))))
 ((k (rB false) []))
 (br (((Bool.not (oL (j4 j a) (HMod.hMod b (101:Int))))==false))
 ((v11.p ((R7 (j4 j a) (HMod.hMod b (101:Int))),(P6 (j4 j a) (HMod.hMod b (101:Int))),(R7 (j4 i a) (HMod.hMod b (101:Int))),(P6 (j4 i a) (HMod.hMod b (101:Int))),()))/\
 br (((Bool.not (eT (R7 (j4 j a) (HMod.hMod b (101:Int))) (P6 (j4 j a) (HMod.hMod b (101:Int))) (R7 (j4 i a) (HMod.hMod b (101:Int))) (P6 (j4 i a) (HMod.hMod b (101:Int)))))==true))
 (br (((Bool.not (oL (j4 i a) (HMod.hMod b (101:Int))))==false))
 ((v11.p ((R7 (j4 i a) (HMod.hMod b (101:Int))),(P6 (j4 i a) (HMod.hMod b (101:Int))),(R7 (j4 l a) (HMod.hMod b (101:Int))),(P6 (j4 l a) (HMod.hMod b (101:Int))),()))/\
 br (((Bool.not (eT (R7 (j4 i a) (HMod.hMod b (101:Int))) (P6 (j4 i a) (HMod.hMod b (101:Int))) (R7 (j4 l a) (HMod.hMod b (101:Int))) (P6 (j4 l a) (HMod.hMod b (101:Int)))))==true))
 ((v5.p ())/\
 (k (rB true) []))
 ((k (rB false) [])))
 ((v5.p ())/\
 (k (rB true) [])))
 ((k (rB false) [])))
 (br (((Bool.not (oL (j4 i a) (HMod.hMod b (101:Int))))==false))
 ((v11.p ((R7 (j4 i a) (HMod.hMod b (101:Int))),(P6 (j4 i a) (HMod.hMod b (101:Int))),(R7 (j4 l a) (HMod.hMod b (101:Int))),(P6 (j4 l a) (HMod.hMod b (101:Int))),()))/\
 br (((Bool.not (eT (R7 (j4 i a) (HMod.hMod b (101:Int))) (P6 (j4 i a) (HMod.hMod b (101:Int))) (R7 (j4 l a) (HMod.hMod b (101:Int))) (P6 (j4 l a) (HMod.hMod b (101:Int)))))==true))
 ((v5.p ())/\
 (k (rB true) []))
 ((k (rB false) [])))
 ((v5.p ())/\
 (k (rB true) [])))))
 (br (((Bool.not (oL (j4 j a) (HMod.hMod b (101:Int))))==false))
 ((v11.p ((R7 (j4 j a) (HMod.hMod b (101:Int))),(P6 (j4 j a) (HMod.hMod b (101:Int))),(R7 (j4 i a) (HMod.hMod b (101:Int))),(P6 (j4 i a) (HMod.hMod b (101:Int))),()))/\
 br (((Bool.not (eT (R7 (j4 j a) (HMod.hMod b (101:Int))) (P6 (j4 j a) (HMod.hMod b (101:Int))) (R7 (j4 i a) (HMod.hMod b (101:Int))) (P6 (j4 i a) (HMod.hMod b (101:Int)))))==true))
 (br (((Bool.not (oL (j4 i a) (HMod.hMod b (101:Int))))==false))
 ((v11.p ((R7 (j4 i a) (HMod.hMod b (101:Int))),(P6 (j4 i a) (HMod.hMod b (101:Int))),(R7 (j4 l a) (HMod.hMod b (101:Int))),(P6 (j4 l a) (HMod.hMod b (101:Int))),()))/\
 br (((Bool.not (eT (R7 (j4 i a) (HMod.hMod b (101:Int))) (P6 (j4 i a) (HMod.hMod b (101:Int))) (R7 (j4 l a) (HMod.hMod b (101:Int))) (P6 (j4 l a) (HMod.hMod b (101:Int)))))==true))
 ((v5.p ())/\
 (k (rB true) []))
 ((k (rB false) [])))
 ((v5.p ())/\
 (k (rB true) [])))
 ((k (rB false) [])))
 (br (((Bool.not (oL (j4 i a) (HMod.hMod b (101:Int))))==false))
 ((v11.p ((R7 (j4 i a) (HMod.hMod b (101:Int))),(P6 (j4 i a) (HMod.hMod b (101:Int))),(R7 (j4 l a) (HMod.hMod b (101:Int))),(P6 (j4 l a) (HMod.hMod b (101:Int))),()))/\
 br (((Bool.not (eT (R7 (j4 i a) (HMod.hMod b (101:Int))) (P6 (j4 i a) (HMod.hMod b (101:Int))) (R7 (j4 l a) (HMod.hMod b (101:Int))) (P6 (j4 l a) (HMod.hMod b (101:Int)))))==true))
 ((v5.p ())/\
 (k (rB true) []))
 ((k (rB false) [])))
 ((v5.p ())/\
 (k (rB true) []))))))
 ((k (rB false) [])))
 ((k (rB false) [])))
 ((k (rB false) []))))))))
 ((k (rB false) []))))
 ((v5.p ())/\
 (k (rB true) [])))
 ((v5.p ())/\
 (k (rB true) [])))
 ((v5.p ())/\
 (k (rB true) []))
 theorem eq3(lo hi lots:Int)(h:List (List m9))(l m:List Int)(t:Int)(k:a7->List c7->Prop):awpF (m4 [(4,N9 [v4]),(5,N9 [v5]),(6,N9 [v6]),(7,N9 [v7]),(8,N9 [v8]),(9,N9 [v9]),(10,N9 [v10]),(11,N9 [v11])]) Tryz.prog kt 3 false Tryz.f3 (v3.args (lo,hi,lots,h,l,m,t,())) (v3.B2 (lo,hi,lots,h,l,m,t,())) k=vc3 lo hi lots h l m t k:=by kernel_rfl
theorem tx3:(Tryz.f3.body.map Code.j3).getD true=true:=by kernel_rfl
end Go.Abs.T1
end
section
open Go.Proofs
set_option maxRecDepth 100000
set_option linter.unusedVariables false
namespace Go.Abs.T1
def a5l(lo hi lots:Int)(w:List (List m9))(ts:List m9)(m:List (Nat×(Int×Int)×Int))(clk:Nat)(k:a7->List c7->Prop):Prop:=
  (BB.p (lo,hi,lots,w,ts,m,clk,()))/\
 LP ((((1:Int)+lots)+(((List.length ts):Nat):Int)),(0:Int),lo,hi,lots,w,(List.replicate (19:Nat) (Int.ofNat 0)),(List.replicate (19:Nat) (Int.ofNat 0)),(-(1:Int):Int),ts,m,clk,()) (fun z (a,b,c,d,e,f,g,i,j,l,m,n,())=>
 br ((decide (b<a)))
 ((XI.p (c,d,e,f,l,m,n,()))/\
 (BB.p (c,d,e,f,l,m,n,()))/\
 LP ((((1:Int)+e)+(((List.length l):Nat):Int)),(0:Int),a,b,c,d,e,f,g,i,(-(1:Int):Int),l,m,n,()) (fun v (a,b,c,d,e,f,g,i,j,l,m,n,o,p,())=>
 br ((decide (b<a)))
 ((BB.p (e,f,g,i,n,o,p,()))/\
 LP (b,a,b,(((1:Int)+g)+(((List.length n):Nat):Int)),(0:Int),c,d,e,f,g,i,j,l,m,n,o,p,()) (fun u (a,b,c,d,e,f,g,i,j,l,m,n,o,p,q,r,s,())=>
 br ((decide (e<d)))
 (br (((J4 tP r (a,e))==true))
 ((((0:Int)<=a)/\((Int.toNat a)<(19:Nat)))/\
 ∃h:((Int.toNat a)<(List.length n)),
 (fI ((n[(Int.toNat a)]'h)+(y8 tP r (a,e))))/\
 (((0:Int)<=e)/\((Int.toNat e)<(19:Nat)))/\
 ∃t:((Int.toNat e)<(List.length n)),
 br ((decide (((n[(Int.toNat a)]'h)+(y8 tP r (a,e)))<(n[(Int.toNat e)]'t))))
 ((((0:Int)<=a)/\((Int.toNat a)<(19:Nat)))/\
 ∃x:((Int.toNat a)<(List.length n)),
 (fI ((n[(Int.toNat a)]'x)+(y8 tP r (a,e))))/\
 (((0:Int)<=e)/\((Int.toNat e)<(19:Nat)))/\
 ∃A:((Int.toNat e)<(List.length n)),
 (((0:Int)<=e)/\((Int.toNat e)<(19:Nat)))/\
 ∃B:((Int.toNat e)<(List.length o)),
 (fI (e+(1:Int)))/\
 (u (a,b,c,d,(e+(1:Int)),f,g,i,j,l,m,(List.set n (Int.toNat e) ((n[(Int.toNat a)]'x)+(y8 tP r (a,e)))),(List.set o (Int.toNat e) a),e,q,r,s,())))
 ((fI (e+(1:Int)))/\
 (u (a,b,c,d,(e+(1:Int)),f,g,i,j,l,m,n,o,p,q,r,s,()))))
 ((fI (e+(1:Int)))/\
 (u (a,b,c,d,(e+(1:Int)),f,g,i,j,l,m,n,o,p,q,r,s,()))))
 ((fI (c+(1:Int)))/\
 (v (b,(c+(1:Int)),f,g,i,j,l,m,n,o,p,q,r,s,())))))
 ((fI (d+(1:Int)))/\
 (z (c,(d+(1:Int)),e,f,g,i,j,l,m,n,o,p,())))))
 (br (((decide (j<(0:Int)))==false))
 ((((List.length g)*(Ty.size tI))=(j7 Tryz.prog (197:Nat)))/\
 ((List.length g)=(bZ Tryz.prog (197:Nat)))/\
 ((List.length (List.replicate (19:Nat) (Int.ofNat 0)))=(bZ Tryz.prog (197:Nat)))/\
 br ((g==(List.replicate (19:Nat) (Int.ofNat 0))))
 ((k (a7.B6 3 false) ((c7.box ((rI c)::((rI d)::((rI e)::((a7.P5 (Ty.slice (Ty.pair tI tP)) f false)::((a7.B6 1 false)::((a7.z8 2)::[])))))))::((c7.sl (Ty.pair tI tP) l)::((c7.mp mB m n)::((c7.sl tI ([]:List Int))::[]))))))
 ((BB.p (c,d,e,f,l,m,n,()))/\
 LP ((((1:Int)+e)+(((List.length l):Nat):Int)),(0:Int),i,j,c,d,e,f,l,m,n,()) (fun v (a,b,c,d,e,f,g,i,j,l,m,())=>
 br ((decide (b<a)))
 ((((0:Int)<=d)/\((Int.toNat d)<(19:Nat)))/\
 ∃y:((Int.toNat d)<(List.length c)),
 (fI (b+(1:Int)))/\
 (v (a,(b+(1:Int)),c,(c[(Int.toNat d)]'y),e,f,g,i,j,l,m,())))
 (LP (c,d,(d::([]:List Int)),e,f,g,i,j,l,m,()) (fun u (a,b,c,d,e,f,g,i,j,l,())=>
 (fI ((((List.length c):Nat):Int) - (1:Int)))/\
 (((0:Int)<=((((List.length c):Nat):Int) - (1:Int)))/\((Int.toNat ((((List.length c):Nat):Int) - (1:Int)))<(List.length c)))/\
 ∃h:((Int.toNat ((((List.length c):Nat):Int) - (1:Int)))<(List.length c)),
 (((0:Int)<=(c[(Int.toNat ((((List.length c):Nat):Int) - (1:Int)))]'h))/\((Int.toNat (c[(Int.toNat ((((List.length c):Nat):Int) - (1:Int)))]'h))<(19:Nat)))/\
 ∃t:((Int.toNat (c[(Int.toNat ((((List.length c):Nat):Int) - (1:Int)))]'h))<(List.length a)),
 br (((a[(Int.toNat (c[(Int.toNat ((((List.length c):Nat):Int) - (1:Int)))]'h))]'t)==b))
 (False)
 ((((0:Int)<=(((List.length c):Nat):Int))/\(((((List.length c):Nat):Int)<=(((List.length c):Nat):Int))/\((((List.length c):Nat):Int)=(((List.length c):Nat):Int))))/\
 (((Int.toNat (((List.length c):Nat):Int))+(List.length ((a[(Int.toNat (c[(Int.toNat ((((List.length c):Nat):Int) - (1:Int)))]'h))]'t)::([]:List Int))))<=iR)/\
 ((0:Nat)<(List.length ((a[(Int.toNat (c[(Int.toNat ((((List.length c):Nat):Int) - (1:Int)))]'h))]'t)::([]:List Int))))/\
 (u (a,b,((List.take (Int.toNat (((List.length c):Nat):Int)) (List.drop (0:Nat) c))++((a[(Int.toNat (c[(Int.toNat ((((List.length c):Nat):Int) - (1:Int)))]'h))]'t)::([]:List Int))),d,e,f,g,i,j,l,()))))))))
 ((k (a7.B6 3 false) ((c7.box ((rI c)::((rI d)::((rI e)::((a7.P5 (Ty.slice (Ty.pair tI tP)) f false)::((a7.B6 1 false)::((a7.z8 2)::[])))))))::((c7.sl (Ty.pair tI tP) l)::((c7.mp mB m n)::((c7.sl tI ([]:List Int))::[]))))))))
 theorem a9g(lo hi lots:Int)(w:List (List m9))(ts:List m9)(m:List (Nat×(Int×Int)×Int))(clk:Nat)(k:a7->List c7->Prop):awpG (m4 [(74,iV [BB]),(78,iV [XI])]) Tryz.prog kt 76 Tryz.f76 (v76.args (lo,hi,lots,w,ts,m,clk,())) (v76.B2 (lo,hi,lots,w,ts,m,clk,())) k=a5l lo hi lots w ts m clk k:=by kernel_rfl
theorem a9h:(Tryz.f76.body.map Code.j3).getD true=true:=by kernel_rfl
def a5m(frm to:Int)(lo hi lots:Int)(v:List (List m9))(ts:List m9)(m:List (Nat×(Int×Int)×Int))(clk:Nat)(k:a7->List c7->Prop):Prop:=
  (v76.p (lo,hi,lots,v,ts,m,clk,()))/\
 ∀w:l6 tI,
 ∀fC:(w=(M0 tI ([]:List (Nat×(Int×Int))) (0:Nat) frm (0:Int))),
 ∀Yg:Nat,
 ∀Jv:(Yg=(P3 tI ([]:List (Nat×(Int×Int))) (0:Nat) frm)),
 (BB.p (lo,hi,lots,v,ts,m,clk,()))/\
 LP (to,(((1:Int)+lots)+(((List.length ts):Nat):Int)),(0:Int),lo,hi,lots,v,ts,m,clk,w,Yg,()) (fun x (a,b,c,d,e,f,g,i,j,l,m,n,())=>
 br ((decide (c<b)))
 ((XI.p (d,e,f,g,i,j,l,()))/\
 (BB.p (d,e,f,g,i,j,l,()))/\
 LP ((((1:Int)+f)+(((List.length i):Nat):Int)),(0:Int),a,b,c,d,e,f,g,i,j,l,m,n,()) (fun y (a,b,c,d,e,f,g,i,j,l,m,n,o,p,())=>
 br ((decide (b<a)))
 ((BB.p (f,g,i,j,l,m,n,()))/\
 LP (b,a,b,(((1:Int)+i)+(((List.length l):Nat):Int)),(0:Int),c,d,e,f,g,i,j,l,m,n,o,p,()) (fun u (a,b,c,d,e,f,g,i,j,l,m,n,o,p,q,r,s,())=>
 br ((decide (e<d)))
 (br (((J4 tP p (a,e))==true))
 (br ((Bool.not (J4 tI r a)))
 ((fI (e+(1:Int)))/\
 (u (a,b,c,d,(e+(1:Int)),f,g,i,j,l,m,n,o,p,q,r,s,())))
 ((fI ((y8 tI r a)+(y8 tP p (a,e))))/\
 br ((J4 tI r e))
 ((((List.length (((y8 tI r a)+(y8 tP p (a,e)))::([]:List Int)))+(List.length ((y8 tI r e)::([]:List Int))))<=iR)/\
 (v79.p (((((y8 tI r a)+(y8 tP p (a,e)))::([]:List Int))++((y8 tI r e)::([]:List Int))),()))/\
 ∀h:l6 tI,
 ∀z:(h=(M0 tI r s e (CL ((((y8 tI r a)+(y8 tP p (a,e)))::([]:List Int))++((y8 tI r e)::([]:List Int)))))),
 ∀t:Nat,
 ∀A:(t=(P3 tI r s e)),
 (fI (e+(1:Int)))/\
 (u (a,b,c,d,(e+(1:Int)),f,g,i,j,l,m,n,o,p,q,h,t,())))
 ((v79.p ((((y8 tI r a)+(y8 tP p (a,e)))::([]:List Int)),()))/\
 ∀h:l6 tI,
 ∀z:(h=(M0 tI r s e (CL (((y8 tI r a)+(y8 tP p (a,e)))::([]:List Int))))),
 ∀t:Nat,
 ∀A:(t=(P3 tI r s e)),
 (fI (e+(1:Int)))/\
 (u (a,b,c,d,(e+(1:Int)),f,g,i,j,l,m,n,o,p,q,h,t,())))))
 ((fI (e+(1:Int)))/\
 (u (a,b,c,d,(e+(1:Int)),f,g,i,j,l,m,n,o,p,q,r,s,()))))
 ((fI (c+(1:Int)))/\
 (y (b,(c+(1:Int)),f,g,i,j,l,m,n,o,p,q,r,s,())))))
 ((fI (e+(1:Int)))/\
 (x (c,d,(e+(1:Int)),f,g,i,j,l,m,n,o,p,())))))
 ((k (a7.I9 ((a7.int (MK.kv (MK.mk false tI .i64)) (y8 tI m a))::((rB (J4 tI m a))::[]))) ((c7.box ((rI d)::((rI e)::((rI f)::((a7.P5 (Ty.slice (Ty.pair tI tP)) g false)::((a7.B6 1 false)::((a7.z8 2)::[])))))))::((c7.sl (Ty.pair tI tP) i)::((c7.mp mB j l)::[]))))))
 theorem a9i(frm to:Int)(lo hi lots:Int)(v:List (List m9))(ts:List m9)(m:List (Nat×(Int×Int)×Int))(clk:Nat)(k:a7->List c7->Prop):awpG (m4 [(74,iV [BB]),(78,iV [XI]),(76,iV [v76]),(79,N9 [v79])]) Tryz.prog kt 22 Tryz.f22 (v22.args (frm,to,lo,hi,lots,v,ts,m,clk,())) (v22.B2 (frm,to,lo,hi,lots,v,ts,m,clk,())) k=a5m frm to lo hi lots v ts m clk k:=by kernel_rfl
theorem a9j:(Tryz.f22.body.map Code.j3).getD true=true:=by kernel_rfl
def a5n(i:Int)(lo hi lots:Int)(a:List (List m9))(ts:List m9)(m:List (Nat×(Int×Int)×Int))(clk:Nat)(k:a7->List c7->Prop):Prop:=
  (v22.p (i,(0:Int),lo,hi,lots,a,ts,m,clk,()))/\
 (fI (-(kW (l4 lots ts) m i (0:Int)):Int))/\
 (k (a7.I9 ((rI (-(kW (l4 lots ts) m i (0:Int)):Int))::((rB (kA (l4 lots ts) m i (0:Int)))::[]))) ((c7.box ((a7.ptr 1 0)::[]))::((c7.box ((rI lo)::((rI hi)::((rI lots)::((a7.P5 (.slice tS) a false)::((a7.B6 2 false)::((a7.z8 3)::[])))))))::((c7.sl tS ts)::((c7.mp mB m clk)::[])))))
 theorem a9k(i:Int)(lo hi lots:Int)(a:List (List m9))(ts:List m9)(m:List (Nat×(Int×Int)×Int))(clk:Nat)(k:a7->List c7->Prop):awpG (m4 [(22,iV [v22])]) Tryz.prog kt 21 Tryz.f21 (v21.args (i,lo,hi,lots,a,ts,m,clk,())) (v21.B2 (i,lo,hi,lots,a,ts,m,clk,())) k=a5n i lo hi lots a ts m clk k:=by kernel_rfl
theorem a9l:(Tryz.f21.body.map Code.j3).getD true=true:=by kernel_rfl
def a5o(i:Int)(lo hi lots:Int)(a:List (List m9))(ts:List m9)(m:List (Nat×(Int×Int)×Int))(clk:Nat)(k:a7->List c7->Prop):Prop:=
  (v22.p ((0:Int),i,lo,hi,lots,a,ts,m,clk,()))/\
 (k (a7.I9 ((rI (kW (l4 lots ts) m (0:Int) i))::((rB (kA (l4 lots ts) m (0:Int) i))::[]))) ((c7.box ((a7.ptr 1 0)::[]))::((c7.box ((rI lo)::((rI hi)::((rI lots)::((a7.P5 (.slice tS) a false)::((a7.B6 2 false)::((a7.z8 3)::[])))))))::((c7.sl tS ts)::((c7.mp mB m clk)::[])))))
 theorem a9m(i:Int)(lo hi lots:Int)(a:List (List m9))(ts:List m9)(m:List (Nat×(Int×Int)×Int))(clk:Nat)(k:a7->List c7->Prop):awpG (m4 [(22,iV [v22])]) Tryz.prog kt 23 Tryz.f23 (v23.args (i,lo,hi,lots,a,ts,m,clk,())) (v23.B2 (i,lo,hi,lots,a,ts,m,clk,())) k=a5o i lo hi lots a ts m clk k:=by kernel_rfl
theorem a9n:(Tryz.f23.body.map Code.j3).getD true=true:=by kernel_rfl
def a0I(lo hi lots:Int)(h:List (List m9))(ts:List m9)(m:List (Nat×(Int×Int)×Int))(clk:Nat)(k:a7->List c7->Prop):Prop:=
  LP ((1:Int),lo,hi,lots,h,([]:List Int),ts,m,clk,()) (fun l (a,b,c,d,e,f,g,i,j,())=>
 (BB.p (b,c,d,e,g,i,j,()))/\
 br ((decide (a<(((1:Int)+d)+(((List.length g):Nat):Int)))))
 ((v21.p (a,b,c,d,e,g,i,j,()))/\
 br ((Bool.not (kA (l4 d g) i a (0:Int))))
 ((k (a7.I9 ((a7.B6 4 false)::((a7.B6 5 false)::((rI (17:Int))::[])))) ((c7.box ((rI b)::((rI c)::((rI d)::((a7.P5 (.slice tS) e false)::((a7.B6 2 false)::((a7.z8 3)::[])))))))::((c7.box ((a7.ptr 0 0)::[]))::((c7.sl tS g)::((c7.mp mB i j)::((c7.sl tI ([]:List Int))::((c7.sl tI ([]:List Int))::[]))))))))
 ((((List.length f)+(List.length ((-(kW (l4 d g) i a (0:Int)):Int)::([]:List Int))))<=iR)/\
 (fI (a+(1:Int)))/\
 (l ((a+(1:Int)),b,c,d,e,(f++((-(kW (l4 d g) i a (0:Int)):Int)::([]:List Int))),g,i,j,()))))
 ((((0:Int)<=d)/\(d<=(((List.length f):Nat):Int)))/\
 (Tn.p ((List.take (Int.toNat d) (List.drop (0:Nat) f)),()))/\
 (((0:Int)<=d)/\(d<=(((List.length f):Nat):Int)))/\
 (Tn.p ((List.take ((List.length f) - (Int.toNat d)) (List.drop (Int.toNat d) f)),()))/\
 (k (a7.I9 ((a7.B6 4 false)::((a7.B6 5 false)::((rI (0:Int))::[])))) ((c7.box ((rI b)::((rI c)::((rI d)::((a7.P5 (.slice tS) e false)::((a7.B6 2 false)::((a7.z8 3)::[])))))))::((c7.box ((a7.ptr 0 0)::[]))::((c7.sl tS g)::((c7.mp mB i j)::((c7.sl tI (List.take (Int.toNat d) (List.drop (0:Nat) f)))::((c7.sl tI (List.take ((List.length f) - (Int.toNat d)) (List.drop (Int.toNat d) f)))::[])))))))))
 theorem a5p(lo hi lots:Int)(h:List (List m9))(ts:List m9)(m:List (Nat×(Int×Int)×Int))(clk:Nat)(k:a7->List c7->Prop):awpG (m4 [(74,iV [BB]),(21,iV [v21]),(75,N9 [Tn])]) Tryz.prog kt 20 Tryz.f20 (ND.args (lo,hi,lots,h,ts,m,clk,())) (ND.B2 (lo,hi,lots,h,ts,m,clk,())) k=a0I lo hi lots h ts m clk k:=by kernel_rfl
theorem a5q:(Tryz.f20.body.map Code.j3).getD true=true:=by kernel_rfl
def a0J(lo hi lots:Int)(h:List (List m9))(ts:List m9)(m:List (Nat×(Int×Int)×Int))(clk:Nat)(k:a7->List c7->Prop):Prop:=
  LP ((1:Int),lo,hi,lots,h,([]:List Int),ts,m,clk,()) (fun l (a,b,c,d,e,f,g,i,j,())=>
 (BB.p (b,c,d,e,g,i,j,()))/\
 br ((decide (a<(((1:Int)+d)+(((List.length g):Nat):Int)))))
 ((v23.p (a,b,c,d,e,g,i,j,()))/\
 br ((Bool.not (kA (l4 d g) i (0:Int) a)))
 ((k (a7.I9 ((a7.B6 4 false)::((a7.B6 5 false)::((rI (17:Int))::[])))) ((c7.box ((rI b)::((rI c)::((rI d)::((a7.P5 (.slice tS) e false)::((a7.B6 2 false)::((a7.z8 3)::[])))))))::((c7.box ((a7.ptr 0 0)::[]))::((c7.sl tS g)::((c7.mp mB i j)::((c7.sl tI ([]:List Int))::((c7.sl tI ([]:List Int))::[]))))))))
 ((((List.length f)+(List.length ((kW (l4 d g) i (0:Int) a)::([]:List Int))))<=iR)/\
 (fI (a+(1:Int)))/\
 (l ((a+(1:Int)),b,c,d,e,(f++((kW (l4 d g) i (0:Int) a)::([]:List Int))),g,i,j,()))))
 ((((0:Int)<=d)/\(d<=(((List.length f):Nat):Int)))/\
 (Tn.p ((List.take (Int.toNat d) (List.drop (0:Nat) f)),()))/\
 (((0:Int)<=d)/\(d<=(((List.length f):Nat):Int)))/\
 (Tn.p ((List.take ((List.length f) - (Int.toNat d)) (List.drop (Int.toNat d) f)),()))/\
 (k (a7.I9 ((a7.B6 4 false)::((a7.B6 5 false)::((rI (0:Int))::[])))) ((c7.box ((rI b)::((rI c)::((rI d)::((a7.P5 (.slice tS) e false)::((a7.B6 2 false)::((a7.z8 3)::[])))))))::((c7.box ((a7.ptr 0 0)::[]))::((c7.sl tS g)::((c7.mp mB i j)::((c7.sl tI (List.take (Int.toNat d) (List.drop (0:Nat) f)))::((c7.sl tI (List.take ((List.length f) - (Int.toNat d)) (List.drop (Int.toNat d) f)))::[])))))))))
 theorem a5r(lo hi lots:Int)(h:List (List m9))(ts:List m9)(m:List (Nat×(Int×Int)×Int))(clk:Nat)(k:a7->List c7->Prop):awpG (m4 [(74,iV [BB]),(23,iV [v23]),(75,N9 [Tn])]) Tryz.prog kt 20 Tryz.f20 (NF.args (lo,hi,lots,h,ts,m,clk,())) (NF.B2 (lo,hi,lots,h,ts,m,clk,())) k=a0J lo hi lots h ts m clk k:=by kernel_rfl
def a5s(lo hi lots:Int)(h:List (List m9))(k:a7->List c7->Prop):Prop:=
  (v71.p (lo,hi,lots,h,()))/\
 br (((H9 lo hi lots h) !=(0:Int)))
 ((k (a7.I9 ((a7.z6 tX)::((rI (H9 lo hi lots h))::[]))) []))
 (LP ((0:Int),(0:Int),lo,hi,lots,h,([]:List Int),()) (fun i (a,b,c,d,e,f,g,())=>
 br ((decide (b<a)))
 ((((0:Int)<=b)/\((Int.toNat b)<(List.length g)))/\
 ∃j:((Int.toNat b)<(List.length g)),
 (fI (e- (1:Int)))/\
 False)
 ((v73.p (c,d,e,f,()))/\
 (k (a7.I9 ((a7.ptr 0 0)::((rI (0:Int))::[]))) ((c7.box ((rI c)::((rI d)::((rI e)::((a7.P5 (.slice tS) f false)::((a7.B6 1 false)::((a7.z8 2)::[])))))))::((c7.sl tS (List.flatten f))::((c7.mp mB (G7 c d e f) (CK c d e f))::[])))))))
 theorem a9o(lo hi lots:Int)(h:List (List m9))(k:a7->List c7->Prop):awpG (m4 [(71,N9 [v71]),(73,iV [v73])]) Tryz.prog kt 19 Tryz.f19 (XJ.args (lo,hi,lots,h,())) (XJ.B2 (lo,hi,lots,h,())) k=a5s lo hi lots h k:=by kernel_rfl
theorem a9p:(Tryz.f19.body.map Code.j3).getD true=true:=by kernel_rfl
def vc7(lo hi lots:Int)(a:List (List m9))(k:a7->List c7->Prop):Prop:=
  (XJ.p (lo,hi,lots,a,()))/\
 (ND.p (lo,hi,lots,a,(List.flatten a),(G7 lo hi lots a),(CK lo hi lots a),()))/\
 (k (a7.I9 ((a7.B6 0 false)::((a7.B6 1 false)::((rI (0:Int))::[])))) ((c7.sl tI (O7 (dB (l4 lots (List.flatten a)) (G7 lo hi lots a)) lots))::((c7.sl tI (kB (dB (l4 lots (List.flatten a)) (G7 lo hi lots a)) lots (List.flatten a)))::[])))
 theorem eq7(lo hi lots:Int)(a:List (List m9))(k:a7->List c7->Prop):awpF (m4 [(19,iV [XJ]),(20,iV [ND])]) Tryz.prog kt 7 false Tryz.f7 (v7.args (lo,hi,lots,a,())) (v7.B2 (lo,hi,lots,a,())) k=vc7 lo hi lots a k:=by kernel_rfl
theorem tx7:(Tryz.f7.body.map Code.j3).getD true=true:=by kernel_rfl
def vc8(lo hi lots:Int)(a:List (List m9))(k:a7->List c7->Prop):Prop:=
  (XJ.p (lo,hi,lots,a,()))/\
 (NF.p (lo,hi,lots,a,(List.flatten a),(G7 lo hi lots a),(CK lo hi lots a),()))/\
 (k (a7.I9 ((a7.B6 0 false)::((a7.B6 1 false)::((rI (0:Int))::[])))) ((c7.sl tI (O7 (S5 (l4 lots (List.flatten a)) (G7 lo hi lots a)) lots))::((c7.sl tI (kB (S5 (l4 lots (List.flatten a)) (G7 lo hi lots a)) lots (List.flatten a)))::[])))
 theorem eq8(lo hi lots:Int)(a:List (List m9))(k:a7->List c7->Prop):awpF (m4 [(19,iV [XJ]),(20,iV [NF])]) Tryz.prog kt 8 false Tryz.f8 (v8.args (lo,hi,lots,a,())) (v8.B2 (lo,hi,lots,a,())) k=vc8 lo hi lots a k:=by kernel_rfl
theorem tx8:(Tryz.f8.body.map Code.j3).getD true=true:=by kernel_rfl
def a5t(a b c d e f p q:Int)(k:a7->List c7->Prop):Prop:=
  (fI (b*p))/\
 (fI (e*q))/\
 (fI ((b*p)+(e*q)))/\
 (fI (p+q))/\
 (Ns.p (((b*p)+(e*q)),(p+q),()))/\
 (k (a7.agg ((rI (kT ((b*p)+(e*q)) (p+q)))::((rI (kU ((b*p)+(e*q)) (p+q)))::[]))) [])
 theorem a9q(a b c d e f p q:Int)(k:a7->List c7->Prop):awpF (m4 [(109,N9 [Ns])]) Tryz.prog kt 83 false Tryz.f83 (v83.args (a,b,c,d,e,f,p,q,())) (v83.B2 (a,b,c,d,e,f,p,q,())) k=a5t a b c d e f p q k:=by kernel_rfl
theorem a9r:(Tryz.f83.body.map Code.j3).getD true=true:=by kernel_rfl
def a5u(l:List (Int×Int))(s:List Int)(k:a7->List c7->Prop):Prop:=
  (Nq.p (l,()))/\
 br (((G4 l) !=(0:Int)))
 ((k (a7.I9 ((a7.z6 tX)::((rI (G4 l))::[]))) ((c7.sl tI s)::[])))
 ((vW.p ((0:Int),(100:Int),s,()))/\
 br ((Bool.not (Bool.not (D7 (0:Int) (100:Int) s))))
 ((k (a7.I9 ((a7.z6 tX)::((rI (3:Int))::[]))) ((c7.sl tI s)::[])))
 ((Nw.p (l,()))/\
 (k (a7.I9 ((a7.ptr 1 0)::((rI (0:Int))::[]))) ((c7.sl tI s)::((c7.bx ((a7.P5 tL l false)::[]) tI 101 (D8 l) ((a7.B6 2 false)::[]))::((c7.sl tC (l7 l))::[]))))))
 theorem a9s(l:List (Int×Int))(s:List Int)(k:a7->List c7->Prop):awpG (m4 [(129,N9 [Nq]),(108,N9 [vW]),(130,iV [Nw])]) Tryz.prog kt 80 Tryz.f80 (v80.args (l,s,())) (v80.B2 (l,s,())) k=a5u l s k:=by kernel_rfl
theorem a9t:(Tryz.f80.body.map Code.j3).getD true=true:=by kernel_rfl
def a5v(l:List (Int×Int))(s:Int)(k:a7->List c7->Prop):Prop:=
  (v80.p (l,(s::([]:List Int)),()))/\
 (v82.p (s,l,(D8 l),(l7 l),()))/\
 (v81.p ((Max.max s (fC (l7 l))),l,(D8 l),(l7 l),()))/\
 br ((Bool.not (uE (l7 l) (Max.max s (fC (l7 l))))))
 ((k (a7.I9 ((a7.agg ((rI (0:Int))::((rI (0:Int))::[])))::((rI (19:Int))::[]))) []))
 ((v83.p ((m11 (l7 l) (Max.max s (fC (l7 l)))),(RC (l7 l) (Max.max s (fC (l7 l)))),(m13 (l7 l) (Max.max s (fC (l7 l)))),(m21 (l7 l) (Max.max s (fC (l7 l)))),(RD (l7 l) (Max.max s (fC (l7 l)))),(m23 (l7 l) (Max.max s (fC (l7 l)))),(mP (l7 l) (Max.max s (fC (l7 l)))),(mQ (l7 l) (Max.max s (fC (l7 l)))),()))/\
 (k (a7.I9 ((a7.agg ((rI (kT (((RC (l7 l) (Max.max s (fC (l7 l))))*(mP (l7 l) (Max.max s (fC (l7 l)))))+((RD (l7 l) (Max.max s (fC (l7 l))))*(mQ (l7 l) (Max.max s (fC (l7 l)))))) ((mP (l7 l) (Max.max s (fC (l7 l))))+(mQ (l7 l) (Max.max s (fC (l7 l)))))))::((rI (kU (((RC (l7 l) (Max.max s (fC (l7 l))))*(mP (l7 l) (Max.max s (fC (l7 l)))))+((RD (l7 l) (Max.max s (fC (l7 l))))*(mQ (l7 l) (Max.max s (fC (l7 l)))))) ((mP (l7 l) (Max.max s (fC (l7 l))))+(mQ (l7 l) (Max.max s (fC (l7 l)))))))::[])))::((rI (0:Int))::[]))) []))
 theorem a9u(l:List (Int×Int))(s:Int)(k:a7->List c7->Prop):awpF (m4 [(80,iV [v80]),(81,iV [v81]),(82,iV [v82]),(83,N9 [v83])]) Tryz.prog kt 24 false Tryz.f24 (v24.args (l,s,())) (v24.B2 (l,s,())) k=a5v l s k:=by kernel_rfl
theorem a9v:(Tryz.f24.body.map Code.j3).getD true=true:=by kernel_rfl
def vc9(l:List (Int×Int))(s:Int)(k:a7->List c7->Prop):Prop:=
  (v24.p (l,s,()))/\
 br (((To l s) !=(0:Int)))
 (br ((((To l s)==(19:Int))==true))
 ((k (a7.I9 ((a7.agg ((rI (R7 l s))::((rI (P6 l s))::[])))::((rB false)::((rB (((R7 l s)==(0:Int)) && ((P6 l s)==(0:Int))))::[])))) []))
 ((k (a7.I9 ((a7.agg ((rI (R7 l s))::((rI (P6 l s))::[])))::((rB false)::((rB false)::[])))) [])))
 (br (((decide ((P6 l s)>=(1:Int)))==true))
 (br (((decide ((P6 l s)<=(100:Int)))==true))
 (br (((decide ((R7 l s)>=(0:Int)))==true))
 ((fI ((1000:Int)*(P6 l s)))/\
 (k (a7.I9 ((a7.agg ((rI (R7 l s))::((rI (P6 l s))::[])))::((rB true)::((rB (decide ((R7 l s)<=((1000:Int)*(P6 l s)))))::[])))) []))
 ((k (a7.I9 ((a7.agg ((rI (R7 l s))::((rI (P6 l s))::[])))::((rB true)::((rB false)::[])))) [])))
 ((k (a7.I9 ((a7.agg ((rI (R7 l s))::((rI (P6 l s))::[])))::((rB true)::((rB false)::[])))) [])))
 ((k (a7.I9 ((a7.agg ((rI (R7 l s))::((rI (P6 l s))::[])))::((rB true)::((rB false)::[])))) [])))
 theorem eq9(l:List (Int×Int))(s:Int)(k:a7->List c7->Prop):awpF (m4 [(24,N9 [v24])]) Tryz.prog kt 9 false Tryz.f9 (v9.args (l,s,())) (v9.B2 (l,s,())) k=vc9 l s k:=by kernel_rfl
theorem tx9:(Tryz.f9.body.map Code.j3).getD true=true:=by kernel_rfl
end Go.Abs.T1
end
section
set_option linter.unusedVariables false
namespace Go.Abs.T1
def iY(a b x:aI):Int:=(b.1- a.1)*(x.2- a.2) - (b.2- a.2)*(x.1- a.1)
theorem a5w(A B C u:aI):iY u A C*(A.1- B.1)=iY B A C*(A.1- u.1)+iY B A u*(C.1- A.1):=by unfold iY;grind
theorem a5x(A C u v:aI):iY u v C*(A.1- u.1)=iY u v A*(C.1- u.1)+iY u A C*(v.1- u.1):=by unfold iY;grind
theorem a5y(a b c x:aI):iY b c x*(c.1- a.1)=iY a c x*(c.1- b.1) - iY b a c*(c.1- x.1):=by unfold iY;grind
theorem a5z(a b c x:aI):iY b c x*(a.1- b.1)=iY b a x*(c.1- b.1) - iY b a c*(x.1- b.1):=by unfold iY;grind
theorem a5A(a b c x:aI):iY a c x*(a.1- b.1)=iY b a x*(c.1- a.1)+iY b a c*(a.1- x.1):=by unfold iY;grind
theorem tJ{X k Y:Int}(a:0<k)(h:X*k=Y)(c:0<=Y):0<=X:=by
 apply Int.not_lt.1;intro b;have:=Int.mul_neg_of_neg_of_pos b a;omega
theorem zN(b a c:m8):jZ b a c=true↔0<iY b.1 a.1 c.1:=by
 unfold jZ iY;rw[decide_eq_true_eq];have d:(c.1.2- b.1.2)*(a.1.1- b.1.1)=(a.1.1- b.1.1)*(c.1.2- b.1.2):=Int.mul_comm _ _;rw[d];omega
def zO:List m8->m8->List m8
 |[],_=>[]
 |[a],_=>[a]
 |a::b::r,c=>if jZ b a c=false then zO (b::r) c else a::b::r
def Sup(P:aI->Prop):List m8->Prop
 |[]=>True
 |[_]=>True
 |a::b::r=>(∀x,P x->0<=iY b.1 a.1 x)/\Sup P (b::r)
def Srt(R:List m8):Prop:=R.Pairwise fun a b=>b.1.1<a.1.1
theorem Qn{P:aI->Prop}{A B C:aI}(e:P A)(a:B.1<A.1)(b:A.1<C.1)(f:∀x,P x->0<=iY B A x)(g:0<=iY B A C):∀ (R:List m8),Srt R->(∀c∈R,P c.1/\c.1.1<=B.1)->Sup P R->Sup (fun x=>P x\/x=C) R
 |[],_,_,_=>trivial
 |[_],_,_,_=>trivial
 |v::u::r,i,d,h=>by
  obtain⟨j,l⟩:=h;refine⟨?_,Qn e a b f g (u::r) (List.pairwise_cons.1 i).2 (fun c m=>d c (List.mem_cons_of_mem _ m)) l⟩
  rintro x (n|rfl)
  ·exact j x n
  ·have o:u.1.1<v.1.1:=(List.pairwise_cons.1 i).1 u (List.mem_cons_self ..);have s:=d v (List.mem_cons_self ..);have p:=d u (List.mem_cons_of_mem _ (List.mem_cons_self ..));have q:0<=iY u.1 A x:=by
    refine tJ (k:=A.1- B.1) (by omega) (a5w A B x u.1) ?_
    have:=Int.mul_nonneg g (show 0<=A.1- u.1.1 by omega)
    have:=Int.mul_nonneg (f _ p.1) (show 0<=x.1- A.1 by omega)
    omega
   refine tJ (k:=A.1- u.1.1) (by omega) (a5x A x u.1 v.1) ?_
   have:=Int.mul_nonneg (j A e) (show 0<=x.1- u.1.1 by omega)
   have:=Int.mul_nonneg q (show 0<=v.1.1- u.1.1 by omega)
   omega
structure Left(P:aI->Prop)(c:m8)(R:List m8):Prop where
 sup:Sup P R
 Qo:Srt R
 mem:∀x∈R,P x.1
 fst:∀x,P x->∃a,R.getLast?=some a/\a.1.1<=x.1
 out:∀a,R.head?=some a->∀x,P x->a.1.1<=x.1->0<=iY a.1 c.1 x
theorem KY{P:aI->Prop}{c:m8}(g:∀x,P x->x.1<c.1.1):∀ (R:List m8),Left P c R->Left P c (zO R c)/\∀a b r,zO R c=a::b::r->jZ b a c=true
 |[],h=>⟨h,fun _ _ _ e=>by cases e⟩
 |[a],h=>⟨h,fun _ _ _ e=>by cases e⟩
 |a::b::r,h=>by
  unfold zO;by_cases f:jZ b a c=false
  ·rw[if_pos f];refine KY g (b::r) ⟨h.sup.2,(List.pairwise_cons.1 h.Qo).2,fun x d=>h.mem x (List.mem_cons_of_mem _ d),fun x d=>by
    have:=h.fst x d
    rwa [List.getLast?_cons_cons]at this,?_⟩
   intro n e x d o;cases e;have p:b.1.1<a.1.1:=(List.pairwise_cons.1 h.Qo).1 b (List.mem_cons_self ..);have q:=g x d;have s:=g a.1 (h.mem a (List.mem_cons_self ..));have t:iY b.1 a.1 c.1<=0:=by
    apply Int.not_lt.1;intro i;rw[(zN b a c).2 i]at f;cases f
   by_cases j:a.1.1<=x.1
   ·have l:=h.out a rfl x d j;refine tJ (k:=c.1.1- a.1.1) (by omega) (a5y a.1 b.1 c.1 x) ?_
    have:=Int.mul_nonneg l (show 0<=c.1.1- b.1.1 by omega)
    have m:=Int.mul_nonneg (show 0<= -iY b.1 a.1 c.1 by omega) (show 0<=c.1.1- x.1 by omega)
    rw[Int.neg_mul]at m;omega
   ·have l:=h.sup.1 x d;refine tJ (k:=a.1.1- b.1.1) (by omega) (a5z a.1 b.1 c.1 x) ?_
    have:=Int.mul_nonneg l (show 0<=c.1.1- b.1.1 by omega)
    have m:=Int.mul_nonneg (show 0<= -iY b.1 a.1 c.1 by omega) (show 0<=x.1- b.1.1 by omega)
    rw[Int.neg_mul]at m;omega
  ·rw[if_neg f];refine⟨h,fun n u v e=>?_⟩
   cases e;simpa using f
structure FX(P:aI->Prop)(R:List m8):Prop where
 sup:Sup P R
 Qo:Srt R
 mem:∀x∈R,P x.1
 fst:∀x,P x->∃a,R.getLast?=some a/\a.1.1<=x.1
 lst:∀x,P x->∃a,R.head?=some a/\x.1<=a.1.1
theorem FX.nil:FX (fun _=>False) []:=⟨trivial,List.Pairwise.nil,fun _ h=>(by cases h),fun _ h=>h.elim,fun _ h=>h.elim⟩
theorem FX.congr{P Q:aI->Prop}{R:List m8}(h:FX P R)(e:∀x,P x↔Q x):FX Q R:=by
 have:P=Q:=funext fun x=>propext (e x)
 rw[<-this];exact h
theorem a17{R:List m8}{c:m8}:R≠ []->zO R c≠ []:=by
 intro h
 induction R with
 |nil=>exact absurd rfl h
 |cons a R d=>
  cases R with
  |nil=>intro e;cases e
  |cons b r=>
   unfold zO;split
   ·exact d (by simp)
   ·simp
theorem Sc{P:aI->Prop}{R:List m8}{c:m8}(h:FX P R)(z:∀x y,P x->P y->x.1=y.1->x=y)(l:∀x,P x->x.1<c.1.1):FX (fun x=>P x\/x=c.1) (c::zO R c):=by
 have A:Left P c R:=by
  refine⟨h.sup,h.Qo,h.mem,h.fst,?_⟩;intro a j x f g;obtain⟨a',i,w⟩:=h.lst x f;rw[j]at i;cases i;have o:a∈R:=List.mem_of_mem_head? j;have e:=z x a.1 f (h.mem a o) (by omega)
  rw[e];unfold iY;rw[Int.sub_self,Int.sub_self,Int.mul_zero,Int.mul_zero];decide
 obtain⟨d,p⟩:=KY l R A;have q:R≠ []->zO R c≠ []:=a17;generalize B:zO R c=s at d p q;refine⟨?_,List.pairwise_cons.2 ⟨fun b t=>l _ (d.mem b t),d.Qo⟩,?_,?_,?_⟩
 ·cases s with
  |nil=>trivial
  |cons a r=>
   have u:=l a.1 (d.mem a (List.mem_cons_self ..));refine⟨?_,?_⟩
   ·rintro x (f|rfl)
    ·by_cases v:a.1.1<=x.1
     ·exact d.out a rfl x f v
     ·cases r with
      |nil=>
       obtain⟨a',i,g⟩:=d.fst x f;have e:a=a':=Option.some.inj i;subst e;omega
      |cons b r=>
       have m:b.1.1<a.1.1:=(List.pairwise_cons.1 d.Qo).1 b (List.mem_cons_self ..);have t:=(zN b a c).1 (p a b r rfl);refine tJ (k:=a.1.1- b.1.1) (by omega) (a5A a.1 b.1 c.1 x) ?_
       have:=Int.mul_nonneg (d.sup.1 x f) (show 0<=c.1.1- a.1.1 by omega)
       have:=Int.mul_nonneg (show 0<=iY b.1 a.1 c.1 by omega) (show 0<=a.1.1- x.1 by omega)
       omega
    ·unfold iY;have:=Int.mul_comm (c.1.1- a.1.1) (c.1.2- a.1.2);omega
   ·cases r with
    |nil=>trivial
    |cons b r=>
     have m:b.1.1<a.1.1:=(List.pairwise_cons.1 d.Qo).1 b (List.mem_cons_self ..);have t:=(zN b a c).1 (p a b r rfl);refine⟨?_,?_⟩
     ·rintro x (f|rfl)
      ·exact d.sup.1 x f
      ·omega
     ·refine Qn (d.mem a (List.mem_cons_self ..)) m u d.sup.1 (by omega) (b::r) (List.pairwise_cons.1 d.Qo).2 ?_ d.sup.2
      intro y n;refine⟨d.mem y (List.mem_cons_of_mem _ n),?_⟩;rcases List.mem_cons.1 n with rfl|n
      ·omega
      ·have:=(List.pairwise_cons.1 (List.pairwise_cons.1 d.Qo).2).1 y n;omega
 ·intro x f;rcases List.mem_cons.1 f with rfl|f
  ·exact .inr rfl
  ·exact .inl (d.mem x f)
 ·rintro x (f|rfl)
  ·obtain⟨a,j,g⟩:=d.fst x f;refine⟨a,?_,g⟩;cases s with
   |nil=>cases j
   |cons b r=>rw[List.getLast?_cons_cons];exact j
  ·cases s with
   |nil=>exact⟨c,rfl,Int.le_refl _⟩
   |cons b r=>
    obtain⟨a,j,g⟩:=d.fst b.1 (d.mem b (List.mem_cons_self ..));refine⟨a,by rw[List.getLast?_cons_cons];exact j,?_⟩
    have:=l b.1 (d.mem b (List.mem_cons_self ..));omega
 ·rintro x (f|rfl)
  ·exact⟨c,rfl,by have:=l x f;omega⟩
  ·exact⟨c,rfl,Int.le_refl _⟩
theorem Qp:∀ (n:Nat) (R:List m8) (c:m8),R.length<=n->oW n R.reverse c=(zO R c).reverse
 |0,[],c,_=>rfl
 |n+1,[],c,_=>by unfold oW zO;rw[if_neg (by simp)]
 |n+1,[a],c,_=>by unfold oW zO;rw[if_neg (by simp)]
 |n+1,a::b::r,c,h=>by
  have d:(a::b::r).reverse.length=r.length+2:=by simp
  have f:(a::b::r).reverse.getD (r.length+2- 2) ((0,0),0)=b:=by
   rw[List.getD_eq_getElem?_getD,List.getElem?_reverse (by simp only[List.length_cons];omega)]
   simp only[List.length_cons];rw[show r.length+1+1- 1- (r.length+2- 2)=1 by omega];rfl
  have g:(a::b::r).reverse.getD (r.length+2- 1) ((0,0),0)=a:=by
   rw[List.getD_eq_getElem?_getD,List.getElem?_reverse (by simp only[List.length_cons];omega)]
   simp only[List.length_cons];rw[show r.length+1+1- 1- (r.length+2- 1)=0 by omega];rfl
  have i:(a::b::r).reverse.take (r.length+2- 1)=(b::r).reverse:=by
   rw[List.reverse_cons,List.take_left'];simp
  unfold oW zO;rw[d,f,g,i];by_cases e:jZ b a c=false
  ·rw[if_pos e,if_pos ⟨by omega,e⟩]
   exact Qp n (b::r) c (by simp only[List.length_cons]at h ⊢;omega)
  ·rw[if_neg e,if_neg (fun j=>e j.2)]
 |0,a::R,c,h=>by simp at h
end Go.Abs.T1
end
section
open Go.Proofs
set_option maxRecDepth 100000
set_option linter.unusedVariables false
namespace Go.Abs.T1
def a0K(l:List (Int×Int))(k:a7->List c7->Prop):Prop:=
  LP (l,(0:Int),l,((0:Int)::((0:Int)::((0:Int)::((0:Int)::((0:Int)::((0:Int)::((0:Int)::((0:Int)::((0:Int)::((0:Int)::((0:Int)::((0:Int)::((0:Int)::((0:Int)::((0:Int)::((0:Int)::((0:Int)::((0:Int)::((0:Int)::((0:Int)::((0:Int)::((0:Int)::((0:Int)::((0:Int)::((0:Int)::((0:Int)::((0:Int)::((0:Int)::((0:Int)::((0:Int)::((0:Int)::((0:Int)::((0:Int)::((0:Int)::((0:Int)::((0:Int)::((0:Int)::((0:Int)::((0:Int)::((0:Int)::((0:Int)::((0:Int)::((0:Int)::((0:Int)::((0:Int)::((0:Int)::((0:Int)::((0:Int)::((0:Int)::((0:Int)::((0:Int)::((0:Int)::((0:Int)::((0:Int)::((0:Int)::((0:Int)::((0:Int)::((0:Int)::((0:Int)::((0:Int)::((0:Int)::((0:Int)::((0:Int)::((0:Int)::((0:Int)::((0:Int)::((0:Int)::((0:Int)::((0:Int)::((0:Int)::((0:Int)::((0:Int)::((0:Int)::((0:Int)::((0:Int)::((0:Int)::((0:Int)::((0:Int)::((0:Int)::((0:Int)::((0:Int)::((0:Int)::((0:Int)::((0:Int)::((0:Int)::((0:Int)::((0:Int)::((0:Int)::((0:Int)::((0:Int)::((0:Int)::((0:Int)::((0:Int)::((0:Int)::((0:Int)::((0:Int)::((0:Int)::((0:Int)::((0:Int)::((0:Int)::((0:Int)::([]:List Int)))))))))))))))))))))))))))))))))))))))))))))))))))))))))))))))))))))))))))))))))))))))))))))))))))))),([]:List ((Int×Int)×Int)),()) (fun v (a,b,c,d,e,())=>
 br ((decide (b<(101:Int))))
 ((((0:Int)<=b)/\((Int.toNat b)<(101:Nat)))/\
 ∃y:((Int.toNat b)<(List.length d)),
 (fI (b+(1:Int)))/\
 (v (a,(b+(1:Int)),c,(List.set d (Int.toNat b) (1001:Int)),e,())))
 (LP (a,(((List.length a):Nat):Int),(0:Int),c,d,([]:l6 tP),(0:Nat),e,()) (fun t (a,b,c,d,e,f,g,i,())=>
 br ((decide (c<b)))
 (∃h:(((0:Int)<=c)/\((Int.toNat c)<(List.length a))),
 (((0:Int)<=(a[(Int.toNat c)]'h.2).1)/\((Int.toNat (a[(Int.toNat c)]'h.2).1)<(101:Nat)))/\
 ∃q:((Int.toNat (a[(Int.toNat c)]'h.2).1)<(List.length e)),
 (((0:Int)<=(a[(Int.toNat c)]'h.2).1)/\((Int.toNat (a[(Int.toNat c)]'h.2).1)<(101:Nat)))/\
 ∃r:((Int.toNat (a[(Int.toNat c)]'h.2).1)<(List.length e)),
 br ((Bool.not (J4 tP f ((a[(Int.toNat c)]'h.2).1,(a[(Int.toNat c)]'h.2).2))))
 (∀u:(l6 tP),
 ∀w:(u=(M0 tP f g ((a[(Int.toNat c)]'h.2).1,(a[(Int.toNat c)]'h.2).2) c)),
 ∀fC:Nat,
 ∀Yg:(fC=(P3 tP f g ((a[(Int.toNat c)]'h.2).1,(a[(Int.toNat c)]'h.2).2))),
 (fI (c+(1:Int)))/\
 (t (a,b,(c+(1:Int)),d,(List.set e (Int.toNat (a[(Int.toNat c)]'h.2).1) (ite ((a[(Int.toNat c)]'h.2).2<(e[(Int.toNat (a[(Int.toNat c)]'h.2).1)]'q)) (a[(Int.toNat c)]'h.2).2 (e[(Int.toNat (a[(Int.toNat c)]'h.2).1)]'q))),u,fC,i,())))
 ((fI (c+(1:Int)))/\
 (t (a,b,(c+(1:Int)),d,(List.set e (Int.toNat (a[(Int.toNat c)]'h.2).1) (ite ((a[(Int.toNat c)]'h.2).2<(e[(Int.toNat (a[(Int.toNat c)]'h.2).1)]'q)) (a[(Int.toNat c)]'h.2).2 (e[(Int.toNat (a[(Int.toNat c)]'h.2).1)]'q))),f,g,i,()))))
 (LP (e,(0:Int),d,e,f,g,i,()) (fun s (a,b,c,d,e,f,g,())=>
 br ((decide (b<(101:Int))))
 (∃r:(((0:Int)<=b)/\((Int.toNat b)<(List.length a))),
 ((Int.toNat b)<(101:Nat))/\
 ((List.length a)=(101:Nat))/\
 br (((a[(Int.toNat b)]'r.2)==(1001:Int)))
 ((fI (b+(1:Int)))/\
 (s (a,(b+(1:Int)),c,d,e,f,g,())))
 (LP ((((List.length g):Nat):Int),a,b,c,d,e,f,b,(a[(Int.toNat b)]'r.2),(y8 tP e (b,(a[(Int.toNat b)]'r.2))),g,()) (fun x (a,b,c,d,e,f,g,i,j,l,m,())=>
 br (((decide (a>(1:Int)))==true))
 ((fI (a- (2:Int)))/\
 (((0:Int)<=(a- (2:Int)))/\((Int.toNat (a- (2:Int)))<(List.length m)))/\
 ∃n:((Int.toNat (a- (2:Int)))<(List.length m)),
 (fI (a- (1:Int)))/\
 (((0:Int)<=(a- (1:Int)))/\((Int.toNat (a- (1:Int)))<(List.length m)))/\
 ∃o:((Int.toNat (a- (1:Int)))<(List.length m)),
 (Nr.p ((m[(Int.toNat (a- (2:Int)))]'n).1.1,(m[(Int.toNat (a- (2:Int)))]'n).1.2,(m[(Int.toNat (a- (2:Int)))]'n).2,(m[(Int.toNat (a- (1:Int)))]'o).1.1,(m[(Int.toNat (a- (1:Int)))]'o).1.2,(m[(Int.toNat (a- (1:Int)))]'o).2,i,j,l,()))/\
 br ((Bool.not (jZ (((m[(Int.toNat (a- (2:Int)))]'n).1.1,(m[(Int.toNat (a- (2:Int)))]'n).1.2),(m[(Int.toNat (a- (2:Int)))]'n).2) (((m[(Int.toNat (a- (1:Int)))]'o).1.1,(m[(Int.toNat (a- (1:Int)))]'o).1.2),(m[(Int.toNat (a- (1:Int)))]'o).2) ((i,j),l))))
 ((fI (a- (1:Int)))/\
 (((0:Int)<=(a- (1:Int)))/\((a- (1:Int))<=(((List.length m):Nat):Int)))/\
 (x ((((List.length (List.take (Int.toNat (a- (1:Int))) m)):Nat):Int),b,c,d,e,f,g,i,j,l,(List.take (Int.toNat (a- (1:Int))) m),())))
 ((((List.length m)+(List.length (((i,j),l)::([]:List ((Int×Int)×Int)))))<=iR)/\
 (fI (c+(1:Int)))/\
 (s (b,(c+(1:Int)),d,e,f,g,(m++(((i,j),l)::([]:List ((Int×Int)×Int)))),()))))
 ((((List.length m)+(List.length (((i,j),l)::([]:List ((Int×Int)×Int)))))<=iR)/\
 (fI (c+(1:Int)))/\
 (s (b,(c+(1:Int)),d,e,f,g,(m++(((i,j),l)::([]:List ((Int×Int)×Int)))),()))))))
 ((k (a7.ptr 0 0) ((c7.bx ((a7.P5 tP c false)::[]) tI 101 d ((a7.B6 1 false)::[]))::((c7.sl (Ty.pair tP tI) g)::[])))))))))
 theorem a5B(l:List (Int×Int))(k:a7->List c7->Prop):awpG (m4 [(150,N9 [Nr])]) Tryz.prog kt 130 Tryz.f130 (Nw.args (l,())) (Nw.B2 (l,())) k=a0K l k:=by kernel_rfl
theorem a5C:(Tryz.f130.body.map Code.j3).getD true=true:=by kernel_rfl
def a0L(ch:List ((Int×Int)×Int))(k:a7->List c7->Prop):Prop:=
  (k (a7.fn (Go.Fn.func (156:Nat)) [] ((a7.ptr 1 0)::[])) ((c7.sl tC ch)::((c7.box ((a7.B6 0 false)::[]))::[])))
 theorem a5D(ch:List ((Int×Int)×Int))(k:a7->List c7->Prop):awpG (m4 []) Tryz.prog kt 145 Tryz.f145 (Nx.args (ch,())) (Nx.B2 (ch,())) k=a0L ch k:=by kernel_rfl
theorem a5E:(Tryz.f145.body.map Code.j3).getD true=true:=by kernel_rfl
def a0M(l:List (Int×Int))(a:List Int)(ch:List ((Int×Int)×Int))(k:a7->List c7->Prop):Prop:=
  (Nx.p (ch,()))/\
 (k (a7.fn (Go.Fn.func (156:Go.FuncId)) [] ((a7.ptr 2 0)::[])) ((c7.bx ((a7.P5 tL l false)::[]) tI 101 a ((a7.B6 1 false)::[]))::((c7.sl tC ch)::((c7.box ((a7.B6 1 false)::[]))::[]))))
 theorem a5F(l:List (Int×Int))(a:List Int)(ch:List ((Int×Int)×Int))(k:a7->List c7->Prop):awpG (m4 [(145,iV [Nx])]) Tryz.prog kt 114 Tryz.f114 (Ny.args (l,a,ch,())) (Ny.B2 (l,a,ch,())) k=a0M l a ch k:=by kernel_rfl
theorem a5G:(Tryz.f114.body.map Code.j3).getD true=true:=by kernel_rfl
def a0N(a b c d e f:Int)(k:a7->List c7->Prop):Prop:=
  (k (rB (decide (b<e))) [])
 theorem a5H(a b c d e f:Int)(k:a7->List c7->Prop):awpF (m4 []) Tryz.prog kt 132 false Tryz.f132 (Nz.args (a,b,c,d,e,f,())) (Nz.B2 (a,b,c,d,e,f,())) k=a0N a b c d e f k:=by kernel_rfl
theorem a5I:(Tryz.f132.body.map Code.j3).getD true=true:=by kernel_rfl
def a0O(l:List ((Int×Int)×Int))(k:a7->List c7->Prop):Prop:=
  ∃m:(((0:Int)<=(0:Int))/\((Int.toNat (0:Int))<(List.length l))),
 (((0:Int)<=(1:Int))/\((1:Int)<=(((List.length l):Nat):Int)))/\
 LP ((List.drop (Int.toNat (1:Int)) l),(((List.length (List.drop (Int.toNat (1:Int)) l)):Nat):Int),(0:Int),(0:Int),(0:Int),(0:Int),(l[(Int.toNat (0:Int))]'m.2).1.1,(l[(Int.toNat (0:Int))]'m.2).1.2,(l[(Int.toNat (0:Int))]'m.2).2,()) (fun n (a,b,c,d,e,f,g,i,j,())=>
 br ((decide (c<b)))
 (∃h:(((0:Int)<=c)/\((Int.toNat c)<(List.length a))),
 (Nz.p ((a[(Int.toNat c)]'h.2).1.1,(a[(Int.toNat c)]'h.2).1.2,(a[(Int.toNat c)]'h.2).2,g,i,j,()))/\
 br ((decide ((a[(Int.toNat c)]'h.2).1.2<i)))
 ((fI (c+(1:Int)))/\
 (n (a,b,(c+(1:Int)),d,e,f,(a[(Int.toNat c)]'h.2).1.1,(a[(Int.toNat c)]'h.2).1.2,(a[(Int.toNat c)]'h.2).2,())))
 ((fI (c+(1:Int)))/\
 (n (a,b,(c+(1:Int)),d,e,f,g,i,j,()))))
 ((k (a7.agg ((rI g)::((rI i)::((rI j)::[])))) [])))
 theorem a5J(l:List ((Int×Int)×Int))(k:a7->List c7->Prop):awpF (m4 [(132,N9 [Nz])]) Tryz.prog kt 131 false Tryz.f131 (NA.args (l,())) (NA.B2 (l,())) k=a0O l k:=by kernel_rfl
theorem a5K:(Tryz.f131.body.map Code.j3).getD true=true:=by kernel_rfl
def a5L(s:Int)(l:List (Int×Int))(a:List Int)(ch:List ((Int×Int)×Int))(k:a7->List c7->Prop):Prop:=
  (NA.p (ch,()))/\
 (k (rI (ite ((fC ch)>s) (fC ch) s)) ((c7.bx ((a7.P5 tL l false)::[]) tI 101 a ((a7.B6 1 false)::[]))::((c7.sl tC ch)::[])))
 theorem a9x(s:Int)(l:List (Int×Int))(a:List Int)(ch:List ((Int×Int)×Int))(k:a7->List c7->Prop):awpG (m4 [(131,N9 [NA])]) Tryz.prog kt 82 Tryz.f82 (v82.args (s,l,a,ch,())) (v82.B2 (s,l,a,ch,())) k=a5L s l a ch k:=by kernel_rfl
theorem a9y:(Tryz.f82.body.map Code.j3).getD true=true:=by kernel_rfl
def a5M(s:Int)(l:List (Int×Int))(h:List Int)(ch:List ((Int×Int)×Int))(k:a7->List c7->Prop):Prop:=
  ((List.length h)=(bZ Tryz.prog (202:Nat)))/\
 ((List.length (List.replicate (101:Nat) (Int.ofNat 0)))=(bZ Tryz.prog (202:Nat)))/\
 br (((h==(List.replicate (101:Nat) (Int.ofNat 0)))==true))
 (False)
 ((Ny.p (l,h,ch,()))/\
 LP ((((List.length ch):Nat):Int),(0:Int),ch,s,(0:Int),(0:Int),(0:Int),(0:Int),(0:Int),(0:Int),(0:Int),(0:Int),false,(0:Int),(0:Int),(0:Int),false,l,h,()) (fun w (a,b,c,d,e,f,g,i,j,l,m,n,o,p,q,r,s,t,u,())=>
 br ((decide (b<a)))
 ((((0:Int)<=b)/\((Int.toNat b)<(List.length c)))/\
 ∃v:((Int.toNat b)<(List.length c)),
 br (((c[(Int.toNat b)]'v).1.1==d))
 ((k (a7.I9 ((a7.agg ((rI (c[(Int.toNat b)]'v).1.1)::((rI (c[(Int.toNat b)]'v).1.2)::((rI (c[(Int.toNat b)]'v).2)::((rI (c[(Int.toNat b)]'v).1.1)::((rI (c[(Int.toNat b)]'v).1.2)::((rI (c[(Int.toNat b)]'v).2)::((rI (1:Int))::((rI (0:Int))::[])))))))))::((rB true)::[]))) ((c7.bx ((a7.P5 tP t false)::[]) tI 101 u ((a7.B6 1 false)::[]))::((c7.sl (Ty.pair tP tI) c)::[]))))
 (br (((decide ((c[(Int.toNat b)]'v).1.1>d))==true))
 (br (s)
 ((fI ((c[(Int.toNat b)]'v).1.1- d))/\
 (fI (d- p))/\
 (k (a7.I9 ((a7.agg ((rI p)::((rI q)::((rI r)::((rI (c[(Int.toNat b)]'v).1.1)::((rI (c[(Int.toNat b)]'v).1.2)::((rI (c[(Int.toNat b)]'v).2)::((rI ((c[(Int.toNat b)]'v).1.1- d))::((rI (d- p))::[])))))))))::((rB true)::[]))) ((c7.bx ((a7.P5 tP t false)::[]) tI 101 u ((a7.B6 1 false)::[]))::((c7.sl (Ty.pair tP tI) c)::[]))))
 (br ((decide ((c[(Int.toNat b)]'v).1.1>d)))
 ((k (a7.I9 ((a7.agg ((rI (0:Int))::((rI (0:Int))::((rI (0:Int))::((rI (0:Int))::((rI (0:Int))::((rI (0:Int))::((rI (0:Int))::((rI (0:Int))::[])))))))))::((rB false)::[]))) ((c7.bx ((a7.P5 tP t false)::[]) tI 101 u ((a7.B6 1 false)::[]))::((c7.sl (Ty.pair tP tI) c)::[]))))
 ((fI (b+(1:Int)))/\
 (w (a,(b+(1:Int)),c,d,e,f,g,i,j,l,m,n,o,(c[(Int.toNat b)]'v).1.1,(c[(Int.toNat b)]'v).1.2,(c[(Int.toNat b)]'v).2,true,t,u,())))))
 (br ((decide ((c[(Int.toNat b)]'v).1.1>d)))
 ((k (a7.I9 ((a7.agg ((rI (0:Int))::((rI (0:Int))::((rI (0:Int))::((rI (0:Int))::((rI (0:Int))::((rI (0:Int))::((rI (0:Int))::((rI (0:Int))::[])))))))))::((rB false)::[]))) ((c7.bx ((a7.P5 tP t false)::[]) tI 101 u ((a7.B6 1 false)::[]))::((c7.sl (Ty.pair tP tI) c)::[]))))
 ((fI (b+(1:Int)))/\
 (w (a,(b+(1:Int)),c,d,e,f,g,i,j,l,m,n,o,(c[(Int.toNat b)]'v).1.1,(c[(Int.toNat b)]'v).1.2,(c[(Int.toNat b)]'v).2,true,t,u,()))))))
 ((k (a7.I9 ((a7.agg ((rI (0:Int))::((rI (0:Int))::((rI (0:Int))::((rI (0:Int))::((rI (0:Int))::((rI (0:Int))::((rI (0:Int))::((rI (0:Int))::[])))))))))::((rB false)::[]))) ((c7.bx ((a7.P5 tP t false)::[]) tI 101 u ((a7.B6 1 false)::[]))::((c7.sl (Ty.pair tP tI) c)::[]))))))
 theorem a9z(s:Int)(l:List (Int×Int))(h:List Int)(ch:List ((Int×Int)×Int))(k:a7->List c7->Prop):awpG (m4 [(114,iV [Ny])]) Tryz.prog kt 81 Tryz.f81 (v81.args (s,l,h,ch,())) (v81.B2 (s,l,h,ch,())) k=a5M s l h ch k:=by kernel_rfl
theorem a9A:(Tryz.f81.body.map Code.j3).getD true=true:=by kernel_rfl
end Go.Abs.T1
end
section
open Go.Proofs
set_option maxRecDepth 100000
set_option linter.unusedVariables false
namespace Go.Abs.T1
def a5N(lo hi lots:Int)(a:List (List m9))(ts:List m9)(m:List (Nat×(Int×Int)×Int))(clk:Nat)(k:a7->List c7->Prop):Prop:=
  (fI ((1:Int)+lots))/\
 (fI (((1:Int)+lots)+(((List.length ts):Nat):Int)))/\
 (k (rI (((1:Int)+lots)+(((List.length ts):Nat):Int))) ((c7.box ((rI lo)::((rI hi)::((rI lots)::((a7.P5 (.slice tS) a false)::((a7.B6 1 false)::((a7.z8 2)::[])))))))::((c7.sl tS ts)::((c7.mp mB m clk)::[]))))
 theorem a9B(lo hi lots:Int)(a:List (List m9))(ts:List m9)(m:List (Nat×(Int×Int)×Int))(clk:Nat)(k:a7->List c7->Prop):awpG (m4 []) Tryz.prog kt 74 Tryz.f74 (BB.args (lo,hi,lots,a,ts,m,clk,())) (BB.B2 (lo,hi,lots,a,ts,m,clk,())) k=a5N lo hi lots a ts m clk k:=by kernel_rfl
theorem a9C:(Tryz.f74.body.map Code.j3).getD true=true:=by kernel_rfl
def a5O(lo hi lots:Int)(a:List (List m9))(ts:List m9)(m:List (Nat×(Int×Int)×Int))(clk:Nat)(k:a7->List c7->Prop):Prop:=
  (k (a7.fn (Go.Fn.func (128:Nat)) [] ((a7.ptr 3 0)::[])) ((c7.box ((rI lo)::((rI hi)::((rI lots)::((a7.P5 (.slice tS) a false)::((a7.B6 1 false)::((a7.z8 2)::[])))))))::((c7.sl tS ts)::((c7.mp mB m clk)::((c7.box ((a7.ptr 0 0)::[]))::[])))))
 theorem a9D(lo hi lots:Int)(a:List (List m9))(ts:List m9)(m:List (Nat×(Int×Int)×Int))(clk:Nat)(k:a7->List c7->Prop):awpG (m4 []) Tryz.prog kt 78 Tryz.f78 (XI.args (lo,hi,lots,a,ts,m,clk,())) (XI.B2 (lo,hi,lots,a,ts,m,clk,())) k=a5O lo hi lots a ts m clk k:=by kernel_rfl
theorem a9E:(Tryz.f78.body.map Code.j3).getD true=true:=by kernel_rfl
def a5P(a b:Int)(k:a7->List c7->Prop):Prop:=
  (k (rB (decide (a<b))) [])
 theorem a9F(a b:Int)(k:a7->List c7->Prop):awpF (m4 []) Tryz.prog kt 77 false Tryz.f77 (v77.args (a,b,())) (v77.B2 (a,b,())) k=a5P a b k:=by kernel_rfl
theorem a9G:(Tryz.f77.body.map Code.j3).getD true=true:=by kernel_rfl
def a5Q(l:List Int)(k:a7->List c7->Prop):Prop:=
  ∃g:(((0:Int)<=(0:Int))/\((Int.toNat (0:Int))<(List.length l))),
 (((0:Int)<=(1:Int))/\((1:Int)<=(((List.length l):Nat):Int)))/\
 LP ((l[(Int.toNat (0:Int))]'g.2),(List.drop (Int.toNat (1:Int)) l),(((List.length (List.drop (Int.toNat (1:Int)) l)):Nat):Int),(0:Int),()) (fun f (a,b,c,d,())=>
 br ((decide (d<c)))
 (∃e:(((0:Int)<=d)/\((Int.toNat d)<(List.length b))),
 (v77.p ((b[(Int.toNat d)]'e.2),a,()))/\
 br ((decide ((b[(Int.toNat d)]'e.2)<a)))
 ((fI (d+(1:Int)))/\
 (f ((b[(Int.toNat d)]'e.2),b,c,(d+(1:Int)),())))
 ((fI (d+(1:Int)))/\
 (f (a,b,c,(d+(1:Int)),()))))
 ((k (rI a) [])))
 theorem a9H(l:List Int)(k:a7->List c7->Prop):awpF (m4 [(77,N9 [v77])]) Tryz.prog kt 79 false Tryz.f79 (v79.args (l,())) (v79.B2 (l,())) k=a5Q l k:=by kernel_rfl
theorem a9I:(Tryz.f79.body.map Code.j3).getD true=true:=by kernel_rfl
def a5R(l:List Int)(k:a7->List c7->Prop):Prop:=
  ∀a:Bool,
 ∀b:((a=true)->(l=([]:List Int))),
 br (a)
 ((k (a7.B6 0 false) ((c7.sl tI ([]:List Int))::[])))
 ((((List.length ([]:List Int))+(List.length l))<=iR)/\
 (k (a7.B6 0 false) ((c7.sl tI (([]:List Int)++l))::[])))
 theorem a9J(l:List Int)(k:a7->List c7->Prop):awpF (m4 []) Tryz.prog kt 75 false Tryz.f75 (Tn.args (l,())) (Tn.B2 (l,())) k=a5R l k:=by kernel_rfl
theorem a9K:(Tryz.f75.body.map Code.j3).getD true=true:=by kernel_rfl
def a0P(l:List (List m9))(k:a7->List c7->Prop):Prop:=
  LP (l,(0:Int),l,(((List.length l):Nat):Int),(0:Int),()) (fun h (a,b,c,d,e,())=>
 br ((decide (e<d)))
 (∃f:(((0:Int)<=e)/\((Int.toNat e)<(List.length c))),
 (fI (b+(((List.length (c[(Int.toNat e)]'f.2)):Nat):Int)))/\
 br ((decide ((b+(((List.length (c[(Int.toNat e)]'f.2)):Nat):Int))<(0:Int))))
 (False)
 ((fI (e+(1:Int)))/\
 (h (a,(b+(((List.length (c[(Int.toNat e)]'f.2)):Nat):Int)),c,d,(e+(1:Int)),()))))
 ((((0:Int)<=b)/\(b<=(100000:Int)))/\
 LP (a,(((List.length a):Nat):Int),(0:Int),([]:List (Int×(Int×Int))),()) (fun i (a,b,c,d,())=>
 br ((decide (c<b)))
 (∃g:(((0:Int)<=c)/\((Int.toNat c)<(List.length a))),
 (((List.length d)+(List.length (a[(Int.toNat c)]'g.2)))<=iR)/\
 (fI (c+(1:Int)))/\
 (i (a,b,(c+(1:Int)),(d++(a[(Int.toNat c)]'g.2)),())))
 ((k (a7.B6 0 false) ((c7.sl tS d)::[]))))))
 theorem a5S(l:List (List m9))(k:a7->List c7->Prop):awpF (m4 [(147,HV tS)]) Tryz.prog kt 124 false Tryz.f124 (FL.args (l,())) (FL.B2 (l,())) k=a0P l k:=by kernel_rfl
theorem a5T:(Tryz.f124.body.map Code.j3).getD true=true:=by kernel_rfl
def a0Q(a b c:Int)(lo hi lots:Int)(d:List (List m9))(k:a7->List c7->Prop):Prop:=
  (fI (lots- (1:Int)))/\
 (PW.p ((0:Int),(lots- (1:Int)),(a::([]:List Int)),()))/\
 br (((Bool.not (Bool.not (D7 (0:Int) (lots- (1:Int)) (a::([]:List Int)))))==false))
 ((FK.p (b,c,(-(1000:Int):Int),(1000:Int),()))/\
 (k (rB (Bool.not (O5 b c (-(1000:Int):Int) (1000:Int)))) []))
 ((k (rB true) []))
 theorem a5U(a b c:Int)(lo hi lots:Int)(d:List (List m9))(k:a7->List c7->Prop):awpF (m4 [(72,N9 [PW]),(121,N9 [FK])]) Tryz.prog kt 122 false Tryz.f122 (Nt.args (a,b,c,lo,hi,lots,d,())) (Nt.B2 (a,b,c,lo,hi,lots,d,())) k=a0Q a b c lo hi lots d k:=by kernel_rfl
theorem a5V:(Tryz.f122.body.map Code.j3).getD true=true:=by kernel_rfl
def a0R(l:List m9)(lo hi lots:Int)(i:List (List m9))(k:a7->List c7->Prop):Prop:=
  LP (l,lo,hi,lots,i,(((List.length l):Nat):Int),(0:Int),()) (fun j (a,b,c,d,e,f,g,())=>
 br ((decide (g<f)))
 (∃h:(((0:Int)<=g)/\((Int.toNat g)<(List.length a))),
 (Nt.p ((a[(Int.toNat g)]'h.2).1,(a[(Int.toNat g)]'h.2).2.1,(a[(Int.toNat g)]'h.2).2.2,b,c,d,e,()))/\
 br ((O6 d ((a[(Int.toNat g)]'h.2).1,(a[(Int.toNat g)]'h.2).2.1,(a[(Int.toNat g)]'h.2).2.2)))
 ((k (rI g) []))
 ((fI (g+(1:Int)))/\
 (j (a,b,c,d,e,f,(g+(1:Int)),()))))
 ((k (rI (-(1:Int):Int)) [])))
 theorem a5W(l:List m9)(lo hi lots:Int)(i:List (List m9))(k:a7->List c7->Prop):awpF (m4 [(122,N9 [Nt])]) Tryz.prog kt 146 false Tryz.f146 (Nu.args (l,lo,hi,lots,i,())) (Nu.B2 (l,lo,hi,lots,i,())) k=a0R l lo hi lots i k:=by kernel_rfl
theorem a5X:(Tryz.f146.body.map Code.j3).getD true=true:=by kernel_rfl
def a0S(l:List m9)(lo hi lots:Int)(a:List (List m9))(k:a7->List c7->Prop):Prop:=
  (Nu.p (l,lo,hi,lots,a,()))/\
 (k (rB (decide ((indexOf (O6 lots) l)>=(0:Int)))) [])
 theorem a5Y(l:List m9)(lo hi lots:Int)(a:List (List m9))(k:a7->List c7->Prop):awpF (m4 [(146,N9 [Nu])]) Tryz.prog kt 123 false Tryz.f123 (Nv.args (l,lo,hi,lots,a,())) (Nv.B2 (l,lo,hi,lots,a,())) k=a0S l lo hi lots a k:=by kernel_rfl
theorem a5Z:(Tryz.f123.body.map Code.j3).getD true=true:=by kernel_rfl
def a50(lo hi lots:Int)(h:List (List m9))(k:a7->List c7->Prop):Prop:=
  (FK.p (lo,hi,(0:Int),(50:Int),()))/\
 br ((Bool.not (O5 lo hi (0:Int) (50:Int))))
 ((k (rI (3:Int)) []))
 ((PW.p ((1:Int),(6:Int),(lots::([]:List Int)),()))/\
 br (((Bool.not (Bool.not (D7 (1:Int) (6:Int) (lots::([]:List Int)))))==false))
 (br ((decide ((((List.length h):Nat):Int)>(4:Int))))
 ((k (rI (6:Int)) []))
 (LP ((0:Int),h,(((List.length h):Nat):Int),(0:Int),lo,hi,lots,h,()) (fun l (a,b,c,d,e,f,g,i,())=>
 br ((decide (d<c)))
 (∃j:(((0:Int)<=d)/\((Int.toNat d)<(List.length b))),
 (fI (a+(((List.length (b[(Int.toNat d)]'j.2)):Nat):Int)))/\
 br ((((((List.length (b[(Int.toNat d)]'j.2)):Nat):Int)==(0:Int))==false))
 (br ((decide ((a+(((List.length (b[(Int.toNat d)]'j.2)):Nat):Int))>(12:Int))))
 ((k (rI (6:Int)) []))
 ((fI (d+(1:Int)))/\
 (l ((a+(((List.length (b[(Int.toNat d)]'j.2)):Nat):Int)),b,c,(d+(1:Int)),e,f,g,i,()))))
 ((k (rI (6:Int)) [])))
 ((FL.p (i,()))/\
 (Nv.p ((List.flatten i),e,f,g,i,()))/\
 br ((List.any (List.flatten i) (O6 g)))
 ((k (rI (3:Int)) []))
 ((k (rI (0:Int)) []))))))
 ((k (rI (6:Int)) [])))
 theorem a9L(lo hi lots:Int)(h:List (List m9))(k:a7->List c7->Prop):awpF (m4 [(121,N9 [FK]),(72,N9 [PW]),(124,N9 [FL]),(123,N9 [Nv])]) Tryz.prog kt 71 false Tryz.f71 (v71.args (lo,hi,lots,h,())) (v71.B2 (lo,hi,lots,h,())) k=a50 lo hi lots h k:=by kernel_rfl
theorem a9M:(Tryz.f71.body.map Code.j3).getD true=true:=by kernel_rfl
end Go.Abs.T1
end
section
namespace Go.Abs
end Go.Abs
end
section
open Go.Proofs
set_option maxRecDepth 100000
set_option linter.unusedVariables false
namespace Go.Abs.T1
theorem o7:Tryz.prog.follows .mixedOrders=true:=by kernel_rfl
theorem cO{α:Type}(p:α->Bool):∀ (l:List α),(∀x∈l,p x=false)->indexOf p l= -1
 |[],_=>rfl
 |x::l,h=>by
  unfold indexOf;rw[h x (by simp),cO p l (fun y a=>h y (List.mem_cons_of_mem _ a))]
  simp
theorem cP{α:Type}(p:α->Bool):∀ (l:List α) (i:Nat) (hi:i<l.length),(∀x∈l.take i,p x=false)->p l[i]=true->indexOf p l=(i:Int)
 |x::l,0,_,_,h=>by
  unfold indexOf;simp only[List.getElem_cons_zero]at h;rw[h];rfl
 |x::l,i+1,hi,a,b=>by
  unfold indexOf;rw[a x (by simp),cP p l i (by simpa using hi) (fun y c=>a y (by simp[c])) (by simpa using b)]
  simp only[Bool.false_eq_true,if_false];rw[if_neg (by omega)]
  omega
theorem nD{α:Type}(p:α->Bool)(l:List α):decide (indexOf p l>=0)=l.any p:=by
 induction l with
 |nil=>simp[indexOf]
 |cons x l a=>
  unfold indexOf;rw[List.any_cons];cases d:p x with
  |true=>simp
  |false=>
   simp only[Bool.false_eq_true,if_false,Bool.false_or];rw[<-a];by_cases h:indexOf p l<0
   ·rw[if_pos h];have:¬indexOf p l>=0:=by omega
    simp[this]
   ·rw[if_neg h];have b:indexOf p l>=0:=by omega
    have c:indexOf p l+1>=0:=by omega
    simp[b,c]
theorem W1{α:Type}(p:α->Bool)(l:List α)(i:Nat)(hi:i<l.length)(h:∀x∈l.take i,p x=false)(b:p l[i]=false):∀x∈l.take (i+1),p x=false:=by
 intro x a;rw[List.take_succ_eq_append_getElem hi,List.mem_append]at a;rcases a with a|a
 ·exact h x a
 ·simp only[List.mem_singleton]at a;subst a;exact b
theorem k12(e:Good Tryz.prog (m4 [])):v12.Kept Tryz.prog 12:=by
 rintro⟨lo,hi,a,b,⟨⟩⟩ d k c;change Int at lo hi a b;refine J5 o7 e Tryz.func12 a83 (Eq.mpr (a82 lo hi a b k) ?_);replace c:k (rB (bF lo hi a b)) []:=c;unfold a4U;rw[jM];refine⟨fun h=>?_,fun h=>?_⟩
 ·rw[jM];refine⟨fun f=>?_,fun f=>?_⟩
  ·have:bF lo hi a b=decide (hi<=b):=by simp only[bF,decide_eq_decide];omega
   rwa [this]at c
  ·have:bF lo hi a b=false:=by simp only[bF,decide_eq_false_iff_not];omega
   rwa [this]at c
 ·have:bF lo hi a b=false:=by simp only[bF,decide_eq_false_iff_not];omega
  rwa [this]at c
theorem k13(o:Good Tryz.prog (m4 [])):v13.Kept Tryz.prog 13:=by
 rintro⟨lo,hi,lots,a,⟨⟩⟩ b k d;change Int at lo hi lots;change List (List m9)at a;refine J5 o7 o Tryz.func13 a85 (Eq.mpr (a84 lo hi lots a k) ?_);replace d:k (.B6 0 false) [.sl tS a.flatten]:=d;unfold a4V;obtain⟨m,f⟩:=b;have m:a.length<=4:=m;have f:∀l∈a,l.length<=12:=f;refine Loop.upto (fun i=>((i:Int),lo,hi,lots,a,(a.take i).flatten,())) (fun i=>(a.take i).flatten.length<=12*i) a.length rfl (by simp) ?_ ?_
 ·intro j p g n c;dsimp only;rw[e9];refine⟨fun _=>?_,fun h=>absurd g (by omega)⟩
  try simp only[Int.toNat_natCast]
  have q:=f _ (List.getElem_mem g);refine⟨⟨by omega,by omega⟩,by simp only[iR];omega,m5 (by omega) (by omega),?_⟩
  have e:(a.take (j+1)).flatten=(a.take j).flatten++a[j]:=by rw[List.take_succ_eq_append_getElem g,List.flatten_append,List.flatten_cons,List.flatten_nil,List.append_nil]
  rw[<-e];exact c (by rw[e,List.length_append];omega)
 ·intro K r;dsimp only;rw[e9];refine⟨fun h=>absurd h (by omega),fun _=>?_⟩
  rw[List.take_length];exact d
theorem k17(o:Good Tryz.prog (m4 [])):v17.Kept Tryz.prog 17:=by
 rintro⟨l,i,⟨⟩⟩ b k c;change List Int at l;change Int at i;refine J5 o7 o Tryz.func17 a87 (Eq.mpr (a86 l i k) ?_);replace c:k (rI (w8 l i)) []:=c;unfold a4W;obtain⟨d,f,j,m⟩:=b;have d:∀y∈l,0<=y/\y<=65535:=d;have f:0<=i:=f;have j:i<=1000:=j;have m:l.length<=30:=m;rw[Ix];refine⟨fun h=>?_,fun h=>?_⟩
 ·have p:l=[]:=List.eq_nil_of_length_eq_zero (by omega)
  have:w8 l i=0:=by simp[w8,p]
  rwa [this]at c
 ·have a:0<l.length:=by omega
  have q:=Int.emod_nonneg i (show((l.length:Nat):Int)≠0 by omega)
  have r:=Int.emod_lt_of_pos i (show 0<((l.length:Nat):Int)by omega)
  refine⟨⟨f,by omega⟩,⟨q,by omega⟩,?_,?_⟩
  ·have:=d _ (List.getElem_mem (show(i % ((l.length:Nat):Int)).toNat<l.length by omega))
   exact m5 (by omega) (by omega)
  ·have:w8 l i=l[(i % ((l.length:Nat):Int)).toNat]'(by omega):=by
    have g:l≠ []:=fun e=>by rw[e]at a;simp at a
    unfold w8;rw[if_neg g];have s:(i % ((l.length:Nat):Int)).toNat=i.toNat % l.length:=by
     obtain⟨n,rfl⟩:∃n:Nat,i=n:=⟨i.toNat,by omega⟩
     rw[<-Int.natCast_emod,Int.toNat_natCast,Int.toNat_natCast]
    simp only[s];rw[List.getD_eq_getElem?_getD,List.getElem?_eq_getElem (Nat.mod_lt _ a)];rfl
   rwa [this]at c
theorem k18(e:Good Tryz.prog (m4 [])):v18.Kept Tryz.prog 18:=by
 rintro⟨a,b,⟨⟩⟩ d k c;change Int at a b;refine J5 o7 e Tryz.func18 a89 (Eq.mpr (a88 a b k) ?_);replace c:k (.agg [rI a,rI b]) []:=c;unfold a4X;exact c
theorem a9N(c:Good Tryz.prog (m4 [])):JM.Kept Tryz.prog 126:=by
 rintro⟨n,lo,hi,⟨⟩⟩ b k a;change Int at n lo hi;refine J5 o7 c Tryz.func126 a4Z (Eq.mpr (a4Y n lo hi k) ?_);replace a:k (rB (I8 lo hi n)) []:=a;unfold a0w;rw[T4];refine⟨fun h=>?_,fun h=>?_⟩
 ·have:I8 lo hi n=decide (n>hi):=by simp only[I8,decide_eq_decide];omega
  rwa [this]at a
 ·have:I8 lo hi n=true:=by simp[I8,h]
  rwa [this]at a
theorem a9O(c:Good Tryz.prog (m4 [])):Nm.Kept Tryz.prog 143:=by
 rintro⟨n,lo,hi,⟨⟩⟩ b k a;change Int at n lo hi;refine J5 o7 c Tryz.func143 a41 (Eq.mpr (a40 n lo hi k) ?_);replace a:k (rB (I8 lo hi n)) []:=a;unfold a0x;rw[T4];refine⟨fun h=>?_,fun h=>?_⟩
 ·have:I8 lo hi n=decide (n>hi):=by simp only[I8,decide_eq_decide];omega
  rwa [this]at a
 ·have:I8 lo hi n=true:=by simp[I8,h]
  rwa [this]at a
theorem a53(g:Good Tryz.prog (m4 [(126,N9 [JM])])):CF.Kept Tryz.prog 148:=by
 rintro⟨l,lo,hi,⟨⟩⟩ b k d;change List Int at l;change Int at lo hi;refine J5 o7 g Tryz.func148 a0y (Eq.mpr (a13 l lo hi k) ?_);replace d:k (rI (indexOf (I8 lo hi) l)) []:=d;unfold Vn;have m:l.length<=1152921504606846976:=b;refine Loop.upto (fun i=>(l,lo,hi,((l.length:Nat):Int),(i:Int),())) (fun i=>∀y∈l.take i,I8 lo hi y=false) l.length rfl (by simp) ?_ ?_
 ·intro j n e a c;dsimp only;rw[e9];refine⟨fun _=>?_,fun h=>absurd e (by omega)⟩
  try simp only[Int.toNat_natCast]
  refine⟨⟨by omega,by omega⟩,trivial,?_⟩
  refine L0 (fun h=>?_) (fun h=>⟨m5 (by omega) (by omega),c (W1 _ _ _ e a h)⟩)
  have:indexOf (I8 lo hi) l=(j:Int):=cP _ l j e a h;rwa [this]at d
 ·intro K f;dsimp only;rw[e9];refine⟨fun h=>absurd h (by omega),fun _=>?_⟩
  rw[List.take_length]at f;have:indexOf (I8 lo hi) l= -1:=cO _ l f;rwa [this]at d
theorem a54(c:Good Tryz.prog (m4 [(148,N9 [CF])])):CG.Kept Tryz.prog 125:=by
 rintro⟨l,lo,hi,⟨⟩⟩ a k b;change List Int at l;change Int at lo hi;refine J5 o7 c Tryz.func125 a0z (Eq.mpr (a14 l lo hi k) ?_);replace b:k (rB (D7 lo hi l)) []:=b;unfold Vo;refine⟨a,?_⟩;have:decide (indexOf (I8 lo hi) l>=0)=D7 lo hi l:=nD _ l;rwa [this]
theorem a55(g:Good Tryz.prog (m4 [(143,N9 [Nm])])):CH.Kept Tryz.prog 148:=by
 rintro⟨l,lo,hi,⟨⟩⟩ b k d;change List Int at l;change Int at lo hi;refine J5 o7 g Tryz.func148 a0y (Eq.mpr (a15 l lo hi k) ?_);replace d:k (rI (indexOf (I8 lo hi) l)) []:=d;unfold Vp;have m:l.length<=1152921504606846976:=b;refine Loop.upto (fun i=>(l,lo,hi,((l.length:Nat):Int),(i:Int),())) (fun i=>∀y∈l.take i,I8 lo hi y=false) l.length rfl (by simp) ?_ ?_
 ·intro j n e a c;dsimp only;rw[e9];refine⟨fun _=>?_,fun h=>absurd e (by omega)⟩
  try simp only[Int.toNat_natCast]
  refine⟨⟨by omega,by omega⟩,trivial,?_⟩
  refine L0 (fun h=>?_) (fun h=>⟨m5 (by omega) (by omega),c (W1 _ _ _ e a h)⟩)
  have:indexOf (I8 lo hi) l=(j:Int):=cP _ l j e a h;rwa [this]at d
 ·intro K f;dsimp only;rw[e9];refine⟨fun h=>absurd h (by omega),fun _=>?_⟩
  rw[List.take_length]at f;have:indexOf (I8 lo hi) l= -1:=cO _ l f;rwa [this]at d
theorem a56(c:Good Tryz.prog (m4 [(148,N9 [CH])])):CI.Kept Tryz.prog 125:=by
 rintro⟨l,lo,hi,⟨⟩⟩ a k b;change List Int at l;change Int at lo hi;refine J5 o7 c Tryz.func125 a0z (Eq.mpr (a16 l lo hi k) ?_);replace b:k (rB (D7 lo hi l)) []:=b;unfold Vq;refine⟨a,?_⟩;have:decide (indexOf (I8 lo hi) l>=0)=D7 lo hi l:=nD _ l;rwa [this]
theorem k72(c:Good Tryz.prog (m4 [(125,N9 [CG])])):PW.Kept Tryz.prog 72:=by
 rintro⟨lo,hi,l,⟨⟩⟩ a k b;change Int at lo hi;change List Int at l;refine J5 o7 c Tryz.func72 a9b (Eq.mpr (a9a lo hi l k) ?_);replace b:k (rB (Bool.not (D7 lo hi l))) []:=b;unfold a42;exact⟨a,b⟩
theorem a9P(c:Good Tryz.prog (m4 [(125,N9 [CI])])):vW.Kept Tryz.prog 108:=by
 rintro⟨lo,hi,l,⟨⟩⟩ a k b;change Int at lo hi;change List Int at l;refine J5 o7 c Tryz.func108 a44 (Eq.mpr (a43 lo hi l k) ?_);replace b:k (rB (Bool.not (D7 lo hi l))) []:=b;unfold a0A;exact⟨a,b⟩
theorem Iy{a d:Int}{A B:Nat}(b:a.natAbs<=A)(c:d.natAbs<=B): -((A*B:Nat):Int)<=a*d/\a*d<=((A*B:Nat):Int):=by
 have e:=Int.natAbs_mul a d;have f:=Nat.mul_le_mul b c;omega
theorem uP(lo hi n:Int):D7 lo hi [n]=I8 lo hi n:=by simp[D7]
theorem a9Q(e:Good Tryz.prog (m4 [(72,N9 [PW])])):FK.Kept Tryz.prog 121:=by
 rintro⟨lo,hi,a,b,⟨⟩⟩ d k c;change Int at lo hi a b;refine J5 o7 e Tryz.func121 a46 (Eq.mpr (a45 lo hi a b k) ?_);replace c:k (rB (O5 lo hi a b)) []:=c;unfold a0B;refine⟨by show(2:Nat)<=oV;decide,?_⟩
 rw[Vm];refine⟨fun h=>?_,fun h=>?_⟩
 ·have:O5 lo hi a b=decide (lo<=hi):=by unfold O5;rw[h];rfl
  rwa [this]at c
 ·have:O5 lo hi a b=false:=by unfold O5;rw[h];rfl
  rwa [this]at c
theorem k11(l:Good Tryz.prog (m4 [])):v11.Kept Tryz.prog 11:=by
 rintro⟨a,b,c,d,⟨⟩⟩ e k f;change Int at a b c d;refine J5 o7 l Tryz.func11 a9d (Eq.mpr (a9c a b c d k) ?_);replace f:k (rB (eT a b c d)) []:=f;unfold a47;obtain⟨g,h,i,j⟩:=e;have g: -1000000<=a/\a<=1000000:=g;have h: -1000000<=b/\b<=1000000:=h;have i: -1000000<=c/\c<=1000000:=i;have j: -1000000<=d/\d<=1000000:=j;have m:=Iy (a:=a) (d:=d) (A:=1000000) (B:=1000000) (by omega) (by omega)
 have n:=Iy (a:=c) (d:=b) (A:=1000000) (B:=1000000) (by omega) (by omega)
 exact⟨m5 (by omega) (by omega),m5 (by omega) (by omega),f⟩
theorem k10(s:Good Tryz.prog (m4 [])):v10.Kept Tryz.prog 10:=by
 rintro⟨l,m,⟨⟩⟩ f k n;change List Int at l m;refine J5 o7 s Tryz.func10 a9f (Eq.mpr (a9e l m k) ?_);replace n:k (.B6 0 false) [.sl tL (j4 l m)]:=n;unfold a48;obtain⟨p,o,q⟩:=f;have p:l.length<=100:=p;have o:∀y∈m,0<=y/\y<=65535:=o;have q:m.length<=30:=q;refine Loop.upto (fun i=>(l,m,(i:Int),(List.range i).map (fun(i:Nat)=>(l.getD i 0,if m=[]then 0 else m.getD (i % m.length) 0 % 1001)),())) (fun i=>True) l.length rfl trivial ?_ ?_
 ·intro j t g r a;dsimp only;rw[e9];refine⟨fun _=>?_,fun h=>absurd g (by omega)⟩
  try simp only[Int.toNat_natCast]
  have u:l.getD j 0=l[j]:=by rw[List.getD_eq_getElem?_getD,List.getElem?_eq_getElem g];rfl
  rw[List.range_succ,List.map_append,List.map_cons,List.map_nil,u]at a;rw[e9];refine⟨fun h=>?_,fun h=>?_⟩
  ·have b:0<m.length:=by omega
   have c:m≠ []:=fun e=>by rw[e]at b;simp at b
   have v:((j:Int) % ((m.length:Nat):Int))=((j % m.length:Nat):Int):=by simp
   have d:=Nat.mod_lt j b;rw[if_neg c]at a;have w:m.getD (j % m.length) 0=m[j % m.length]:=by rw[List.getD_eq_getElem?_getD,List.getElem?_eq_getElem d];rfl
   rw[w]at a;have x:=o _ (List.getElem_mem d);simp only[v,Int.toNat_natCast];refine⟨⟨by omega,by omega⟩,⟨by omega,d⟩,m5 (by omega) (by omega),⟨by omega,by omega⟩,⟨by omega,g⟩,?_,m5 (by omega) (by omega),a trivial⟩
   simp only[iR,List.length_map,List.length_range,List.length_cons,List.length_nil];omega
  ·have c:m=[]:=List.eq_nil_of_length_eq_zero (by omega)
   rw[if_pos c]at a;refine⟨⟨by omega,g⟩,?_,m5 (by omega) (by omega),a trivial⟩
   simp only[iR,List.length_map,List.length_range,List.length_cons,List.length_nil];omega
 ·intro K z;dsimp only;rw[e9];refine⟨fun h=>absurd h (by omega),fun _=>?_⟩
  exact n
theorem a9T(e:Good Tryz.prog (m4 [(108,N9 [vW])])):Nn.Kept Tryz.prog 149:=by
 rintro⟨a,b,⟨⟩⟩ d k c;change Int at a b;refine J5 o7 e Tryz.func149 a5a (Eq.mpr (a49 a b k) ?_);replace c:k (rB (P4 (a,b))) []:=c;unfold a0C;refine⟨by show(1:Nat)<=oV;decide,?_⟩
 rw[Vl];refine⟨fun h=>?_,fun h=>?_⟩
 ·refine⟨by show(1:Nat)<=oV;decide,?_⟩
  have:P4 (a,b)=Bool.not (Bool.not (D7 0 1000 [b])):=by
   unfold P4;rw[Bool.not_not]at h ⊢;rw[h,Bool.false_or]
  rwa [this]at c
 ·have:P4 (a,b)=true:=by
   unfold P4;rw[Bool.not_not]at h;rw[h,Bool.true_or]
  rwa [this]at c
theorem a9U(g:Good Tryz.prog (m4 [(149,N9 [Nn])])):No.Kept Tryz.prog 144:=by
 rintro⟨l,⟨⟩⟩ b k d;change List (Int×Int)at l;refine J5 o7 g Tryz.func144 a5c (Eq.mpr (a5b l k) ?_);replace d:k (rI (indexOf P4 l)) []:=d;unfold a0D;have m:l.length<=1000:=b;refine Loop.upto (fun i=>(l,((l.length:Nat):Int),(i:Int),())) (fun i=>∀y∈l.take i,P4 y=false) l.length rfl (by simp) ?_ ?_
 ·intro j n e a c;dsimp only;rw[e9];refine⟨fun _=>?_,fun h=>absurd e (by omega)⟩
  try simp only[Int.toNat_natCast]
  refine⟨⟨by omega,by omega⟩,trivial,?_⟩
  refine L0 (fun h=>?_) (fun h=>⟨m5 (by omega) (by omega),c (W1 _ _ _ e a h)⟩)
  have:indexOf P4 l=(j:Int):=cP _ l j e a h;rwa [this]at d
 ·intro K f;dsimp only;rw[e9];refine⟨fun h=>absurd h (by omega),fun _=>?_⟩
  rw[List.take_length]at f;have:indexOf P4 l= -1:=cO _ l f;rwa [this]at d
theorem a9V(c:Good Tryz.prog (m4 [(144,N9 [No])])):Np.Kept Tryz.prog 111:=by
 rintro⟨l,⟨⟩⟩ a k b;change List (Int×Int)at l;refine J5 o7 c Tryz.func111 a5e (Eq.mpr (a5d l k) ?_);replace b:k (rB (l.any P4)) []:=b;unfold a0E;refine⟨a,?_⟩;have:decide (indexOf P4 l>=0)=l.any P4:=nD _ l;rwa [this]
theorem a9W(e:Good Tryz.prog (m4 [(108,N9 [vW]),(111,N9 [Np])])):Nq.Kept Tryz.prog 129:=by
 rintro⟨l,⟨⟩⟩ a k b;change List (Int×Int)at l;refine J5 o7 e Tryz.func129 a5g (Eq.mpr (a5f l k) ?_);replace b:k (rI (G4 l)) []:=b;unfold a0F;have c:l.length<=1000:=a;refine⟨by show(1:Nat)<=oV;decide,?_⟩
 rw[Bool.not_not];refine L0 (fun h=>?_) (fun h=>⟨c,L0 (fun d=>?_) (fun d=>?_)⟩)
 ·have:G4 l=6:=by unfold G4;rw[h];rfl
  rwa [this]at b
 ·have:G4 l=3:=by unfold G4;rw[h,d];rfl
  rwa [this]at b
 ·have:G4 l=0:=by unfold G4;rw[h,d];rfl
  rwa [this]at b
theorem a9X(p:Good Tryz.prog (m4 [])):Nr.Kept Tryz.prog 150:=by
 rintro⟨a,b,c,d,e,f,g,h,i,⟨⟩⟩ j k l;change Int at a b c d e f g h i;refine J5 o7 p Tryz.func150 a5i (Eq.mpr (a5h a b c d e f g h i k) ?_);replace l:k (rB (jZ ((a,b),c) ((d,e),f) ((g,h),i))) []:=l;unfold a0G;obtain⟨m,n,o⟩:=j;have m:(0<=a/\a<=100)/\(0<=b/\b<=1001):=m;have n:(0<=d/\d<=100)/\(0<=e/\e<=1001):=n;have o:(0<=g/\g<=100)/\(0<=h/\h<=1001):=o;have q:=Iy (a:=e- b) (d:=g- a) (A:=1001) (B:=100) (by omega) (by omega)
 have r:=Iy (a:=h- b) (d:=d- a) (A:=1001) (B:=100) (by omega) (by omega)
 exact⟨m5 (by omega) (by omega),m5 (by omega) (by omega),m5 (by omega) (by omega),m5 (by omega) (by omega),m5 (by omega) (by omega),m5 (by omega) (by omega),l⟩
theorem a9Y(A:Good Tryz.prog (m4 [])):Ns.Kept Tryz.prog 109:=by
 rintro⟨a,b,⟨⟩⟩ g k j;change Int at a b;refine J5 o7 A Tryz.func109 a5k (Eq.mpr (a5j a b k) ?_);replace j:k (.agg [rI (kT a b),rI (kU a b)]) []:=j;unfold a0H;obtain⟨e,s,t,u⟩:=g;have e:0<=a:=e;have s:a<=10000000:=s;have t:1<=b:=t;have u:b<=10000000:=u;refine⟨m5 (by omega) (by omega),?_⟩
 refine Loop.intro (fun x=>x.1=a/\x.2.1=b/\0<=x.2.2.1/\0<=x.2.2.2.1/\Int.gcd x.2.2.1 x.2.2.2.1=Int.gcd a b/\x.2.2.2.2.1=0/\x.2.2.2.2.2.1=0) (fun x=>x.2.2.2.1.toNat) ?_ ?_
 ·rintro⟨x0,f,x2,c,B,C,⟨⟩⟩ K ⟨o,p,l,v,q,w,y⟩ D;change x0=a at o;change f=b at p;change 0<=x2 at l;change 0<=c at v;change Int.gcd x2 c=Int.gcd a b at q;change B=0 at w;change C=0 at y;dsimp only;rw[e9];refine⟨fun h=>⟨⟨l,h⟩,D _ ⟨o,p,v,Int.emod_nonneg _ (by omega),?_,w,y⟩ ?_⟩,fun h=>?_⟩
  ·show Int.gcd c (x2 % c)=Int.gcd a b;rw[<-q];obtain⟨z,rfl⟩:∃n:Nat,x2=n:=⟨x2.toNat,by omega⟩
   obtain⟨m,rfl⟩:∃n:Nat,c=n:=⟨c.toNat,by omega⟩
   rw[<-Int.natCast_emod];show Nat.gcd m (z % m)=Nat.gcd z m;rw[Nat.gcd_comm m,<-Nat.gcd_rec,Nat.gcd_comm]
  ·show(x2 % c).toNat<c.toNat;have:=Int.emod_lt_of_pos x2 h;have:=Int.emod_nonneg x2 (show c≠0 by omega)
   omega
  ·have r:c=0:=by omega
   subst r;have i:x2=(Int.gcd a b:Int):=by rw[<-q,Int.gcd_zero_right];omega
   have d:0<x2:=by
    have:Int.gcd a b≠0:=by rw[Ne,Int.gcd_eq_zero_iff];omega
    omega
   subst o p;have e:0<=x0:=e;have G:=Int.ediv_nonneg e l;have H:=Int.ediv_le_self x2 e;have q3:=Int.ediv_nonneg (show 0<=f by omega) l
   have q4:=Int.ediv_le_self x2 (show 0<=f by omega)
   refine⟨⟨e,d,m5 (by omega) (by omega)⟩,⟨by omega,d,m5 (by omega) (by omega)⟩,?_⟩
   have E:kT x0 f=x0/x2:=by unfold kT;rw[i]
   have F:kU x0 f=f/x2:=by unfold kU;rw[i]
   rw[E,F]at j;exact j
 ·refine⟨rfl,rfl,?_,by show(0:Int)<=b;omega,?_,rfl,rfl⟩
  ·show(0:Int)<=if-a>a then-a else a
   split<;>omega
  ·show Int.gcd (if-a>a then-a else a) b=Int.gcd a b
   split
   ·rw[Int.neg_gcd]
   ·rfl
end Go.Abs.T1
end
section
open Go.Proofs
set_option maxRecDepth 100000
set_option linter.unusedVariables false
namespace Go.Abs.T1
theorem k74(f:Good Tryz.prog (m4 [])):BB.Kept Tryz.prog 74:=by
 rintro⟨lo,hi,lots,b,ts,m,clk,⟨⟩⟩ a k g;change Int at lo hi lots;change List (List m9)at b;change List m9 at ts;change List (Nat×(Int×Int)×Int)at m;change Nat at clk;refine aM o7 f Tryz.func74 a9C (Eq.mpr (a9B lo hi lots b ts m clk k) ?_);unfold a5N;obtain⟨c,d,e⟩:=a;have c:0<=lots:=c;have d:lots<=6:=d;have e:ts.length<=12:=e;exact⟨m5 (by omega) (by omega),m5 (by omega) (by omega),g⟩
theorem k78(c:Good Tryz.prog (m4 [])):XI.Kept Tryz.prog 78:=by
 rintro⟨lo,hi,lots,a,ts,m,clk,⟨⟩⟩ b k d;change Int at lo hi lots;change List (List m9)at a;change List m9 at ts;change List (Nat×(Int×Int)×Int)at m;change Nat at clk;refine aM o7 c Tryz.func78 a9E (Eq.mpr (a9D lo hi lots a ts m clk k) ?_);unfold a5O;exact d
theorem k77(e:Good Tryz.prog (m4 [])):v77.Kept Tryz.prog 77:=by
 rintro⟨a,b,⟨⟩⟩ d k c;change Int at a b;refine J5 o7 e Tryz.func77 a9G (Eq.mpr (a9F a b k) ?_);replace c:k (rB (decide (a<b))) []:=c;unfold a5P;exact c
theorem Sd(a:Int)(l:List Int):CL (a::l)=l.foldl (fun a b=>if b<a then b else a) a:=by
 show List.foldl _ (if a<a then a else a) l=_
 rw[if_neg (by omega)]
theorem k79(q:Good Tryz.prog (m4 [(77,N9 [v77])])):v79.Kept Tryz.prog 79:=by
 rintro⟨l,⟨⟩⟩ c k g;change List Int at l;refine J5 o7 q Tryz.func79 a9I (Eq.mpr (a9H l k) ?_);replace g:k (rI (CL l)) []:=g;unfold a5Q;obtain⟨m,n⟩:=c;have m:1<=l.length:=m;have n:l.length<=1000:=n;cases l with
 |nil=>simp at m
 |cons a l=>
  rw[Sd]at g;refine⟨⟨by omega,by simp⟩,⟨by omega,by simp only[List.length_cons];omega⟩,?_⟩
  show Loop _ (a,(l,(((l.length:Nat):Int),(0,()))));simp only[List.length_cons]at n;refine Loop.upto (fun i=>((l.take i).foldl (fun a b=>if b<a then b else a) a,l,((l.length:Nat):Int),(i:Int),())) (fun i=>True) l.length rfl trivial ?_ ?_
  ·intro j r o p d;dsimp only;rw[e9];refine⟨fun _=>?_,fun h=>absurd o (by omega)⟩
   try simp only[Int.toNat_natCast]
   have e:(l.take (j+1)).foldl (fun a b=>if b<a then b else a) a=if l[j]<(l.take j).foldl (fun a b=>if b<a then b else a) a then l[j]else(l.take j).foldl (fun a b=>if b<a then b else a) a:=by
    rw[List.take_succ_eq_append_getElem o,List.foldl_append];rfl
   have f:=d trivial;rw[e]at f;refine⟨⟨by omega,o⟩,trivial,?_⟩
   rw[e9];refine⟨fun h=>⟨m5 (by omega) (by omega),?_⟩,fun h=>⟨m5 (by omega) (by omega),?_⟩⟩
   ·rw[if_pos h]at f;exact f
   ·rw[if_neg h]at f;exact f
  ·intro K s;dsimp only;rw[e9];refine⟨fun h=>absurd h (by omega),fun _=>?_⟩
   rw[List.take_length];exact g
theorem k75(d:Good Tryz.prog (m4 [])):Tn.Kept Tryz.prog 75:=by
 rintro⟨l,⟨⟩⟩ a k c;change List Int at l;refine J5 o7 d Tryz.func75 a9K (Eq.mpr (a9J l k) ?_);replace c:k (.B6 0 false) [.sl tI l]:=c;unfold a5R;have f:l.length<=1000:=a;rintro b e;refine L0 (fun h=>?_) (fun h=>⟨by simp only[iR,List.length_nil];omega,c⟩)
 rw[e h]at c;exact c
theorem P7{α:Type}{l:List (List α)}{j:Nat}(a:j<l.length):(l.take (j+1)).flatten=(l.take j).flatten++l[j]:=by
 rw[List.take_succ_eq_append_getElem a,List.flatten_append,List.flatten_cons,List.flatten_nil,List.append_nil]
theorem a9Z(p:Good Tryz.prog (m4 [(147,HV tS)])):FL.Kept Tryz.prog 124:=by
 rintro⟨l,⟨⟩⟩ c k g;change List (List m9)at l;refine J5 o7 p Tryz.func124 a5T (Eq.mpr (a5S l k) ?_);replace g:k (.B6 0 false) [.sl tS l.flatten]:=g;unfold a0P;obtain⟨n,f⟩:=c;have n:l.length<=4:=n;have f:∀y∈l,y.length<=12:=f;refine Loop.upto (fun i=>(l,(((l.take i).flatten.length:Nat):Int),l,((l.length:Nat):Int),(i:Int),())) (fun i=>(l.take i).flatten.length<=12*i) l.length rfl (by simp) ?_ ?_
 ·intro j m a d b;dsimp only;rw[e9];refine⟨fun _=>?_,fun h=>absurd a (by omega)⟩
  try simp only[Int.toNat_natCast]
  have q:=f _ (List.getElem_mem a);have e:=b (by rw[P7 a,List.length_append];omega)
  rw[P7 a,List.length_append,Int.natCast_add]at e;refine⟨⟨by omega,a⟩,m5 (by omega) (by omega),?_⟩
  rw[e9];exact⟨fun h=>absurd h (by omega),fun _=>⟨m5 (by omega) (by omega),e⟩⟩
 ·intro K o;dsimp only;rw[e9];refine⟨fun h=>absurd h (by omega),fun _=>?_⟩
  rw[List.take_length]at o ⊢;refine⟨⟨by omega,by omega⟩,?_⟩
  refine Loop.upto (fun i=>(l,((l.length:Nat):Int),(i:Int),(l.take i).flatten,())) (fun i=>(l.take i).flatten.length<=12*i) l.length rfl (by simp) ?_ ?_
  ·intro j m a d b;dsimp only;rw[e9];refine⟨fun _=>?_,fun h=>absurd a (by omega)⟩
   try simp only[Int.toNat_natCast]
   have q:=f _ (List.getElem_mem a);have e:=b (by rw[P7 a,List.length_append];omega)
   rw[P7 a]at e;exact⟨⟨by omega,a⟩,by simp only[iR];omega,m5 (by omega) (by omega),e⟩
  ·intro K o;dsimp only;rw[e9];refine⟨fun h=>absurd h (by omega),fun _=>?_⟩
   rw[List.take_length];exact g
theorem a90(j:Good Tryz.prog (m4 [(72,N9 [PW]),(121,N9 [FK])])):Nt.Kept Tryz.prog 122:=by
 rintro⟨a,b,c,lo,hi,lots,f,⟨⟩⟩ d k e;change Int at a b c;change Int at lo hi lots;change List (List m9)at f;refine J5 o7 j Tryz.func122 a5V (Eq.mpr (a5U a b c lo hi lots f k) ?_);replace e:k (rB (O6 lots (a,b,c))) []:=e;unfold a0Q;obtain⟨g,i⟩:=d;have g:1<=lots:=g;have i:lots<=6:=i;refine⟨m5 (by omega) (by omega),by show(1:Nat)<=oV;decide,?_⟩
 rw[Bool.not_not,Vl];refine⟨fun h=>⟨trivial,?_⟩,fun h=>?_⟩
 ·have:O6 lots (a,b,c)=Bool.not (O5 b c (-1000) 1000):=by unfold O6;rw[h,Bool.false_or]
  rwa [this]at e
 ·have:O6 lots (a,b,c)=true:=by unfold O6;rw[h,Bool.true_or]
  rwa [this]at e
theorem a91(n:Good Tryz.prog (m4 [(122,N9 [Nt])])):Nu.Kept Tryz.prog 146:=by
 rintro⟨l,lo,hi,lots,f,⟨⟩⟩ b k e;change List m9 at l;change Int at lo hi lots;change List (List m9)at f;refine J5 o7 n Tryz.func146 a5X (Eq.mpr (a5W l lo hi lots f k) ?_);replace e:k (rI (indexOf (O6 lots) l)) []:=e;unfold a0R;obtain⟨c,o,p⟩:=b;have c:l.length<=1000:=c;refine Loop.upto (fun i=>(l,lo,hi,lots,f,((l.length:Nat):Int),(i:Int),())) (fun i=>∀y∈l.take i,O6 lots y=false) l.length rfl (by simp) ?_ ?_
 ·intro j q g a d;dsimp only;rw[e9];refine⟨fun _=>?_,fun h=>absurd g (by omega)⟩
  try simp only[Int.toNat_natCast]
  refine⟨⟨by omega,by omega⟩,⟨o,p⟩,?_⟩
  refine L0 (fun h=>?_) (fun h=>⟨m5 (by omega) (by omega),d (W1 _ _ _ g a h)⟩)
  have:indexOf (O6 lots) l=(j:Int):=cP _ l j g a h;rwa [this]at e
 ·intro K m;dsimp only;rw[e9];refine⟨fun h=>absurd h (by omega),fun _=>?_⟩
  rw[List.take_length]at m;have:indexOf (O6 lots) l= -1:=cO _ l m;rwa [this]at e
theorem a92(d:Good Tryz.prog (m4 [(146,N9 [Nu])])):Nv.Kept Tryz.prog 123:=by
 rintro⟨l,lo,hi,lots,b,⟨⟩⟩ a k c;change List m9 at l;change Int at lo hi lots;change List (List m9)at b;refine J5 o7 d Tryz.func123 a5Z (Eq.mpr (a5Y l lo hi lots b k) ?_);replace c:k (rB (l.any (O6 lots))) []:=c;unfold a0S;refine⟨a,?_⟩;have:decide (indexOf (O6 lots) l>=0)=l.any (O6 lots):=nD _ l;rwa [this]
theorem drop_cons{α:Type}{l:List α}{j:Nat}(a:j<l.length):l.drop j=l[j]::l.drop (j+1):=List.drop_eq_getElem_cons a
theorem k71(w:Good Tryz.prog (m4 [(121,N9 [FK]),(72,N9 [PW]),(124,N9 [FL]),(123,N9 [Nv])])):v71.Kept Tryz.prog 71:=by
 rintro⟨lo,hi,lots,a,⟨⟩⟩ g k d;change Int at lo hi lots;change List (List m9)at a;refine J5 o7 w Tryz.func71 a9M (Eq.mpr (a9L lo hi lots a k) ?_);replace d:k (rI (H9 lo hi lots a)) []:=d;unfold a50;obtain⟨q,p⟩:=g;have q:a.length<=4:=q;have p:∀y∈a,y.length<=12:=p;refine⟨trivial,?_⟩;rw[qA];refine⟨fun h=>?_,fun s=>⟨by show(1:Nat)<=oV;decide,?_⟩⟩
 ·have:H9 lo hi lots a=3:=by unfold H9;rw[if_pos h]
  rwa [this]at d
 ·rw[Bool.not_not,Vl];refine⟨fun l=>?_,fun l=>?_⟩
  rotate_left
  ·have:H9 lo hi lots a=6:=by unfold H9;rw[if_neg (by rw[s];simp),if_pos (.inl l)]
   rwa [this]at d
  ·rw[e9];refine⟨fun t=>absurd t (by omega),fun t=>?_⟩
   have e:H9 lo hi lots a=if H9.fA a 0 then 6 else if a.flatten.any (O6 lots)then 3 else 0:=by
    unfold H9;rw[if_neg (by rw[s];simp),if_neg (by rw[l];simp;omega)]
   refine Loop.upto (fun i=>((((a.take i).flatten.length:Nat):Int),a,((a.length:Nat):Int),(i:Int),lo,hi,lots,a,())) (fun i=>H9.fA (a.drop i) (((a.take i).flatten.length:Nat):Int)=H9.fA a 0/\(a.take i).flatten.length<=12*i) a.length rfl (by simp) ?_ ?_
   ·intro j x f m n;dsimp only;rw[e9];refine⟨fun _=>?_,fun h=>absurd f (by omega)⟩
    try simp only[Int.toNat_natCast]
    have A:=p _ (List.getElem_mem f);obtain⟨b,r⟩:=m;rw[drop_cons f]at b;simp only[H9.fA]at b;refine⟨⟨by omega,f⟩,m5 (by omega) (by omega),?_⟩
    have o:(a[j].length=0\/12<(((a.take j).flatten.length:Nat):Int)+(a[j].length:Int))->H9 lo hi lots a=6:=fun h=>by
     rw[e,<-b,decide_eq_true h,Bool.true_or,if_pos rfl]
    refine L0 (fun h=>?_) (fun h=>?_)
    ·have h:¬a[j].length=0:=by simpa using h
     rw[e9];refine⟨fun hh=>?_,fun hh=>⟨m5 (by omega) (by omega),?_⟩⟩
     ·rwa [o (.inr (by omega))]at d
     ·have u:=n ⟨by
       rw[P7 f,List.length_append,Int.natCast_add,<-b,decide_eq_false (by omega),Bool.false_or],by rw[P7 f,List.length_append];omega⟩
      rw[P7 f,List.length_append,Int.natCast_add]at u;exact u
    ·have h:a[j].length=0:=by simpa using h
     rwa [o (.inl h)]at d
   ·intro K v;dsimp only;rw[e9];refine⟨fun h=>absurd h (by omega),fun _=>?_⟩
    rw[List.take_length,List.drop_length]at v;obtain⟨b,r⟩:=v;have z:H9.fA a 0=false:=by rw[<-b];rfl
    rw[z]at e;have c:1<=lots/\lots<=6:=by
     rw[uP]at l;simp only[I8,decide_eq_false_iff_not]at l;omega
    refine⟨⟨q,p⟩,⟨by show a.flatten.length<=1000;omega,c.1,c.2⟩,?_⟩
    refine L0 (fun h=>?_) (fun h=>?_)
    ·rw[e,h]at d;exact d
    ·rw[e,h]at d;exact d
end Go.Abs.T1
end
section
open Go.Proofs
set_option maxRecDepth 100000
set_option linter.unusedVariables false
namespace Go.Abs.T1
theorem a93(b:Good Tryz.prog (m4 [])):Nx.Kept Tryz.prog 145:=by
 rintro⟨ch,⟨⟩⟩ a k c;change List ((Int×Int)×Int)at ch;refine aM o7 b Tryz.func145 a5E (Eq.mpr (a5D ch k) ?_);unfold a0L;exact c
theorem a94(c:Good Tryz.prog (m4 [(145,iV [Nx])])):Ny.Kept Tryz.prog 114:=by
 rintro⟨l,a,ch,⟨⟩⟩ b k d;change List (Int×Int)at l;change List Int at a;change List ((Int×Int)×Int)at ch;refine aM o7 c Tryz.func114 a5G (Eq.mpr (a5F l a ch k) ?_);unfold a0M;exact⟨trivial,d⟩
theorem a95(i:Good Tryz.prog (m4 [])):Nz.Kept Tryz.prog 132:=by
 rintro⟨a,b,c,d,e,f,⟨⟩⟩ h k g;change Int at a b c d e f;refine J5 o7 i Tryz.func132 a5I (Eq.mpr (a5H a b c d e f k) ?_);replace g:k (rB (decide (b<e))) []:=g;unfold a0N;exact g
theorem a96(q:Good Tryz.prog (m4 [(132,N9 [Nz])])):NA.Kept Tryz.prog 131:=by
 rintro⟨l,⟨⟩⟩ b k c;change List ((Int×Int)×Int)at l;refine J5 o7 q Tryz.func131 a5K (Eq.mpr (a5J l k) ?_);replace c:k (.agg [rI (fC l),rI (Yg l),rI (Jv l)]) []:=c;unfold a0O;obtain⟨g,m⟩:=b;have g:1<=l.length:=g;have m:l.length<=101:=m;cases l with
 |nil=>simp at g
 |cons a l=>
  simp only[List.length_cons]at m;have r:V7 (a::l)=l.foldl X8 a:=rfl;refine⟨⟨by omega,by simp⟩,⟨by omega,by simp only[List.length_cons];omega⟩,?_⟩
  show Loop _ (l,(((l.length:Nat):Int),(0,(0,(0,(0,(a.1.1,(a.1.2,(a.2,())))))))));refine Loop.upto (fun i=>(l,((l.length:Nat):Int),(i:Int),0,0,0,((l.take i).foldl X8 a).1.1,((l.take i).foldl X8 a).1.2,((l.take i).foldl X8 a).2,())) (fun i=>True) l.length rfl trivial ?_ ?_
  ·intro j s n p d;dsimp only;rw[e9];refine⟨fun _=>?_,fun h=>absurd n (by omega)⟩
   try simp only[Int.toNat_natCast]
   have e:(l.take (j+1)).foldl X8 a=X8 ((l.take j).foldl X8 a) l[j]:=by
    rw[List.take_succ_eq_append_getElem n,List.foldl_append];rfl
   have f:=d trivial;rw[e]at f;refine⟨⟨by omega,n⟩,trivial,?_⟩
   rw[e9];refine⟨fun h=>⟨m5 (by omega) (by omega),?_⟩,fun h=>⟨m5 (by omega) (by omega),?_⟩⟩
   ·have o:X8 ((l.take j).foldl X8 a) l[j]=l[j]:=if_pos h;rw[o]at f;exact f
   ·have o:X8 ((l.take j).foldl X8 a) l[j]=(l.take j).foldl X8 a:=if_neg h;rw[o]at f;exact f
  ·intro K t;dsimp only;rw[e9];refine⟨fun h=>absurd h (by omega),fun _=>?_⟩
   rw[List.take_length];unfold fC Yg Jv at c;rw[r]at c;exact c
theorem k82(c:Good Tryz.prog (m4 [(131,N9 [NA])])):v82.Kept Tryz.prog 82:=by
 rintro⟨s,l,a,ch,⟨⟩⟩ b k d;change Int at s;change List (Int×Int)at l;change List Int at a;change List ((Int×Int)×Int)at ch;refine aM o7 c Tryz.func82 a9y (Eq.mpr (a9x s l a ch k) ?_);unfold a5L;refine⟨b,?_⟩;have e:(if fC ch>s then fC ch else s)=max s (fC ch):=by
  rcases Int.lt_or_le s (fC ch)with h|h
  ·rw[if_pos h];omega
  ·rw[if_neg (by omega)];omega
 rw[e];exact d
def tK(ch:List m8)(i:Nat):m8:=if i=0 then((0,0),0)else ch.getD (i- 1) ((0,0),0)
def DL(ch:List m8)(i:Nat):Option m8:=if i=0 then none else some (tK ch i)
theorem DM{ch:List m8}{j:Nat}(a:j<ch.length):tK ch (j+1)=ch[j]:=by
 unfold tK;rw[if_neg (by omega),Nat.add_sub_cancel,List.getD_eq_getElem?_getD,List.getElem?_eq_getElem a];rfl
theorem Ox{ch:List m8}{j:Nat}(a:j<ch.length):DL ch (j+1)=some ch[j]:=by
 unfold DL;rw[if_neg (by omega),DM a]
theorem k81(z:Good Tryz.prog (m4 [(114,iV [Ny])])):v81.Kept Tryz.prog 81:=by
 rintro⟨s,l,f,ch,⟨⟩⟩ o k p;change Int at s;change List (Int×Int)at l;change List Int at f;change List ((Int×Int)×Int)at ch;refine aM o7 z Tryz.func81 a9A (Eq.mpr (a9z s l f ch k) ?_);replace p:k (.I9 [.agg [rI (m11 ch s),rI (RC ch s),rI (m13 ch s),rI (m21 ch s),rI (RD ch s),rI (m23 ch s),rI (mP ch s),rI (mQ ch s)],rB (uE ch s)]) (shA l f ch):=p;unfold a5M;obtain⟨r,x,u,v⟩:=o;obtain⟨r,t⟩:=r;have r:ch.length<=101:=r;have t:∀c∈ch,(0<=c.1.1/\c.1.1<=100)/\(0<=c.1.2/\c.1.2<=1001):=t;have x:0<=s/\s<=100:=x;have u:f.length=101:=u;have v:f≠List.replicate 101 0:=v;have A:∀i,i<=ch.length->(0<=(tK ch i).1.1/\(tK ch i).1.1<=100):=fun i hi=>by
  unfold tK;split
  ·simp
  ·rw[List.getD_eq_getElem?_getD,List.getElem?_eq_getElem (by omega:i- 1<ch.length)]
   exact(t _ (List.getElem_mem _)).1
 have g:∀ (M:Mix) (b:Bool),vY s ch none=(M,b)->k (.I9 [.agg [rI M.1.1.1.1,rI M.1.1.1.2,rI M.1.1.2,rI M.1.2.1.1,rI M.1.2.1.2,rI M.1.2.2,rI M.2.1,rI M.2.2],rB b]) (shA l f ch):=fun M b hM=>by
  unfold m11 RC m13 m21 RD m23 mP mQ uD uE at p;rw[hM]at p;exact p
 refine⟨u,by decide,?_⟩
 refine L0 (fun h=>absurd ?_ v) (fun _=>⟨trivial,?_⟩)
 ·have:=(beq_iff_eq (a:=f==List.replicate 101 (Int.ofNat 0)) (b:=true)).1 h;exact beq_iff_eq.1 this
 refine Loop.upto (fun i=>(((ch.length:Nat):Int),(i:Int),ch,s,0,0,0,0,0,0,0,0,false,(tK ch i).1.1,(tK ch i).1.2,(tK ch i).2,decide (0<i),l,f,())) (fun i=>vY s (ch.drop i) (DL ch i)=vY s ch none) ch.length rfl rfl ?_ ?_
 ·intro j B m d n;dsimp only;rw[e9];refine⟨fun _=>?_,fun h=>absurd m (by omega)⟩
  try simp only[Int.toNat_natCast]
  rw[drop_cons m]at d;have C:=(t _ (List.getElem_mem m)).1;have D:=A j (Nat.le_of_lt m);rw[DM m,Ox m,decide_eq_true (Nat.succ_pos j)]at n;simp only[vY]at d;refine⟨⟨by omega,m⟩,m,?_⟩
  rw[Ix];refine⟨fun h=>?_,fun h=>?_⟩
  ·rw[if_pos h]at d;have:=g _ _ d.symm;exact this
  rw[if_neg h]at d;rw[jM];refine⟨fun w=>?_,fun w=>?_⟩
  ·rw[if_pos (by omega)]at d
   refine L0 (fun q=>?_) (fun q=>?_)
   ·have q:0<j:=of_decide_eq_true q;have e:DL ch j=some (tK ch j):=by unfold DL;rw[if_neg (by omega)]
    rw[e]at d;exact⟨m5 (by omega) (by omega),m5 (by omega) (by omega),g _ _ d.symm⟩
   ·have q:¬0<j:=of_decide_eq_false q;have e:DL ch j=none:=by unfold DL;rw[if_pos (by omega)]
    rw[e]at d;rw[e9];exact⟨fun _=>g _ _ d.symm,fun hh=>absurd w hh⟩
  ·rw[if_neg (by omega)]at d
   rw[e9];exact⟨fun hh=>absurd hh w,fun _=>⟨m5 (by omega) (by omega),n d⟩⟩
 ·intro K y;dsimp only;rw[e9];refine⟨fun h=>absurd h (by omega),fun _=>?_⟩
  rw[List.drop_length]at y;exact g _ _ y.symm
end Go.Abs.T1
end
section
namespace Go.Abs
theorem fX(t:Ty)(e:Nat×t.den×Int)(l:l6 t)(x:t.den):J4 t (e::l) x=(t.beq x e.2.1||J4 t l x):=rfl
theorem GI(t:Ty)(e:Nat×t.den×Int)(l:l6 t)(x:t.den):y8 t (e::l) x=if t.beq x e.2.1 then e.2.2 else y8 t l x:=rfl
theorem Vr{t:Ty}(a:t.ints=true)(x:t.den):t.beq x x=true:=(beq_eq t x x a).2 rfl
theorem Vs{t:Ty}(a:t.ints=true){x y:t.den}(h:x≠y):t.beq x y=false:=by
 rw[<-Bool.not_eq_true,beq_eq t _ _ a];exact h
theorem Vt{t:Ty}(b:t.ints=true)(l:l6 t)(x:t.den):J4 t l x=true↔ ∃e∈l,e.2.1=x:=by
 unfold J4;rw[List.any_eq_true];constructor
 ·rintro⟨e,h,a⟩;exact⟨e,h,((beq_eq t _ _ b).1 a).symm⟩
 ·rintro⟨e,h,a⟩;exact⟨e,h,(beq_eq t _ _ b).2 a.symm⟩
def mH(t:Ty)(l:l6 t)(x:t.den):Option Int:=if J4 t l x then some (y8 t l x)else none
theorem Iz{t:Ty}{l:l6 t}{x:t.den}:J4 t l x=(mH t l x).isSome:=by
 unfold mH;cases J4 t l x<;>rfl
theorem IA{t:Ty}{l:l6 t}{x:t.den}{v:Int}(h:mH t l x=some v):y8 t l x=v:=by
 unfold mH at h;split at h
 ·cases h;rfl
 ·cases h
theorem YI(t:Ty)(x:t.den):mH t [] x=none:=rfl
theorem Q8(t:Ty)(e:Nat×t.den×Int)(l:l6 t)(x:t.den):mH t (e::l) x=if t.beq x e.2.1 then some e.2.2 else mH t l x:=by
 unfold mH;rw[fX,GI];cases t.beq x e.2.1<;>simp
theorem tM{t:Ty}(a:t.ints=true)(b:Nat)(x:t.den)(v:Int)(l:l6 t):mH t ((b,x,v)::l) x=some v:=by
 rw[Q8,Vr a];rfl
theorem AY{t:Ty}(a:t.ints=true)(b:Nat){x y:t.den}(v:Int)(l:l6 t)(h:y≠x):mH t ((b,x,v)::l) y=mH t l y:=by
 rw[Q8];rw[Vs a h];rfl
theorem KZ{t:Ty}{l:l6 t}{x:t.den}(h:J4 t l x=false):mH t l x=none:=by unfold mH;rw[h];rfl
theorem tN{t:Ty}(c:t.ints=true)(x:t.den)(v:Int):∀ (l:l6 t),J4 t l x=true->mH t (cC t x v l) x=some v
 |[],h=>by cases h
 |e::l,h=>by
  unfold cC;by_cases b:t.beq x e.2.1=true
  ·rw[if_pos b];exact tM c _ x v l
  ·rw[if_neg b];rw[fX]at h;have a:t.beq x e.2.1=false:=by simpa using b
   rw[a,Bool.false_or]at h;rw[Q8,a];exact tN c x v l h
theorem AZ{t:Ty}(a:t.ints=true)(x:t.den)(v:Int){y:t.den}(h:y≠x):∀ (l:l6 t),mH t (cC t x v l) y=mH t l y
 |[]=>rfl
 |e::l=>by
  unfold cC;by_cases b:t.beq x e.2.1=true
  ·rw[if_pos b];have c:=(beq_eq t _ _ a).1 b;rw[AY a _ _ _ h,Q8,Vs a (by rw[<-c];exact h)];rfl
  ·rw[if_neg b,Q8,Q8,AZ a x v h l]
theorem DO(t:Ty)(l a:l6 t)(x:t.den):mH t (l++a) x=(mH t l x).or (mH t a x):=by
 induction l with
 |nil=>rfl
 |cons e l b=>
  rw[List.cons_append,Q8,Q8,b];cases t.beq x e.2.1<;>rfl
theorem nE{t:Ty}(a:t.ints=true)(l:l6 t)(clk:Nat)(x:t.den)(v:Int):mH t (M0 t l clk x v) x=some v:=by
 unfold M0;cases h:J4 t l x with
 |true=>exact tN a x v l h
 |false=>
  simp only[Bool.false_eq_true,if_false];rw[DO,KZ h,tM a];rfl
theorem uQ{t:Ty}(a:t.ints=true)(l:l6 t)(clk:Nat){x y:t.den}(v:Int)(h:y≠x):mH t (M0 t l clk x v) y=mH t l y:=by
 unfold M0;cases b:J4 t l x with
 |true=>exact AZ a x v h l
 |false=>
  simp only[Bool.false_eq_true,if_false];rw[DO,AY a _ _ _ h,YI];cases mH t l y<;>rfl
structure Jy(t:Ty)(l:l6 t)(clk:Nat):Prop where
 keys:(l.map (·.2.1)).Nodup
 Oy:(l.map (·.1)).Nodup
 lt:∀e∈l,e.1<clk
theorem Jy.nil(t:Ty):Jy t [] 0:=⟨List.nodup_nil,List.nodup_nil,fun _ h=>by cases h⟩
theorem DP{t:Ty}(b:t.ints=true)(x:t.den)(v:Int):∀ (l:l6 t),(cC t x v l).map (·.2.1)=l.map (·.2.1)
 |[]=>rfl
 |e::l=>by
  unfold cC;by_cases a:t.beq x e.2.1=true
  ·rw[if_pos a];have:=(beq_eq t _ _ b).1 a;simp[this]
  ·rw[if_neg a];simp[DP b x v l]
theorem nF{t:Ty}(x:t.den)(v:Int):∀ (l:l6 t),(cC t x v l).map (·.1)=l.map (·.1)
 |[]=>rfl
 |e::l=>by
  unfold cC;by_cases a:t.beq x e.2.1=true
  ·rw[if_pos a];simp
  ·rw[if_neg a];simp[nF x v l]
theorem Oz{t:Ty}{l a:l6 t}(h:l.map (·.1)=a.map (·.1)){e:Nat×t.den×Int}(b:e∈l):∃c∈a,c.1=e.1:=by
 have:e.1∈a.map (·.1):=by rw[<-h];exact List.mem_map_of_mem b
 simpa using this
theorem Jy.put{t:Ty}(f:t.ints=true){l:l6 t}{clk:Nat}(h:Jy t l clk)(x:t.den)(v:Int):Jy t (M0 t l clk x v) (P3 t l clk x):=by
 unfold M0 P3;cases g:J4 t l x with
 |true=>
  simp only[if_true];exact⟨by rw[DP f];exact h.keys,by rw[nF];exact h.Oy,fun e he=>by
   obtain⟨i,j,m⟩:=Oz (nF x v l) he
   rw[<-m];exact h.lt i j⟩
 |false=>
  simp only[Bool.false_eq_true,if_false];refine⟨?_,?_,fun e he=>?_⟩
  ·rw[List.map_append,List.nodup_append];refine⟨h.keys,by simp,fun a c b d=>?_⟩
   simp only[List.map_cons,List.map_nil,List.mem_singleton]at d;subst d;rintro rfl;simp only[List.mem_map]at c;have:=(Vt f l a).2 c;rw[g]at this;cases this
  ·rw[List.map_append,List.nodup_append];refine⟨h.Oy,by simp,fun a c b d=>?_⟩
   simp only[List.map_cons,List.map_nil,List.mem_singleton]at d;subst d;simp only[List.mem_map]at c;obtain⟨e,he,rfl⟩:=c;have:=h.lt e he;omega
  ·rcases List.mem_append.1 he with he|he
   ·have:=h.lt e he;omega
   ·simp only[List.mem_singleton]at he;subst he;exact Nat.lt_succ_self _
section
variable {k k':IntKind} (l:List (Nat×(Int×Int)×Int)) (clk:Nat) (x:Int×Int) (v:Int)
theorem La:J4 (.pair (.int k) (.int k')) l x=(mH (.pair (.int k) (.int k')) l x).isSome:=Iz
theorem Vu{l:List (Nat×(Int×Int)×Int)}{x:Int×Int}{v:Int}(h:mH (.pair (.int k) (.int k')) l x=some v):y8 (.pair (.int k) (.int k')) l x=v:=IA h
theorem Vv:mH (.pair (.int k) (.int k')) [] x=none:=rfl
theorem FY:mH (.pair (.int k) (.int k')) (M0 (.pair (.int k) (.int k')) l clk x v) x=some v:=nE (t:=.pair (.int k) (.int k')) rfl l clk x v
theorem Lc{x y:Int×Int}(h:y≠x):mH (.pair (.int k) (.int k')) (M0 (.pair (.int k) (.int k')) l clk x v) y=mH (.pair (.int k) (.int k')) l y:=uQ (t:=.pair (.int k) (.int k')) rfl l clk v h
theorem Jy.a97{l:List (Nat×(Int×Int)×Int)}{clk:Nat}(h:Jy (.pair (.int k) (.int k')) l clk):Jy (.pair (.int k) (.int k')) (M0 (.pair (.int k) (.int k')) l clk x v) (P3 (.pair (.int k) (.int k')) l clk x):=h.put rfl x v
end
end Go.Abs
end
section
open Go.Proofs
set_option maxRecDepth 100000
set_option linter.unusedVariables false
namespace Go.Abs.T1
abbrev Se:Ty:=.pair (.int .i64) (.int .i64)
theorem IC{l:List aI}(h:G4 l=0):(1<=l.length/\l.length<=8)/\∀x∈l,(0<=x.1/\x.1<=100)/\(0<=x.2/\x.2<=1000):=by
 unfold G4 at h;split at h
 ·cases h
 ·rename_i a;split at h
  ·cases h
  ·rename_i b;constructor
   ·rw[uP]at a;simp only[I8,decide_eq_true_eq]at a;omega
   ·intro x c;have d:l.any P4=false:=by simpa using b
    have:=List.any_eq_false.1 d x c;simp only[P4,uP,I8,Bool.or_eq_true,decide_eq_true_eq]at this;omega
def F9(s:Nat)(a:Int)(x:aI):Int:=if x.1=(s:Int)then min a x.2 else a
theorem GJ(l:List aI)(s:Nat):B0 l s=l.foldl (F9 s) 1001:=rfl
theorem Ld{l:List aI}{j:Nat}(a:j<l.length)(s:Nat):B0 (l.take (j+1)) s=F9 s (B0 (l.take j) s) l[j]:=by
 rw[GJ,GJ,List.take_succ_eq_append_getElem a,List.foldl_append];rfl
theorem zP{l:List aI}(h:∀x∈l,(0<=x.1/\x.1<=100)/\(0<=x.2/\x.2<=1000))(s:Nat):(0<=B0 l s/\B0 l s<=1001)/\(B0 l s=1001\/((s:Int),B0 l s)∈l):=by
 have g:∀ (l:List aI) (a:Int) (m:List aI),(∀x∈l,(0<=x.1/\x.1<=100)/\(0<=x.2/\x.2<=1000))->(0<=a/\a<=1001)->(a=1001\/((s:Int),a)∈m)->(∀x∈l,x∈m)->(0<=l.foldl (F9 s) a/\l.foldl (F9 s) a<=1001)/\(l.foldl (F9 s) a=1001\/((s:Int),l.foldl (F9 s) a)∈m):=by
  intro l
  induction l with
  |nil=>intro a m _ d b _;exact⟨d,b⟩
  |cons x l i=>
   intro a m h d b f;rw[List.foldl_cons];have j:=h x (List.mem_cons_self ..);refine i _ m (fun y c=>h y (List.mem_cons_of_mem _ c)) ?_ ?_ (fun y c=>f y (List.mem_cons_of_mem _ c))
   ·unfold F9;split<;>omega
   ·unfold F9;split
    ·rename_i e;rcases Int.le_total a x.2 with hle|hle
     ·rw[Int.min_eq_left hle];exact b
     ·rw[Int.min_eq_right hle];right;have:=f x (List.mem_cons_self ..);rw[<-e];exact this
    ·exact b
 exact g l 1001 l h (by omega) (.inl rfl) (fun _ h=>h)
theorem Sf{l:List aI}{j:Nat}(a:j<l.length)(h:l[j] ∉ l.take j):X7 l l[j]=(j:Int):=by
 unfold X7;congr 1;have:l.findIdx (fun y=>decide (y=l[j]))=j:=by
  rw[List.findIdx_eq a];refine⟨by simp,fun i hi=>?_⟩
  simp only[decide_eq_false_iff_not];intro e;exact h (by rw[<-e];exact List.mem_take_iff_getElem.2 ⟨i,by omega,rfl⟩)
 exact this
noncomputable def fm(l:List aI):Nat->List (Nat×(Int×Int)×Int)×Nat
 |0=>([],0)
 |i+1=>if J4 Se (fm l i).1 (l.getD i (0,0))then fm l i else(M0 Se (fm l i).1 (fm l i).2 (l.getD i (0,0)) (i:Int),P3 Se (fm l i).1 (fm l i).2 (l.getD i (0,0)))
def a57(l:List aI)(i:Nat):Prop:=Jy Se (fm l i).1 (fm l i).2/\∀y:aI,mH Se (fm l i).1 y=if y∈l.take i then some (X7 l y)else none
theorem a0T(l:List aI):∀i,i<=l.length->a57 l i
 |0,_=>⟨Jy.nil _,fun y=>by rw[List.take_zero,if_neg (by simp)];exact Vv y⟩
 |i+1,hi=>by
  obtain⟨h1,h2⟩:=a0T l i (by omega)
  have hg:l.getD i (0,0)=l[i]:=a58 (by omega)
  have ht:=List.take_succ_eq_append_getElem (show i<l.length by omega)
  unfold a57 fm;rw[hg];by_cases hm:J4 Se (fm l i).1 l[i]=true
  ·rw[if_pos hm];have hin:l[i]∈l.take i:=by
    rw[La,h2]at hm;split at hm
    ·assumption
    ·cases hm
   refine⟨h1,fun y=>?_⟩
   rw[h2,ht];by_cases hy:y∈l.take i
   ·rw[if_pos hy,if_pos (List.mem_append_left _ hy)]
   ·rw[if_neg hy,if_neg];intro hh;rcases List.mem_append.1 hh with hh|hh
    ·exact hy hh
    ·simp at hh;subst hh;exact hy hin
  ·rw[if_neg hm];have a18:l[i] ∉ l.take i:=fun hin=>hm (by rw[La,h2,if_pos hin];rfl)
   refine⟨Jy.a97 _ _ h1,fun y=>?_⟩
   rw[ht];by_cases e:y=l[i]
   ·subst e;refine(FY _ _ _ _).trans ?_;rw[if_pos (List.mem_append_right _ (List.mem_singleton.2 rfl)),Sf (by omega) a18]
   ·refine(Lc _ _ _ e).trans ?_;rw[h2];by_cases hy:y∈l.take i
    ·rw[if_pos hy,if_pos (List.mem_append_left _ hy)]
    ·rw[if_neg hy,if_neg];intro hh;rcases List.mem_append.1 hh with hh|hh
     ·exact hy hh
     ·simp at hh;exact e hh
where
 a58 {i:Nat} (h:i<l.length):l.getD i (0,0)=l[i]:=by rw[List.getD_eq_getElem?_getD,List.getElem?_eq_getElem h];rfl
theorem a19{l:List aI}{y:aI}(a:y∈l):y8 (.pair (.int .i64) (.int .i64)) (fm l l.length).1 y=X7 l y:=by
 have:=(a0T l l.length (Nat.le_refl _)).2 y;rw[List.take_length,if_pos a]at this;exact Vu this
theorem YJ(i:Nat)(hi:i<101):(List.replicate i (1001:Int)++List.replicate (101- i) 0).set i 1001=List.replicate (i+1) 1001++List.replicate (101- (i+1)) 0:=by
 obtain⟨m,a⟩:∃m,101- i=m+1:=⟨100- i,by omega⟩
 rw[a,List.replicate_succ,show 101- (i+1)=m by omega,List.set_append_right _ _ (by simp),List.length_replicate,Nat.sub_self,List.set_cons_zero,List.replicate_succ',List.append_assoc];rfl
theorem hP(l:List aI):(D8 l).length=101:=by simp[D8]
theorem hS{l:List aI}{s:Nat}(h:s<(D8 l).length):(D8 l)[s]=B0 l s:=by simp[D8]
theorem OA:D8 []=List.replicate 101 1001:=by decide
theorem ID{l:List aI}{j:Nat}(a:j<l.length)(c:0<=l[j].1):(D8 (l.take j)).set l[j].1.toNat (if l[j].2<B0 (l.take j) l[j].1.toNat then l[j].2 else B0 (l.take j) l[j].1.toNat)=D8 (l.take (j+1)):=by
 apply List.ext_getElem
 ·simp[D8]
 ·intro s d g2;rw[List.getElem_set,hS,hS,Ld a];unfold F9;by_cases e:l[j].1.toNat=s
  ·have b:l[j].1=(s:Int):=by omega
   rw[if_pos e,if_pos b,e];split<;>omega
  ·rw[if_neg e,if_neg (by omega)]
theorem Le{l:List aI}{j:Nat}(a:j<l.length)(b:0<=l[j].1)(c:l[j].1.toNat<(D8 (l.take j)).length):(D8 (l.take j)).set l[j].1.toNat (if l[j].2<(D8 (l.take j))[l[j].1.toNat]then l[j].2 else(D8 (l.take j))[l[j].1.toNat])=D8 (l.take (j+1)):=by
 rw[hS c];exact ID a b
theorem OB(n:Nat)(ch:List m8)(c:m8)(h:ch.length<=1):oW n ch c=ch:=by
 cases n with
 |zero=>rfl
 |succ n=>unfold oW;rw[if_neg (by omega)]
theorem Lf:∀ (n:Nat) (ch:List m8) (c:m8),(oW n ch c).length<=ch.length/\∀x∈oW n ch c,x∈ch
 |0,ch,c=>⟨Nat.le_refl _,fun _ h=>h⟩
 |n+1,ch,c=>by
  unfold oW;split
  ·obtain⟨a,b⟩:=Lf n (ch.take (ch.length- 1)) c;exact⟨Nat.le_trans a (by simp),fun x d=>List.mem_of_mem_take (b x d)⟩
  ·exact⟨Nat.le_refl _,fun _ h=>h⟩
abbrev YK(ch:List m8):Prop:=∀c∈ch,(0<=c.1.1/\c.1.1<=100)/\(0<=c.1.2/\c.1.2<=1001)
theorem xC{l:List aI}(h:∀x∈l,(0<=x.1/\x.1<=100)/\(0<=x.2/\x.2<=1000)):∀i,i<=101->((List.range i).foldl (cG l) []).length<=i/\YK ((List.range i).foldl (cG l) [])
 |0,_=>⟨Nat.le_refl _,fun c a=>by cases a⟩
 |i+1,hi=>by
  obtain⟨d,b⟩:=xC h i (by omega)
  rw[List.range_succ,List.foldl_append];generalize (List.range i).foldl (cG l) []=ch at d b;show(cG l ch i).length<=i+1/\YK (cG l ch i);have e:=(zP h i).1;unfold cG;split
  ·exact⟨by omega,b⟩
  ·obtain⟨g,f⟩:=Lf 200 ch (((i:Int),B0 l i),X7 l ((i:Int),B0 l i));refine⟨by simp;omega,fun c a=>?_⟩
   rcases List.mem_append.1 a with a|a
   ·exact b c (f c a)
   ·simp only[List.mem_singleton]at a;subst a;exact⟨by dsimp only;omega,e⟩
theorem a99(hG:Good Tryz.prog (m4 [(150,N9 [Nr])])):Nw.Kept Tryz.prog 130:=by
 rintro⟨l,⟨⟩⟩ s k H;change List (Int×Int)at l;refine aM o7 hG Tryz.func130 a5C (Eq.mpr (a5B l k) ?_);replace H:k (.ptr 0 0) (shA l (D8 l) (l7 l)):=H;unfold a0K;obtain⟨h0,h0'⟩:=s;obtain⟨⟨hl1,hl8⟩,g⟩:=IC (l:=l) h0;refine Loop.upto (fun i=>(l,(i:Int),l,List.replicate i 1001++List.replicate (101- i) 0,[],())) (fun i=>True) 101 rfl trivial ?_ ?_
 ·intro j I q t n;dsimp only;rw[e9];refine⟨fun _=>?_,fun h=>absurd q (by omega)⟩
  try simp only[Int.toNat_natCast]
  have b:=n trivial;rw[<-YJ j q]at b;exact⟨⟨by omega,by omega⟩,by simp;omega,m5 (by omega) (by omega),b⟩
 ·intro K P;dsimp only;rw[e9];refine⟨fun h=>absurd h (by omega),fun _=>?_⟩
  have u:List.replicate 101 (1001:Int)++List.replicate (101- 101) 0=D8 (l.take 0):=by rw[List.take_zero,OA];simp
  rw[u];refine Loop.upto (fun i=>(l,((l.length:Nat):Int),(i:Int),l,D8 (l.take i),(fm l i).1,(fm l i).2,[],())) (fun i=>True) l.length rfl trivial ?_ ?_
  ·intro j I q t n;dsimp only;rw[e9];refine⟨fun _=>?_,fun h=>absurd q (by omega)⟩
   try simp only[Int.toNat_natCast]
   have hx:=g _ (List.getElem_mem q);have r:l[j].1.toNat<(D8 (l.take j)).length:=by rw[hP];omega
   have b:=n trivial;rw[<-Le q hx.1.1 r]at b;refine⟨⟨by omega,q⟩,⟨by omega,by omega⟩,r,⟨by omega,by omega⟩,r,?_⟩
   have hg:l.getD j (0,0)=l[j]:=by rw[List.getD_eq_getElem?_getD,List.getElem?_eq_getElem q];rfl
   have v:fm l (j+1)=if J4 Se (fm l j).1 l[j]then fm l j else(M0 Se (fm l j).1 (fm l j).2 l[j] (j:Int),P3 Se (fm l j).1 (fm l j).2 l[j]):=by
    show(if J4 Se (fm l j).1 (l.getD j (0,0))then fm l j else _)=_
    rw[hg]
   rw[qA];refine⟨fun w=>?_,fun w=>?_⟩
   ·rintro b9 rfl fC rfl;have J:fm l (j+1)=(M0 Se (fm l j).1 (fm l j).2 l[j] (j:Int),P3 Se (fm l j).1 (fm l j).2 l[j]):=by
     rw[v];exact if_neg (fun e=>by rw[show J4 Se (fm l j).1 l[j]=false from w]at e;cases e)
    rw[J]at b;exact⟨m5 (by omega) (by omega),b⟩
   ·have J:fm l (j+1)=fm l j:=by rw[v];exact if_pos w
    rw[J]at b;exact⟨m5 (by omega) (by omega),b⟩
  ·intro K P;dsimp only;rw[e9];refine⟨fun h=>absurd h (by omega),fun _=>?_⟩
   rw[List.take_length];refine Loop.upto (fun i=>(D8 l,(i:Int),l,D8 l,(fm l l.length).1,(fm l l.length).2,(List.range i).foldl (cG l) [],())) (fun i=>True) 101 rfl trivial ?_ ?_
   ·intro m z w R A;dsimp only;rw[e9];refine⟨fun _=>?_,fun h=>absurd w (by omega)⟩
    try simp only[Int.toNat_natCast]
    have b:=A trivial;rw[List.range_succ,List.foldl_append]at b;replace b:z (D8 l,((m+1:Nat):Int),l,D8 l,(fm l l.length).1,(fm l l.length).2,cG l ((List.range m).foldl (cG l) []) m,()):=b;obtain⟨B,C⟩:=xC g m (by omega)
    generalize (List.range m).foldl (cG l) []=ch at b B C;have D:m<(D8 l).length:=by rw[hP];omega
    have E:=zP g m;refine⟨⟨by omega,D⟩,by omega,hP l,?_⟩
    rw[hS D,Ix];refine⟨fun h=>?_,fun h=>?_⟩
    ·unfold cG at b;rw[if_pos h]at b;exact⟨m5 (by omega) (by omega),b⟩
    ·have F:((m:Int),B0 l m)∈l:=E.2.resolve_left h;unfold cG at b;rw[if_neg h]at b;refine Loop.intro (fun x=>x.1=((x.2.2.2.2.2.2.2.2.2.2.1.length:Nat):Int)/\x.2.1=D8 l/\x.2.2.1=(m:Int)/\x.2.2.2.1=l/\x.2.2.2.2.1=D8 l/\x.2.2.2.2.2.1=(fm l l.length).1/\x.2.2.2.2.2.2.1=(fm l l.length).2/\x.2.2.2.2.2.2.2.1=(m:Int)/\x.2.2.2.2.2.2.2.2.1=B0 l m/\x.2.2.2.2.2.2.2.2.2.1=X7 l ((m:Int),B0 l m)/\
      (x.2.2.2.2.2.2.2.2.2.2.1.length<=m/\YK x.2.2.2.2.2.2.2.2.2.2.1/\∃f,x.2.2.2.2.2.2.2.2.2.2.1.length<=f/\oW f x.2.2.2.2.2.2.2.2.2.2.1 (((m:Int),B0 l m),X7 l ((m:Int),B0 l m))=oW 200 ch (((m:Int),B0 l m),X7 l ((m:Int),B0 l m)))) (fun x=>x.2.2.2.2.2.2.2.2.2.2.1.length) ?_ ⟨rfl,rfl,rfl,rfl,rfl,rfl,rfl,rfl,rfl,a19 F,B,C,200,(show ch.length<=200 by omega),rfl⟩
     rintro⟨x0,x1,x2,d,x4,x5,x6,x7,x8,x9,c,⟨⟩⟩ K ⟨S,T,U,V,X,Y,Z,r7,r8,r9,L,p,f,M,a⟩ N;change x0=((c.length:Nat):Int)at S;change x1=D8 l at T;change x2=(m:Int)at U;change d=l at V;change x4=D8 l at X;change x5=(fm l l.length).1 at Y;change x6=(fm l l.length).2 at Z;change x7=(m:Int)at r7;change x8=B0 l m at r8;change x9=X7 l ((m:Int),B0 l m)at r9;change c.length<=m at L;change YK c at p;change c.length<=f at M;change oW f c (((m:Int),B0 l m),X7 l ((m:Int),B0 l m))=oW 200 ch (((m:Int),B0 l m),X7 l ((m:Int),B0 l m))at a;subst r9 r8 r7 Z Y X U T S;subst V;dsimp only;have o:oW 200 ch (((m:Int),B0 d m),X7 d ((m:Int),B0 d m))=c->z (D8 d,(m:Int)+1,d,D8 d,(fm d d.length).1,(fm d d.length).2,c++ [(((m:Int),B0 d m),X7 d ((m:Int),B0 d m))],()):=fun e=>by
      rw[e]at b;exact b
     cases f with
     |zero=>
      have Tp:c.length=0:=by omega
      rw[OB 0 c _ (by omega)]at a
      rw[jM];refine⟨fun h=>absurd h (by omega),fun _=>⟨?_,m5 (by omega) (by omega),o a.symm⟩⟩
      simp only[iR,List.length_cons,List.length_nil];omega
     |succ f=>
      unfold oW at a;rw[jM];refine⟨fun h=>?_,fun h=>?_⟩
      ·have e1:(((c.length:Nat):Int) - 2).toNat=c.length- 2:=by omega
       have e2:(((c.length:Nat):Int) - 1).toNat=c.length- 1:=by omega
       have O:c.length- 2<c.length:=by omega
       have g2:c.length- 1<c.length:=by omega
       have d1:c.getD (c.length- 2) ((0,0),0)=c[c.length- 2]:=by rw[List.getD_eq_getElem?_getD,List.getElem?_eq_getElem O];rfl
       have d2:c.getD (c.length- 1) ((0,0),0)=c[c.length- 1]:=by rw[List.getD_eq_getElem?_getD,List.getElem?_eq_getElem g2];rfl
       have k1:=p _ (List.getElem_mem O);have k2:=p _ (List.getElem_mem g2);rw[d1,d2]at a;simp only[e1,e2];refine⟨m5 (by omega) (by omega),⟨by omega,by omega⟩,O,m5 (by omega) (by omega),⟨by omega,by omega⟩,g2,⟨k1,k2,⟨by dsimp only;omega,E.1⟩⟩,?_⟩
       rw[qA];refine⟨fun G=>?_,fun G=>?_⟩
       ·rw[if_pos ⟨by omega,G⟩]at a
        refine⟨m5 (by omega) (by omega),⟨by omega,by omega⟩,N _ ⟨rfl,rfl,rfl,rfl,rfl,rfl,rfl,rfl,rfl,rfl,?_,fun y hy=>p y (List.mem_of_mem_take hy),f,?_,a⟩ ?_⟩
        ·show(c.take (c.length- 1)).length<=m;rw[List.length_take];omega
        ·show(c.take (c.length- 1)).length<=f;rw[List.length_take];omega
        ·show(c.take (c.length- 1)).length<c.length;rw[List.length_take];omega
       ·rw[if_neg (fun hh=>by rw[hh.2]at G;cases G)]at a
        refine⟨?_,m5 (by omega) (by omega),o a.symm⟩
        simp only[iR,List.length_cons,List.length_nil];omega
      ·rw[if_neg (by omega)]at a
       refine⟨?_,m5 (by omega) (by omega),o a.symm⟩
       simp only[iR,List.length_cons,List.length_nil];omega
   ·intro K P;dsimp only;rw[e9];refine⟨fun h=>absurd h (by omega),fun _=>?_⟩
    exact H
end Go.Abs.T1
end
section
set_option linter.unusedVariables false
namespace Go.Abs.T1
def Pt(l:List aI)(i:Nat)(x:aI):Prop:=∃s,s<i/\B0 l s≠1001/\x=((s:Int),B0 l s)
theorem DQ{l:List aI}(h:∀x∈l,(0<=x.1/\x.1<=100)/\(0<=x.2/\x.2<=1000)):∀i,i<=101->FX (Pt l i) ((List.range i).foldl (cG l) []).reverse
 |0,_=>FX.nil.congr fun x=>⟨fun h=>h.elim,fun⟨s,b,_⟩=>absurd b (by omega)⟩
 |i+1,hi=>by
  have k:=DQ h i (by omega)
  have g:=(xC h i (by omega)).1
  rw[List.range_succ,List.foldl_append];show FX _ (cG l ((List.range i).foldl (cG l) []) i).reverse;generalize (List.range i).foldl (cG l) []=ch at k g;unfold cG;by_cases j:B0 l i=1001
  ·rw[if_pos j];refine k.congr fun x=>⟨fun⟨s,b,h⟩=>⟨s,by omega,h⟩,fun⟨s,b,a,f⟩=>⟨s,?_,a,f⟩⟩
   rcases Nat.lt_or_ge s i with d|m
   ·exact d
   ·exact absurd (by rw[show s=i by omega];exact j) a
  ·rw[if_neg j];have e:=Qp 200 ch.reverse (((i:Int),B0 l i),X7 l ((i:Int),B0 l i)) (by rw[List.length_reverse];omega)
   rw[List.reverse_reverse]at e;rw[List.reverse_append,e,List.reverse_reverse];refine(Sc (c:=(((i:Int),B0 l i),X7 l ((i:Int),B0 l i))) k ?_ ?_).congr fun x=>⟨?_,?_⟩
   ·rintro x y ⟨s,b,a,rfl⟩ ⟨s',n,o,rfl⟩ e;have e:(s:Int)=(s':Int):=e;have e:s=s':=by omega
    rw[e]
   ·rintro x ⟨s,b,a,rfl⟩;show(s:Int)<(i:Int);omega
   ·rintro(⟨s,b,a,f⟩|p)
    ·exact⟨s,by omega,a,f⟩
    ·exact⟨i,by omega,j,p⟩
   ·rintro⟨s,b,a,f⟩;rcases Nat.lt_or_ge s i with d|m
    ·exact .inl ⟨s,d,a,f⟩
    ·right;rw[f,show s=i by omega]
theorem least_le{l:List aI}{y:aI}(d:y∈l){s:Nat}(e:y.1=(s:Int)):B0 l s<=y.2:=by
 have b:∀ (l:List aI) (a:Int),l.foldl (F9 s) a<=a:=by
  intro l
  induction l with
  |nil=>intro a;exact Int.le_refl _
  |cons x l c=>
   intro a;rw[List.foldl_cons];have:=c (F9 s a x);have:F9 s a x<=a:=by unfold F9;split<;>omega
   omega
 have f:∀ (l:List aI) (a:Int),y∈l->l.foldl (F9 s) a<=y.2:=by
  intro l
  induction l with
  |nil=>intro a h;cases h
  |cons x l c=>
   intro a h;rw[List.foldl_cons];rcases List.mem_cons.1 h with rfl|h
   ·have:=b l (F9 s a y);have:F9 s a y<=y.2:=by unfold F9;rw[if_pos e];omega
    omega
   ·exact c _ h
 exact f l 1001 d
structure Shelf(l:List aI)(ch:List m8):Prop where
 Qo:ch.Pairwise fun a b=>a.1.1<b.1.1
 sup:∀p a b q,ch=p++a::b::q->∀y∈l,0<=iY a.1 b.1 y
 mem:∀c∈ch,c.1∈l
 bdd:∀c∈ch,(0<=c.1.1/\c.1.1<=100)/\(0<=c.1.2/\c.1.2<=1000)
 same:∀c∈ch,∀y∈l,c.1.1=y.1->c.1.2<=y.2
 fst:∀y∈l,∃c,ch.head?=some c/\c.1.1<=y.1
 lst:∀y∈l,∃c∈ch,y.1<=c.1.1
 ne:ch≠ []
theorem IE{P:aI->Prop}{b a:m8}{p:List m8}:∀ (q:List m8),Sup P (q++b::a::p)->∀x,P x->0<=iY a.1 b.1 x
 |[],h=>h.1
 |[c],h=>IE [] h.2
 |c::d::q,h=>IE (d::q) h.2
theorem xD{l:List aI}(w:G4 l=0):Shelf l (l7 l):=by
 obtain⟨⟨z,A⟩,h⟩:=IC w;have H:=DQ h 101 (Nat.le_refl _);have t:l7 l=(List.range 101).foldl (cG l) []:=rfl;rw[<-t]at H;generalize l7 l=ch at H;have o:∀y∈l,∃x,Pt l 101 x/\x.1=y.1/\x.2<=y.2:=by
  intro y f;have B:=h y f;obtain⟨s,k⟩:=Int.eq_ofNat_of_zero_le B.1.1;have g:=least_le f k;exact⟨((s:Int),B0 l s),⟨s,by omega,by omega,rfl⟩,by omega,g⟩
 have u:∀c∈ch,Pt l 101 c.1:=fun c d=>H.mem c (List.mem_reverse.2 d)
 have n:∀c∈ch,c.1∈l:=by
  intro c d;obtain⟨s,k,m,i⟩:=u c d;rcases(zP h s).2 with r|r
  ·exact absurd r m
  ·rw[i];exact r
 refine⟨?_,?_,n,fun c d=>h _ (n c d),?_,?_,?_,?_⟩
 ·have:=List.pairwise_reverse.1 H.Qo;exact this
 ·intro p a b q e y f;obtain⟨x,j,m,i⟩:=o y f;have v:ch.reverse=q.reverse++b::a::p.reverse:=by rw[e];simp
  have k:=H.sup;rw[v]at k;have r:=IE _ k x j;have C:a.1.1<b.1.1:=by
   have:=List.pairwise_reverse.1 H.Qo;rw[e]at this;exact(List.pairwise_cons.1 (List.pairwise_append.1 this).2.1).1 b (List.mem_cons_self ..)
  have D:iY a.1 b.1 y=iY a.1 b.1 x+(b.1.1- a.1.1)*(y.2- x.2):=by
   unfold iY;rw[m];grind
  have:=Int.mul_nonneg (show 0<=b.1.1- a.1.1 by omega) (show 0<=y.2- x.2 by omega)
  omega
 ·intro c d y f e;obtain⟨s,k,m,i⟩:=u c d;have E:c.1.1=(s:Int):=by rw[i]
  have v:c.1.2=B0 l s:=by rw[i]
  have:=least_le f (s:=s) (by omega)
  omega
 ·intro y f;obtain⟨x,j,m,i⟩:=o y f;obtain⟨c,d,g⟩:=H.fst x j;rw[List.getLast?_reverse]at d;exact⟨c,d,by omega⟩
 ·intro y f;obtain⟨x,j,m,i⟩:=o y f;obtain⟨c,d,g⟩:=H.lst x j;rw[List.head?_reverse]at d;exact⟨c,List.mem_of_getLast? d,by omega⟩
 ·intro e;obtain⟨y,f⟩:=List.exists_mem_of_length_pos (show 0<l.length by omega)
  obtain⟨x,j,_⟩:=o y f;obtain⟨c,d,_⟩:=H.lst x j;rw[e]at d;cases d
theorem xE(s:Int):∀ (ch:List m8) (b:Option m8),(∀a,b=some a->a.1.1<s)->(vY s ch b).2=true->(∃c∈ch,c.1.1=s/\(vY s ch b).1=((c,c),1,0))\/∃p a c q,b.toList++ch=p++a::c::q/\a.1.1<s/\s<c.1.1/\(vY s ch b).1=((a,c),c.1.1- s,s- a.1.1)
 |[],_,_,h=>by cases h
 |c::r,b,f,h=>by
  unfold vY at h ⊢;by_cases g:c.1.1=s
  ·rw[if_pos g];exact .inl ⟨c,List.mem_cons_self ..,g,rfl⟩
  ·rw[if_neg g]at h ⊢;by_cases i:s<c.1.1
   ·rw[if_pos i]at h ⊢;cases b with
    |none=>cases h
    |some a=>exact .inr ⟨[],a,c,r,rfl,f a rfl,i,rfl⟩
   ·rw[if_neg i]at h ⊢;rcases xE s r (some c) (fun a e=>by cases e;omega) h with⟨d,hd,j,k⟩|⟨p,a,d,q,e,m,g2,n⟩
    ·exact .inl ⟨d,List.mem_cons_of_mem _ hd,j,k⟩
    ·refine .inr ⟨b.toList++p,a,d,q,?_,m,g2,n⟩;have o:c::r=p++a::d::q:=e;rw[o,List.append_assoc]
theorem IF(s:Int):∀ (ch:List m8) (b:Option m8),(b.isSome=true\/∃c,ch.head?=some c/\c.1.1<=s)->(∃c∈ch,s<=c.1.1)->(vY s ch b).2=true
 |[],_,_,h=>by obtain⟨c,k,_⟩:=h;cases k
 |c::r,b,f,h=>by
  unfold vY;by_cases i:c.1.1=s
  ·rw[if_pos i]
  ·rw[if_neg i];by_cases j:s<c.1.1
   ·rw[if_pos j];cases b with
    |none=>
     rcases f with f|⟨c',e,g⟩
     ·cases f
     ·cases e;omega
    |some a=>rfl
   ·rw[if_neg j];refine IF s r (some c) (.inl rfl) ?_;obtain⟨d,hd,g⟩:=h;rcases List.mem_cons.1 hd with rfl|hd
    ·omega
    ·exact⟨d,hd,g⟩
theorem rJ{ch:List m8}(h:ch≠ []):V7 ch∈ch/\∀c∈ch,(V7 ch).1.2<=c.1.2:=by
 cases ch with
 |nil=>exact absurd rfl h
 |cons a r=>
  have i:∀ (r:List m8) (a:m8),(r.foldl X8 a=a\/r.foldl X8 a∈r)/\(r.foldl X8 a).1.2<=a.1.2/\∀c∈r,(r.foldl X8 a).1.2<=c.1.2:=by
   intro r
   induction r with
   |nil=>intro a;exact⟨.inl rfl,Int.le_refl _,fun c d=>by cases d⟩
   |cons x r j=>
    intro a;rw[List.foldl_cons];obtain⟨b,g,f⟩:=j (X8 a x);have k:(X8 a x).1.2<=a.1.2/\(X8 a x).1.2<=x.1.2:=by unfold X8;split<;>omega
    refine⟨?_,by omega,?_⟩
    ·rcases b with b|b
     ·rw[b];unfold X8;split
      ·exact .inr (List.mem_cons_self ..)
      ·exact .inl rfl
     ·exact .inr (List.mem_cons_of_mem _ b)
    ·intro c d;rcases List.mem_cons.1 d with rfl|d
     ·omega
     ·exact f c d
  obtain⟨b,g,f⟩:=i r a;have e:V7 (a::r)=r.foldl X8 a:=rfl;rw[e];refine⟨?_,?_⟩
  ·rcases b with b|b
   ·rw[b];exact List.mem_cons_self ..
   ·exact List.mem_cons_of_mem _ b
  ·intro c d;rcases List.mem_cons.1 d with rfl|d
   ·exact g
   ·exact f c d
variable {l l':List aI} {ch YL:List m8}
theorem Shelf.mix(H:Shelf l ch){s:Int}(h:uE ch s=true):(∃c∈ch,c.1.1=s/\aC ch s=c.1.2/\W6 ch s=1)\/∃p a c q,ch=p++a::c::q/\a.1.1<s/\s<c.1.1/\aC ch s=a.1.2*(c.1.1- s)+c.1.2*(s- a.1.1)/\W6 ch s=c.1.1- s+(s- a.1.1):=by
 rcases xE s ch none (fun a e=>by cases e) h with⟨c,g,d,b⟩|⟨p,a,c,q,e,d,b,f⟩
 ·left;refine⟨c,g,d,?_,?_⟩
  ·unfold aC RC RD mP mQ uD;rw[b];show c.1.2*1+c.1.2*0=_;omega
  ·unfold W6 mP mQ uD;rw[b];rfl
 ·right;refine⟨p,a,c,q,e,d,b,?_,?_⟩
  ·unfold aC RC RD mP mQ uD;rw[f]
  ·unfold W6 mP mQ uD;rw[f]
theorem Shelf.adj(H:Shelf l ch){p q:List m8}{a b:m8}(e:ch=p++a::b::q):a∈ch/\b∈ch/\a.1.1<b.1.1/\∀c∈ch,c.1.1<=a.1.1\/b.1.1<=c.1.1:=by
 have f:=H.Qo;rw[e]at f;obtain⟨m,g,h⟩:=List.pairwise_append.1 f;obtain⟨i,j⟩:=List.pairwise_cons.1 g;obtain⟨k,n⟩:=List.pairwise_cons.1 j;refine⟨by rw[e];simp,by rw[e];simp,i b (List.mem_cons_self ..),fun c d=>?_⟩
 rw[e]at d;rcases List.mem_append.1 d with d|d
 ·have:=h c d a (List.mem_cons_self ..);exact .inl (by omega)
 ·rcases List.mem_cons.1 d with rfl|d
  ·exact .inl (Int.le_refl _)
  ·rcases List.mem_cons.1 d with rfl|d
   ·exact .inr (Int.le_refl _)
   ·have:=k c d;exact .inr (by omega)
theorem Shelf.least(H:Shelf l ch){y:aI}(g:y∈l):(V7 ch).1.2<=y.2:=by
 obtain⟨m,b⟩:=rJ H.ne;obtain⟨n,i,d⟩:=H.fst y g;obtain⟨o,j,f⟩:=H.lst y g;have r:(vY y.1 ch none).2=true:=IF y.1 ch none (.inr ⟨n,i,d⟩) ⟨o,j,f⟩;rcases xE y.1 ch none (fun a e=>by cases e) r with⟨c,h,k,_⟩|⟨p,a,c,q,e,k,v,_⟩
 ·have:=H.same c h y g k;have:=b c h;omega
 ·have e:ch=p++a::c::q:=e;obtain⟨s,h,t,_⟩:=H.adj e;have w:=H.sup p a c q e y g;have x:=b a s;have z:=b c h;have u:(y.2- (V7 ch).1.2)*(c.1.1- a.1.1)=iY a.1 c.1 y+((a.1.2- (V7 ch).1.2)*(c.1.1- y.1)+(c.1.2- (V7 ch).1.2)*(y.1- a.1.1)):=by unfold iY;grind
  have A:=Int.mul_nonneg (show 0<=a.1.2- (V7 ch).1.2 by omega) (show 0<=c.1.1- y.1 by omega)
  have g2:=Int.mul_nonneg (show 0<=c.1.2- (V7 ch).1.2 by omega) (show 0<=y.1- a.1.1 by omega)
  have:=tJ (show 0<c.1.1- a.1.1 by omega) u (by omega)
  omega
theorem fY(ch:List m8)(t:Int):(qR ch t=t/\(V7 ch).1.1<t)\/(qR ch t=(V7 ch).1.1/\t<=(V7 ch).1.1):=by
 unfold qR fC;omega
theorem Shelf.has(H:Shelf l ch)(t:Int):uE ch (qR ch t)=true↔ ∃y∈l,t<=y.1:=by
 obtain⟨f,m⟩:=rJ H.ne;constructor
 ·intro h;rcases H.mix h with⟨c,n,o,_⟩|⟨p,a,c,q,e,o,w,_⟩
  ·refine⟨c.1,H.mem c n,?_⟩;rcases fY ch t with⟨b,d⟩|⟨b,d⟩<;>omega
  ·refine⟨c.1,H.mem c (H.adj e).2.1,?_⟩;rcases fY ch t with⟨b,d⟩|⟨b,d⟩<;>omega
 ·rintro⟨y,r,s⟩;obtain⟨u,g,j⟩:=H.fst _ (H.mem _ f);obtain⟨v,i,k⟩:=H.lst y r;refine IF _ ch none (.inr ⟨u,g,?_⟩) ?_
  ·rcases fY ch t with⟨b,d⟩|⟨b,d⟩<;>omega
  ·rcases fY ch t with⟨b,d⟩|⟨b,d⟩
   ·exact⟨v,i,by omega⟩
   ·exact⟨_,f,by omega⟩
theorem Shelf.bounds(H:Shelf l ch){s:Int}(h:uE ch s=true):(1<=W6 ch s/\W6 ch s<=100)/\0<=aC ch s/\aC ch s<=1000*W6 ch s:=by
 rcases H.mix h with⟨c,b,j,f,d⟩|⟨p,a,c,q,e,j,f,d,k⟩
 ·have:=H.bdd c b;rw[f,d];omega
 ·obtain⟨m,b,n,_⟩:=H.adj e;have g:=H.bdd a m;have i:=H.bdd c b;rw[d,k];have o:=Int.mul_nonneg g.2.1 (show 0<=c.1.1- s by omega)
  have g2:=Int.mul_nonneg i.2.1 (show 0<=s- a.1.1 by omega)
  have r:=Int.mul_le_mul_of_nonneg_right g.2.2 (show 0<=c.1.1- s by omega)
  have t:=Int.mul_le_mul_of_nonneg_right i.2.2 (show 0<=s- a.1.1 by omega)
  omega
theorem Shelf.made(H:Shelf l ch){s:Int}(h:uE ch s=true):∃x∈l,∃y∈l,∃p q:Int,0<=p/\0<=q/\p+q=W6 ch s/\aC ch s=x.2*p+y.2*q/\p*x.1+q*y.1=s*W6 ch s:=by
 rcases H.mix h with⟨c,b,i,f,d⟩|⟨p,a,c,q,e,i,f,d,g⟩
 ·refine⟨c.1,H.mem c b,c.1,H.mem c b,1,0,by decide,by decide,by rw[d];rfl,by rw[f];omega,by rw[d];omega⟩
 ·obtain⟨j,b,k,_⟩:=H.adj e;refine⟨a.1,H.mem a j,c.1,H.mem c b,c.1.1- s,s- a.1.1,by omega,by omega,g.symm,d,?_⟩
  rw[g];grind
theorem Shelf.b0a(H:Shelf l ch){t:Int}(h:uE ch (qR ch t)=true){x y:aI}(B:x∈l)(C:y∈l){p q:Int}(E:0<=p)(F:0<=q)(K:t*(p+q)<=p*x.1+q*y.1):
  aC ch (qR ch t)*(p+q)<=(x.2*p+y.2*q)*W6 ch (qR ch t):=by
 obtain⟨f,u⟩:=rJ H.ne;rcases fY ch t with⟨k,G⟩|⟨k,G⟩
 ·
   have v:∃p a b q,ch=p++a::b::q/\(V7 ch).1.1<=a.1.1/\a.1.1<t/\t<=b.1.1/\aC ch t*(b.1.1- a.1.1)=W6 ch t*(a.1.2*(b.1.1- t)+b.1.2*(t- a.1.1)):=by
    rw[k]at h;rcases H.mix h with⟨c,w,i,m,j⟩|⟨p,a,c,q,e,i,m,j,I⟩
    ·obtain⟨p',q',e⟩:=List.append_of_mem w;have J:=H.Qo;rw[e]at J;obtain⟨n,g2,r⟩:=List.pairwise_append.1 J;have g:V7 ch∈p':=by
      have o:=f;rw[e]at o;have z:V7 ch∈p'++c::q':=by rw[<-e];exact f
      rcases List.mem_append.1 z with d|d
      ·exact d
      ·rcases List.mem_cons.1 d with d|d
       ·rw[d]at G;omega
       ·have:=(List.pairwise_cons.1 g2).1 _ d;omega
     rcases List.eq_nil_or_concat p' with rfl|⟨p,a,rfl⟩
     ·cases g
     ·rw[List.concat_eq_append]at e g n r;refine⟨p,a,c,q',by rw[e];simp,?_,?_,by omega,?_⟩
      ·rcases List.mem_append.1 g with d|d
       ·have:=(List.pairwise_append.1 n).2.2 _ d a (List.mem_cons_self ..);omega
       ·simp only[List.mem_singleton]at d;rw[d];exact Int.le_refl _
      ·have:=r a (by simp) c (List.mem_cons_self ..);omega
      ·rw[m,j,i];grind
    ·refine⟨p,a,c,q,e,?_,i,by omega,?_⟩
     ·rcases(H.adj e).2.2.2 _ f with d|d
      ·exact d
      ·omega
     ·rw[j,I];grind
   rw[k];obtain⟨p',a,b,q',e,S,T,k3,k4⟩:=v;obtain⟨U,d,L,_⟩:=H.adj e;have sx:=H.sup _ _ _ _ e x B;have M:=H.sup _ _ _ _ e y C;have V:=H.sup _ _ _ _ e _ (H.mem _ f);have A:0<=b.1.2- a.1.2:=by
    apply Int.not_lt.1;intro O;have n:=u b d;have g2:=Int.mul_nonneg (show 0<= -(b.1.2- a.1.2)by omega) (show 0<=a.1.1- (V7 ch).1.1 by omega)
    have r:=Int.mul_pos (show 0<b.1.1- a.1.1 by omega) (show 0<a.1.2- (V7 ch).1.2 by omega)
    have X:iY a.1 b.1 (V7 ch).1= -((b.1.1- a.1.1)*(a.1.2- (V7 ch).1.2)) - (-(b.1.2- a.1.2)*(a.1.1- (V7 ch).1.1)):=by unfold iY;grind
    omega
   have n:=Int.mul_nonneg E sx;have g2:=Int.mul_nonneg F M;have r:=Int.mul_nonneg A (show 0<=p*x.1+q*y.1- t*(p+q)by omega)
   have Y:(x.2*p+y.2*q)*(b.1.1- a.1.1) - (p+q)*(a.1.2*(b.1.1- t)+b.1.2*(t- a.1.1))=p*iY a.1 b.1 x+q*iY a.1 b.1 y+(b.1.2- a.1.2)*(p*x.1+q*y.1- t*(p+q)):=by unfold iY;grind
   have Z:=(H.bounds (s:=t) (by rw[<-k];exact h)).1.1
   have P:((x.2*p+y.2*q)*W6 ch t- aC ch t*(p+q))*(b.1.1- a.1.1)=W6 ch t*((x.2*p+y.2*q)*(b.1.1- a.1.1) - (p+q)*(a.1.2*(b.1.1- t)+b.1.2*(t- a.1.1))):=by
    generalize aC ch t=N at k4 ⊢;generalize W6 ch t=D at k4 ⊢
    grind
   have:=tJ (show 0<b.1.1- a.1.1 by omega) P (Int.mul_nonneg (by omega) (by omega))
   omega
 ·rw[k]at h ⊢;have lx:=H.least B;have ly:=H.least C;rcases H.mix h with⟨c,w,i,m,j⟩|⟨p',a,c,q',e,i,m,j,I⟩
  ·rw[m,j];have R:c.1.2<=(V7 ch).1.2:=H.same c w _ (H.mem _ f) i;have n:=Int.mul_le_mul_of_nonneg_right (show c.1.2<=x.2 by omega) E
   have g2:=Int.mul_le_mul_of_nonneg_right (show c.1.2<=y.2 by omega) F
   rw[Int.mul_add];omega
  ·exfalso;rcases(H.adj e).2.2.2 _ f with d|d<;>omega
theorem Shelf.YM(H:Shelf l ch)(H':Shelf l' YL)(e:∀x∈l,∃c∈l',x.1<=c.1/\c.2=x.2){t:Int}(h:uE ch (qR ch t)=true):
  uE YL (qR YL t)=true/\aC YL (qR YL t)*W6 ch (qR ch t)<=aC ch (qR ch t)*W6 YL (qR YL t):=by
 have m:uE YL (qR YL t)=true:=by
  obtain⟨y,f,b⟩:=(H.has t).1 h;obtain⟨g,a,A,_⟩:=e y f;exact(H'.has t).2 ⟨g,a,by omega⟩
 refine⟨m,?_⟩;obtain⟨x,r,y,f,p,q,n,o,d,i,s⟩:=H.made h;obtain⟨c,j,u,v⟩:=e x r;obtain⟨g,a,w,z⟩:=e y f;have b:t*(p+q)<=p*c.1+q*g.1:=by
  have B:=Int.mul_le_mul_of_nonneg_left u n;have g2:=Int.mul_le_mul_of_nonneg_left w o;have k:t<=qR ch t:=by rcases fY ch t with⟨d,i⟩|⟨d,i⟩<;>omega
  have C:=Int.mul_le_mul_of_nonneg_right k (show 0<=p+q by omega)
  rw[<-d]at s;omega
 have:=H'.b0a m j a n o b;rw[v,z,d,<-i]at this;exact this
end Go.Abs.T1
end
section
open Go.Proofs
set_option maxRecDepth 100000
set_option linter.unusedVariables false
namespace Go.Abs.T1
theorem YN{num den:Int}(h:1<=den):∃g:Int,1<=g/\num=kT num den*g/\den=kU num den*g:=by
 refine⟨(Int.gcd num den:Int),?_,?_,?_⟩
 ·have:0<Int.gcd num den:=Int.gcd_pos_of_ne_zero_right _ (by omega)
  omega
 ·unfold kT;exact(Int.ediv_mul_cancel (Int.gcd_dvd_left ..)).symm
 ·unfold kU;exact(Int.ediv_mul_cancel (Int.gcd_dvd_right ..)).symm
theorem Lg{l:List aI}(i:G4 l=0){t:Int}(h:oL l t=true):∃g:Int,1<=g/\aC (l7 l) (qR (l7 l) t)=R7 l t*g/\W6 (l7 l) (qR (l7 l) t)=P6 l t*g/\(1<=P6 l t/\P6 l t<=100)/\0<=R7 l t/\R7 l t<=1000*P6 l t:=by
 have H:=xD i;have e:=H.bounds (s:=qR (l7 l) t) h;have j:R7 l t=kT (aC (l7 l) (qR (l7 l) t)) (W6 (l7 l) (qR (l7 l) t)):=by unfold R7;rw[if_pos h]
 have m:P6 l t=kU (aC (l7 l) (qR (l7 l) t)) (W6 (l7 l) (qR (l7 l) t)):=by unfold P6;rw[if_pos h]
 obtain⟨g,f,a,c⟩:=YN (num:=aC (l7 l) (qR (l7 l) t)) e.1.1;rw[<-j]at a;rw[<-m]at c;refine⟨g,f,a,c,?_⟩;generalize aC (l7 l) (qR (l7 l) t)=N at*
 generalize W6 (l7 l) (qR (l7 l) t)=D at*
 generalize R7 l t=n at*
 generalize P6 l t=d at*
 subst a c;obtain⟨⟨r,u⟩,o,v⟩:=e;have hd:0<d:=Int.pos_of_mul_pos_left (b:=g) (by omega) (by omega)
 have w:0<=n:=tJ (X:=n) (k:=g) (by omega) rfl o
 have p:=Int.mul_le_mul_of_nonneg_left f (show 0<=d by omega)
 have q:0<=1000*d- n:=tJ (X:=1000*d- n) (k:=g) (Y:=1000*(d*g) - n*g) (by omega) (by grind) (by omega)
 omega
theorem YO{l:List Int}:∀ (n:Nat),(∀s:Nat,s<n->(s:Int)∈l)->n<=l.length:=by
 intro n
 induction n generalizing l with
 |zero=>intro _;omega
 |succ n a=>
  intro h;have b:=a (l:=l.filter fun x=>decide (x≠(n:Int))) (fun s c=>List.mem_filter.2 ⟨h s (by omega),by simp;omega⟩)
  have d:(l.filter fun x=>decide (x≠(n:Int))).length<l.length:=List.length_filter_lt_length_iff_exists.2 ⟨(n:Int),h n (by omega),by simp⟩
  omega
theorem Vw{l:List aI}(h:l.length<=100):D8 l≠JN:=by
 intro e;have f:∀s:Nat,s<101->(s:Int)∈l.map (·.1):=by
  intro s g;apply Classical.byContradiction;intro j;have k:B0 l s=1001:=by
   have n:∀ (m:List aI) (a:Int),(∀x∈m,x.1≠(s:Int))->m.foldl (F9 s) a=a:=by
    intro m
    induction m with
    |nil=>intro a _;rfl
    |cons x m o=>
     intro a c;rw[List.foldl_cons];have:F9 s a x=a:=by unfold F9;rw[if_neg (c x (List.mem_cons_self ..))]
     rw[this];exact o a fun y p=>c y (List.mem_cons_of_mem _ p)
   exact n l 1001 fun x q b=>j (List.mem_map.2 ⟨x,q,b⟩)
  have d:(D8 l)[s]'(by rw[hP];exact g)=0:=by
   have:∀i (h:i<(D8 l).length),(D8 l)[i]=0:=by
    rw[e];intro i h;exact List.getElem_replicate ..
   exact this s _
  rw[hS,k]at d;cases d
 have:=YO 101 f;rw[List.length_map]at this;omega
theorem Shelf.parts{l:List aI}{ch:List m8}(H:Shelf l ch){s:Int}(h:uE ch s=true):(0<=RC ch s/\RC ch s<=1001)/\(0<=RD ch s/\RD ch s<=1001)/\(0<=mP ch s/\mP ch s<=100)/\(0<=mQ ch s/\mQ ch s<=100)/\1<=mP ch s+mQ ch s:=by
 rcases xE s ch none (fun a e=>by cases e) h with⟨c,b,f,d⟩|⟨p,a,c,q,e,f,d,g⟩
 ·unfold RC RD mP mQ uD;rw[d];have:=H.bdd c b;dsimp only;omega
 ·have e:ch=p++a::c::q:=e;obtain⟨i,b,j,_⟩:=H.adj e;have k:=H.bdd a i;have m:=H.bdd c b;unfold RC RD mP mQ uD;rw[g];dsimp only;omega
theorem k24(q:Good Tryz.prog (m4 [(80,iV [v80]),(81,iV [v81]),(82,iV [v82]),(83,N9 [v83])])):v24.Kept Tryz.prog 24:=by
 rintro⟨l,s,⟨⟩⟩ c k a;change List (Int×Int)at l;change Int at s;refine J5 o7 q Tryz.func24 a9v (Eq.mpr (a9u l s k) ?_);replace a:k (.I9 [.agg [rI (R7 l s),rI (P6 l s)],rI (To l s)]) []:=a;unfold a5v;obtain⟨d,f,n,o⟩:=c;have d:G4 l=0:=d;have f:l.length<=1000:=f;have n:0<=s:=n;have o:s<=100:=o;have H:=xD d;have r:=IC d;have p:=xC r.2 101 (Nat.le_refl _);have e:(l7 l).length<=101:=p.1;have g:1<=(l7 l).length:=by
  have:=List.length_pos_iff.2 H.ne;omega
 have t:=H.bdd _ (rJ H.ne).1;have u:0<=fC (l7 l)/\fC (l7 l)<=100:=t.1;refine⟨⟨d,f,by show 1<=1000;decide,?_⟩,⟨g,e⟩,⟨⟨e,p.2⟩,⟨by show 0<=max s (fC (l7 l));omega,by show max s (fC (l7 l))<=100;omega⟩,hP l,Vw (by omega)⟩,?_⟩
 ·show D7 0 100 [s]=false;simp only[D7,I8,List.any_cons,List.any_nil,Bool.or_false,decide_eq_false_iff_not];omega
 have b:oL l s=uE (l7 l) (max s (fC (l7 l))):=rfl;rw[qA];refine⟨fun h=>?_,fun h=>⟨?_,?_⟩⟩
 ·have i:R7 l s=0:=by unfold R7;rw[b,h];rfl
  have j:P6 l s=0:=by unfold P6;rw[b,h];rfl
  have m:To l s=19:=by unfold To;rw[b,h];rfl
  rw[i,j,m]at a;exact a
 ·exact H.parts h
 ·have i:R7 l s=kT (aC (l7 l) (qR (l7 l) s)) (W6 (l7 l) (qR (l7 l) s)):=by unfold R7;rw[b,h];rfl
  have j:P6 l s=kU (aC (l7 l) (qR (l7 l) s)) (W6 (l7 l) (qR (l7 l) s)):=by unfold P6;rw[b,h];rfl
  have m:To l s=0:=by unfold To;rw[b,h];rfl
  rw[i,j,m]at a;exact a
theorem k9(m:Good Tryz.prog (m4 [(24,N9 [v24])])):v9.Kept Tryz.prog 9:=by
 rintro⟨l,s,⟨⟩⟩ c k b;change List (Int×Int)at l;change Int at s;refine J5 o7 m Tryz.func9 tx9 (Eq.mpr (eq9 l s k) ?_);replace b:k (.I9 [.agg [rI (R7 l s),rI (P6 l s)],rB (oL l s),rB (Uw l s)]) []:=b;unfold vc9;obtain⟨d,n,o,p⟩:=c;have d:G4 l=0:=d;refine⟨⟨d,n,o,p⟩,?_⟩;cases a:oL l s with
 |false=>
  have i:R7 l s=0:=by unfold R7;rw[a];rfl
  have j:P6 l s=0:=by unfold P6;rw[a];rfl
  have e:To l s=19:=by unfold To;rw[a];rfl
  have f:Uw l s=true:=by unfold Uw;rw[a];rfl
  rw[i,j,a,f]at b;rw[e,i,j];refine L0 (fun _=>?_) (fun h=>by cases h)
  exact L0 (fun _=>b) (fun h=>by cases h)
 |true=>
  obtain⟨g,w,g2,x,⟨q,r⟩,t,u⟩:=Lg d a;have e:To l s=0:=by unfold To;rw[a];rfl
  have f:Uw l s=true:=by unfold Uw;rw[a,if_pos rfl,decide_eq_true_eq];omega
  rw[a,f]at b;rw[e];refine L0 (fun h=>by cases h) (fun _=>?_)
  rw[jM];refine⟨fun _=>?_,fun h=>absurd q h⟩
  rw[jM];refine⟨fun _=>?_,fun h=>absurd r h⟩
  rw[jM];refine⟨fun _=>⟨m5 (by omega) (by omega),?_⟩,fun h=>absurd t h⟩
  have v:decide (R7 l s<=1000*P6 l s)=true:=decide_eq_true u;rw[v];exact b
end Go.Abs.T1
end
section
open Go.Proofs
set_option maxRecDepth 100000
set_option linter.unusedVariables false
namespace Go.Abs.T1
def vc4(lo hi lots:Int)(h:List (List m9))(k:a7->List c7->Prop):Prop:=
  (v12.p (lo,hi,(0:Int),(50:Int),()))/\
 br ((Bool.not (bF lo hi (0:Int) (50:Int))))
 ((k (rI (3:Int)) []))
 (br (((decide (lots<(1:Int)))==false))
 (br (((decide (lots>(6:Int)))==false))
 (br ((decide ((((List.length h):Nat):Int)>(4:Int))))
 ((k (rI (6:Int)) []))
 (LP ((0:Int),(0:Int),lo,hi,lots,h,()) (fun l (a,b,c,d,e,f,())=>
 br ((decide (b<(((List.length f):Nat):Int))))
 (∃m:(((0:Int)<=b)/\((Int.toNat b)<(List.length f))),
 br ((((((List.length (f[(Int.toNat b)]'m.2)):Nat):Int)==(0:Int))==false))
 (∃n:(((0:Int)<=b)/\((Int.toNat b)<(List.length f))),
 br ((decide ((((List.length (f[(Int.toNat b)]'n.2)):Nat):Int)>(12:Int))))
 ((k (rI (6:Int)) []))
 (∃i:(((0:Int)<=b)/\((Int.toNat b)<(List.length f))),
 (fI (a+(((List.length (f[(Int.toNat b)]'i.2)):Nat):Int)))/\
 (fI (b+(1:Int)))/\
 (l ((a+(((List.length (f[(Int.toNat b)]'i.2)):Nat):Int)),(b+(1:Int)),c,d,e,f,()))))
 ((k (rI (6:Int)) [])))
 (br ((decide (a>(12:Int))))
 ((k (rI (6:Int)) []))
 ((v13.p (c,d,e,f,()))/\
 LP ((0:Int),c,d,e,f,(List.flatten f),()) (fun o (a,b,c,d,e,f,())=>
 br ((decide (a<(((List.length f):Nat):Int))))
 ((((0:Int)<=a)/\((Int.toNat a)<(List.length f)))/\
 ∃i:((Int.toNat a)<(List.length f)),
 br (((decide ((f[(Int.toNat a)]'i).1<(0:Int)))==false))
 ((((0:Int)<=a)/\((Int.toNat a)<(List.length f)))/\
 ∃j:((Int.toNat a)<(List.length f)),
 br (((decide ((f[(Int.toNat a)]'j).1>=d))==false))
 ((((0:Int)<=a)/\((Int.toNat a)<(List.length f)))/\
 ∃g:((Int.toNat a)<(List.length f)),
 (v12.p ((f[(Int.toNat a)]'g).2.1,(f[(Int.toNat a)]'g).2.2,(-(1000:Int):Int),(1000:Int),()))/\
 br ((Bool.not (bF (f[(Int.toNat a)]'g).2.1 (f[(Int.toNat a)]'g).2.2 (-(1000:Int):Int) (1000:Int))))
 ((k (rI (3:Int)) []))
 ((fI (a+(1:Int)))/\
 (o ((a+(1:Int)),b,c,d,e,f,()))))
 ((k (rI (3:Int)) [])))
 ((k (rI (3:Int)) [])))
 ((k (rI (0:Int)) []))))))))
 ((k (rI (6:Int)) [])))
 ((k (rI (6:Int)) [])))
 theorem eq4(lo hi lots:Int)(h:List (List m9))(k:a7->List c7->Prop):awpF (m4 [(12,N9 [v12]),(13,N9 [v13])]) Tryz.prog kt 4 false Tryz.f4 (v4.args (lo,hi,lots,h,())) (v4.B2 (lo,hi,lots,h,())) k=vc4 lo hi lots h k:=by kernel_rfl
theorem tx4:(Tryz.f4.body.map Code.j3).getD true=true:=by kernel_rfl
def vc6(lo hi lots:Int)(x:List (List m9))(l:List Int)(k:a7->List c7->Prop):Prop:=
  LP (l,(0:Int),lo,hi,lots,x,(0:Int),(0:Int),(0:Int),lo,hi,lots,([]:List Int),([]:List Int),([]:List (List (Int×(Int×Int)))),([]:List (List (Int×(Int×Int)))),()) (fun A (a,b,c,d,e,f,g,i,j,l,m,n,o,p,q,r,())=>
 br ((decide (b<e)))
 ((v17.p (a,b,()))/\
 (((0:Int)<=(w8 a b))/\((0:Int)<(1001:Int)))/\
 (((List.length o)+(List.length ((HMod.hMod (w8 a b) (1001:Int))::([]:List Int))))<=iR)/\
 (fI (b+(1:Int)))/\
 (A (a,(b+(1:Int)),c,d,e,f,g,i,j,l,m,n,(o++((HMod.hMod (w8 a b) (1001:Int))::([]:List Int))),p,q,r,())))
 (LP (a,(0:Int),c,d,e,f,g,i,j,l,m,n,o,p,q,r,()) (fun B (a,b,c,d,e,f,g,i,j,l,m,n,o,p,q,r,())=>
 br ((decide (b<(((List.length f):Nat):Int))))
 (LP (a,b,(0:Int),c,d,e,f,g,i,j,l,m,n,o,p,([]:List (Int×(Int×Int))),q,r,()) (fun y (a,b,c,d,e,f,g,i,j,l,m,n,o,p,q,r,s,t,())=>
 ∃z:(((0:Int)<=b)/\((Int.toNat b)<(List.length g))),
 br ((decide (c<(((List.length (g[(Int.toNat b)]'z.2)):Nat):Int))))
 (br ((decide (c>(0:Int))))
 ((fI ((((List.length q):Nat):Int) - (1:Int)))/\
 (((0:Int)<=((((List.length q):Nat):Int) - (1:Int)))/\((Int.toNat ((((List.length q):Nat):Int) - (1:Int)))<(List.length q)))/\
 ∃u:((Int.toNat ((((List.length q):Nat):Int) - (1:Int)))<(List.length q)),
 (fI ((q[(Int.toNat ((((List.length q):Nat):Int) - (1:Int)))]'u)+d))/\
 (fI ((((List.length q):Nat):Int)+f))/\
 (v17.p (a,((((List.length q):Nat):Int)+f),()))/\
 (fI (e- d))/\
 (fI ((e- d)+(1:Int)))/\
 (((0:Int)<=(w8 a ((((List.length q):Nat):Int)+f)))/\((0:Int)<((e- d)+(1:Int))))/\
 (fI (((q[(Int.toNat ((((List.length q):Nat):Int) - (1:Int)))]'u)+d)+(HMod.hMod (w8 a ((((List.length q):Nat):Int)+f)) ((e- d)+(1:Int)))))/\
 ∃h:(((0:Int)<=b)/\((Int.toNat b)<(List.length g))),
 ∃v:(((0:Int)<=c)/\((Int.toNat c)<(List.length (g[(Int.toNat b)]'h.2)))),
 (((0:Int)<=((g[(Int.toNat b)]'h.2)[(Int.toNat c)]'v.2).1)/\((Int.toNat ((g[(Int.toNat b)]'h.2)[(Int.toNat c)]'v.2).1)<(List.length p)))/\
 ∃w:((Int.toNat ((g[(Int.toNat b)]'h.2)[(Int.toNat c)]'v.2).1)<(List.length p)),
 (fI ((p[(Int.toNat ((g[(Int.toNat b)]'h.2)[(Int.toNat c)]'v.2).1)]'w) - (((q[(Int.toNat ((((List.length q):Nat):Int) - (1:Int)))]'u)+d)+(HMod.hMod (w8 a ((((List.length q):Nat):Int)+f)) ((e- d)+(1:Int))))))/\
 (v18.p ((ite (((p[(Int.toNat ((g[(Int.toNat b)]'h.2)[(Int.toNat c)]'v.2).1)]'w) - (((q[(Int.toNat ((((List.length q):Nat):Int) - (1:Int)))]'u)+d)+(HMod.hMod (w8 a ((((List.length q):Nat):Int)+f)) ((e- d)+(1:Int)))))<((g[(Int.toNat b)]'h.2)[(Int.toNat c)]'v.2).2.1) ((p[(Int.toNat ((g[(Int.toNat b)]'h.2)[(Int.toNat c)]'v.2).1)]'w) - (((q[(Int.toNat ((((List.length q):Nat):Int) - (1:Int)))]'u)+d)+(HMod.hMod (w8 a ((((List.length q):Nat):Int)+f)) ((e- d)+(1:Int))))) ((g[(Int.toNat b)]'h.2)[(Int.toNat c)]'v.2).2.1),(ite (((p[(Int.toNat ((g[(Int.toNat b)]'h.2)[(Int.toNat c)]'v.2).1)]'w) - (((q[(Int.toNat ((((List.length q):Nat):Int) - (1:Int)))]'u)+d)+(HMod.hMod (w8 a ((((List.length q):Nat):Int)+f)) ((e- d)+(1:Int)))))>((g[(Int.toNat b)]'h.2)[(Int.toNat c)]'v.2).2.2) ((p[(Int.toNat ((g[(Int.toNat b)]'h.2)[(Int.toNat c)]'v.2).1)]'w) - (((q[(Int.toNat ((((List.length q):Nat):Int) - (1:Int)))]'u)+d)+(HMod.hMod (w8 a ((((List.length q):Nat):Int)+f)) ((e- d)+(1:Int))))) ((g[(Int.toNat b)]'h.2)[(Int.toNat c)]'v.2).2.2),()))/\
 (((List.length r)+(List.length ((((g[(Int.toNat b)]'h.2)[(Int.toNat c)]'v.2).1,(ite (((p[(Int.toNat ((g[(Int.toNat b)]'h.2)[(Int.toNat c)]'v.2).1)]'w) - (((q[(Int.toNat ((((List.length q):Nat):Int) - (1:Int)))]'u)+d)+(HMod.hMod (w8 a ((((List.length q):Nat):Int)+f)) ((e- d)+(1:Int)))))<((g[(Int.toNat b)]'h.2)[(Int.toNat c)]'v.2).2.1) ((p[(Int.toNat ((g[(Int.toNat b)]'h.2)[(Int.toNat c)]'v.2).1)]'w) - (((q[(Int.toNat ((((List.length q):Nat):Int) - (1:Int)))]'u)+d)+(HMod.hMod (w8 a ((((List.length q):Nat):Int)+f)) ((e- d)+(1:Int))))) ((g[(Int.toNat b)]'h.2)[(Int.toNat c)]'v.2).2.1),(ite (((p[(Int.toNat ((g[(Int.toNat b)]'h.2)[(Int.toNat c)]'v.2).1)]'w) - (((q[(Int.toNat ((((List.length q):Nat):Int) - (1:Int)))]'u)+d)+(HMod.hMod (w8 a ((((List.length q):Nat):Int)+f)) ((e- d)+(1:Int)))))>((g[(Int.toNat b)]'h.2)[(Int.toNat c)]'v.2).2.2) ((p[(Int.toNat ((g[(Int.toNat b)]'h.2)[(Int.toNat c)]'v.2).1)]'w) - (((q[(Int.toNat ((((List.length q):Nat):Int) - (1:Int)))]'u)+d)+(HMod.hMod (w8 a ((((List.length q):Nat):Int)+f)) ((e- d)+(1:Int))))) ((g[(Int.toNat b)]'h.2)[(Int.toNat c)]'v.2).2.2))::([]:List (Int×(Int×Int))))))<=iR)/\
 (((List.length q)+(List.length ((((q[(Int.toNat ((((List.length q):Nat):Int) - (1:Int)))]'u)+d)+(HMod.hMod (w8 a ((((List.length q):Nat):Int)+f)) ((e- d)+(1:Int))))::([]:List Int))))<=iR)/\
 (fI (c+(1:Int)))/\
 (y (a,b,(c+(1:Int)),d,e,f,g,i,j,l,m,n,o,p,(q++((((q[(Int.toNat ((((List.length q):Nat):Int) - (1:Int)))]'u)+d)+(HMod.hMod (w8 a ((((List.length q):Nat):Int)+f)) ((e- d)+(1:Int))))::([]:List Int))),(r++((((g[(Int.toNat b)]'h.2)[(Int.toNat c)]'v.2).1,(ite (((p[(Int.toNat ((g[(Int.toNat b)]'h.2)[(Int.toNat c)]'v.2).1)]'w) - (((q[(Int.toNat ((((List.length q):Nat):Int) - (1:Int)))]'u)+d)+(HMod.hMod (w8 a ((((List.length q):Nat):Int)+f)) ((e- d)+(1:Int)))))<((g[(Int.toNat b)]'h.2)[(Int.toNat c)]'v.2).2.1) ((p[(Int.toNat ((g[(Int.toNat b)]'h.2)[(Int.toNat c)]'v.2).1)]'w) - (((q[(Int.toNat ((((List.length q):Nat):Int) - (1:Int)))]'u)+d)+(HMod.hMod (w8 a ((((List.length q):Nat):Int)+f)) ((e- d)+(1:Int))))) ((g[(Int.toNat b)]'h.2)[(Int.toNat c)]'v.2).2.1),(ite (((p[(Int.toNat ((g[(Int.toNat b)]'h.2)[(Int.toNat c)]'v.2).1)]'w) - (((q[(Int.toNat ((((List.length q):Nat):Int) - (1:Int)))]'u)+d)+(HMod.hMod (w8 a ((((List.length q):Nat):Int)+f)) ((e- d)+(1:Int)))))>((g[(Int.toNat b)]'h.2)[(Int.toNat c)]'v.2).2.2) ((p[(Int.toNat ((g[(Int.toNat b)]'h.2)[(Int.toNat c)]'v.2).1)]'w) - (((q[(Int.toNat ((((List.length q):Nat):Int) - (1:Int)))]'u)+d)+(HMod.hMod (w8 a ((((List.length q):Nat):Int)+f)) ((e- d)+(1:Int))))) ((g[(Int.toNat b)]'h.2)[(Int.toNat c)]'v.2).2.2))::([]:List (Int×(Int×Int))))),s,t,())))
 (∃u:(((0:Int)<=b)/\((Int.toNat b)<(List.length g))),
 ∃h:(((0:Int)<=c)/\((Int.toNat c)<(List.length (g[(Int.toNat b)]'u.2)))),
 (((0:Int)<=((g[(Int.toNat b)]'u.2)[(Int.toNat c)]'h.2).1)/\((Int.toNat ((g[(Int.toNat b)]'u.2)[(Int.toNat c)]'h.2).1)<(List.length p)))/\
 ∃v:((Int.toNat ((g[(Int.toNat b)]'u.2)[(Int.toNat c)]'h.2).1)<(List.length p)),
 (fI ((p[(Int.toNat ((g[(Int.toNat b)]'u.2)[(Int.toNat c)]'h.2).1)]'v) - (0:Int)))/\
 (v18.p ((ite (((p[(Int.toNat ((g[(Int.toNat b)]'u.2)[(Int.toNat c)]'h.2).1)]'v) - (0:Int))<((g[(Int.toNat b)]'u.2)[(Int.toNat c)]'h.2).2.1) ((p[(Int.toNat ((g[(Int.toNat b)]'u.2)[(Int.toNat c)]'h.2).1)]'v) - (0:Int)) ((g[(Int.toNat b)]'u.2)[(Int.toNat c)]'h.2).2.1),(ite (((p[(Int.toNat ((g[(Int.toNat b)]'u.2)[(Int.toNat c)]'h.2).1)]'v) - (0:Int))>((g[(Int.toNat b)]'u.2)[(Int.toNat c)]'h.2).2.2) ((p[(Int.toNat ((g[(Int.toNat b)]'u.2)[(Int.toNat c)]'h.2).1)]'v) - (0:Int)) ((g[(Int.toNat b)]'u.2)[(Int.toNat c)]'h.2).2.2),()))/\
 (((List.length r)+(List.length ((((g[(Int.toNat b)]'u.2)[(Int.toNat c)]'h.2).1,(ite (((p[(Int.toNat ((g[(Int.toNat b)]'u.2)[(Int.toNat c)]'h.2).1)]'v) - (0:Int))<((g[(Int.toNat b)]'u.2)[(Int.toNat c)]'h.2).2.1) ((p[(Int.toNat ((g[(Int.toNat b)]'u.2)[(Int.toNat c)]'h.2).1)]'v) - (0:Int)) ((g[(Int.toNat b)]'u.2)[(Int.toNat c)]'h.2).2.1),(ite (((p[(Int.toNat ((g[(Int.toNat b)]'u.2)[(Int.toNat c)]'h.2).1)]'v) - (0:Int))>((g[(Int.toNat b)]'u.2)[(Int.toNat c)]'h.2).2.2) ((p[(Int.toNat ((g[(Int.toNat b)]'u.2)[(Int.toNat c)]'h.2).1)]'v) - (0:Int)) ((g[(Int.toNat b)]'u.2)[(Int.toNat c)]'h.2).2.2))::([]:List (Int×(Int×Int))))))<=iR)/\
 (((List.length q)+(List.length ((0:Int)::([]:List Int))))<=iR)/\
 (fI (c+(1:Int)))/\
 (y (a,b,(c+(1:Int)),d,e,f,g,i,j,l,m,n,o,p,(q++((0:Int)::([]:List Int))),(r++((((g[(Int.toNat b)]'u.2)[(Int.toNat c)]'h.2).1,(ite (((p[(Int.toNat ((g[(Int.toNat b)]'u.2)[(Int.toNat c)]'h.2).1)]'v) - (0:Int))<((g[(Int.toNat b)]'u.2)[(Int.toNat c)]'h.2).2.1) ((p[(Int.toNat ((g[(Int.toNat b)]'u.2)[(Int.toNat c)]'h.2).1)]'v) - (0:Int)) ((g[(Int.toNat b)]'u.2)[(Int.toNat c)]'h.2).2.1),(ite (((p[(Int.toNat ((g[(Int.toNat b)]'u.2)[(Int.toNat c)]'h.2).1)]'v) - (0:Int))>((g[(Int.toNat b)]'u.2)[(Int.toNat c)]'h.2).2.2) ((p[(Int.toNat ((g[(Int.toNat b)]'u.2)[(Int.toNat c)]'h.2).1)]'v) - (0:Int)) ((g[(Int.toNat b)]'u.2)[(Int.toNat c)]'h.2).2.2))::([]:List (Int×(Int×Int))))),s,t,()))))
 ((((List.length t)+(List.length (r::([]:List (List (Int×(Int×Int)))))))<=iR)/\
 (fI (b+(1:Int)))/\
 (B (a,(b+(1:Int)),d,e,f,g,i,j,l,m,n,o,p,q,s,(t++(r::([]:List (List (Int×(Int×Int)))))),())))))
 ((k (a7.I9 ((a7.agg ((rI l)::((rI m)::((rI n)::((a7.P5 (Ty.slice (Ty.pair tI tP)) r false)::[])))))::((a7.B6 0 false)::((a7.B6 1 false)::[])))) ((c7.sl tI o)::((c7.sl tI p)::[])))))))
 theorem eq6(lo hi lots:Int)(x:List (List m9))(l:List Int)(k:a7->List c7->Prop):awpF (m4 [(17,N9 [v17]),(18,N9 [v18])]) Tryz.prog kt 6 false Tryz.f6 (v6.args (lo,hi,lots,x,l,())) (v6.B2 (lo,hi,lots,x,l,())) k=vc6 lo hi lots x l k:=by kernel_rfl
theorem tx6:(Tryz.f6.body.map Code.j3).getD true=true:=by kernel_rfl
end Go.Abs.T1
end
section
open Go.Proofs
set_option maxRecDepth 100000
set_option maxHeartbeats 0
set_option linter.unusedVariables false
namespace Go.Abs.T1
theorem zQ{lo hi lots:Int}{a:List (List m9)}(h:S4 lo hi lots a=0):(0<=lo/\lo<=hi/\hi<=50)/\(1<=lots/\lots<=6)/\a.length<=4/\(∀y∈a,1<=y.length/\y.length<=12)/\a.flatten.length<=12/\∀s∈a.flatten,(0<=s.1/\s.1<lots)/\ -1000<=s.2.1/\s.2.1<=s.2.2/\s.2.2<=1000:=by
 unfold S4 at h;split at h
 ·cases h
 ·rename_i d;split at h
  ·cases h
  ·rename_i g;split at h
   ·cases h
   ·rename_i b;split at h
    ·cases h
    ·rename_i i;split at h
     ·cases h
     ·rename_i c;refine⟨?_,by omega,by omega,fun y e=>?_,by omega,fun s f=>?_⟩
      ·simp only[bF,decide_eq_false_iff_not,Decidable.not_not]at d;omega
      ·have b:a.any gS=false:=by simpa using b
       have:=List.any_eq_false.1 b y e;simp only[gS,decide_eq_true_eq]at this;have j:¬(List.length (α:=m9) y=0\/12<List.length (α:=m9) y):=this;omega
      ·have c:a.flatten.any (dP lots)=false:=by simpa using c
       have:=List.any_eq_false.1 c s f;simp only[dP,bF,Bool.or_eq_true,Bool.not_eq_true',decide_eq_true_eq,decide_eq_false_iff_not]at this;omega
theorem GK{l:List Int}(h:PV 0 65535 l)(i:Int):0<=w8 l i/\w8 l i<=65535:=by
 unfold w8;split
 ·omega
 ·rw[List.getD_eq_getElem?_getD];cases a:l[i.toNat % l.length]? with
  |none=>exact⟨by decide,by decide⟩
  |some x=>exact h x (List.mem_of_getElem? a)
def uR(lo hi lots:Int)(b:List Int)(a:List (List m9))(j:Nat):List (List m9)×List Int:=(a.take j).foldl (JL lo hi lots b) ([],[])
def tO(lo hi lots:Int)(b:List Int)(l:List m9)(td:List Int)(k:Nat):List m9×List Int:=(l.take k).foldl (mK lo hi lots b) ([],td)
theorem Lh(lo hi lots:Int)(b:List Int){a:List (List m9)}{j:Nat}(c:j<a.length):uR lo hi lots b a (j+1)=((uR lo hi lots b a j).1++ [(tO lo hi lots b a[j] (uR lo hi lots b a j).2 a[j].length).1],(tO lo hi lots b a[j] (uR lo hi lots b a j).2 a[j].length).2):=by
 unfold uR tO;rw[List.take_succ_eq_append_getElem c,List.foldl_append,List.take_length];rfl
theorem Li(lo hi lots:Int)(b:List Int){l:List m9}(td:List Int){k:Nat}(a:k<l.length):tO lo hi lots b l td (k+1)=mK lo hi lots b (tO lo hi lots b l td k) l[k]:=by
 unfold tO;rw[List.take_succ_eq_append_getElem a,List.foldl_append];rfl
theorem Lj(l:List Int)(x:Int):(l++ [x]).getD ((l++ [x]).length- 1) 0=x:=by
 rw[List.getD_eq_getElem?_getD,List.length_append,List.length_singleton,Nat.add_sub_cancel,List.getElem?_append_right (Nat.le_refl _),Nat.sub_self];rfl
theorem Ll{lo hi lots:Int}{b td:List Int}{k:Nat}(a:0<=lo)(c:lo<=hi)(d:hi<=50)(h:0<k->0<=td.getD (td.length- 1) 0/\td.getD (td.length- 1) 0<=50*(k:Int)):0<=N1 lo hi lots b td k/\N1 lo hi lots b td k<=50*((k+1:Nat):Int):=by
 unfold N1;split
 ·omega
 ·rename_i e;have:=h (by omega)
  have:=Int.emod_nonneg (w8 b ((td.length:Int)+lots)) (show hi- lo+1≠0 by omega)
  have:=Int.emod_lt_of_pos (w8 b ((td.length:Int)+lots)) (show 0<hi- lo+1 by omega)
  omega
theorem Qq(a b:Int):(if a<b then a else b)=min b a:=by split<;>omega
theorem Qr(a b:Int):(if a>b then a else b)=max b a:=by split<;>omega
theorem k6(hG:Good Tryz.prog (m4 [(17,N9 [v17]),(18,N9 [v18])])):v6.Kept Tryz.prog 6:=by
 rintro⟨lo,hi,lots,ss,l,⟨⟩⟩ b0b k hk;change Int at lo hi lots;change List (List m9)at ss;change List Int at l;refine J5 o7 hG Tryz.func6 tx6 (Eq.mpr (eq6 lo hi lots ss l k) ?_);unfold vc6;obtain⟨hr,hl,hlen⟩:=b0b;have hr:S4 lo hi lots ss=0:=hr;have hl:PV 0 65535 l:=hl;have hlen:l.length<=30:=hlen;obtain⟨⟨b1,b2,b3⟩,⟨b4,b5⟩,b6,b7,b8,b9⟩:=zQ hr;have hk:k (.I9 [.agg [rI lo,rI hi,rI lots,.P5 (.slice tS) (Gs lo hi lots l ss).1 false],.B6 0 false,.B6 1 false]) [.sl tI (B1 lots l),.sl tI (Gs lo hi lots l ss).2]:=hk;have e:Gs lo hi lots l ss=uR lo hi lots l ss ss.length:=by unfold uR;rw[List.take_length];rfl
 rw[e]at hk;clear e;refine Loop.upto (fun i=>(l,(i:Int),lo,hi,lots,ss,0,0,0,lo,hi,lots,(List.range i).map (fun(i:Nat)=>w8 l (i:Int) % 1001),[],[],[],())) (fun i=>True) lots.toNat rfl trivial ?_ ?_
 ·intro j K_j hj a2c a2d;dsimp only;rw[e9];refine⟨fun _=>?_,fun h=>absurd hj (by omega)⟩
  try simp only[Int.toNat_natCast]
  have hn:=GK hl (j:Int);have hK:=a2d trivial;rw[List.range_succ,List.map_append]at hK;exact⟨⟨hl,by show(0:Int)<=j;omega,by show(j:Int)<=1000;omega,hlen⟩,⟨hn.1,by decide⟩,by simp only[iR,List.length_map,List.length_range,List.length_cons,List.length_nil];omega,m5 (by omega) (by omega),hK⟩
 ·intro K hp;dsimp only;rw[e9];refine⟨fun h=>absurd h (by omega),fun _=>?_⟩
  have es:(List.range lots.toNat).map (fun(i:Nat)=>w8 l (i:Int) % 1001)=B1 lots l:=rfl
  rw[es];have hsl:(B1 lots l).length=lots.toNat:=by simp[B1]
  have hsb:∀i,(h:i<(B1 lots l).length)->0<=(B1 lots l)[i]/\(B1 lots l)[i]<=1000:=by
   intro i h;simp only[B1,List.getElem_map,List.getElem_range];omega
  refine Loop.upto (fun j=>(l,(j:Int),lo,hi,lots,ss,0,0,0,lo,hi,lots,B1 lots l,(uR lo hi lots l ss j).2,[],(uR lo hi lots l ss j).1,())) (fun j=>(uR lo hi lots l ss j).2.length=(ss.take j).flatten.length/\(uR lo hi lots l ss j).1.length=j) ss.length rfl ⟨rfl,rfl⟩ ?_ ?_
  ·intro j K_j hj a2c a2d;dsimp only;rw[e9];refine⟨fun _=>?_,fun h=>absurd hj (by omega)⟩
   try simp only[Int.toNat_natCast]
   obtain⟨p1,p2⟩:=a2c;have hK:=a2d;rw[Lh lo hi lots l hj]at hK;have hlj:=b7 _ (List.getElem_mem hj);have UC:(ss.take j).flatten.length+ss[j].length<=12:=by
    have h1:(ss.take (j+1)).flatten.length<=ss.flatten.length:=by
     conv=>rhs;rw[<-List.take_append_drop (j+1) ss,List.flatten_append,List.length_append]
     omega
    rw[P7 hj,List.length_append]at h1;omega
   have Lm:∀s∈ss[j],(0<=s.1/\s.1<lots)/\ -1000<=s.2.1/\s.2.1<=s.2.2/\s.2.2<=1000:=fun s hs=>b9 s (List.mem_flatten.2 ⟨_,List.getElem_mem hj,hs⟩)
   have hft:(ss.take (j+1)).flatten.length=(ss.take j).flatten.length+ss[j].length:=by rw[P7 hj,List.length_append]
   generalize uR lo hi lots l ss j=H at hK p1 p2;refine Loop.upto (fun k=>(l,(j:Int),(k:Int),lo,hi,lots,ss,0,0,0,lo,hi,lots,B1 lots l,(tO lo hi lots l ss[j] H.2 k).2,(tO lo hi lots l ss[j] H.2 k).1,[],H.1,())) (fun k=>(tO lo hi lots l ss[j] H.2 k).1.length=k/\(tO lo hi lots l ss[j] H.2 k).2.length=H.2.length+k/\(0<k->0<=(tO lo hi lots l ss[j] H.2 k).2.getD ((tO lo hi lots l ss[j] H.2 k).2.length- 1) 0/\(tO lo hi lots l ss[j] H.2 k).2.getD ((tO lo hi lots l ss[j] H.2 k).2.length- 1) 0<=50*(k:Int))) ss[j].length rfl ⟨rfl,rfl,fun h=>absurd h (by omega)⟩ ?_ ?_
   ·intro c K hc hp FV;dsimp only
    try simp only[Int.toNat_natCast]
    have f0:(0:Int)<=(j:Int)/\j<ss.length:=⟨by omega,hj⟩
    have f1:(0:Int)<=(c:Int)/\c<ss[j].length:=⟨by omega,hc⟩
    refine⟨f0,?_⟩;rw[e9];refine⟨fun _=>?_,fun h=>absurd hc (by omega)⟩
    rw[Li lo hi lots l H.2 hc]at FV;obtain⟨q1,q2,q3⟩:=hp;have hs:=Lm _ (List.getElem_mem hc);have Sg:ss[j][c].1.toNat<(B1 lots l).length:=by omega
    have b4m:=hsb _ Sg;have hx:=Ll (b:=l) (lots:=lots) (td:=(tO lo hi lots l ss[j] H.2 c).2) (k:=c) b1 b2 b3 q3;generalize tO lo hi lots l ss[j] H.2 c=S at FV q1 q2 q3 hx;have e1:mK lo hi lots l S ss[j][c]=(S.1++ [(ss[j][c].1,min ss[j][c].2.1 ((B1 lots l)[ss[j][c].1.toNat] - N1 lo hi lots l S.2 c),max ss[j][c].2.2 ((B1 lots l)[ss[j][c].1.toNat] - N1 lo hi lots l S.2 c))],S.2++ [N1 lo hi lots l S.2 c]):=by
     unfold mK;rw[q1,Vx Sg]
    rw[e1]at FV;have FV:=FV ⟨by rw[List.length_append,List.length_singleton,q1],by rw[List.length_append,List.length_singleton,q2];omega,fun _=>by rw[Lj];exact hx⟩
    have g1:S.1.length+1<=iR:=by simp only[iR];omega
    have g2:S.2.length+1<=iR:=by simp only[iR];omega
    rw[e9];refine⟨fun Tp=>?_,fun Tp=>?_⟩
    ·have q4:=q3 (by omega)
     have Qs:S.2.length- 1<S.2.length:=by omega
     have el:Int.toNat ((S.2.length:Int) - 1)=S.2.length- 1:=by omega
     have et:N1 lo hi lots l S.2 c=S.2[S.2.length- 1]+lo+w8 l ((S.2.length:Int)+lots) % (hi- lo+1):=by
           unfold N1;rw[if_neg (by omega),Vx Qs]
     have hn:=GK hl ((S.2.length:Int)+lots);rw[Vx Qs]at q4;rw[el];have h15:(0:Int)<=(S.2.length:Int) - 1/\S.2.length- 1<S.2.length:=⟨by omega,Qs⟩
     refine⟨m5 (by omega) (by omega),h15,Qs,m5 (by omega) (by omega),m5 (by omega) (by omega),⟨hl,by show 0<=(S.2.length:Int)+lots;omega,by show(S.2.length:Int)+lots<=1000;omega,hlen⟩,m5 (by omega) (by omega),m5 (by omega) (by omega),⟨hn.1,by omega⟩,?_⟩
     rw[<-et];refine⟨m5 (by omega) (by omega),f0,f1,⟨hs.1.1,Sg⟩,Sg,m5 (by omega) (by omega),?_⟩
     rw[Qq,Qr];exact⟨trivial,g1,g2,m5 (by omega) (by omega),FV⟩
    ·have Tp:c=0:=by omega
     have et:N1 lo hi lots l S.2 c=0:=by unfold N1;rw[if_pos Tp]
     rw[et]at FV;refine⟨f0,f1,⟨hs.1.1,Sg⟩,Sg,m5 (by omega) (by omega),?_⟩
     rw[Qq,Qr];exact⟨trivial,g1,g2,m5 (by omega) (by omega),FV⟩
   ·intro K hp;dsimp only
    try simp only[Int.toNat_natCast]
    refine⟨⟨by omega,hj⟩,?_⟩
    rw[e9];refine⟨fun h=>absurd h (by omega),fun _=>?_⟩
    obtain⟨q1,q2,_⟩:=hp;refine⟨by simp only[iR,List.length_cons,List.length_nil];omega,m5 (by omega) (by omega),hK ⟨?_,?_⟩⟩
    ·show(tO lo hi lots l ss[j] H.2 ss[j].length).2.length=_;rw[q2,hft,p1]
    ·show(H.1++ [_]).length=_;rw[List.length_append,List.length_singleton,p2]
  ·intro K_j a2c;dsimp only;rw[e9];refine⟨fun h=>absurd h (by omega),fun _=>?_⟩
   exact hk
where
 Vx {l:List Int} {i:Nat} (h:i<l.length):l.getD i 0=l[i]:=by rw[List.getD_eq_getElem?_getD,List.getElem?_eq_getElem h];rfl
end Go.Abs.T1
end
section
open Go.Proofs
set_option maxRecDepth 100000
set_option linter.unusedVariables false
namespace Go.Abs.T1
def a6a(lo hi lots:Int)(J:List (List m9))(k:a7->List c7->Prop):Prop:=
  (FL.p (J,()))/\
 LP (lots,(0:Int),lo,hi,lots,J,lo,hi,lots,J,(List.flatten J),([]:l6 tP),(0:Nat),()) (fun K5 (a,b,c,d,e,f,g,i,j,l,m,n,o,())=>
 br ((decide (b<a)))
 ((fI (b+(1:Int)))/\
 (fI (b+(1:Int)))/\
 ∀S:(l6 tP),
 ∀b8:(S=(M0 tP n o ((0:Int),(b+(1:Int))) (y8 tP n ((0:Int),(b+(1:Int)))))),
 ∀R:Nat,
 ∀b10:(R=(P3 tP n o ((0:Int),(b+(1:Int))))),
 ∀fC:Nat,
 ∀Yg:(fC=(M8 tP n o ((0:Int),(b+(1:Int))))),
 (((0:Int)<=((fC:Nat):Int))/\((Cv tP S (Int.toNat ((fC:Nat):Int)))=true))/\
 ∀Jv:(l6 tP),
 ∀K:(Jv=(eJ tP S (Int.toNat ((fC:Nat):Int)) (1000:Int))),
 ∀v:(l6 tP),
 ∀L:(v=(M0 tP Jv R ((b+(1:Int)),(0:Int)) (y8 tP Jv ((b+(1:Int)),(0:Int))))),
 ∀w:Nat,
 ∀M:(w=(P3 tP Jv R ((b+(1:Int)),(0:Int)))),
 ∀u:Nat,
 ∀N:(u=(M8 tP Jv R ((b+(1:Int)),(0:Int)))),
 (((0:Int)<=((u:Nat):Int))/\((Cv tP v (Int.toNat ((u:Nat):Int)))=true))/\
 ∀z:(l6 tP),
 ∀O:(z=(eJ tP v (Int.toNat ((u:Nat):Int)) (0:Int))),
 (fI (b+(1:Int)))/\
 (K5 (a,(b+(1:Int)),c,d,e,f,g,i,j,l,m,z,w,())))
 ((fI (e+(1:Int)))/\
 LP ((e+(1:Int)),f,(((List.length f):Nat):Int),(0:Int),c,d,e,f,g,i,j,l,m,n,o,()) (fun K7 (a,b,c,d,e,f,g,i,j,l,m,n,o,p,q,())=>
 br ((decide (d<c)))
 (∃h9:(((0:Int)<=d)/\((Int.toNat d)<(List.length b))),
 LP (a,b,c,d,(b[(Int.toNat d)]'h9.2),(((List.length (b[(Int.toNat d)]'h9.2)):Nat):Int),(0:Int),e,f,g,i,j,l,m,n,o,p,q,()) (fun P (a,b,c,d,e,f,g,i,j,l,m,n,o,p,q,r,s,t,())=>
 br ((decide (g<f)))
 (∃h:(((0:Int)<=g)/\((Int.toNat g)<(List.length e))),
 br ((g==(0:Int)))
 (∀Jv:(l6 tP),
 ∀K:(Jv=(M0 tP s t ((0:Int),a) (y8 tP s ((0:Int),a)))),
 ∀v:Nat,
 ∀L:(v=(P3 tP s t ((0:Int),a))),
 ∀w:Nat,
 ∀M:(w=(M8 tP s t ((0:Int),a))),
 (((0:Int)<=((w:Nat):Int))/\((Cv tP Jv (Int.toNat ((w:Nat):Int)))=true))/\
 ∀u:(l6 tP),
 ∀N:(u=(eJ tP Jv (Int.toNat ((w:Nat):Int)) (0:Int))),
 ∀z:(l6 tP),
 ∀O:(z=(M0 tP u v (a,(0:Int)) (y8 tP u (a,(0:Int))))),
 ∀A:Nat,
 ∀T:(A=(P3 tP u v (a,(0:Int)))),
 ∀B:Nat,
 ∀U:(B=(M8 tP u v (a,(0:Int)))),
 (((0:Int)<=((B:Nat):Int))/\((Cv tP z (Int.toNat ((B:Nat):Int)))=true))/\
 ∀x:(l6 tP),
 ∀V:(x=(eJ tP z (Int.toNat ((B:Nat):Int)) (0:Int))),
 (fI ((e[(Int.toNat g)]'h.2).1+(1:Int)))/\
 (fI ((e[(Int.toNat g)]'h.2).1+(1:Int)))/\
 (fI (-(e[(Int.toNat g)]'h.2).2.1:Int))/\
 ∀F:(l6 tP),
 ∀X:(F=(M0 tP x A (a,((e[(Int.toNat g)]'h.2).1+(1:Int))) (y8 tP x (a,((e[(Int.toNat g)]'h.2).1+(1:Int)))))),
 ∀C:Nat,
 ∀Y:(C=(P3 tP x A (a,((e[(Int.toNat g)]'h.2).1+(1:Int))))),
 ∀D:Nat,
 ∀Z:(D=(M8 tP x A (a,((e[(Int.toNat g)]'h.2).1+(1:Int))))),
 (((0:Int)<=((D:Nat):Int))/\((Cv tP F (Int.toNat ((D:Nat):Int)))=true))/\
 ∀y:(l6 tP),
 ∀b36:(y=(eJ tP F (Int.toNat ((D:Nat):Int)) (e[(Int.toNat g)]'h.2).2.2)),
 ∀G:(l6 tP),
 ∀b38:(G=(M0 tP y C (((e[(Int.toNat g)]'h.2).1+(1:Int)),a) (y8 tP y (((e[(Int.toNat g)]'h.2).1+(1:Int)),a)))),
 ∀H:Nat,
 ∀b40:(H=(P3 tP y C (((e[(Int.toNat g)]'h.2).1+(1:Int)),a))),
 ∀E:Nat,
 ∀b42:(E=(M8 tP y C (((e[(Int.toNat g)]'h.2).1+(1:Int)),a))),
 (((0:Int)<=((E:Nat):Int))/\((Cv tP G (Int.toNat ((E:Nat):Int)))=true))/\
 ∀I:(l6 tP),
 ∀b44:(I=(eJ tP G (Int.toNat ((E:Nat):Int)) (-(e[(Int.toNat g)]'h.2).2.1:Int))),
 (fI (a+(1:Int)))/\
 (fI (g+(1:Int)))/\
 (P ((a+(1:Int)),b,c,d,e,f,(g+(1:Int)),i,j,l,m,n,o,p,q,r,I,H,())))
 ((fI (a- (1:Int)))/\
 (fI (a- (1:Int)))/\
 (fI (-i:Int))/\
 ∀Jv:(l6 tP),
 ∀K:(Jv=(M0 tP s t ((a- (1:Int)),a) (y8 tP s ((a- (1:Int)),a)))),
 ∀v:Nat,
 ∀L:(v=(P3 tP s t ((a- (1:Int)),a))),
 ∀w:Nat,
 ∀M:(w=(M8 tP s t ((a- (1:Int)),a))),
 (((0:Int)<=((w:Nat):Int))/\((Cv tP Jv (Int.toNat ((w:Nat):Int)))=true))/\
 ∀u:(l6 tP),
 ∀N:(u=(eJ tP Jv (Int.toNat ((w:Nat):Int)) j)),
 ∀z:(l6 tP),
 ∀O:(z=(M0 tP u v (a,(a- (1:Int))) (y8 tP u (a,(a- (1:Int)))))),
 ∀A:Nat,
 ∀T:(A=(P3 tP u v (a,(a- (1:Int))))),
 ∀B:Nat,
 ∀U:(B=(M8 tP u v (a,(a- (1:Int))))),
 (((0:Int)<=((B:Nat):Int))/\((Cv tP z (Int.toNat ((B:Nat):Int)))=true))/\
 ∀x:(l6 tP),
 ∀V:(x=(eJ tP z (Int.toNat ((B:Nat):Int)) (-i:Int))),
 (fI ((e[(Int.toNat g)]'h.2).1+(1:Int)))/\
 (fI ((e[(Int.toNat g)]'h.2).1+(1:Int)))/\
 (fI (-(e[(Int.toNat g)]'h.2).2.1:Int))/\
 ∀F:(l6 tP),
 ∀X:(F=(M0 tP x A (a,((e[(Int.toNat g)]'h.2).1+(1:Int))) (y8 tP x (a,((e[(Int.toNat g)]'h.2).1+(1:Int)))))),
 ∀C:Nat,
 ∀Y:(C=(P3 tP x A (a,((e[(Int.toNat g)]'h.2).1+(1:Int))))),
 ∀D:Nat,
 ∀Z:(D=(M8 tP x A (a,((e[(Int.toNat g)]'h.2).1+(1:Int))))),
 (((0:Int)<=((D:Nat):Int))/\((Cv tP F (Int.toNat ((D:Nat):Int)))=true))/\
 ∀y:(l6 tP),
 ∀b36:(y=(eJ tP F (Int.toNat ((D:Nat):Int)) (e[(Int.toNat g)]'h.2).2.2)),
 ∀G:(l6 tP),
 ∀b38:(G=(M0 tP y C (((e[(Int.toNat g)]'h.2).1+(1:Int)),a) (y8 tP y (((e[(Int.toNat g)]'h.2).1+(1:Int)),a)))),
 ∀H:Nat,
 ∀b40:(H=(P3 tP y C (((e[(Int.toNat g)]'h.2).1+(1:Int)),a))),
 ∀E:Nat,
 ∀b42:(E=(M8 tP y C (((e[(Int.toNat g)]'h.2).1+(1:Int)),a))),
 (((0:Int)<=((E:Nat):Int))/\((Cv tP G (Int.toNat ((E:Nat):Int)))=true))/\
 ∀I:(l6 tP),
 ∀b44:(I=(eJ tP G (Int.toNat ((E:Nat):Int)) (-(e[(Int.toNat g)]'h.2).2.1:Int))),
 (fI (a+(1:Int)))/\
 (fI (g+(1:Int)))/\
 (P ((a+(1:Int)),b,c,d,e,f,(g+(1:Int)),i,j,l,m,n,o,p,q,r,I,H,()))))
 ((fI (d+(1:Int)))/\
 (K7 (a,b,c,(d+(1:Int)),i,j,l,m,n,o,p,q,r,s,t,())))))
 ((k (a7.ptr 0 0) ((c7.box ((rI j)::((rI l)::((rI m)::((a7.P5 (Ty.slice (Ty.pair tI tP)) n false)::((a7.B6 1 false)::((a7.z8 2)::[])))))))::((c7.sl (Ty.pair tI tP) o)::((c7.mp mB p q)::[]))))))))
 theorem b0c(lo hi lots:Int)(J:List (List m9))(k:a7->List c7->Prop):awpG (m4 [(124,N9 [FL])]) Tryz.prog kt 73 Tryz.f73 (v73.args (lo,hi,lots,J,())) (v73.B2 (lo,hi,lots,J,())) k=a6a lo hi lots J k:=by kernel_rfl
theorem b0d:(Tryz.f73.body.map Code.j3).getD true=true:=by kernel_rfl
end Go.Abs.T1
end
section
open Go.Proofs
set_option maxRecDepth 100000
set_option linter.unusedVariables false
namespace Go.Abs.T1
theorem Ln{x:tP.den}{clk:Nat}:∀ {l:l6 tP},J4 tP l x=true->M8 tP l clk x∈l.map (·.1)
 |[],h=>by cases h
 |e::l,h=>by
  unfold M8;by_cases a:tP.beq x e.2.1=true
  ·rw[if_pos a];exact List.mem_map_of_mem (f:=fun y:Nat×tP.den×Int=>y.1) (List.mem_cons_self ..)
  ·rw[if_neg a];rw[fX,Bool.or_eq_true]at h;rcases h with h|h
   ·exact absurd h a
   ·rw[List.map_cons];exact List.mem_cons_of_mem _ (Ln h)
theorem Qt{x:tP.den}{clk:Nat}{w v:Int}:∀ {l:l6 tP},(l.map (·.1)).Nodup->J4 tP l x=true->eJ tP (cC tP x w l) (M8 tP l clk x) v=cC tP x v l/\Cv tP (cC tP x w l) (M8 tP l clk x)=true
 |[],_,h=>by cases h
 |e::l,b,h=>by
  rw[List.map_cons,List.nodup_cons]at b;unfold cC M8;by_cases a:tP.beq x e.2.1=true
  ·rw[if_pos a,if_pos a,if_pos a];refine⟨?_,?_⟩
   ·show(if Nat.beq e.1 e.1 then(e.1,x,v)::l else _)=_
    rw[if_pos (Nat.beq_refl _)]
   ·show(Nat.beq e.1 e.1||_)=true;rw[Nat.beq_refl];rfl
  ·rw[if_neg a,if_neg a,if_neg a];rw[fX,Bool.or_eq_true]at h;rcases h with h|h
   ·exact absurd h a
   ·obtain⟨d,f⟩:=Qt (clk:=clk) (w:=w) (v:=v) b.2 h;have c:¬Nat.beq e.1 (M8 tP l clk x)=true:=by
     intro g;have:=Nat.eq_of_beq_eq_true g;exact b.1 (by rw[this];exact Ln h)
    refine⟨?_,?_⟩
    ·show(if Nat.beq e.1 (M8 tP l clk x)then _ else e::eJ tP (cC tP x w l) (M8 tP l clk x) v)=_
     rw[if_neg c,d]
    ·show(Nat.beq e.1 _||Cv tP (cC tP x w l) (M8 tP l clk x))=true;rw[f,Bool.or_true]
theorem Lo{x:tP.den}{clk:Nat}:∀ {l:l6 tP},J4 tP l x=false->M8 tP l clk x=clk
 |[],_=>rfl
 |e::l,h=>by
  rw[fX,Bool.or_eq_false_iff]at h;unfold M8;rw[if_neg (by rw[h.1];simp),Lo h.2]
theorem Qu{x:tP.den}{clk:Nat}{w v:Int}:∀ {l:l6 tP},(∀e∈l,e.1<clk)->eJ tP (l++ [(clk,x,w)]) clk v=l++ [(clk,x,v)]/\Cv tP (l++ [(clk,x,w)]) clk=true
 |[],_=>by
  refine⟨?_,?_⟩
  ·show(if Nat.beq clk clk then _ else _)=_
   rw[if_pos (Nat.beq_refl _)];rfl
  ·show(Nat.beq clk clk||_)=true;rw[Nat.beq_refl];rfl
 |e::l,h=>by
  obtain⟨b,c⟩:=Qu (x:=x) (w:=w) (v:=v) (fun e d=>h e (List.mem_cons_of_mem _ d))
  have a:¬Nat.beq e.1 clk=true:=by
   intro f;have:=Nat.eq_of_beq_eq_true f;have:=h e (List.mem_cons_self ..);omega
  refine⟨?_,?_⟩
  ·show(if Nat.beq e.1 clk then _ else e::eJ tP (l++ [(clk,x,w)]) clk v)=_
   rw[if_neg a,b];rfl
  ·show(Nat.beq e.1 _||Cv tP (l++ [(clk,x,w)]) clk)=true;rw[c,Bool.or_true]
theorem Sh{E:l6 tP}{C:Nat}(a:Jy tP E C)(x:tP.den)(v:Int):eJ tP (M0 tP E C x (y8 tP E x)) (M8 tP E C x) v=M0 tP E C x v/\Cv tP (M0 tP E C x (y8 tP E x)) (M8 tP E C x)=true:=by
 unfold M0;cases h:J4 tP E x with
 |true=>
  rw[if_pos rfl,if_pos rfl];exact Qt a.Oy h
 |false=>
  rw[if_neg (by simp),if_neg (by simp),Lo h]
  exact Qu a.lt
theorem aW{st:MS}{i k v:Int}(c:Jy tP st.1 st.2){Q:l6 tP->Nat->Prop}(h:∀a:MS,a=kV st i k v->Jy tP a.1 a.2->Q a.1 a.2):
  ∀f:l6 tP,f=M0 tP st.1 st.2 (i,k) (y8 tP st.1 (i,k))->∀b2:Nat,b2=P3 tP st.1 st.2 (i,k)->∀d:Nat,d=M8 tP st.1 st.2 (i,k)->((0<=(d:Int))/\Cv tP f (Int.toNat (d:Int))=true)/\∀g:l6 tP,g=eJ tP f (Int.toNat (d:Int)) v->Q g b2:=by
 intro f l b2 m d n;subst l m n;obtain⟨o,p⟩:=Sh c ((i,k):Int×Int) v;rw[Int.toNat_natCast];refine⟨⟨by omega,p⟩,?_⟩
 intro g q;have j:∀b,b=(kV st i k v).1->Q b (P3 tP st.1 st.2 (i,k)):=fun b e=>by
  subst e;exact h (kV st i k v) rfl (c.put rfl ((i,k):Int×Int) v)
 exact j g (q.trans o)
theorem YP{lo hi lots:Int}{c:List (List m9)}(h:H9 lo hi lots c=0):(0<=lo/\lo<=hi/\hi<=50)/\(1<=lots/\lots<=6)/\∀s∈c.flatten,(0<=s.1/\s.1<lots)/\ -1000<=s.2.1/\s.2.1<=s.2.2/\s.2.2<=1000:=by
 have d:∀lo hi a b:Int,O5 lo hi a b=true->a<=lo/\lo<=hi/\hi<=b:=by
  intro lo hi a b h;simp only[O5,D7,I8,List.any_cons,List.any_nil,Bool.and_eq_true,Bool.not_eq_true',Bool.or_eq_false_iff,decide_eq_false_iff_not,decide_eq_true_eq]at h;omega
 unfold H9 at h;split at h
 ·cases h
 ·rename_i e;split at h
  ·cases h
  ·rename_i f;split at h
   ·cases h
   ·split at h
    ·cases h
    ·rename_i g;refine⟨d _ _ _ _ (by simpa using e),?_,fun s i=>?_⟩
     ·simp only[not_or,D7,I8,List.any_cons,List.any_nil,Bool.or_false,decide_eq_true_eq]at f;omega
     ·have j:c.flatten.any (O6 lots)=false:=by simpa using g
      have:=List.any_eq_false.1 j s i;simp only[O6,Bool.or_eq_true,Bool.not_eq_true',not_or,Bool.not_eq_false]at this;obtain⟨k,g2⟩:=this;have l:=d _ _ _ _ g2;simp only[D7,I8,List.any_cons,List.any_nil,Bool.or_false,decide_eq_true_eq]at k;omega
def LS(i:Nat):MS:=(List.range i).foldl a39 ([],0)
def Jz(lo hi lots:Int)(a:List (List m9))(j:Nat):MS×Int:=(a.take j).foldl (vX lo hi) (LS lots.toNat,lots+1)
def JA(lo hi:Int)(m:MS)(a:Int)(s:List m9)(k:Nat):MS×Int×Nat:=(s.take k).foldl (R5 lo hi) (m,a,0)
theorem Qv(i:Nat):LS (i+1)=kV (kV (LS i) 0 ((i:Int)+1) 1000) ((i:Int)+1) 0 0:=by unfold LS;rw[List.range_succ,List.foldl_append];rfl
theorem Vy(lo hi lots:Int){a:List (List m9)}{j:Nat}(b:j<a.length):Jz lo hi lots a (j+1)=((JA lo hi (Jz lo hi lots a j).1 (Jz lo hi lots a j).2 a[j] a[j].length).1,(JA lo hi (Jz lo hi lots a j).1 (Jz lo hi lots a j).2 a[j] a[j].length).2.1):=by
 have:Jz lo hi lots a (j+1)=vX lo hi (Jz lo hi lots a j) a[j]:=by
  unfold Jz;rw[List.take_succ_eq_append_getElem b,List.foldl_append];rfl
 rw[this];unfold JA;rw[List.take_length];rfl
theorem Lp(lo hi:Int)(m:MS)(a:Int){s:List m9}{k:Nat}(b:k<s.length):JA lo hi m a s (k+1)=R5 lo hi (JA lo hi m a s k) s[k]:=by
 unfold JA;rw[List.take_succ_eq_append_getElem b,List.foldl_append];rfl
theorem a0V(lo hi:Int)(m:MS)(a:Int)(s:List m9):∀k,k<=s.length->(JA lo hi m a s k).2.1=a+(k:Int)/\(JA lo hi m a s k).2.2=k
 |0,_=>⟨by show a=a+((0:Nat):Int);omega,rfl⟩
 |k+1,h=>by
  obtain⟨b,c⟩:=a0V lo hi m a s k (by omega)
  rw[Lp lo hi m a (show k<s.length by omega)]
  refine⟨?_,?_⟩
  ·show(JA lo hi m a s k).2.1+1=_;rw[b];omega
  ·show(JA lo hi m a s k).2.2+1=_;rw[c]
theorem k73(hG:Good Tryz.prog (m4 [(124,N9 [FL])])):v73.Kept Tryz.prog 73:=by
 rintro⟨lo,hi,lots,a,⟨⟩⟩ r k F;change Int at lo hi lots;change List (List m9)at a;refine aM o7 hG Tryz.func73 b0d (Eq.mpr (b0c lo hi lots a k) ?_);unfold a6a;obtain⟨H,t,p⟩:=r;have H:H9 lo hi lots a=0:=H;have t:a.length<=4:=t;have p:∀y∈a,y.length<=12:=p;have e:CJ lo hi lots a=(Jz lo hi lots a a.length).1:=by unfold Jz;rw[List.take_length];rfl
 have F:k (.ptr 0 0) (tgA lo hi lots a a.flatten (CJ lo hi lots a).1 (CJ lo hi lots a).2):=F;rw[e]at F;clear e;obtain⟨⟨b1,b2,b3⟩,⟨b4,b5⟩,b6⟩:=YP H;refine⟨⟨t,p⟩,?_⟩;refine Loop.upto (fun i=>(lots,(i:Int),lo,hi,lots,a,lo,hi,lots,a,a.flatten,(LS i).1,(LS i).2,())) (fun i=>Jy tP (LS i).1 (LS i).2) lots.toNat rfl (Jy.nil _) ?_ ?_
 ·intro i K_i hi g u;dsimp only;rw[e9];refine⟨fun _=>?_,fun h=>absurd hi (by omega)⟩
  try simp only[Int.toNat_natCast]
  have f:=u;rw[Qv]at f;generalize LS i=st at f g;have q:U1 .i64 ((i:Int)+1):=m5 (by omega) (by omega)
  refine⟨q,q,?_⟩;refine aW g (fun v w t=>?_)
  refine aW t (fun x z p=>?_)
  rw[<-w,<-z]at f;exact⟨q,f p⟩
 ·intro K hp;dsimp only;rw[e9];refine⟨fun h=>absurd h (by omega),fun _=>?_⟩
  refine⟨m5 (by omega) (by omega),?_⟩
  refine Loop.upto (fun j=>((Jz lo hi lots a j).2,a,(a.length:Int),(j:Int),lo,hi,lots,a,lo,hi,lots,a,a.flatten,(Jz lo hi lots a j).1.1,(Jz lo hi lots a j).1.2,())) (fun j=>Jy tP (Jz lo hi lots a j).1.1 (Jz lo hi lots a j).1.2/\lots+1<=(Jz lo hi lots a j).2/\(Jz lo hi lots a j).2<=lots+1+12*(j:Int)) a.length rfl ⟨hp,by show lots+1<=lots+1;omega,by show lots+1<=lots+1+12*((0:Nat):Int);omega⟩ ?_ ?_
  ·intro j I A m B;dsimp only;rw[e9];refine⟨fun _=>?_,fun h=>absurd A (by omega)⟩
   try simp only[Int.toNat_natCast]
   refine⟨⟨by omega,A⟩,?_⟩
   have f:=B;rw[Vy lo hi lots A]at f;obtain⟨X,p2,p3⟩:=m;have C:=p _ (List.getElem_mem A);have n:∀s∈a[j],(0<=s.1/\s.1<lots)/\ -1000<=s.2.1/\s.2.1<=s.2.2/\s.2.2<=1000:=fun s Y=>b6 s (List.mem_flatten.2 ⟨_,List.getElem_mem A,Y⟩)
   generalize Jz lo hi lots a j=T at f X p2 p3;generalize hl:a[j]=l at f C n;have Z:=a0V lo hi T.1 T.2 l;refine Loop.upto (fun k=>((JA lo hi T.1 T.2 l k).2.1,a,(a.length:Int),(j:Int),l,(l.length:Int),(k:Int),lo,hi,lots,a,lo,hi,lots,a,a.flatten,(JA lo hi T.1 T.2 l k).1.1,(JA lo hi T.1 T.2 l k).1.2,())) (fun k=>Jy tP (JA lo hi T.1 T.2 l k).1.1 (JA lo hi T.1 T.2 l k).1.2) l.length rfl X ?_ ?_
   ·intro c J D b E;dsimp only;rw[e9];refine⟨fun _=>?_,fun h=>absurd D (by omega)⟩
    try simp only[Int.toNat_natCast]
    obtain⟨u1,u2⟩:=Z c (Nat.le_of_lt D);have d:=E;rw[Lp lo hi T.1 T.2 D]at d;have Y:=n _ (List.getElem_mem D);have f0:U1 .i64 ((c:Int)+1):=m5 (by omega) (by omega)
    generalize JA lo hi T.1 T.2 l c=U at d b u1 u2;have q:U1 .i64 (U.2.1+1):=m5 (by omega) (by omega)
    have f2:U1 .i64 (U.2.1- 1):=m5 (by omega) (by omega)
    have f3:U1 .i64 (-lo):=m5 (by omega) (by omega)
    have G:U1 .i64 (l[c].1+1):=m5 (by omega) (by omega)
    have f5:U1 .i64 (-l[c].2.1):=m5 (by omega) (by omega)
    refine⟨⟨by omega,D⟩,?_⟩
    rw[Ix];refine⟨fun L=>?_,fun L=>?_⟩
    ·have L:c=0:=by omega
     refine aW b (fun v w M=>?_)
     refine aW M (fun x z g2=>?_)
     refine⟨G,G,f5,?_⟩;refine aW g2 (fun N O P=>?_)
     refine aW P (fun o R S=>?_)
     have V:R5 lo hi U l[c]=(o,U.2.1+1,U.2.2+1):=by
      unfold R5 firstM;rw[if_pos (by omega),<-w,<-z,<-O,<-R]
     rw[V]at d;exact⟨q,f0,d S⟩
    ·have L:¬c=0:=by omega
     refine⟨f2,f2,f3,?_⟩;refine aW b (fun v w M=>?_)
     refine aW M (fun x z g2=>?_)
     refine⟨G,G,f5,?_⟩;refine aW g2 (fun N O P=>?_)
     refine aW P (fun o R S=>?_)
     have V:R5 lo hi U l[c]=(o,U.2.1+1,U.2.2+1):=by
      unfold R5 firstM;rw[if_neg (by omega),<-w,<-z,<-O,<-R]
     rw[V]at d;exact⟨q,f0,d S⟩
   ·intro J b;dsimp only;rw[e9];refine⟨fun h=>absurd h (by omega),fun _=>?_⟩
    obtain⟨u1,u2⟩:=Z l.length (Nat.le_refl _);refine⟨m5 (by omega) (by omega),f ⟨b,?_,?_⟩⟩
    ·show lots+1<=(JA lo hi T.1 T.2 l l.length).2.1;omega
    ·show(JA lo hi T.1 T.2 l l.length).2.1<=lots+1+12*((j+1:Nat):Int);omega
  ·intro I m;dsimp only;rw[e9];refine⟨fun h=>absurd h (by omega),fun _=>?_⟩
   exact F
end Go.Abs.T1
end
section
set_option linter.unusedVariables false
namespace Go.Abs.T1
section
variable (b:Nat->Nat->Option Int) (N:Nat)
def T5(A:Nat->Int)(e:Nat×Nat)(j:Nat):Int:=match b e.1 e.2 with
 |some n=>if A e.1+n<A e.2 then(if j=e.2 then A e.1+n else A j)else A j
 |none=>A j
def OC(A:Nat->Int)(i:Nat):Nat->Int:=(List.range N).foldl (fun A k=>T5 b A (i,k)) A
def U7(A:Nat->Int):Nat->Int:=(List.range N).foldl (OC b N) A
def sV:Nat->(Nat->Int)->Nat->Int
 |0,A=>A
 |t+1,A=>sV t (U7 b N A)
def Lq:List (Nat×Nat):=(List.range N).flatMap fun i=>(List.range N).map fun k=>(i,k)
def inE(e:Nat×Nat):Prop:=e.1<N/\e.2<N
def U8(A:Nat->Int):Prop:=∀i k n,i<N->k<N->b i k=some n->A k<=A i+n
end
variable {b:Nat->Nat->Option Int} {N:Nat} {A B D L:Nat->Int}
theorem zR{e:Nat×Nat}:e∈Lq N↔inE N e:=by
 unfold Lq inE;simp only[List.mem_flatMap,List.mem_map,List.mem_range];constructor
 ·rintro⟨i,hi,k,a,rfl⟩;exact⟨hi,a⟩
 ·rintro⟨c,d⟩;exact⟨e.1,c,e.2,d,rfl⟩
theorem BT(A:Nat->Int):U7 b N A=(Lq N).foldl (T5 b) A:=by
 unfold U7 Lq OC;rw[List.foldl_flatMap];congr 1;funext A i;rw[List.foldl_map]
theorem GL:∀ (t:Nat) (A:Nat->Int),sV b N (t+1) A=U7 b N (sV b N t A)
 |0,A=>rfl
 |t+1,A=>by
  show sV b N (t+1) (U7 b N A)=_;rw[GL t];rfl
theorem Lr(A:Nat->Int)(e:Nat×Nat)(j:Nat):T5 b A e j<=A j:=by
 unfold T5;split
 ·split
  ·split
   ·rename_i h;rw[h];omega
   ·omega
  ·omega
 ·omega
theorem Si(A:Nat->Int){e:Nat×Nat}{n:Int}(h:b e.1 e.2=some n):T5 b A e e.2<=A e.1+n:=by
 unfold T5;rw[h];dsimp only;split
 ·rw[if_pos rfl];omega
 ·omega
theorem Ls{e:Nat×Nat}{j:Nat}(h:T5 b A e j≠A j):∃n,b e.1 e.2=some n/\j=e.2/\T5 b A e j=A e.1+n:=by
 unfold T5 at h ⊢;split
 ·rename_i n a;rw[a]at h;dsimp only at h;split
  ·rename_i c;rw[if_pos c]at h;split
   ·rename_i d;exact⟨n,a,d,rfl⟩
   ·rename_i d;rw[if_neg d]at h;exact absurd rfl h
  ·rename_i c;rw[if_neg c]at h;exact absurd rfl h
 ·rename_i a;rw[a]at h;exact absurd rfl h
theorem Lt(d:U8 b N D){e:Nat×Nat}(a:inE N e)(h:∀j,j<N->D j<=A j):∀j,j<N->D j<=T5 b A e j:=by
 intro j f;by_cases c:T5 b A e j=A j
 ·rw[c];exact h j f
 ·obtain⟨n,g,rfl,i⟩:=Ls c;rw[i];have:=d e.1 e.2 n a.1 a.2 g;have:=h e.1 a.1;omega
theorem IG:∀ (a:List (Nat×Nat)) (A:Nat->Int) (j:Nat),a.foldl (T5 b) A j<=A j
 |[],A,j=>by simp
 |e::a,A,j=>by
  rw[List.foldl_cons];have:=IG a (T5 b A e) j;have:=Lr (b:=b) A e j;omega
theorem Qw(c:U8 b N D):∀ (a:List (Nat×Nat)) (A:Nat->Int),(∀e∈a,inE N e)->(∀j,j<N->D j<=A j)->∀j,j<N->D j<=a.foldl (T5 b) A j
 |[],A,_,h=>h
 |e::a,A,d,h=>Qw c a _ (fun x f=>d x (List.mem_cons_of_mem _ f)) (Lt c (d e (List.mem_cons_self ..)) h)
theorem Lu{e:Nat×Nat}{n:Int}(c:b e.1 e.2=some n):∀ (a:List (Nat×Nat)) (A:Nat->Int),e∈a->a.foldl (T5 b) A e.2<=A e.1+n
 |[],A,h=>absurd h (by simp)
 |e'::a,A,h=>by
  rw[List.foldl_cons];rcases List.mem_cons.1 h with rfl|h
  ·have:=IG (b:=b) a (T5 b A e) e.2;have:=Si A c;omega
  ·have:=Lu c a (T5 b A e') h;have:=Lr (b:=b) A e' e.1;omega
theorem BU(A:Nat->Int)(j:Nat):U7 b N A j<=A j:=by rw[BT];exact IG _ _ _
theorem nG(a:U8 b N D)(h:∀j,j<N->D j<=A j):∀j,j<N->D j<=U7 b N A j:=by
 rw[BT];exact Qw a _ _ (fun e c=>zR.1 c) h
theorem DR{i k:Nat}(hi:i<N)(a:k<N){n:Int}(c:b i k=some n)(A:Nat->Int):U7 b N A k<=A i+n:=by
 rw[BT];exact Lu (e:=(i,k)) c _ _ (zR.2 ⟨hi,a⟩)
theorem IH(a:U8 b N D):∀ (t:Nat) (A:Nat->Int),(∀j,j<N->D j<=A j)->∀j,j<N->D j<=sV b N t A j
 |0,A,h=>h
 |t+1,A,h=>IH a t _ (nG a h)
theorem II:∀ (t:Nat) (A:Nat->Int) (j:Nat),sV b N t A j<=A j
 |0,A,j=>by show A j<=A j;omega
 |t+1,A,j=>by
  have:=II t (U7 b N A) j;have:=BU (b:=b) (N:=N) A j;show sV b N t (U7 b N A) j<=_;omega
def sm(f:Nat->Nat):Nat->Nat
 |0=>0
 |n+1=>sm f n+f n
theorem a0W{f g:Nat->Nat}:∀ {n:Nat},(∀j,j<n->f j<=g j)->sm f n<=sm g n
 |0,_=>Nat.le_refl _
 |n+1,h=>Nat.add_le_add (a0W fun j a=>h j (by omega)) (h n (by omega))
theorem Vz{f g:Nat->Nat}:∀ {n:Nat},(∀j,j<n->f j<=g j)->∀ {k:Nat},k<n->f k<g k->sm f n<sm g n
 |0,_,k,d,_=>absurd d (by omega)
 |n+1,h,k,d,a=>by
  have i:sm f n<=sm g n:=a0W fun j e=>h j (by omega)
  have l:=h n (by omega)
  show sm f n+f n<sm g n+g n;by_cases c:k=n
  ·subst c;omega
  ·have:=Vz (f:=f) (g:=g) (n:=n) (fun j e=>h j (by omega)) (k:=k) (by omega) a
   omega
theorem DS(h:¬U8 b N A):∃i k n,i<N/\k<N/\b i k=some n/\A i+n<A k:=by
 apply Classical.byContradiction;intro a;apply h;intro i k n hi c d;apply Classical.byContradiction;intro e;exact a ⟨i,k,n,hi,c,d,by omega⟩
theorem ends(m:U8 b N L):∀ (s:Nat) (A:Nat->Int),(∀j,j<N->L j<=A j)->sm (fun j=>(A j- L j).toNat) N<=s->∃t,U8 b N (sV b N t A):=by
 intro s
 induction s with
 |zero=>
  intro A h o;by_cases a:U8 b N A
  ·exact⟨0,a⟩
  ·exfalso;obtain⟨i,k,n,hi,c,e,l⟩:=DS a;have d:=nG (b:=b) m h;have p:=DR hi c e A;have:=Vz (f:=fun j=>(U7 b N A j- L j).toNat) (g:=fun j=>(A j- L j).toNat) (n:=N) (fun j q=>by have:=BU (b:=b) (N:=N) A j;omega) c (by have:=d k c;omega)
   omega
 |succ s r=>
  intro A h o;by_cases a:U8 b N A
  ·exact⟨0,a⟩
  ·obtain⟨i,k,n,hi,c,e,l⟩:=DS a;have d:=nG (b:=b) m h;have p:=DR hi c e A;have:=Vz (f:=fun j=>(U7 b N A j- L j).toNat) (g:=fun j=>(A j- L j).toNat) (n:=N) (fun j q=>by have:=BU (b:=b) (N:=N) A j;omega) c (by have:=d k c;omega)
   obtain⟨t,u⟩:=r (U7 b N A) d (by omega)
   exact⟨t+1,u⟩
def Found(b:Nat->Nat->Option Int)(N:Nat)(A D:Nat->Int):Prop:=∃i k n,i<N/\k<N/\b i k=some n/\A i=D i/\A k≠D k/\D i+n=D k
theorem OD(l:U8 b N D){e:Nat×Nat}(a:inE N e)(m:∀j,j<N->D j<=B j)(i:∀j,j<N->B j=D j->A j=D j):Found b N A D\/∀j,j<N->T5 b B e j=D j->A j=D j:=by
 by_cases h:∀j,j<N->T5 b B e j=D j->A j=D j
 ·exact .inr h
 ·left;have:∃j,j<N/\T5 b B e j=D j/\A j≠D j:=by
   apply Classical.byContradiction;intro o;exact h fun j f g=>Classical.byContradiction fun c=>o ⟨j,f,g,c⟩
  obtain⟨j,f,g,d⟩:=this;have c:T5 b B e j≠B j:=fun c=>d (i j f (by rw[<-c];exact g))
  obtain⟨n,k,rfl,q⟩:=Ls c;have r:=l e.1 e.2 n a.1 a.2 k;have s:=m e.1 a.1;have p:B e.1=D e.1:=by omega
  exact⟨e.1,e.2,n,a.1,a.2,k,i _ a.1 p,d,by omega⟩
theorem DT(c:U8 b N D):∀ (a:List (Nat×Nat)) (B:Nat->Int),(∀e∈a,inE N e)->(∀j,j<N->D j<=B j)->(∀j,j<N->B j=D j->A j=D j)->Found b N A D\/∀j,j<N->a.foldl (T5 b) B j=D j->A j=D j
 |[],B,_,_,d=>.inr d
 |e::a,B,f,g,d=>by
  rcases OD c (f e (List.mem_cons_self ..)) g d with h|h
  ·exact .inl h
  ·exact DT c a _ (fun x i=>f x (List.mem_cons_of_mem _ i)) (Lt c (f e (List.mem_cons_self ..)) g) h
theorem DU(a:U8 b N D):∀ (t:Nat) (B:Nat->Int),(∀j,j<N->D j<=B j)->(∀j,j<N->B j=D j->A j=D j)->Found b N A D\/∀j,j<N->sV b N t B j=D j->A j=D j
 |0,B,_,c=>.inr c
 |t+1,B,d,c=>by
  have:=DT a (Lq N) B (fun e f=>zR.1 f) d c
  rw[<-BT]at this;rcases this with h|h
  ·exact .inl h
  ·exact DU a t _ (nG a d) h
def left(N:Nat)(A D:Nat->Int):List Nat:=(List.range N).filter fun j=>decide (A j≠D j)
theorem filter_lt{α:Type}{p q:α->Bool}:∀ {l:List α},(∀x∈l,p x=true->q x=true)->(∃x∈l,q x=true/\p x=false)->(l.filter p).length<(l.filter q).length
 |[],_,h=>by obtain⟨x,c,_⟩:=h;simp at c
 |a::l,h,j=>by
  have f:∀ (l:List α),(∀x∈l,p x=true->q x=true)->(l.filter p).length<=(l.filter q).length:=by
   intro l
   induction l with
   |nil=>intro _;simp
   |cons y l k=>
    intro h;have:=k fun x c=>h x (List.mem_cons_of_mem _ c)
    rw[List.filter_cons,List.filter_cons];by_cases e:p y=true
    ·rw[if_pos e,if_pos (h y (List.mem_cons_self ..) e)];simp only[List.length_cons];omega
    ·rw[if_neg e];split
     ·simp only[List.length_cons];omega
     ·exact this
  obtain⟨x,c,g,e⟩:=j;have i:∀x∈l,p x=true->q x=true:=fun x c=>h x (List.mem_cons_of_mem _ c)
  rw[List.filter_cons,List.filter_cons];rcases List.mem_cons.1 c with rfl|c
  ·rw[if_neg (by rw[e];simp),if_pos g,List.length_cons]
   have:=f l i;omega
  ·have:=filter_lt (p:=p) (q:=q) i ⟨x,c,g,e⟩;by_cases d:p a=true
   ·rw[if_pos d,if_pos (h a (List.mem_cons_self ..) d)];simp only[List.length_cons];omega
   ·rw[if_neg d];split
    ·simp only[List.length_cons];omega
    ·exact this
theorem Lv(h:left N A D=[]):∀j,j<N->A j=D j:=by
 intro j a;apply Classical.byContradiction;intro c;have:j∈left N A D:=List.mem_filter.2 ⟨List.mem_range.2 a,by simp only[decide_eq_true_eq];exact c⟩
 rw[h]at this;simp at this
theorem YQ(c:U8 b N D)(d:∀j,j<N->D j<=A j){t:Nat}(l:∀j,j<N->sV b N t A j=D j)(e:left N A D≠ []):(left N (U7 b N A) D).length<(left N A D).length:=by
 rcases DU (A:=A) c t A d (fun j _ h=>h)with h|h
 ·obtain⟨i,k,n,hi,f,m,p,o,q⟩:=h;refine filter_lt ?_ ⟨k,List.mem_range.2 f,by simp only[decide_eq_true_eq];exact o,?_⟩
  ·intro j a g;simp only[decide_eq_true_eq]at g ⊢;intro r;apply g;have:=BU (b:=b) (N:=N) A j;have:=nG c d j (List.mem_range.1 a);omega
  ·simp only[decide_eq_false_iff_not,Decidable.not_not];have:=DR hi f m A;have:=nG c d k f;omega
 ·exfalso;apply e;unfold left;rw[List.filter_eq_nil_iff];intro j a;simp only[decide_eq_true_eq,ne_eq,Decidable.not_not];exact h j (List.mem_range.1 a) (l j (List.mem_range.1 a))
theorem YR(d:U8 b N D):∀ (s:Nat) (A:Nat->Int),(∀j,j<N->D j<=A j)->(∃t,∀j,j<N->sV b N t A j=D j)->(left N A D).length<=s->∀j,j<N->sV b N s A j=D j:=by
 intro s
 induction s with
 |zero=>
  intro A _ _ h;show ∀j,j<N->A j=D j;have g:(left N A D).length=0:=by omega
  exact Lv (List.eq_nil_of_length_eq_zero g)
 |succ s i=>
  intro A e a h;by_cases f:left N A D=[]
  ·have k:=Lv f;intro j c;have:=II (b:=b) (N:=N) (s+1) A j;have:=IH d (s+1) A e j c;have:=k j c;omega
  ·obtain⟨t,a⟩:=a;have l:=YQ d e a f;cases t with
   |zero=>
    exfalso;apply f;unfold left;rw[List.filter_eq_nil_iff];intro j c;simp only[decide_eq_true_eq,ne_eq,Decidable.not_not];exact a j (List.mem_range.1 c)
   |succ t=>exact i (U7 b N A) (nG d e) ⟨t,a⟩ (by omega)
theorem Qx(a:Nat->Int):∀ {N:Nat},0<N->∃j,j<N/\∀i,i<N->a i<=a j
 |0,h=>absurd h (by omega)
 |1,_=>⟨0,by omega,fun i hi=>by rw[show i=0 by omega];omega⟩
 |N+2,_=>by
  obtain⟨j,d,h⟩:=Qx a (N:=N+1) (by omega)
  by_cases c:a (N+1)<=a j
  ·refine⟨j,by omega,fun i hi=>?_⟩
   by_cases e:i=N+1
   ·rw[e];exact c
   ·exact h i (by omega)
  ·refine⟨N+1,by omega,fun i hi=>?_⟩
   by_cases e:i=N+1
   ·rw[e];omega
   ·have:=h i (by omega);omega
theorem settled(r:0<N)(a:Nat->Int)(s:U8 b N a):U8 b N (sV b N (N- 1) fun _=>0):=by
 obtain⟨d,e,c⟩:=Qx a r;have p:U8 b N (fun j=>a j- a d):=by
  intro i k n hi l m;have:=s i k n hi l m;dsimp only;omega
 have f:∀j,j<N->(fun j=>a j- a d) j<=(fun _=>(0:Int)) j:=by
  intro j u;have:=c j u;dsimp only;omega
 obtain⟨t,q⟩:=ends p _ (fun _=>(0:Int)) f (Nat.le_refl _)
 have g:=II (b:=b) (N:=N) t (fun _=>(0:Int))
 have o:=IH p t (fun _=>(0:Int)) f
 have h:=YR q (N- 1) (fun _=>0) (fun j _=>g j) ⟨t,fun _ _=>rfl⟩ (by
  have:(left N (fun _=>0) (sV b N t fun _=>0)).length<(List.range N).length:=by
   unfold left;rw[List.length_filter_lt_length_iff_exists];refine⟨d,List.mem_range.2 e,?_⟩;have v:=o d e;have w:=g d;simp only[decide_eq_true_eq,ne_eq,Decidable.not_not];omega
  rw[List.length_range]at this
  omega)
 intro i k n hi l m;rw[h i hi,h k l];exact q i k n hi l m
end Go.Abs.T1
end
section
set_option linter.unusedVariables false
namespace Go.Abs.T1
theorem T6{σ α:Type}(f:σ->α->σ)(P:σ->Prop):∀ (l:List α) (s:σ),(∀s a,a∈l->P s->P (f s a))->P s->P (l.foldl f s)
 |[],_,_,h=>h
 |a::l,s,b,h=>T6 f P l _ (fun s x c=>b s x (List.mem_cons_of_mem _ c)) (b s a (List.mem_cons_self ..) h)
theorem BW{σ α:Type}(f:σ->α->σ)(P:σ->Int->Prop)(d:Int):∀ (l:List α) (s:σ) (u:Int),(∀s a u,a∈l->P s u->P (f s a) (u+d))->P s u->P (l.foldl f s) (u+d*(l.length:Int))
 |[],s,u,_,h=>by simpa using h
 |a::l,s,u,b,h=>by
  have:=BW f P d l _ (u+d) (fun s x u c=>b s x u (List.mem_cons_of_mem _ c)) (b s a u (List.mem_cons_self ..) h)
  rw[List.foldl_cons,List.length_cons,Int.natCast_add,Int.mul_add];rw[show u+(d*(l.length:Int)+d*((1:Nat):Int))=u+d+d*(l.length:Int)by omega]
  exact this
theorem DV{σ α:Type}(f:σ->α->σ)(R:σ->σ->Prop)(d:∀s,R s s)(trans:∀a b c,R a b->R b c->R a c):∀ (l:List α) (s:σ),(∀s a,a∈l->R s (f s a))->∀a∈l,∃g,R s g/\R (f g a) (l.foldl f s)
 |[],_,_,a,h=>absurd h (by simp)
 |b::l,s,j,a,h=>by
  have e:∀s a,a∈l->R s (f s a):=fun s x i=>j s x (List.mem_cons_of_mem _ i)
  rcases List.mem_cons.1 h with rfl|h
  ·exact⟨s,d s,T6 f (fun t=>R (f s a) t) l _ (fun t x i h=>trans _ _ _ h (e t x i)) (d _)⟩
  ·obtain⟨g,k,n⟩:=DV f R d trans l _ e a h;exact⟨g,trans _ _ _ (j s b (List.mem_cons_self ..)) k,n⟩
abbrev sv(st:MI)(j:Nat):Option Int:=mH dY st.1 (j:Int)
theorem uS(st:MI)(k:Nat)(v:Int)(j:Nat):sv (CM st (k:Int) v) j=if j=k then some v else sv st j:=by
 unfold sv CM;by_cases h:j=k
 ·rw[if_pos h,h];exact nE (t:=dY) rfl _ _ _ _
 ·rw[if_neg h];exact uQ (t:=dY) rfl _ _ _ (fun e=>h (Int.ofNat.inj e))
theorem VA(a:Int):CL [a]=a:=by
 show(if a<a then a else a)=a
 split<;>rfl
theorem VB(a b:Int):CL [a,b]=min a b:=by
 show(if b<(if a<a then a else a)then b else(if a<a then a else a))=_
 rw[if_neg (by omega:¬a<a)]
 omega
theorem Qy{st:MI}{j:Nat}(h:J4 dY st.1 (j:Int)=false):sv st j=none:=KZ h
theorem xF{st:MI}{j:Nat}(h:J4 dY st.1 (j:Int)=true):sv st j=some (y8 dY st.1 (j:Int)):=by unfold sv mH;rw[if_pos h]
variable {m:l6 tP} {N:Nat} {bL:Nat->Int}
theorem jN{i k:Nat}{st:MI}(h:bd m i k=none\/sv st i=none):Q5 m i st k=st:=by
 unfold Q5;rcases h with h|h
 ·rw[if_neg];intro a;unfold bd at h;rw[if_pos a]at h;cases h
 ·split
  ·rw[if_neg];intro a;rw[xF a]at h;cases h
  ·rfl
theorem xG{i k:Nat}{st:MI}{n x:Int}(h:bd m i k=some n)(a:sv st i=some x):Q5 m i st k=CM st (k:Int) (match sv st k with
  |some y=>min (x+n) y
  |none=>x+n):=by
 unfold Q5;have b:J4 tP m ((i:Int),(k:Int))=true:=by
  apply Classical.byContradiction;intro d;unfold bd at h;rw[if_neg d]at h;cases h
 have e:y8 tP m ((i:Int),(k:Int))=n:=by
  unfold bd at h;rw[if_pos b]at h;exact Option.some.inj h
 have f:J4 dY st.1 (i:Int)=true:=(Iz (t:=dY) (l:=st.1) (x:=(i:Int))).trans (by show(sv st i).isSome=true;rw[a];rfl)
 have g:y8 dY st.1 (i:Int)=x:=IA a;rw[if_pos b,if_pos f,g,e];cases c:J4 dY st.1 (k:Int)with
 |true=>
  rw[if_pos rfl,xF c,VB]
 |false=>
  rw[if_neg (by simp),Qy c,VA]
def U3(a b:MI):Prop:=∀j x,sv a j=some x->∃y,sv b j=some y/\y<=x
theorem U3.refl(a:MI):U3 a a:=fun j x h=>⟨x,h,Int.le_refl _⟩
theorem U3.trans(a b c:MI)(e:U3 a b)(f:U3 b c):U3 a c:=by
 intro j x h;obtain⟨y,g,i⟩:=e j x h;obtain⟨z,k,d⟩:=f j y g;exact⟨z,k,by omega⟩
theorem DW(i:Nat)(st:MI)(k:Nat):U3 st (Q5 m i st k):=by
 cases a:bd m i k with
 |none=>rw[jN (.inl a)];exact U3.refl _
 |some n=>
  cases b:sv st i with
  |none=>rw[jN (.inr b)];exact U3.refl _
  |some x=>
   rw[xG a b];intro j y c;rw[uS];by_cases d:j=k
   ·subst d;rw[if_pos rfl,c];exact⟨_,rfl,by dsimp only;omega⟩
   ·rw[if_neg d];exact⟨y,c,Int.le_refl _⟩
theorem VC{i k:Nat}{st:MI}{n x:Int}(a:bd m i k=some n)(b:sv st i=some x):∃y,sv (Q5 m i st k) k=some y/\y<=x+n:=by
 rw[xG a b,uS,if_pos rfl];refine⟨_,rfl,?_⟩;cases sv st k with
 |none=>exact Int.le_refl _
 |some y=>dsimp only;omega
theorem GM(st:MI)(i:Nat):U3 st (zA m N st i):=T6 _ (U3 st) _ _ (fun s a _ h=>h.trans _ _ _ (DW i s a)) (U3.refl _)
theorem DX(st:MI):U3 st (qQ m N st):=T6 _ (U3 st) _ _ (fun s a _ h=>h.trans _ _ _ (GM s a)) (U3.refl _)
theorem DY{i k:Nat}(hi:i<N)(b:k<N){n x:Int}{st:MI}(c:bd m i k=some n)(d:sv st i=some x):∃y,sv (qQ m N st) k=some y/\y<=x+n:=by
 obtain⟨e,f,g⟩:=DV (zA m N) U3 U3.refl U3.trans (List.range N) st (fun s a _=>GM s a) i (List.mem_range.2 hi)
 obtain⟨w,h,j⟩:=DV (Q5 m i) U3 U3.refl U3.trans (List.range N) e (fun s a _=>DW i s a) k (List.mem_range.2 b)
 obtain⟨l,o,z⟩:=f i x d;obtain⟨A,p,B⟩:=h i l o;obtain⟨y1,q,C⟩:=VC c p;obtain⟨r,t,D⟩:=j k y1 q;obtain⟨u,v,E⟩:=g k r t;exact⟨u,v,by omega⟩
def Lw(bL:Nat->Int)(a:Int)(st:MI):Prop:=∀j x,sv st j=some x->bL j- a<=x
def XR(st:MI)(u:Int):Prop:=0<=u/\∀j x,sv st j=some x->x<=u
abbrev Y5(N:Nat)(m:l6 tP)(bL:Nat->Int):Prop:=∀i k n,i<N->k<N->bd m i k=some n->(-10000<=n/\n<=10000)/\bL k<=bL i+n
theorem VD(g:Y5 N m bL){e:Int}{i k:Nat}(hi:i<N)(l:k<N){st:MI}(h:Lw bL e st):Lw bL e (Q5 m i st k):=by
 cases b:bd m i k with
 |none=>rw[jN (.inl b)];exact h
 |some n=>
  cases c:sv st i with
  |none=>rw[jN (.inr c)];exact h
  |some x=>
   rw[xG b c];intro j y a;rw[uS]at a;by_cases f:j=k
   ·subst f;rw[if_pos rfl]at a;cases a;have o:=(g i j n hi l b).2;have p:=h i x c;cases d:sv st j with
    |none=>dsimp only;omega
    |some y=>have:=h j y d;dsimp only;omega
   ·rw[if_neg f]at a;exact h j y a
theorem YS(e:Y5 N m bL){u:Int}{i k:Nat}(hi:i<N)(f:k<N){st:MI}(h:XR st u):XR (Q5 m i st k) (u+10000):=by
 cases c:bd m i k with
 |none=>rw[jN (.inl c)];exact⟨by have:=h.1;omega,fun j x a=>by have:=h.2 j x a;omega⟩
 |some n=>
  cases a:sv st i with
  |none=>rw[jN (.inr a)];exact⟨by have:=h.1;omega,fun j x a=>by have:=h.2 j x a;omega⟩
  |some x=>
   rw[xG c a];refine⟨by have:=h.1;omega,fun j y b=>?_⟩
   rw[uS]at b;by_cases d:j=k
   ·subst d;rw[if_pos rfl]at b;cases b;have l:=(e i j n hi f c).1;have o:=h.2 i x a;cases g:sv st j with
    |none=>dsimp only;omega
    |some y=>dsimp only;omega
   ·rw[if_neg d]at b;have:=h.2 j y b;omega
def eO(m:l6 tP)(N:Nat)(frm:Nat)(p:Nat):MI:=(List.range p).foldl (fun st _=>qQ m N st) (CM ([],0) (frm:Int) 0)
def FZ(m:l6 tP)(N:Nat)(st:MI)(i:Nat):MI:=(List.range i).foldl (zA m N) st
def Lx(m:l6 tP)(i:Nat)(st:MI)(k:Nat):MI:=(List.range k).foldl (Q5 m i) st
theorem lM(frm p:Nat):eO m N frm (p+1)=qQ m N (eO m N frm p):=by unfold eO;rw[List.range_succ,List.foldl_append];rfl
theorem Sj(st:MI)(i:Nat):FZ m N st (i+1)=zA m N (FZ m N st i) i:=by unfold FZ;rw[List.range_succ,List.foldl_append];rfl
theorem Sk(i:Nat)(st:MI)(k:Nat):Lx m i st (k+1)=Q5 m i (Lx m i st k) k:=by unfold Lx;rw[List.range_succ,List.foldl_append];rfl
theorem GN(frm:Nat):NC m N (frm:Int)=eO m N frm N:=rfl
theorem a0X(c:Y5 N m bL){b:Int}{i:Nat}(hi:i<N){k:Nat}(e:k<=N){st:MI}(h:Lw bL b st):Lw bL b (Lx m i st k):=
 T6 _ _ _ _ (fun s a d h=>VD c hi (by have:=List.mem_range.1 d;omega) h) h
theorem a0Y(c:Y5 N m bL){b:Int}{i:Nat}(hi:i<=N){st:MI}(h:Lw bL b st):Lw bL b (FZ m N st i):=
 T6 _ _ _ _ (fun s a d h=>a0X c (by have:=List.mem_range.1 d;omega) (Nat.le_refl _) h) h
theorem Qz(c:Y5 N m bL)(frm:Nat)(p:Nat):Lw bL (bL frm) (eO m N frm p):=by
 refine T6 _ _ _ _ (fun s a _ h=>a0Y c (Nat.le_refl _) h) ?_
 intro j x b;rw[uS]at b;split at b
 ·rename_i e;cases b;rw[e];omega
 ·cases b
theorem a6b(b:Y5 N m bL){u:Int}{i:Nat}(hi:i<N){k:Nat}(d:k<=N){st:MI}(h:XR st u):XR (Lx m i st k) (u+10000*(k:Int)):=by
 have:=BW (Q5 m i) XR 10000 (List.range k) st u (fun s a u c h=>YS b hi (by have:=List.mem_range.1 c;omega) h) h
 rwa [List.length_range]at this
theorem a6c(b:Y5 N m bL)(e:N<=19){u:Int}{i:Nat}(hi:i<=N){st:MI}(h:XR st u):XR (FZ m N st i) (u+190000*(i:Int)):=by
 have:=BW (zA m N) XR 190000 (List.range i) st u (fun s a u c h=>by
  have:=a6b b (i:=a) (by have:=List.mem_range.1 c;omega) (Nat.le_refl _) h
  exact⟨by have:=h.1;omega,fun j x d=>by have:=this.2 j x d;omega⟩) h
 rwa [List.length_range]at this
theorem a6d(c:Y5 N m bL)(d:N<=19)(frm p:Nat):XR (eO m N frm p) (0+3610000*(p:Int)):=by
 have:=BW (fun st (_:Nat)=>qQ m N st) XR 3610000 (List.range p) (CM ([],0) (frm:Int) 0) 0 (fun s a u e h=>by
  have:=a6c c d (Nat.le_refl _) h;exact⟨by have:=h.1;omega,fun j x b=>by have:=this.2 j x b;omega⟩) (by
  refine⟨Int.le_refl _,fun j x b=>?_⟩
  rw[uS]at b;split at b
  ·cases b;omega
  ·cases b)
 rwa [List.length_range]at this
theorem a0Z(frm p:Nat):∃x,sv (eO m N frm p) frm=some x/\x<=0:=by
 have h:U3 (CM ([],0) (frm:Int) 0) (eO m N frm p):=T6 _ (U3 _) _ _ (fun s a _ h=>h.trans _ _ _ (DX s)) (U3.refl _)
 exact h frm 0 (by rw[uS,if_pos rfl])
theorem QA(frm p q:Nat):U3 (eO m N frm p) (eO m N frm (p+q)):=by
 induction q with
 |zero=>exact U3.refl _
 |succ q a=>rw[<-Nat.add_assoc,lM];exact a.trans _ _ _ (DX _)
theorem BX{frm to:Nat}(c:frm<N)(d:to<N){n:Int}(e:bd m frm to=some n):∃y,sv (eO m N frm N) to=some y/\y<=n:=by
 obtain⟨x,f,g⟩:=a0Z (m:=m) (N:=N) frm 0;obtain⟨y,a,h⟩:=DY c d e f;rw[<-lM]at a;obtain⟨z,b,i⟩:=QA (m:=m) (N:=N) frm 1 (N- 1) to y a;rw[show 1+(N- 1)=N by omega]at b
 exact⟨z,b,by omega⟩
theorem QB{frm mid to:Nat}(f:frm<N)(c:mid<N)(g:to<N)(l:2<=N){n n':Int}(h:bd m frm mid=some n)(b:bd m mid to=some n'):∃y,sv (eO m N frm N) to=some y/\y<=n+n':=by
 obtain⟨x,i,o⟩:=a0Z (m:=m) (N:=N) frm 0;obtain⟨y,d,p⟩:=DY f c h i;rw[<-lM]at d;obtain⟨j,a,k⟩:=DY c g b d;rw[<-lM]at a;obtain⟨z,e,q⟩:=QA (m:=m) (N:=N) frm 2 (N- 2) to j a;rw[show 2+(N- 2)=N by omega]at e
 exact⟨z,e,by omega⟩
theorem Ly{t:Ty}{x:t.den}:∀ (l:l6 t),J4 t l x=false->y8 t l x=0
 |[],_=>rfl
 |e::l,h=>by
  rw[fX,Bool.or_eq_false_iff]at h;rw[GI,if_neg (by rw[h.1];simp),Ly l h.2]
theorem YT(b:Y5 N m bL)(a:∀i,0<=bL i/\bL i<=10000)(c:N<=19)(frm to:Nat): -10000<=kW N m (frm:Int) (to:Int)/\kW N m (frm:Int) (to:Int)<=70000000:=by
 unfold kW;rw[GN];cases h:J4 dY (eO m N frm N).1 (to:Int)with
 |false=>rw[Ly _ h];omega
 |true=>
  have d:=Qz b frm N to _ (xF h);have e:=(a6d b c frm N).2 to _ (xF h);have:=a to;have:=a frm;omega
end Go.Abs.T1
end
section
set_option linter.unusedVariables false
namespace Go.Abs.T1
section
variable (lo hi lots:Int) (b:List Int)
def pv(td:List Int)(j:Int):Int:=if j=0 then 0 else if j<=lots then(B1 lots b).getD (j.toNat- 1) 0 else td.getD (j.toNat- lots.toNat- 1) 0
def GB(m:MS)(td:List Int)(c:Int):Prop:=∀i k n,mH tP m.1 ((i,k):Int×Int)=some n->((0<=i/\i<c)/\0<=k/\k<c)/\(-10000<=n/\n<=10000)/\pv lots b td k<=pv lots b td i+n
def EB(m:MS):Prop:=∀i:Int,1<=i->i<=lots->mH tP m.1 (((0:Int),i):Int×Int)=some 1000/\mH tP m.1 ((i,(0:Int)):Int×Int)=some 0
def HB(m:MS)(i k:Int):Prop:=∃n,mH tP m.1 ((i,k):Int×Int)=some n
def TB(m:MS)(n:Nat):Prop:=∀t:Nat,t<n->∃a:Int,(1<=a/\a<=lots)/\HB m (lots+1+(t:Int)) a/\HB m a (lots+1+(t:Int))
structure IB(m:MS)(td:List Int):Prop where
 g:GB lots b m td (lots+1+(td.length:Int))
 e:EB lots m
 t:TB lots m td.length
 r:∀x∈td,0<=x/\x<=600
end
variable {lo hi lots:Int} {b:List Int}
theorem fJ(m:MS)(i k v:Int)(x:Int×Int):mH tP (kV m i k v).1 x=if x=(i,k)then some v else mH tP m.1 x:=by
 unfold kV;by_cases h:x=(i,k)
 ·rw[if_pos h,h];exact nE (t:=tP) rfl _ _ _ _
 ·rw[if_neg h];exact uQ (t:=tP) rfl _ _ _ h
theorem GB.put{m:MS}{td:List Int}{c i k n:Int}(h:GB lots b m td c)(hi:0<=i/\i<c)(d:0<=k/\k<c)(f: -10000<=n/\n<=10000)(g:pv lots b td k<=pv lots b td i+n):GB lots b (kV m i k n) td c:=by
 intro j k' l a;rw[fJ]at a;split at a
 ·rename_i e;cases e;cases a;exact⟨⟨hi,d⟩,f,g⟩
 ·exact h j k' l a
theorem HB.put{m:MS}{i k a k' n:Int}(h:HB m i k):HB (kV m a k' n) i k:=by
 obtain⟨v,h⟩:=h;unfold HB;rw[fJ];split
 ·exact⟨_,rfl⟩
 ·exact⟨v,h⟩
theorem HB.new{m:MS}{i k n:Int}:HB (kV m i k n) i k:=⟨n,by rw[fJ,if_pos rfl]⟩
theorem EB.put{m:MS}{i k n:Int}(h:EB lots m)(a:lots<i\/lots<k)(f:0<=lots):EB lots (kV m i k n):=by
 intro j c d;rw[fJ,fJ,if_neg,if_neg]
 ·exact h j c d
 ·intro e;cases e;omega
 ·intro e;cases e;omega
theorem TB.put{m:MS}{i k v:Int}{n:Nat}(h:TB lots m n):TB lots (kV m i k v) n:=by
 intro t c;obtain⟨a,d,e,f⟩:=h t c;exact⟨a,d,e.put,f.put⟩
theorem OE{td:List Int}(x:Int){j:Int}(a:0<=lots)(c:j<lots+1+(td.length:Int)):pv lots b (td++ [x]) j=pv lots b td j:=by
 unfold pv;split
 ·rfl
 ·split
  ·rfl
  ·rw[List.getD_eq_getElem?_getD,List.getD_eq_getElem?_getD,List.getElem?_append_left (by omega)]
theorem a2e{td:List Int}(x:Int)(a:0<=lots):pv lots b (td++ [x]) (lots+1+(td.length:Int))=x:=by
 unfold pv;rw[if_neg (by omega),if_neg (by omega),List.getD_eq_getElem?_getD,List.getElem?_append_right (by omega)]
 rw[show(lots+1+(td.length:Int)).toNat- lots.toNat- 1- td.length=0 by omega];rfl
theorem BY(td:List Int):pv lots b td 0=0:=if_pos rfl
theorem OF(td:List Int){a:Int}(c:0<=a)(d:a<lots):pv lots b td (a+1)=(B1 lots b).getD a.toNat 0:=by
 unfold pv;rw[if_neg (by omega),if_pos (by omega),show(a+1).toNat- 1=a.toNat by omega]
theorem YU{td:List Int}(a:0<=lots)(h:0<td.length):pv lots b td (lots+(td.length:Int))=td.getD (td.length- 1) 0:=by
 unfold pv;rw[if_neg (by omega),if_neg (by omega),show(lots+(td.length:Int)).toNat- lots.toNat- 1=td.length- 1 by omega]
theorem VE{m:MS}{td:List Int}(h:IB lots b m td)(a:0<=lots){x:Int}{k:Nat}(K:0<=lo/\lo<=hi/\hi<=50)(u:k=0->x=0)(v:0<k->0<td.length/\lo<=x- td.getD (td.length- 1) 0/\x- td.getD (td.length- 1) 0<=hi)(w:0<=x/\x<=600){s:m9}(l:0<=s.1/\s.1<lots)(L:s.2.1<=(B1 lots b).getD s.1.toNat 0- x/\(B1 lots b).getD s.1.toNat 0- x<=s.2.2)(M: -1000<=s.2.1/\s.2.2<=1000):
  IB lots b (R5 lo hi (m,lots+1+(td.length:Int),k) s).1 (td++ [x]):=by
 have f:lots+1+((td++ [x]).length:Int)=lots+1+(td.length:Int)+1:=by rw[List.length_append,List.length_singleton];omega
 have j:GB lots b m (td++ [x]) (lots+1+((td++ [x]).length:Int)):=by
  intro i k n z;obtain⟨⟨⟨a1,A⟩,B,C⟩,D,E⟩:=h.g i k n z;rw[f,OE x a A,OE x a C];exact⟨⟨⟨a1,by omega⟩,B,by omega⟩,D,E⟩
 rw[f]at j;have ps:pv lots b (td++ [x]) (s.1+1)=(B1 lots b).getD s.1.toNat 0:=OF _ l.1 l.2;have c:pv lots b (td++ [x]) (lots+1+(td.length:Int))=x:=a2e x a;have o:pv lots b (td++ [x]) 0=0:=BY _;have first:GB lots b (firstM lo hi (lots+1+(td.length:Int)) k m) (td++ [x]) (lots+1+(td.length:Int)+1)/\EB lots (firstM lo hi (lots+1+(td.length:Int)) k m)/\TB lots (firstM lo hi (lots+1+(td.length:Int)) k m) td.length:=by
  unfold firstM;split
  ·rename_i p;have:=u p;exact⟨(j.put (by omega) (by omega) (by omega) (by rw[c,o];omega)).put (by omega) (by omega) (by omega) (by rw[c,o];omega),(h.e.put (by omega) a).put (by omega) a,h.t.put.put⟩
  ·rename_i p;obtain⟨F,N,q3⟩:=v (by omega)
   have q:pv lots b (td++ [x]) (lots+1+(td.length:Int) - 1)=td.getD (td.length- 1) 0:=by
    rw[OE x a (by omega),show lots+1+(td.length:Int) - 1=lots+(td.length:Int)by omega]
    exact YU a F
   exact⟨(j.put (by omega) (by omega) (by omega) (by rw[c,q];omega)).put (by omega) (by omega) (by omega) (by rw[c,q];omega),(h.e.put (by omega) a).put (by omega) a,h.t.put.put⟩
 obtain⟨G,H,I⟩:=first
 unfold R5;dsimp only;refine⟨?_,(H.put (by omega) a).put (by omega) a,?_,?_⟩
 ·rw[f];exact(G.put (by omega) (by omega) (by omega) (by rw[c,ps];omega)).put (by omega) (by omega) (by omega) (by rw[c,ps];omega)
 ·intro t J;rw[List.length_append,List.length_singleton]at J;by_cases e:t=td.length
  ·subst e;exact⟨s.1+1,by omega,HB.new.put,HB.new⟩
  ·exact(I.put.put) t (by omega)
 ·intro y d;rcases List.mem_append.1 d with d|d
  ·exact h.r y d
  ·simp only[List.mem_singleton]at d;rw[d];exact w
theorem DZ(i:Nat):0<=(B1 lots b).getD i 0/\(B1 lots b).getD i 0<=1000:=by
 rw[List.getD_eq_getElem?_getD];cases h:(B1 lots b)[i]? with
 |none=>exact⟨by decide,by decide⟩
 |some x=>
  have:=List.mem_of_getElem? h;simp only[B1,List.mem_map,List.mem_range]at this;obtain⟨j,_,rfl⟩:=this;show 0<=w8 b (j:Int) % 1001/\w8 b (j:Int) % 1001<=1000;omega
theorem Lz(l:0<=lots):∀i:Nat,(i:Int)<=lots->GB lots b (LS i) [] (lots+1)/\∀j:Int,1<=j->j<=(i:Int)->mH tP (LS i).1 (((0:Int),j):Int×Int)=some 1000/\mH tP (LS i).1 ((j,(0:Int)):Int×Int)=some 0
 |0,_=>⟨fun i k n h=>(by have m:(none:Option Int)=some n:=h;cases m),fun j c f=>absurd c (by omega)⟩
 |i+1,hi=>by
  obtain⟨c,f⟩:=Lz l i (by omega)
  rw[Qv];have g:=OF (lots:=lots) (b:=b) [] (a:=(i:Int)) (by omega) (by omega)
  have p:=DZ (lots:=lots) (b:=b) (i:Int).toNat;refine⟨(c.put (by omega) (by omega) (by omega) (by rw[g,BY];omega)).put (by omega) (by omega) (by omega) (by rw[g,BY];omega),fun j o g2=>?_⟩
  rw[fJ,fJ,fJ,fJ];by_cases e:j=(i:Int)+1
  ·subst e;rw[if_neg (by intro e;cases e<;>omega),if_pos rfl,if_pos rfl]
   exact⟨rfl,rfl⟩
  ·rw[if_neg (by intro e;cases e<;>omega),if_neg (by intro d;cases d;exact e rfl),if_neg (by intro d;cases d;exact e rfl),if_neg (by intro e;cases e<;>omega)]
   exact f j o (by omega)
theorem YV(a:0<=lots):IB lots b (LS lots.toNat) []:=by
 obtain⟨c,d⟩:=Lz (lots:=lots) (b:=b) a lots.toNat (by omega)
 exact⟨by show GB lots b _ [] (lots+1+((0:Nat):Int));rw[show lots+1+((0:Nat):Int)=lots+1 by omega];exact c,fun i e g2=>d i e (by omega),fun t f=>absurd f (by simp),fun x g=>by cases g⟩
def okS(lots:Int)(s:m9):Prop:=(0<=s.1/\s.1<lots)/\ -1000<=s.2.1/\s.2.1<=s.2.2/\s.2.2<=1000
theorem VF{m:MS}{td:List Int}(h:IB lots b m td)(o:0<=lots)(c:0<=lo/\lo<=hi/\hi<=50){l:List m9}(p:∀s∈l,okS lots s)(d:l.length<=12):∀k,k<=l.length->
  IB lots b ((tO lo hi lots b l td k).1.foldl (R5 lo hi) (m,lots+1+(td.length:Int),0)).1 (tO lo hi lots b l td k).2/\
  ((tO lo hi lots b l td k).1.foldl (R5 lo hi) (m,lots+1+(td.length:Int),0)).2.1=lots+1+((tO lo hi lots b l td k).2.length:Int)/\
  ((tO lo hi lots b l td k).1.foldl (R5 lo hi) (m,lots+1+(td.length:Int),0)).2.2=k/\
  (tO lo hi lots b l td k).1.length=k/\(tO lo hi lots b l td k).2.length=td.length+k/\
  (0<k->0<=(tO lo hi lots b l td k).2.getD ((tO lo hi lots b l td k).2.length- 1) 0/\(tO lo hi lots b l td k).2.getD ((tO lo hi lots b l td k).2.length- 1) 0<=50*(k:Int))/\
  ∀s∈(tO lo hi lots b l td k).1,okS lots s
 |0,_=>⟨h,rfl,rfl,rfl,rfl,fun h=>absurd h (by omega),fun s i=>by cases i⟩
 |k+1,I=>by
  obtain⟨u,v,w,q,z,A,B⟩:=VF h o c p d k (by omega)
  rw[Li lo hi lots b td (show k<l.length by omega)]
  have i:=p _ (List.getElem_mem (show k<l.length by omega))
  generalize l[k]'(by omega)=s at i
  have j:=Ll (b:=b) (lots:=lots) (td:=(tO lo hi lots b l td k).2) (k:=k) c.1 c.2.1 c.2.2 A;generalize tO lo hi lots b l td k=S at*
  obtain⟨⟨r,t⟩,J,K,L⟩:=i;have C:mK lo hi lots b S s=(S.1++ [(s.1,min s.2.1 ((B1 lots b).getD s.1.toNat 0- N1 lo hi lots b S.2 k),max s.2.2 ((B1 lots b).getD s.1.toNat 0- N1 lo hi lots b S.2 k))],S.2++ [N1 lo hi lots b S.2 k]):=by
   unfold mK;rw[q]
  have D:=DZ (lots:=lots) (b:=b) s.1.toNat;have f:0<k->0<S.2.length/\lo<=N1 lo hi lots b S.2 k- S.2.getD (S.2.length- 1) 0/\N1 lo hi lots b S.2 k- S.2.getD (S.2.length- 1) 0<=hi:=by
   intro E;refine⟨by omega,?_⟩
   unfold N1;rw[if_neg (by omega)]
   have:=Int.emod_nonneg (w8 b ((S.2.length:Int)+lots)) (show hi- lo+1≠0 by omega)
   have:=Int.emod_lt_of_pos (w8 b ((S.2.length:Int)+lots)) (show 0<hi- lo+1 by omega)
   omega
  have g:k=0->N1 lo hi lots b S.2 k=0:=by intro e;unfold N1;rw[if_pos e]
  have n:S.2.length=td.length+k:=z;have F:S.1.foldl (R5 lo hi) (m,lots+1+(td.length:Int),0)=((S.1.foldl (R5 lo hi) (m,lots+1+(td.length:Int),0)).1,lots+1+(S.2.length:Int),k):=Prod.ext rfl (Prod.ext v w);have step:=VE (lo:=lo) (hi:=hi) u o c (x:=N1 lo hi lots b S.2 k) (k:=k) g f ⟨j.1,by omega⟩ (s:=(s.1,min s.2.1 ((B1 lots b).getD s.1.toNat 0- N1 lo hi lots b S.2 k),max s.2.2 ((B1 lots b).getD s.1.toNat 0- N1 lo hi lots b S.2 k))) ⟨r,t⟩ ⟨by dsimp only;omega,by dsimp only;omega⟩ ⟨by dsimp only;omega,by dsimp only;omega⟩
  rw[C];generalize N1 lo hi lots b S.2 k=x at j f g step ⊢;have G:List.foldl (R5 lo hi) (m,lots+1+(td.length:Int),0) (S.1++ [(s.1,min s.2.1 ((B1 lots b).getD s.1.toNat 0- x),max s.2.2 ((B1 lots b).getD s.1.toNat 0- x))])=R5 lo hi ((S.1.foldl (R5 lo hi) (m,lots+1+(td.length:Int),0)).1,lots+1+(S.2.length:Int),k) (s.1,min s.2.1 ((B1 lots b).getD s.1.toNat 0- x),max s.2.2 ((B1 lots b).getD s.1.toNat 0- x)):=by
   rw[List.foldl_append,<-F];rfl
  have H:List.foldl (R5 lo hi) (m,lots+1+(td.length:Int),0) (S.1++ [(s.1,min s.2.1 ((B1 lots b).getD s.1.toNat 0- x),max s.2.2 ((B1 lots b).getD s.1.toNat 0- x))],S.2++ [x]).1=_:=G;rw[H];refine⟨step,?_,rfl,?_,?_,?_,?_⟩
  ·show lots+1+(S.2.length:Int)+1=lots+1+((S.2++ [x]).length:Int);rw[List.length_append,List.length_singleton];omega
  ·show(S.1++ [_]).length=k+1;rw[List.length_append,List.length_singleton,q]
  ·show(S.2++ [x]).length=td.length+(k+1);rw[List.length_append,List.length_singleton,n];omega
  ·intro _;show 0<=(S.2++ [x]).getD ((S.2++ [x]).length- 1) 0/\(S.2++ [x]).getD ((S.2++ [x]).length- 1) 0<=_;rw[Lj];exact j
  ·intro y a;rcases List.mem_append.1 a with a|a
   ·exact B y a
   ·simp only[List.mem_singleton]at a;subst a;exact⟨⟨r,t⟩,by dsimp only;omega,by dsimp only;omega,by dsimp only;omega⟩
end Go.Abs.T1
end
section
set_option linter.unusedVariables false
namespace Go.Abs.T1
variable {lo hi lots:Int} {b:List Int} {ss:List (List m9)}
structure a00(lo hi lots:Int)(b:List Int)(ss:List (List m9))(j:Nat):Prop where
 i:IB lots b ((uR lo hi lots b ss j).1.foldl (vX lo hi) (LS lots.toNat,lots+1)).1 (uR lo hi lots b ss j).2
 n:((uR lo hi lots b ss j).1.foldl (vX lo hi) (LS lots.toNat,lots+1)).2=lots+1+((uR lo hi lots b ss j).2.length:Int)
 a:(uR lo hi lots b ss j).1.length=j
 f:(uR lo hi lots b ss j).2.length=(uR lo hi lots b ss j).1.flatten.length
 g:(uR lo hi lots b ss j).1.flatten.length=(ss.take j).flatten.length
 y:∀y∈(uR lo hi lots b ss j).1,1<=y.length/\y.length<=12
 s:∀s∈(uR lo hi lots b ss j).1.flatten,okS lots s
theorem VG(b:List Int)(h:S4 lo hi lots ss=0):∀j,j<=ss.length->a00 lo hi lots b ss j
 |0,_=>by
  obtain⟨n,p,_⟩:=zQ h;exact⟨YV (by omega),by show lots+1=lots+1+((0:Nat):Int);omega,rfl,rfl,rfl,fun y g=>(by cases g),fun s c=>(by cases c)⟩
 |j+1,e=>by
  obtain⟨n,p,G,q,I,r⟩:=zQ h;have e:j<ss.length:=e;obtain⟨t,u,v,w,x,z,A⟩:=VG b h j (by omega)
  have g:=q _ (List.getElem_mem e);have f:∀s∈ss[j],okS lots s:=fun s c=>r s (List.mem_flatten.2 ⟨_,List.getElem_mem e,c⟩)
  have st:=VF (lo:=lo) (hi:=hi) (l:=ss[j]) t (by omega) n f g.2 ss[j].length (Nat.le_refl _)
  have i:(ss.take (j+1)).flatten.length=(ss.take j).flatten.length+ss[j].length:=by rw[P7 e,List.length_append]
  have d:=Lh lo hi lots b e;obtain⟨B,C,J,k,D,K,E⟩:=st;generalize L:uR lo hi lots b ss j=H at*
  generalize M:tO lo hi lots b ss[j] H.2 ss[j].length=S at*
  have F:H.1.foldl (vX lo hi) (LS lots.toNat,lots+1)=((H.1.foldl (vX lo hi) (LS lots.toNat,lots+1)).1,lots+1+(H.2.length:Int)):=Prod.ext rfl u;have o:(H.1++ [S.1]).foldl (vX lo hi) (LS lots.toNat,lots+1)=((S.1.foldl (R5 lo hi) ((H.1.foldl (vX lo hi) (LS lots.toNat,lots+1)).1,lots+1+(H.2.length:Int),0)).1,(S.1.foldl (R5 lo hi) ((H.1.foldl (vX lo hi) (LS lots.toNat,lots+1)).1,lots+1+(H.2.length:Int),0)).2.1):=by
   rw[List.foldl_append];show vX lo hi (H.1.foldl (vX lo hi) (LS lots.toNat,lots+1)) S.1=_;rw[F];rfl
  have m:(H.1++ [S.1]).flatten=H.1.flatten++S.1:=by simp
  refine⟨?_,?_,?_,?_,?_,?_,?_⟩
  ·rw[d];dsimp only;rw[o];exact B
  ·rw[d];dsimp only;rw[o];exact C
  ·rw[d];dsimp only;rw[List.length_append,List.length_singleton,v]
  ·rw[d];dsimp only;rw[m,List.length_append,D,k,w]
  ·rw[d];dsimp only;rw[m,List.length_append,k,x,i]
  ·rw[d];dsimp only;intro y a;rcases List.mem_append.1 a with a|a
   ·exact z y a
   ·simp only[List.mem_singleton]at a;rw[a,k];exact g
  ·rw[d];dsimp only;rw[m];intro s c;rcases List.mem_append.1 c with c|c
   ·exact A s c
   ·exact E s c
theorem QC:∀ (l:List (List m9)) (n:Int),(∀y∈l,1<=y.length)->n+(l.flatten.length:Int)<=12->H9.fA l n=false
 |[],n,_,_=>rfl
 |y::l,n,h,a=>by
  have d:=h y (List.mem_cons_self ..);rw[List.flatten_cons,List.length_append,Int.natCast_add]at a;unfold H9.fA;rw[QC l _ (fun x c=>h x (List.mem_cons_of_mem _ c)) (by omega),Bool.or_false,decide_eq_false_iff_not]
  have hh:¬((List.length (α:=m9) y=0)\/12<n+(List.length (α:=m9) y:Int)):=by omega
  exact hh
theorem LA{lo hi a b:Int}(h:a<=lo/\lo<=hi/\hi<=b):O5 lo hi a b=true:=by
 simp only[O5,D7,I8,List.any_cons,List.any_nil,Bool.or_false,Bool.and_eq_true,Bool.not_eq_true',Bool.or_eq_false_iff,decide_eq_false_iff_not,decide_eq_true_eq];omega
theorem LB(a:S4 lo hi lots ss=0):a00 lo hi lots b ss ss.length/\L4 lo hi lots b ss=(uR lo hi lots b ss ss.length).1:=by
 refine⟨VG b a _ (Nat.le_refl _),?_⟩;unfold L4 Gs uR;rw[List.take_length]
theorem GO(g:S4 lo hi lots ss=0):bkP lo hi lots (L4 lo hi lots b ss)/\(L4 lo hi lots b ss).flatten.length<=12:=by
 obtain⟨H,e⟩:=LB (b:=b) g;obtain⟨c,m,n,o,p,q⟩:=zQ g;rw[e];obtain⟨r,t,u,v,i,h,j⟩:=H;rw[List.take_length]at i;generalize uR lo hi lots b ss ss.length=K at*
 have d:K.1.flatten.length<=12:=by omega
 refine⟨⟨?_,by omega,fun y f=>(h y f).2⟩,d⟩
 unfold H9;rw[if_neg (by rw[LA ⟨c.1,c.2.1,c.2.2⟩];simp),if_neg,if_neg,if_neg]
 ·rw[Bool.not_eq_true,List.any_eq_false];intro s k;obtain⟨w,l⟩:=j s k;unfold O6;rw[LA l,Bool.not_true,Bool.or_false];simp only[D7,I8,List.any_cons,List.any_nil,Bool.or_false,decide_eq_true_eq];omega
 ·rw[QC _ _ (fun y f=>(h y f).1) (by omega)];simp
 ·intro a;rcases a with a|a
  ·simp only[D7,I8,List.any_cons,List.any_nil,Bool.or_false,decide_eq_true_eq]at a;omega
  ·omega
structure OG(lots:Int)(b:List Int)(N:Nat)(m:l6 tP):Prop where
 num:(N:Int)<=19/\lots+1<=(N:Int)
 bL:∃bL:Nat->Int,(∀i,0<=bL i/\bL i<=10000)/\bL 0=0/\(∀i:Nat,(i:Int)<lots->bL (i+1)=(B1 lots b).getD i 0)/\Y5 N m bL
 lot:∀i:Nat,(i:Int)<lots->bd m 0 (i+1)=some 1000/\bd m (i+1) 0=some 0
 way:∀i:Nat,lots<(i:Int)->i<N->∃a:Nat,(a:Int)<lots/\(∃n,bd m i (a+1)=some n)/\∃n,bd m (a+1) i=some n
theorem Sl(d:S4 lo hi lots ss=0):OG lots b (nN lots (L4 lo hi lots b ss)) (G7 lo hi lots (L4 lo hi lots b ss)):=by
 obtain⟨H,e⟩:=LB (b:=b) d;obtain⟨_,f⟩:=GO (b:=b) d;obtain⟨u,v,w,y,z,A⟩:=zQ d;rw[e]at f ⊢;obtain⟨o,B,C,D,E,F,G⟩:=H;have em:G7 lo hi lots (uR lo hi lots b ss ss.length).1=((uR lo hi lots b ss ss.length).1.foldl (vX lo hi) (LS lots.toNat,lots+1)).1.1:=rfl;rw[em];have p:nN lots (uR lo hi lots b ss ss.length).1=1+lots.toNat+(uR lo hi lots b ss ss.length).1.flatten.length:=rfl;rw[p];generalize uR lo hi lots b ss ss.length=K at*
 generalize (K.1.foldl (vX lo hi) (LS lots.toNat,lots+1)).1=m at*
 obtain⟨g,q,t,r⟩:=o;refine⟨⟨by omega,by omega⟩,⟨fun i=>pv lots b K.2 (i:Int),?_,BY _,?_,?_⟩,?_,?_⟩
 ·intro i;dsimp only;unfold pv;split
  ·omega
  ·split
   ·have:=DZ (lots:=lots) (b:=b) ((i:Int).toNat- 1);omega
   ·rw[List.getD_eq_getElem?_getD];cases h:K.2[(i:Int).toNat- lots.toNat- 1]? with
    |none=>exact⟨by decide,by decide⟩
    |some x=>
     have:=r x (List.mem_of_getElem? h);show 0<=x/\x<=10000;omega
 ·intro i h;have:=OF (lots:=lots) (b:=b) K.2 (a:=(i:Int)) (by omega) h
  dsimp only;rw[show((i+1:Nat):Int)=(i:Int)+1 by omega,this]
  rfl
 ·intro i k n hi I h;exact(g (i:Int) (k:Int) n h).2
 ·intro i h;have:=q ((i:Int)+1) (by omega) (by omega)
  exact⟨this.1,this.2⟩
 ·intro i J L;obtain⟨a,M,j,l⟩:=t (i- 1- lots.toNat) (by omega)
  obtain⟨c,rfl⟩:∃c:Nat,a=(c:Int)+1:=⟨(a- 1).toNat,by omega⟩
  have s:lots+1+((i- 1- lots.toNat:Nat):Int)=(i:Int):=by omega
  rw[s]at j l;exact⟨c,by omega,j,l⟩
theorem rK{N:Nat}{m:l6 tP}{f t:Nat}{y:Int}(h:sv (eO m N f N) t=some y):kA N m (f:Int) (t:Int)=true/\kW N m (f:Int) (t:Int)=y:=by
 refine⟨?_,IA (t:=dY) h⟩;unfold kA;rw[GN];refine(Iz (t:=dY) (l:=(eO m N f N).1) (x:=(t:Int))).trans ?_;show(sv (eO m N f N) t).isSome=true;rw[h];rfl
theorem OG.all{N:Nat}{m:l6 tP}(h:OG lots b N m)(k:1<=lots):RE N (fun i=>kA N m (i:Int) 0)/\RE N (fun i=>kA N m 0 (i:Int)):=by
 obtain⟨l,o⟩:=h.num;refine⟨fun i f g2=>?_,fun i f g2=>?_⟩
 ·by_cases g:(i:Int)<=lots
  ·obtain⟨j,rfl⟩:∃j,i=j+1:=⟨i- 1,by omega⟩
   obtain⟨y,c,_⟩:=BX (frm:=j+1) (to:=0) g2 (by omega) (h.lot j (by omega)).2
   exact(rK c).1
  ·obtain⟨a,d,⟨n,e⟩,_⟩:=h.way i (by omega) g2
   obtain⟨y,c,_⟩:=QB (frm:=i) (mid:=a+1) (to:=0) g2 (by omega) (by omega) (by omega) e (h.lot a d).2
   exact(rK c).1
 ·by_cases g:(i:Int)<=lots
  ·obtain⟨j,rfl⟩:∃j,i=j+1:=⟨i- 1,by omega⟩
   obtain⟨y,c,_⟩:=BX (frm:=0) (to:=j+1) (by omega) g2 (h.lot j (by omega)).1
   exact(rK c).1
  ·obtain⟨a,d,_,⟨n,e⟩⟩:=h.way i (by omega) g2
   obtain⟨y,c,_⟩:=QB (frm:=0) (mid:=a+1) (to:=i) (by omega) (by omega) g2 (by omega) (h.lot a d).1 e
   exact(rK c).1
theorem OG.low{N:Nat}{m:l6 tP}(h:OG lots b N m){i:Nat}(hi:(i:Int)<lots):0<=dB N m (i+1)/\dB N m (i+1)<=(B1 lots b).getD i 0:=by
 obtain⟨l,n⟩:=h.num;obtain⟨d,o,f,g,j⟩:=h.bL;obtain⟨y,c,k⟩:=BX (frm:=i+1) (to:=0) (N:=N) (by omega) (by omega) (h.lot i hi).2
 have a:=Qz j (i+1) N 0 y c;have:=(rK c).2;have e:dB N m (i+1)= -(kW N m ((i+1:Nat):Int) ((0:Nat):Int)):=rfl;rw[e,this];rw[f,g i hi]at a;omega
theorem OG.high{N:Nat}{m:l6 tP}(h:OG lots b N m){i:Nat}(hi:(i:Int)<lots):(B1 lots b).getD i 0<=S5 N m (i+1)/\S5 N m (i+1)<=1000:=by
 obtain⟨l,n⟩:=h.num;obtain⟨d,o,f,g,j⟩:=h.bL;obtain⟨y,c,k⟩:=BX (frm:=0) (to:=i+1) (N:=N) (by omega) (by omega) (h.lot i hi).1
 have a:=Qz j 0 N (i+1) y c;have:=(rK c).2;have e:S5 N m (i+1)=kW N m ((0:Nat):Int) ((i+1:Nat):Int):=rfl;rw[e,this];rw[f,g i hi]at a;omega
end Go.Abs.T1
end
section
open Go.Proofs
set_option maxRecDepth 100000
set_option linter.unusedVariables false
namespace Go.Abs.T1
theorem QD(p q:Prop):br true p q↔p:=by rw[tY];exact⟨fun h=>h.1 rfl,fun h=>⟨fun _=>h,fun e=>(by cases e)⟩⟩
theorem QE(p q:Prop):br false p q↔q:=by rw[tY];exact⟨fun h=>h.2 rfl,fun h=>⟨fun e=>(by cases e),fun _=>h⟩⟩
theorem Ea{L m:List Int}(d:1<=L.length)(f:L.length<=8)(c:PV 0 100 L)(h:PV 0 65535 m):G4 (j4 L m)=0:=by
 have a:(j4 L m).length=L.length:=by simp[j4]
 unfold G4;rw[if_neg,if_neg]
 ·rw[Bool.not_eq_true,List.any_eq_false];intro x b;simp only[j4,List.mem_map,List.mem_range]at b;obtain⟨i,hi,rfl⟩:=b;have e:L.getD i 0=L[i]:=by rw[List.getD_eq_getElem?_getD,List.getElem?_eq_getElem hi];rfl
  have g:=c _ (List.getElem_mem hi);have g2:0<=(if m=[]then(0:Int)else m.getD (i % m.length) 0 % 1001)/\(if m=[]then(0:Int)else m.getD (i % m.length) 0 % 1001)<=1000:=by
   split<;>omega
  simp only[P4,D7,I8,List.any_cons,List.any_nil,Bool.or_false,Bool.or_eq_true,decide_eq_true_eq];rw[e];omega
 ·rw[a];simp only[D7,I8,List.any_cons,List.any_nil,Bool.or_false,decide_eq_true_eq];omega
theorem VH{L a m:List Int}(d:L.length=a.length)(h:∀i,L.getD i 0<=a.getD i 0):∀x∈j4 L m,∃b∈j4 a m,x.1<=b.1/\b.2=x.2:=by
 intro x c;simp only[j4,List.mem_map,List.mem_range]at c;obtain⟨i,hi,rfl⟩:=c;refine⟨_,List.mem_map.2 ⟨i,List.mem_range.2 (by omega),rfl⟩,h i,rfl⟩
theorem GP{L a m:List Int}(d:G4 (j4 L m)=0)(e:G4 (j4 a m)=0)(q:L.length=a.length)(h:∀i,L.getD i 0<=a.getD i 0){t:Int}(f:oL (j4 L m) t=true):
  oL (j4 a m) t=true/\eT (R7 (j4 L m) t) (P6 (j4 L m) t) (R7 (j4 a m) t) (P6 (j4 a m) t)=false:=by
 obtain⟨j,r⟩:=(xD d).YM (xD e) (VH q h) (t:=t) f;refine⟨j,?_⟩;obtain⟨g,w,g2,s,_⟩:=Lg d f;obtain⟨g',u,b,c,_⟩:=Lg e (t:=t) j;rw[g2,s,b,c]at r;unfold eT;rw[decide_eq_false_iff_not,Int.not_lt];generalize R7 (j4 L m) t=l at*
 generalize P6 (j4 L m) t=n at*
 generalize R7 (j4 a m) t=o at*
 generalize P6 (j4 a m) t=p at*
 have v:0<g*g':=Int.mul_pos (by omega) (by omega)
 have:=tJ (X:=l*p- o*n) (k:=g*g') (Y:=l*g*(p*g') - o*g'*(n*g)) v (by grind) (by omega)
 omega
theorem VJ{l:List aI}(a:G4 l=0){t:Int}(h:oL l t=true):(-1000000<=R7 l t/\R7 l t<=1000000)/\ -1000000<=P6 l t/\P6 l t<=1000000:=by
 obtain⟨g,b,g2,c,⟨d,e⟩,f,i⟩:=Lg a h;omega
theorem Eb{l:List aI}(a:G4 l=0)(t:Int):Uw l t=true:=by
 unfold Uw;split
 ·rename_i h;obtain⟨g,b,g2,c,⟨d,e⟩,f,i⟩:=Lg a h;rw[decide_eq_true_eq];omega
 ·rfl
theorem GQ(f:Nat->Int){lots:Int}{i:Nat}(h:i<(O7 f lots).length):(O7 f lots)[i]=f (i+1):=by simp[O7]
theorem GR(f:Nat->Int)(lots:Int):(O7 f lots).length=lots.toNat:=by simp[O7]
theorem Sm(lots:Int)(b:List Int):(B1 lots b).length=lots.toNat:=by simp[B1]
theorem QF{L a:List Int}(b:L.length=a.length)(h:∀i (c:i<L.length) (d:i<a.length),L[i]<=a[i])(i:Nat):L.getD i 0<=a.getD i 0:=by
 rw[List.getD_eq_getElem?_getD,List.getD_eq_getElem?_getD];by_cases hi:i<L.length
 ·rw[List.getElem?_eq_getElem hi,List.getElem?_eq_getElem (by omega)]
  exact h i hi (by omega)
 ·rw[List.getElem?_eq_none (by omega),List.getElem?_eq_none (by omega)]
  exact Int.le_refl _
theorem k3(hG:Good Tryz.prog (m4 [(4,N9 [v4]),(5,N9 [v5]),(6,N9 [v6]),(7,N9 [v7]),(8,N9 [v8]),(9,N9 [v9]),(10,N9 [v10]),(11,N9 [v11])])):v3.Kept Tryz.prog 3:=by
 rintro⟨lo,hi,lots,a,l,m,t,⟨⟩⟩ J k Y;change Int at lo hi lots;change List (List m9)at a;change List Int at l m;change Int at t;refine J5 o7 hG Tryz.func3 tx3 (Eq.mpr (eq3 lo hi lots a l m t k) ?_);replace Y:k (rB true) []:=Y;unfold vc3;obtain⟨Z,w,t0,t1⟩:=J;have Z:PV 0 65535 l:=Z;have w:PV 0 65535 m:=w;have t0:0<=t:=t0;have t1:t<=255:=t1;have f:v5.p ()/\k (.bool true) []:=⟨trivial,Y⟩;rw[T4];refine⟨fun _=>?_,fun _=>f⟩
 rw[T4];refine⟨fun q1=>?_,fun _=>f⟩
 rw[T4];refine⟨fun U=>?_,fun _=>f⟩
 have q1:l.length<=30:=by omega
 have U:m.length<=30:=by omega
 refine⟨trivial,?_⟩;rw[Ow];refine⟨fun _=>f,fun H=>?_⟩
 have H:S4 lo hi lots a=0:=H;obtain⟨bk,UC⟩:=GO (b:=l) H;have B:=Sl (b:=l) H;obtain⟨_,lb,_⟩:=zQ H;obtain⟨a1,a2⟩:=B.all lb.1;have hfe:a4b (l4 lots (L4 lo hi lots l a).flatten) (G7 lo hi lots (L4 lo hi lots l a)):=by
  obtain⟨bL,p1,_,_,p4⟩:=B.bL;exact⟨bL,p1,p4⟩
 have tg:NB lots (L4 lo hi lots l a).flatten (G7 lo hi lots (L4 lo hi lots l a)):=⟨lb,UC,hfe⟩;refine⟨⟨H,Z,q1⟩,⟨bk,tg,a1⟩,⟨bk,tg,a2⟩,?_⟩;have y:=fun(i:Nat) (h:(i:Int)<lots)=>B.low (i:=i) h
 have o:=fun(i:Nat) (h:(i:Int)<lots)=>B.high (i:=i) h
 have eP:=GR (dB (nN lots (L4 lo hi lots l a)) (G7 lo hi lots (L4 lo hi lots l a))) lots;have b4w:=GR (S5 (nN lots (L4 lo hi lots l a)) (G7 lo hi lots (L4 lo hi lots l a))) lots;have z:∀i (h:i<(O7 (dB (nN lots (L4 lo hi lots l a)) (G7 lo hi lots (L4 lo hi lots l a))) lots).length),_=_:=fun i h=>GQ (dB (nN lots (L4 lo hi lots l a)) (G7 lo hi lots (L4 lo hi lots l a))) h
 have A:∀i (h:i<(O7 (S5 (nN lots (L4 lo hi lots l a)) (G7 lo hi lots (L4 lo hi lots l a))) lots).length),_=_:=fun i h=>GQ (S5 (nN lots (L4 lo hi lots l a)) (G7 lo hi lots (L4 lo hi lots l a))) h
 generalize dB (nN lots (L4 lo hi lots l a)) (G7 lo hi lots (L4 lo hi lots l a))=fL at*
 generalize S5 (nN lots (L4 lo hi lots l a)) (G7 lo hi lots (L4 lo hi lots l a))=fH at*
 generalize O7 fL lots=L1 at*
 generalize O7 fH lots=L3 at*
 have b4x:=Sm lots l;have eS:∀i,(h:i<(B1 lots l).length)->(B1 lots l).getD i 0=(B1 lots l)[i]:=fun i h=>by rw[List.getD_eq_getElem?_getD,List.getElem?_eq_getElem h];rfl
 generalize B1 lots l=L2 at*
 have c1:((L1.length:Int) !=lots)=false:=by rw[bne_eq_false_iff_eq];omega
 have c3:((L3.length:Int) !=lots)=false:=by rw[bne_eq_false_iff_eq];omega
 rw[c1,c3];rw[QE];rw[show((false:Bool)==false)=true from rfl,QD];refine Loop.upto (fun i=>(m,t,(i:Int),lo,hi,lots,a,L2,L1,L3,())) (fun _=>True) lots.toNat rfl trivial ?_ ?_
 ·intro j M N n q;dsimp only;rw[e9];refine⟨fun _=>?_,fun h=>absurd N (by omega)⟩
  try simp only[Int.toNat_natCast]
  have O:j<L1.length:=by omega
  have P:j<L2.length:=by omega
  have C:j<L3.length:=by omega
  have D:=y j (by omega)
  have E:=o j (by omega)
  rw[eS j P]at D E;rw[<-z j O]at D;rw[<-A j C]at E;refine⟨⟨by omega,O⟩,O,?_⟩
  rw[T4];refine⟨fun _=>?_,fun h=>absurd D.1 (by omega)⟩
  refine⟨⟨by omega,O⟩,O,⟨by omega,P⟩,P,?_⟩
  rw[T4];refine⟨fun _=>?_,fun h=>absurd D.2 (by omega)⟩
  refine⟨⟨by omega,C⟩,C,⟨by omega,P⟩,P,?_⟩
  rw[T4];refine⟨fun _=>?_,fun h=>absurd E.1 (by omega)⟩
  refine⟨⟨by omega,C⟩,C,?_⟩
  rw[e9];exact⟨fun h=>absurd E.2 (by omega),fun _=>⟨m5 (by omega) (by omega),q trivial⟩⟩
 ·intro K hp;dsimp only;rw[e9];refine⟨fun h=>absurd h (by omega),fun _=>?_⟩
  refine Loop.upto (fun i=>(m,t,(i:Int),lo,hi,lots,a,L2,L1,L3,())) (fun i=>∀j (h:j<L3.length),j<i->L3[j]<=100) lots.toNat rfl (fun j h N=>absurd N (by omega)) ?_ ?_
  ·intro j M N n q;dsimp only;rw[e9];refine⟨fun _=>?_,fun h=>absurd N (by omega)⟩
   try simp only[Int.toNat_natCast]
   have C:j<L3.length:=by omega
   refine⟨⟨by omega,C⟩,C,?_⟩
   rw[e9];refine⟨fun _=>f,fun h=>⟨m5 (by omega) (by omega),q fun j' h' hj'=>?_⟩⟩
   by_cases e:j'=j
   ·subst e;omega
   ·exact n j' h' (by omega)
  ·intro M n;dsimp only;rw[e9];refine⟨fun h=>absurd h (by omega),fun _=>?_⟩
   have g:∀j (d:j<L1.length) (c:j<L2.length) (s:j<L3.length),(0<=L1[j]/\L1[j]<=L2[j])/\L2[j]<=L3[j]/\L3[j]<=100:=by
    intro j d c s;have D:=y j (by omega)
    have E:=o j (by omega)
    rw[eS j c]at D E;rw[<-z j d]at D;rw[<-A j s]at E;have:=n j s (by omega)
    omega
   have in1:PV 0 100 L1:=by
    intro x R;obtain⟨i,hi,rfl⟩:=List.getElem_of_mem R;have:=g i hi (by omega) (by omega);omega
   have in2:PV 0 100 L2:=by
    intro x R;obtain⟨i,hi,rfl⟩:=List.getElem_of_mem R;have:=g i (by omega) hi (by omega);omega
   have in3:PV 0 100 L3:=by
    intro x R;obtain⟨i,hi,rfl⟩:=List.getElem_of_mem R;have:=g i (by omega) (by omega) hi;omega
   have u:=Ea (L:=L1) (m:=m) (by omega) (by omega) in1 w
   have r:=Ea (L:=L2) (m:=m) (by omega) (by omega) in2 w
   have v:=Ea (L:=L3) (m:=m) (by omega) (by omega) in3 w
   have e12:=fun h=>GP (t:=t % 101) u r (by omega) (QF (by omega) fun i d c=>(g i d c (by omega)).1.2) h
   have S:=fun h=>GP (t:=t % 101) r v (by omega) (QF (by omega) fun i d c=>(g i (by omega) d c).2.1) h
   have s1:=fun h=>VJ u (t:=t % 101) h
   have V:=fun h=>VJ r (t:=t % 101) h
   have s3:=fun h=>VJ v (t:=t % 101) h
   have l1:(j4 L1 m).length<=1000:=by simp[j4];omega
   have l2:(j4 L2 m).length<=1000:=by simp[j4];omega
   have l3:(j4 L3 m).length<=1000:=by simp[j4];omega
   have I:0<=t % 101/\t % 101<=100:=by omega
   refine⟨m5 (by omega) (by omega),⟨t0,by decide⟩,⟨by show L1.length<=100;omega,w,U⟩,⟨u,l1,I.1,I.2⟩,⟨by show L2.length<=100;omega,w,U⟩,⟨r,l2,I.1,I.2⟩,⟨by show L3.length<=100;omega,w,U⟩,⟨v,l3,I.1,I.2⟩,?_⟩
   have o1:=Eb u (t % 101);have o2:=Eb r (t % 101);have o3:=Eb v (t % 101);have eh:(HMod.hMod t 101:Int)=t % 101:=rfl;generalize j4 L1 m=X at*
   generalize j4 L2 m=F at*
   generalize j4 L3 m=M3 at*
   rw[o1,o2,o3];have p12:oL X (t % 101)=true->oL F (t % 101)=true->v11.p (R7 X (t % 101),P6 X (t % 101),R7 F (t % 101),P6 F (t % 101),()):=fun d c=>⟨(s1 d).1,(s1 d).2,(V c).1,(V c).2⟩
   have T:oL F (t % 101)=true->oL M3 (t % 101)=true->v11.p (R7 F (t % 101),P6 F (t % 101),R7 M3 (t % 101),P6 M3 (t % 101),()):=fun d c=>⟨(V d).1,(V d).2,(s3 c).1,(s3 c).2⟩
   cases d:oL X (t % 101)with
   |true=>
    obtain⟨c,x12⟩:=e12 d;obtain⟨s,G⟩:=S c;simp only[d,c,s,x12,G,Bool.not_true,Bool.not_false,beq_true,beq_false,QD,QE,beq_self_eq_true];exact⟨p12 d c,T c s,f⟩
   |false=>
    cases c:oL F (t % 101)with
    |true=>
     obtain⟨s,G⟩:=S c;simp only[d,c,s,G,Bool.not_true,Bool.not_false,beq_true,beq_false,QD,QE,beq_self_eq_true];exact⟨T c s,f⟩
    |false=>
     simp only[d,c,Bool.not_true,Bool.not_false,beq_true,beq_false,QD,QE,beq_self_eq_true];exact f
end Go.Abs.T1
end
section
open Go.Proofs
set_option maxRecDepth 100000
set_option linter.unusedVariables false
namespace Go.Abs.T1
theorem LC{α:Type}(p:α->Bool){l:List α}(h:∀x∈l,p x=false):l.any p=false:=by
 rw[List.any_eq_false];intro x a;rw[h x a];simp
theorem k4(F:Good Tryz.prog (m4 [(12,N9 [v12]),(13,N9 [v13])])):v4.Kept Tryz.prog 4:=by
 rintro⟨lo,hi,lots,a,⟨⟩⟩ x k c;change Int at lo hi lots;change List (List m9)at a;refine J5 o7 F Tryz.func4 tx4 (Eq.mpr (eq4 lo hi lots a k) ?_);replace c:k (rI (S4 lo hi lots a)) []:=c;unfold vc4;refine⟨trivial,?_⟩;rw[qA];refine⟨fun h=>?_,fun z=>?_⟩
 ·have:S4 lo hi lots a=3:=by unfold S4;rw[if_pos h]
  rwa [this]at c
 have o:(lots<1\/6<lots\/4<a.length)->S4 lo hi lots a=6:=fun h=>by unfold S4;rw[if_neg (by rw[z];simp),if_pos h]
 rw[T4];refine⟨fun A=>?_,fun A=>?_⟩
 rotate_left
 ·rwa [o (.inl A)]at c
 rw[T4];refine⟨fun B=>?_,fun B=>?_⟩
 rotate_left
 ·rwa [o (.inr (.inl B))]at c
 rw[e9];refine⟨fun G=>?_,fun G=>?_⟩
 ·rwa [o (.inr (.inr (by omega)))]at c
 have b:S4 lo hi lots a=if a.any gS then 6 else if 12<a.flatten.length then 6 else if a.flatten.any (dP lots)then 3 else 0:=by
  unfold S4;rw[if_neg (by rw[z];simp),if_neg (by omega)]
 refine Loop.upto (fun i=>((((a.take i).flatten.length:Nat):Int),(i:Int),lo,hi,lots,a,())) (fun i=>(∀y∈a.take i,gS y=false)/\(a.take i).flatten.length<=12*i) a.length rfl (by simp) ?_ ?_
 ·intro j H n p q;dsimp only;rw[e9];refine⟨fun _=>?_,fun h=>absurd n (by omega)⟩
  try simp only[Int.toNat_natCast]
  obtain⟨f,u⟩:=p;have d:gS a[j]=true->S4 lo hi lots a=6:=fun h=>by
   rw[b,if_pos];exact List.any_eq_true.2 ⟨_,List.getElem_mem n,h⟩
  refine⟨⟨by omega,n⟩,?_⟩
  refine L0 (fun h=>?_) (fun h=>?_)
  ·have h:¬a[j].length=0:=by simpa using h
   refine⟨⟨by omega,n⟩,?_⟩
   rw[e9];refine⟨fun hh=>?_,fun hh=>?_⟩
   ·rwa [d (by unfold gS;rw[decide_eq_true_eq];omega)]at c
   ·refine⟨⟨by omega,n⟩,m5 (by omega) (by omega),m5 (by omega) (by omega),?_⟩
    have v:gS a[j]=false:=by unfold gS;rw[decide_eq_false_iff_not];omega
    have C:=q ⟨W1 _ _ _ n f v,by rw[P7 n,List.length_append];omega⟩
    rw[P7 n,List.length_append,Int.natCast_add]at C;exact C
  ·have h:a[j].length=0:=by simpa using h
   rwa [d (by unfold gS;rw[decide_eq_true_eq];omega)]at c
 ·intro K r;dsimp only;rw[e9];refine⟨fun h=>absurd h (by omega),fun _=>?_⟩
  rw[List.take_length]at r ⊢;obtain⟨f,u⟩:=r;rw[LC _ f]at b;rw[e9];refine⟨fun h=>?_,fun h=>⟨?_,?_⟩⟩
  ·rw[if_neg (by simp),if_pos (by omega)]at b
   rwa [b]at c
  ·refine⟨by show a.length<=4;omega,fun l v=>?_⟩
   have:=f l v;simp only[gS,decide_eq_false_iff_not]at this;have I:List.length (α:=m9) l<=12:=by omega
   exact I
  rw[if_neg (by simp),if_neg (by omega)]at b
  refine Loop.upto (fun i=>((i:Int),lo,hi,lots,a,a.flatten,())) (fun i=>∀y∈a.flatten.take i,dP lots y=false) a.flatten.length rfl (by simp) ?_ ?_
  ·intro m J g s t;dsimp only;rw[e9];refine⟨fun _=>?_,fun h=>absurd g (by omega)⟩
   try simp only[Int.toNat_natCast]
   have d:dP lots a.flatten[m]=true->S4 lo hi lots a=3:=fun h=>by
    rw[b,if_pos];exact List.any_eq_true.2 ⟨_,List.getElem_mem g,h⟩
   refine⟨⟨by omega,g⟩,g,?_⟩
   rw[T4];refine⟨fun D=>?_,fun D=>?_⟩
   rotate_left
   ·rwa [d (by unfold dP;rw[decide_eq_true (.inl D)];rfl)]at c
   refine⟨⟨by omega,g⟩,g,?_⟩
   rw[T4];refine⟨fun E=>?_,fun E=>?_⟩
   rotate_left
   ·rwa [d (by unfold dP;rw[decide_eq_true (.inr E)];rfl)]at c
   refine⟨⟨by omega,g⟩,g,trivial,?_⟩
   have e:dP lots a.flatten[m]=Bool.not (bF a.flatten[m].2.1 a.flatten[m].2.2 (-1000) 1000):=by
    unfold dP;rw[decide_eq_false (by omega),Bool.false_or]
   refine L0 (fun w=>?_) (fun w=>⟨m5 (by omega) (by omega),t (W1 _ _ _ g s (by rw[e,w]))⟩)
   rwa [d (by rw[e,w])]at c
  ·intro K r;dsimp only;rw[e9];refine⟨fun h=>absurd h (by omega),fun _=>?_⟩
   rw[List.take_length]at r;rw[LC _ r]at b;rw[if_neg (by simp)]at b
   rwa [b]at c
end Go.Abs.T1
end
section
open Go.Proofs
set_option maxRecDepth 100000
set_option linter.unusedVariables false
namespace Go.Abs.T1
theorem qB{lots:Int}{ts:List m9}(a:1<=lots)(b:lots<=6)(c:ts.length<=12):l4 lots ts<=19:=by
 show 1+lots.toNat+ts.length<=19;omega
theorem rL{lots:Int}{ts:List m9}(a:1<=lots):((l4 lots ts:Nat):Int)=1+lots+(ts.length:Int):=by
 show((1+lots.toNat+ts.length:Nat):Int)=_;omega
theorem k22(hG:Good Tryz.prog (m4 [(74,iV [BB]),(78,iV [XI]),(76,iV [v76]),(79,N9 [v79])])):v22.Kept Tryz.prog 22:=by
 rintro⟨frm,to,lo,hi,lots,g,ts,m,clk,⟨⟩⟩ q k C;change Int at frm to;change Int at lo hi lots;change List (List m9)at g;change List m9 at ts;change List (Nat×(Int×Int)×Int)at m;change Nat at clk;refine aM o7 hG Tryz.func22 a9j (Eq.mpr (a9i frm to lo hi lots g ts m clk k) ?_);unfold a5m;obtain⟨D,⟨G,U⟩,t0,t1⟩:=q;have D:NB lots ts m:=D;have G:0<=frm:=G;have U:frm<1+lots+(ts.length:Int):=U;refine⟨D,?_⟩;obtain⟨f,rfl⟩:=Int.eq_ofNat_of_zero_le G;obtain⟨⟨V,X⟩,H,bL,s,t⟩:=D;have d:=qB V X H;have hN:((l4 lots ts:Nat):Int)=1+lots+((@List.length (Int×Int×Int) ts:Nat):Int):=rL (ts:=ts) V;have l3': @List.length (Int×Int×Int) ts<=12:=H;have C:k (.I9 [rI (y8 dY (eO m (l4 lots ts) f (l4 lots ts)).1 to),rB (J4 dY (eO m (l4 lots ts) f (l4 lots ts)).1 to)]) (tgA lo hi lots g ts m clk):=C;have a:Y5 (l4 lots ts) m bL:=t;clear t;generalize l4 lots ts=N at hN d a C;have j:BB.p (lo,hi,lots,g,ts,m,clk,()):=⟨by show 0<=lots;omega,X,H⟩
 intro b10 I Yg J;subst I J;refine⟨j,?_⟩;refine Loop.upto (fun i=>(to,1+lots+(ts.length:Int),(i:Int),lo,hi,lots,g,ts,m,clk,(eO m N f i).1,(eO m N f i).2,())) (fun i=>True) N rfl trivial ?_ ?_
 ·intro p K_p t Y u;dsimp only;rw[e9];refine⟨fun _=>?_,fun h=>absurd t (by omega)⟩
  try simp only[Int.toNat_natCast]
  refine⟨trivial,j,?_⟩;refine Loop.upto (fun i=>(1+lots+(ts.length:Int),(i:Int),to,1+lots+(ts.length:Int),(p:Int),lo,hi,lots,g,ts,m,clk,(FZ m N (eO m N f p) i).1,(FZ m N (eO m N f p) i).2,())) (fun _=>True) N rfl trivial ?_ ?_
  ·intro r L o v w;dsimp only;rw[e9];refine⟨fun _=>?_,fun h=>absurd o (by omega)⟩
   try simp only[Int.toNat_natCast]
   refine⟨j,?_⟩;refine Loop.upto (fun i=>((r:Int),1+lots+(ts.length:Int),(r:Int),1+lots+(ts.length:Int),(i:Int),to,1+lots+(ts.length:Int),(p:Int),lo,hi,lots,g,ts,m,clk,(Lx m r (FZ m N (eO m N f p) r) i).1,(Lx m r (FZ m N (eO m N f p) r) i).2,())) (fun _=>True) N rfl trivial ?_ ?_
   ·intro c M E x y;dsimp only;rw[e9];refine⟨fun _=>?_,fun h=>absurd E (by omega)⟩
    try simp only[Int.toNat_natCast]
    have b:=y trivial;rw[Sk (m:=m)]at b;have z:=a0X a o (Nat.le_of_lt E) (a0Y a (Nat.le_of_lt o) (Qz a f p));have Z:=a6b a o (Nat.le_of_lt E) (a6c a d (Nat.le_of_lt o) (a6d a d f p));generalize Lx m r (FZ m N (eO m N f p) r) c=st at b z Z;have F:U1 .i64 ((c:Int)+1):=m5 (by omega) (by omega)
    rw[Vm];refine⟨fun A=>?_,fun A=>⟨F,?_⟩⟩
    ·rw[qA];refine⟨fun B=>⟨F,?_⟩,fun B=>?_⟩
     ·have e:=jN (m:=m) (i:=r) (k:=c) (st:=st) (.inr (Qy B));rw[e]at b;exact b
     ·have O:bd m r c=some (y8 tP m ((r:Int),(c:Int))):=if_pos A;have hx:=xF B;have hn:=(a r c _ o E O).1;have g1:=z r _ hx;have g2:=Z.2 r _ hx;have:=s r;have:=s f;have P:U1 .i64 (y8 dY st.1 (r:Int)+y8 tP m ((r:Int),(c:Int))):=m5 (by omega) (by omega)
      refine⟨P,?_⟩;refine L0 (fun R=>?_) (fun R=>?_)
      ·have e:Q5 m r st c=CM st (c:Int) (CL [y8 dY st.1 (r:Int)+y8 tP m ((r:Int),(c:Int)),y8 dY st.1 (c:Int)]):=by
        unfold Q5;rw[if_pos A,if_pos B,if_pos R]
       rw[e]at b;refine⟨by show 1+1<=iR;decide,⟨by show 1<=2;decide,by show 2<=1000;decide⟩,?_⟩
       intro S l T n;subst l n;exact⟨F,b⟩
      ·have e:Q5 m r st c=CM st (c:Int) (CL [y8 dY st.1 (r:Int)+y8 tP m ((r:Int),(c:Int))]):=by
        unfold Q5;rw[if_pos A,if_pos B,if_neg (by rw[R];simp)]
       rw[e]at b;refine⟨⟨by show 1<=1;decide,by show 1<=1000;decide⟩,?_⟩
       intro S l T n;subst l n;exact⟨F,b⟩
    ·have O:bd m r c=none:=if_neg (by rw[A];simp)
     have e:=jN (m:=m) (i:=r) (k:=c) (st:=st) (.inl O);rw[e]at b;exact b
   ·intro M x;dsimp only;rw[e9];refine⟨fun h=>absurd h (by omega),fun _=>?_⟩
    refine⟨m5 (by omega) (by omega),?_⟩
    have b:=w trivial;rw[Sj (m:=m)]at b;exact b
  ·intro L v;dsimp only;rw[e9];refine⟨fun h=>absurd h (by omega),fun _=>?_⟩
   refine⟨m5 (by omega) (by omega),?_⟩
   have b:=u trivial;rw[lM (m:=m)]at b;exact b
 ·intro K t;dsimp only;rw[e9];refine⟨fun h=>absurd h (by omega),fun _=>?_⟩
  exact C
theorem k21(h:Good Tryz.prog (m4 [(22,iV [v22])])):v21.Kept Tryz.prog 21:=by
 rintro⟨i,lo,hi,lots,g,ts,m,clk,⟨⟩⟩ a k j;change Int at i;change Int at lo hi lots;change List (List m9)at g;change List m9 at ts;change List (Nat×(Int×Int)×Int)at m;change Nat at clk;refine aM o7 h Tryz.func21 a9l (Eq.mpr (a9k i lo hi lots g ts m clk k) ?_);unfold a5n;obtain⟨b,c,d⟩:=a;have b:NB lots ts m:=b;have c:0<=i:=c;have d:i<1+lots+(ts.length:Int):=d;refine⟨⟨b,⟨c,d⟩,by show(0:Int)<=0;decide,by show 0<1+lots+(ts.length:Int);omega⟩,?_,j⟩
 obtain⟨⟨l,o⟩,p,q,f,r⟩:=b;obtain⟨n,rfl⟩:=Int.eq_ofNat_of_zero_le c;have:=YT r f (qB l o p) n 0;have e:kW (l4 lots ts) m ((n:Nat):Int) ((0:Nat):Int)=kW (l4 lots ts) m (n:Int) 0:=rfl;rw[e]at this;exact m5 (by omega) (by omega)
theorem k23(f:Good Tryz.prog (m4 [(22,iV [v22])])):v23.Kept Tryz.prog 23:=by
 rintro⟨i,lo,hi,lots,e,ts,m,clk,⟨⟩⟩ a k g;change Int at i;change Int at lo hi lots;change List (List m9)at e;change List m9 at ts;change List (Nat×(Int×Int)×Int)at m;change Nat at clk;refine aM o7 f Tryz.func23 a9n (Eq.mpr (a9m i lo hi lots e ts m clk k) ?_);unfold a5o;obtain⟨b,c,d⟩:=a;have b:NB lots ts m:=b;have c:0<=i:=c;have d:i<1+lots+(ts.length:Int):=d;exact⟨⟨b,⟨by show(0:Int)<=0;decide,by show 0<1+lots+(ts.length:Int);omega⟩,c,d⟩,g⟩
theorem GS(f:Nat->Int){a n:Nat}(h:a<=n):List.take a (List.drop 0 ((List.range n).map fun j=>f (j+1)))=(List.range a).map fun j=>f (j+1):=by
 rw[List.drop_zero,<-List.map_take,List.take_range,Nat.min_eq_left h]
theorem GU(f:Nat->Int){a n:Nat}(h:a<=n):List.take (n- a) (List.drop a ((List.range n).map fun j=>f (j+1)))=(List.range (n- a)).map fun j=>f (a+j+1):=by
 apply List.ext_getElem
 ·simp
 ·intro i b c;simp
theorem a01(l:List Int)(h:l.length<=1000)(a b:Nat):(List.take a (List.drop b l)).length<=1000:=by
 rw[List.length_take,List.length_drop];omega
theorem b0e(x:Good Tryz.prog (m4 [(74,iV [BB]),(21,iV [v21]),(75,N9 [Tn])])):ND.Kept Tryz.prog 20:=by
 rintro⟨lo,hi,lots,c,ts,m,clk,⟨⟩⟩ d k f;change Int at lo hi lots;change List (List m9)at c;change List m9 at ts;change List (Nat×(Int×Int)×Int)at m;change Nat at clk;refine aM o7 x Tryz.func20 a5q (Eq.mpr (a5p lo hi lots c ts m clk k) ?_);unfold a0I;obtain⟨g,b⟩:=d;have g:NB lots ts m:=g;have b:∀i,1<=i->i<l4 lots ts->kA (l4 lots ts) m (i:Int) 0=true:=b;have f:k (.I9 [.B6 4 false,.B6 5 false,rI 0]) (Yh lo hi lots c ts m clk++ [.sl tI (O7 (dB (l4 lots ts) m) lots),.sl tI (kB (dB (l4 lots ts) m) lots ts)]):=f;obtain⟨⟨r,s⟩,o,y⟩:=g;have g:NB lots ts m:=⟨⟨r,s⟩,o,y⟩;have u:=qB r s o;have H:((l4 lots ts:Nat):Int)=1+lots+((@List.length (Int×Int×Int) ts:Nat):Int):=rL (ts:=ts) r;have z: @List.length (Int×Int×Int) ts<=12:=o;have A:l4 lots ts=1+lots.toNat+ @List.length (Int×Int×Int) ts:=rfl;have l:BB.p (lo,hi,lots,c,ts,m,clk,()):=⟨by show 0<=lots;omega,s,o⟩
 refine Loop.upto (fun i=>((i:Int)+1,lo,hi,lots,c,(List.range i).map (fun j=>dB (l4 lots ts) m (j+1)),ts,m,clk,())) (fun _=>True) (l4 lots ts- 1) rfl trivial ?_ ?_
 ·intro j K B _ q;dsimp only;refine⟨l,?_⟩;rw[e9];refine⟨fun _=>?_,fun h=>absurd B (by omega)⟩
  refine⟨⟨g,by show 0<=(j:Int)+1;omega,by show(j:Int)+1<1+lots+(ts.length:Int);omega⟩,?_⟩
  rw[qA];refine⟨fun h=>?_,fun _=>?_⟩
  ·have v:=b (j+1) (by omega) (by omega)
   have e:kA (l4 lots ts) m ((j+1:Nat):Int) 0=kA (l4 lots ts) m ((j:Int)+1) 0:=rfl;rw[e,h]at v;cases v
  ·have q:=q trivial;rw[List.range_succ,List.map_append]at q;exact⟨by simp only[iR,List.length_map,List.length_range,List.length_cons,List.length_nil];omega,m5 (by omega) (by omega),q⟩
 ·intro K _;dsimp only;refine⟨l,?_⟩;rw[e9];refine⟨fun h=>absurd h (by omega),fun _=>?_⟩
  have C:=GS (dB (l4 lots ts) m) (a:=lots.toNat) (n:=l4 lots ts- 1) (by omega)
  have D:=GU (dB (l4 lots ts) m) (a:=lots.toNat) (n:=l4 lots ts- 1) (by omega)
  have E:l4 lots ts- 1- lots.toNat=@List.length (Int×Int×Int) ts:=by omega
  have F:O7 (dB (l4 lots ts) m) lots=List.take lots.toNat (List.drop 0 ((List.range (l4 lots ts- 1)).map fun j=>dB (l4 lots ts) m (j+1))):=C.symm
  have G:kB (dB (l4 lots ts) m) lots ts=List.take (l4 lots ts- 1- lots.toNat) (List.drop lots.toNat ((List.range (l4 lots ts- 1)).map fun j=>dB (l4 lots ts) m (j+1))):=by
   rw[D,E];rfl
  have w:((List.range (l4 lots ts- 1)).map fun j=>dB (l4 lots ts) m (j+1)).length=l4 lots ts- 1:=by rw[List.length_map,List.length_range]
  rw[F,G]at f;have t:=a01 ((List.range (l4 lots ts- 1)).map fun j=>dB (l4 lots ts) m (j+1)) (by omega)
  generalize ((List.range (l4 lots ts- 1)).map fun j=>dB (l4 lots ts) m (j+1))=L at f w t ⊢
  rw[w];exact⟨⟨by omega,by omega⟩,t _ _,⟨by omega,by omega⟩,t _ _,f⟩
theorem b0f(x:Good Tryz.prog (m4 [(74,iV [BB]),(23,iV [v23]),(75,N9 [Tn])])):NF.Kept Tryz.prog 20:=by
 rintro⟨lo,hi,lots,c,ts,m,clk,⟨⟩⟩ d k f;change Int at lo hi lots;change List (List m9)at c;change List m9 at ts;change List (Nat×(Int×Int)×Int)at m;change Nat at clk;refine aM o7 x Tryz.func20 a5q (Eq.mpr (a5r lo hi lots c ts m clk k) ?_);unfold a0J;obtain⟨g,b⟩:=d;have g:NB lots ts m:=g;have b:∀i,1<=i->i<l4 lots ts->kA (l4 lots ts) m 0 (i:Int)=true:=b;have f:k (.I9 [.B6 4 false,.B6 5 false,rI 0]) (Yh lo hi lots c ts m clk++ [.sl tI (O7 (S5 (l4 lots ts) m) lots),.sl tI (kB (S5 (l4 lots ts) m) lots ts)]):=f;obtain⟨⟨r,s⟩,o,y⟩:=g;have g:NB lots ts m:=⟨⟨r,s⟩,o,y⟩;have u:=qB r s o;have H:((l4 lots ts:Nat):Int)=1+lots+((@List.length (Int×Int×Int) ts:Nat):Int):=rL (ts:=ts) r;have z: @List.length (Int×Int×Int) ts<=12:=o;have A:l4 lots ts=1+lots.toNat+ @List.length (Int×Int×Int) ts:=rfl;have l:BB.p (lo,hi,lots,c,ts,m,clk,()):=⟨by show 0<=lots;omega,s,o⟩
 refine Loop.upto (fun i=>((i:Int)+1,lo,hi,lots,c,(List.range i).map (fun j=>S5 (l4 lots ts) m (j+1)),ts,m,clk,())) (fun _=>True) (l4 lots ts- 1) rfl trivial ?_ ?_
 ·intro j K B _ q;dsimp only;refine⟨l,?_⟩;rw[e9];refine⟨fun _=>?_,fun h=>absurd B (by omega)⟩
  refine⟨⟨g,by show 0<=(j:Int)+1;omega,by show(j:Int)+1<1+lots+(ts.length:Int);omega⟩,?_⟩
  rw[qA];refine⟨fun h=>?_,fun _=>?_⟩
  ·have v:=b (j+1) (by omega) (by omega)
   have e:kA (l4 lots ts) m 0 ((j+1:Nat):Int)=kA (l4 lots ts) m 0 ((j:Int)+1):=rfl;rw[e,h]at v;cases v
  ·have q:=q trivial;rw[List.range_succ,List.map_append]at q;exact⟨by simp only[iR,List.length_map,List.length_range,List.length_cons,List.length_nil];omega,m5 (by omega) (by omega),q⟩
 ·intro K _;dsimp only;refine⟨l,?_⟩;rw[e9];refine⟨fun h=>absurd h (by omega),fun _=>?_⟩
  have C:=GS (S5 (l4 lots ts) m) (a:=lots.toNat) (n:=l4 lots ts- 1) (by omega)
  have D:=GU (S5 (l4 lots ts) m) (a:=lots.toNat) (n:=l4 lots ts- 1) (by omega)
  have E:l4 lots ts- 1- lots.toNat=@List.length (Int×Int×Int) ts:=by omega
  have F:O7 (S5 (l4 lots ts) m) lots=List.take lots.toNat (List.drop 0 ((List.range (l4 lots ts- 1)).map fun j=>S5 (l4 lots ts) m (j+1))):=C.symm
  have G:kB (S5 (l4 lots ts) m) lots ts=List.take (l4 lots ts- 1- lots.toNat) (List.drop lots.toNat ((List.range (l4 lots ts- 1)).map fun j=>S5 (l4 lots ts) m (j+1))):=by
   rw[D,E];rfl
  have w:((List.range (l4 lots ts- 1)).map fun j=>S5 (l4 lots ts) m (j+1)).length=l4 lots ts- 1:=by rw[List.length_map,List.length_range]
  rw[F,G]at f;have t:=a01 ((List.range (l4 lots ts- 1)).map fun j=>S5 (l4 lots ts) m (j+1)) (by omega)
  generalize ((List.range (l4 lots ts- 1)).map fun j=>S5 (l4 lots ts) m (j+1))=L at f w t ⊢
  rw[w];exact⟨⟨by omega,by omega⟩,t _ _,⟨by omega,by omega⟩,t _ _,f⟩
theorem k19(f:Good Tryz.prog (m4 [(71,N9 [v71]),(73,iV [v73])])):XJ.Kept Tryz.prog 19:=by
 rintro⟨lo,hi,lots,a,⟨⟩⟩ b k g;change Int at lo hi lots;change List (List m9)at a;refine aM o7 f Tryz.func19 a9p (Eq.mpr (a9o lo hi lots a k) ?_);unfold a5s;obtain⟨c,d,e⟩:=b;have c:H9 lo hi lots a=0:=c;have d:a.length<=4:=d;refine⟨⟨d,e⟩,?_⟩;rw[Ow];refine⟨fun h=>absurd c h,fun _=>?_⟩
 refine Loop.upto (fun i=>(0,0,lo,hi,lots,a,[],())) (fun _=>True) 0 rfl trivial (fun i K hi=>absurd hi (by omega)) ?_
 intro K _;dsimp only;rw[e9];exact⟨fun h=>absurd h (by omega),fun _=>⟨⟨c,d,e⟩,g⟩⟩
theorem k7(c:Good Tryz.prog (m4 [(19,iV [XJ]),(20,iV [ND])])):v7.Kept Tryz.prog 7:=by
 rintro⟨lo,hi,lots,b,⟨⟩⟩ a k d;change Int at lo hi lots;change List (List m9)at b;refine J5 o7 c Tryz.func7 tx7 (Eq.mpr (eq7 lo hi lots b k) ?_);unfold vc7;exact⟨a.1,a.2,d⟩
theorem k8(c:Good Tryz.prog (m4 [(19,iV [XJ]),(20,iV [NF])])):v8.Kept Tryz.prog 8:=by
 rintro⟨lo,hi,lots,b,⟨⟩⟩ a k d;change Int at lo hi lots;change List (List m9)at b;refine J5 o7 c Tryz.func8 tx8 (Eq.mpr (eq8 lo hi lots b k) ?_);unfold vc8;exact⟨a.1,a.2,d⟩
theorem QG{a b A B:Int}(d:0<=a)(e:a<=A)(c:0<=b)(f:b<=B):0<=a*b/\a*b<=A*B:=
 ⟨Int.mul_nonneg d c,Int.mul_le_mul e f c (by omega)⟩
theorem k83(u:Good Tryz.prog (m4 [(109,N9 [Ns])])):v83.Kept Tryz.prog 83:=by
 rintro⟨a,b,c,d,e,f,p,q,⟨⟩⟩ g k i;change Int at a b c d e f p q;refine J5 o7 u Tryz.func83 a9r (Eq.mpr (a9q a b c d e f p q k) ?_);unfold a5t;obtain⟨⟨j,l⟩,⟨m,n⟩,⟨o,r⟩,⟨s,t⟩,h⟩:=g;have j:0<=b:=j;have l:b<=1001:=l;have m:0<=e:=m;have n:e<=1001:=n;have o:0<=p:=o;have r:p<=100:=r;have s:0<=q:=s;have t:q<=100:=t;have h:1<=p+q:=h;have v:=QG j l o r;have g2:=QG m n s t;have i:k (.agg [rI (kT (b*p+e*q) (p+q)),rI (kU (b*p+e*q) (p+q))]) []:=i;refine⟨m5 (by omega) (by omega),m5 (by omega) (by omega),m5 (by omega) (by omega),m5 (by omega) (by omega),⟨?_,?_,?_,?_⟩,i⟩
 ·show 0<=b*p+e*q;omega
 ·show b*p+e*q<=10000000;omega
 ·show 1<=p+q;omega
 ·show p+q<=10000000;omega
theorem k80(f:Good Tryz.prog (m4 [(129,N9 [Nq]),(108,N9 [vW]),(130,iV [Nw])])):v80.Kept Tryz.prog 80:=by
 rintro⟨l,s,⟨⟩⟩ a k g;change List (Int×Int)at l;change List Int at s;refine aM o7 f Tryz.func80 a9t (Eq.mpr (a9s l s k) ?_);unfold a5u;obtain⟨b,c,e,d⟩:=a;have b:G4 l=0:=b;have c:l.length<=1000:=c;have e:s.length<=1000:=e;have d:D7 0 100 s=false:=d;refine⟨c,?_⟩;rw[Ow];refine⟨fun h=>absurd b h,fun _=>⟨?_,?_⟩⟩
 ·show s.length<=oV;have:(1000:Nat)<=oV:=by decide
  omega
 rw[Bool.not_not];exact L0 (fun h=>by rw[d]at h;cases h) (fun _=>⟨⟨b,c⟩,g⟩)
end Go.Abs.T1
end
section
open Go.Proofs
set_option maxRecDepth 100000
set_option linter.unusedVariables false
namespace Go.Abs.T1
abbrev RS:Type:=List Int×List Int×Int
def lN(m:l6 tP)(i:Nat)(st:RS)(k:Nat):RS:=if J4 tP m ((i:Int),(k:Int))then
 (if st.1.getD i 0+y8 tP m ((i:Int),(k:Int))<st.1.getD k 0 then(st.1.set k (st.1.getD i 0+y8 tP m ((i:Int),(k:Int))),st.2.1.set k (i:Int),(k:Int))else st)else st
def rC(m:l6 tP)(i:Nat)(st:RS)(k:Nat):RS:=(List.range k).foldl (lN m i) st
def rR(m:l6 tP)(N:Nat)(st:RS)(i:Nat):RS:=(List.range i).foldl (fun st i=>rC m i st N) st
def rP(m:l6 tP)(N:Nat)(p:Nat):RS:=(List.range p).foldl (fun st (_:Nat)=>rR m N (st.1,st.2.1,-1) N) (List.replicate 19 0,List.replicate 19 0,-1)
variable {m:l6 tP} {N:Nat} {bL:Nat->Int}
theorem YW(i:Nat)(st:RS)(k:Nat):rC m i st (k+1)=lN m i (rC m i st k) k:=by unfold rC;rw[List.range_succ,List.foldl_append];rfl
theorem YX(st:RS)(i:Nat):rR m N st (i+1)=rC m i (rR m N st i) N:=by unfold rR;rw[List.range_succ,List.foldl_append];rfl
theorem IJ(p:Nat):rP m N (p+1)=rR m N ((rP m N p).1,(rP m N p).2.1,-1) N:=by unfold rP;rw[List.range_succ,List.foldl_append];rfl
theorem Ec{σ τ α:Type}(R:σ->τ->Prop)(f:σ->α->σ)(g:τ->α->τ):∀ (l:List α) (s:σ) (t:τ),(∀s t x,x∈l->R s t->R (f s x) (g t x))->R s t->R (l.foldl f s) (l.foldl g t)
 |[],_,_,_,h=>h
 |a::l,s,t,b,h=>Ec R f g l _ _ (fun s t x c=>b s t x (List.mem_cons_of_mem _ c)) (b s t a (List.mem_cons_self ..) h)
def AtR(N:Nat)(st:RS)(A:Nat->Int):Prop:=st.1.length=19/\st.2.1.length=19/\∀j,j<N->st.1.getD j 0=A j
theorem Q9{l:List Int}{i:Nat}(h:i<l.length):l.getD i 0=l[i]:=by rw[List.getD_eq_getElem?_getD,List.getElem?_eq_getElem h];rfl
theorem LD{l:List Int}{k:Nat}(a:k<l.length)(v:Int)(j:Nat):(l.set k v).getD j 0=if j=k then v else l.getD j 0:=by
 rw[List.getD_eq_getElem?_getD,List.getElem?_set];by_cases h:j=k
 ·subst h;rw[if_pos rfl,if_pos rfl,if_pos a];rfl
 ·rw[if_neg (fun e=>h e.symm),if_neg h,List.getD_eq_getElem?_getD]
theorem Ed{i k:Nat}(h:J4 tP m ((i:Int),(k:Int))=true):bd m i k=some (y8 tP m ((i:Int),(k:Int))):=if_pos h
theorem a6e{i k:Nat}(h:J4 tP m ((i:Int),(k:Int))=false):bd m i k=none:=if_neg (by rw[h];simp)
theorem VK(l:N<=19){i k:Nat}(hi:i<N)(g:k<N){st:RS}{A:Nat->Int}(h:AtR N st A):AtR N (lN m i st k) (T5 (bd m) A (i,k)):=by
 obtain⟨d,e,a⟩:=h;unfold lN;cases f:J4 tP m ((i:Int),(k:Int))with
 |false=>
  rw[if_neg (by simp)]
  refine⟨d,e,fun j b=>?_⟩
  unfold T5;rw[a6e f];exact a j b
 |true=>
  rw[if_pos rfl,a i hi,a k g];by_cases c:A i+y8 tP m ((i:Int),(k:Int))<A k
  ·rw[if_pos c];refine⟨by rw[List.length_set];exact d,by rw[List.length_set];exact e,fun j b=>?_⟩
   unfold T5;rw[Ed f];dsimp only;rw[if_pos c,LD (by omega)]
   split
   ·rfl
   ·exact a j b
  ·rw[if_neg c];refine⟨d,e,fun j b=>?_⟩
   unfold T5;rw[Ed f];dsimp only;rw[if_neg c];exact a j b
theorem a6f(a:N<=19){i:Nat}(hi:i<N){k:Nat}(c:k<=N){st:RS}{A:Nat->Int}(h:AtR N st A):AtR N (rC m i st k) ((List.range k).foldl (fun A k=>T5 (bd m) A (i,k)) A):=
 Ec (AtR N) _ _ _ _ _ (fun s t x b h=>VK a hi (by have:=List.mem_range.1 b;omega) h) h
theorem a6g(a:N<=19){i:Nat}(hi:i<=N){st:RS}{A:Nat->Int}(h:AtR N st A):AtR N (rR m N st i) ((List.range i).foldl (OC (bd m) N) A):=
 Ec (AtR N) _ _ _ _ _ (fun s t x b h=>a6f a (by have:=List.mem_range.1 b;omega) (Nat.le_refl _) h) h
theorem a02(a:N<=19):∀p,AtR N (rP m N p) (sV (bd m) N p fun _=>0)
 |0=>⟨rfl,rfl,fun j b=>by show(List.replicate 19 (0:Int)).getD j 0=0;rw[List.getD_eq_getElem?_getD,List.getElem?_replicate];split<;>rfl⟩
 |p+1=>by
  rw[IJ,GL];have h:=a02 a p;exact a6g a (Nat.le_refl _) (st:=((rP m N p).1,(rP m N p).2.1,-1)) h
theorem VL{i k:Nat}(hi:i<N)(a:k<N){st:RS}{A:Nat->Int}(h:AtR N st A)(b:U8 (bd m) N A):lN m i st k=st:=by
 unfold lN;split
 ·rename_i c;have:=b i k _ hi a (Ed c);rw[if_neg];rw[h.2.2 i hi,h.2.2 k a];omega
 ·rfl
theorem a6h{st:RS}{A:Nat->Int}(h:AtR N st A)(c:U8 (bd m) N A):rR m N st N=st:=by
 have d:∀i,i<N->rC m i st N=st:=fun i hi=>T6 (lN m i) (fun t=>t=st) _ _ (fun s a b e=>by rw[e];exact VL hi (List.mem_range.1 b) h c) rfl
 exact T6 (fun st i=>rC m i st N) (fun t=>t=st) _ _ (fun s a b e=>by rw[e];exact d a (List.mem_range.1 b)) rfl
theorem YY(c:N<=19)(d:0<N)(e:Y5 N m bL):(rP m N N).2.2= -1:=by
 obtain⟨n,rfl⟩:∃n,N=n+1:=⟨N- 1,by omega⟩
 have a:=settled (b:=bd m) d bL (fun i k n hi f g=>(e i k n hi f g).2)
 have h:=a02 (m:=m) c n;rw[IJ,a6h (A:=sV (bd m) (n+1) n fun _=>0) (st:=((rP m (n+1) n).1,(rP m (n+1) n).2.1,-1)) h a]
def xH(N:Nat)(bL:Nat->Int)(st:RS):Prop:=st.1.length=19/\st.2.1.length=19/\∀j,st.1.getD j 0<=0/\(j<N->bL j- 10000<=st.1.getD j 0)
theorem Sn(f:N<=19)(a:Y5 N m bL){i k:Nat}(hi:i<N)(b:k<N){st:RS}(h:xH N bL st):xH N bL (lN m i st k):=by
 unfold lN;split
 ·rename_i c;split
  ·rename_i g;refine⟨by rw[List.length_set];exact h.1,by rw[List.length_set];exact h.2.1,fun j=>?_⟩
   rw[LD (by have:=h.1;omega)]
   have l:=h.2.2 k;have d:=h.2.2 i;have n:=(a i k _ hi b (Ed c)).2;have o:=d.2 hi;split
   ·rename_i e;subst e;exact⟨by omega,fun _=>by omega⟩
   ·exact h.2.2 j
  ·exact h
 ·exact h
theorem VM(b:N<=19)(c:Y5 N m bL){i:Nat}(hi:i<N){k:Nat}(e:k<=N){st:RS}(h:xH N bL st):xH N bL (rC m i st k):=
 T6 _ (xH N bL) _ _ (fun s a d h=>Sn b c hi (by have:=List.mem_range.1 d;omega) h) h
theorem VN(b:N<=19)(c:Y5 N m bL){i:Nat}(hi:i<=N){st:RS}(h:xH N bL st):xH N bL (rR m N st i):=
 T6 _ (xH N bL) _ _ (fun s a d h=>VM b c (by have:=List.mem_range.1 d;omega) (Nat.le_refl _) h) h
theorem a2f(b:N<=19)(c:Y5 N m bL)(d:∀i,0<=bL i/\bL i<=10000)(p:Nat):xH N bL (rP m N p):=by
 refine T6 _ (xH N bL) _ _ (fun s a f h=>VN b c (Nat.le_refl _) (st:=(s.1,s.2.1,-1)) h) ⟨rfl,rfl,fun j=>?_⟩
 have e:(List.replicate 19 (0:Int)).getD j 0=0:=by rw[List.getD_eq_getElem?_getD,List.getElem?_replicate];split<;>rfl
 show(List.replicate 19 (0:Int)).getD j 0<=0/\(j<N->bL j- 10000<=(List.replicate 19 (0:Int)).getD j 0);rw[e];have:=d j;exact⟨by omega,fun _=>by omega⟩
theorem k76(hG:Good Tryz.prog (m4 [(74,iV [BB]),(78,iV [XI])])):v76.Kept Tryz.prog 76:=by
 rintro⟨lo,hi,lots,w,ts,m,clk,⟨⟩⟩ x k hk;change Int at lo hi lots;change List (List m9)at w;change List m9 at ts;change List (Nat×(Int×Int)×Int)at m;change Nat at clk;refine aM o7 hG Tryz.func76 a9h (Eq.mpr (a9g lo hi lots w ts m clk k) ?_);unfold a5l;obtain⟨⟨J,L⟩,M,bL,y,z⟩:=x;have J:1<=lots:=J;have L:lots<=6:=L;have M:ts.length<=12:=M;have b:=qB J L M;have hN:((l4 lots ts:Nat):Int)=1+lots+((@List.length (Int×Int×Int) ts:Nat):Int):=rL (ts:=ts) J;have V:0<l4 lots ts:=by show 0<1+lots.toNat+ts.length;omega
 have f:Y5 (l4 lots ts) m bL:=z;clear z;generalize l4 lots ts=N at hN b f V;have o:BB.p (lo,hi,lots,w,ts,m,clk,()):=⟨by show 0<=lots;omega,L,M⟩
 refine⟨o,?_⟩;refine Loop.upto (fun i=>(1+lots+(ts.length:Int),(i:Int),lo,hi,lots,w,(rP m N i).1,(rP m N i).2.1,(rP m N i).2.2,ts,m,clk,())) (fun _=>True) N rfl trivial ?_ ?_
 ·intro p K_p z X A;dsimp only;rw[e9];refine⟨fun _=>?_,fun h=>absurd z (by omega)⟩
  try simp only[Int.toNat_natCast]
  refine⟨trivial,o,?_⟩;have B:=a2f b f y p;have s:=A trivial;have Y:=IJ (m:=m) (N:=N) p;rw[Y]at s;clear Y;have j:xH N bL ((rP m N p).1,(rP m N p).2.1,-1):=B;generalize P:((rP m N p).1,(rP m N p).2.1,(-1:Int))=q at s j;have q1:(rP m N p).1=q.1:=by rw[<-P]
  have q2:(rP m N p).2.1=q.2.1:=by rw[<-P]
  have q3:(-1:Int)=q.2.2:=by rw[<-P]
  rw[q1,q2,q3];refine Loop.upto (fun i=>(1+lots+(ts.length:Int),(i:Int),1+lots+(ts.length:Int),(p:Int),lo,hi,lots,w,(rR m N q i).1,(rR m N q i).2.1,(rR m N q i).2.2,ts,m,clk,())) (fun _=>True) N rfl trivial ?_ ?_
  ·intro r R C D E;dsimp only;rw[e9];refine⟨fun _=>?_,fun h=>absurd C (by omega)⟩
   try simp only[Int.toNat_natCast]
   refine⟨o,?_⟩;have l:=VN b f (Nat.le_of_lt C) j;have u:=E trivial;have Z:=YX (m:=m) (N:=N) q r;rw[Z]at u;clear Z;generalize rR m N q r=t at u l;refine Loop.upto (fun i=>((r:Int),1+lots+(ts.length:Int),(r:Int),1+lots+(ts.length:Int),(i:Int),1+lots+(ts.length:Int),(p:Int),lo,hi,lots,w,(rC m r t i).1,(rC m r t i).2.1,(rC m r t i).2.2,ts,m,clk,())) (fun _=>True) N rfl trivial ?_ ?_
   ·intro c S F G H;dsimp only;rw[e9];refine⟨fun _=>?_,fun h=>absurd F (by omega)⟩
    try simp only[Int.toNat_natCast]
    have a:=H trivial;have e2:=YW (m:=m) r t c;rw[e2]at a;clear e2;have I:=VM b f C (Nat.le_of_lt F) l;generalize rC m r t c=st at a I;have T:U1 .i64 ((c:Int)+1):=m5 (by omega) (by omega)
    obtain⟨n1,n2,n3⟩:=I;have n:r<19:=by omega
    have VO:c<19:=by omega
    rw[Vm];refine⟨fun O=>?_,fun O=>⟨T,?_⟩⟩
    ·have g:r<st.1.length:=by omega
     have v:c<st.1.length:=by omega
     have U:c<st.2.1.length:=by omega
     have g1:=n3 r;have g2:=g1.2 C;have g3:=(f r c _ C F (Ed O)).1;have g4:=y r;rw[Q9 g]at g1 g2;have f1:U1 .i64 (st.1[r]+y8 tP m ((r:Int),(c:Int))):=m5 (by omega) (by omega)
     have e:lN m r st c=if st.1[r]+y8 tP m ((r:Int),(c:Int))<st.1[c]then(st.1.set c (st.1[r]+y8 tP m ((r:Int),(c:Int))),st.2.1.set c (r:Int),(c:Int))else st:=by
      unfold lN;rw[if_pos O,Q9 g,Q9 v]
     rw[e]at a;clear e;refine⟨⟨by omega,n⟩,g,f1,⟨by omega,VO⟩,v,?_⟩
     rw[e9];refine⟨fun d=>?_,fun d=>⟨T,?_⟩⟩
     ·have d:st.1[r]+y8 tP m ((r:Int),(c:Int))<st.1[c]:=d;rw[if_pos d]at a;exact⟨⟨by omega,n⟩,g,f1,⟨by omega,VO⟩,v,⟨by omega,VO⟩,U,T,a⟩
     ·have d:¬(st.1[r]+y8 tP m ((r:Int),(c:Int))<st.1[c]):=d;rw[if_neg d]at a;exact a
    ·have e:lN m r st c=st:=by
      unfold lN;exact if_neg (by rw[show J4 tP m ((r:Int),(c:Int))=false from O];simp)
     rw[e]at a;exact a
   ·intro S G;dsimp only;rw[e9];refine⟨fun h=>absurd h (by omega),fun _=>?_⟩
    exact⟨m5 (by omega) (by omega),u⟩
  ·intro R D;dsimp only;rw[e9];refine⟨fun h=>absurd h (by omega),fun _=>?_⟩
   exact⟨m5 (by omega) (by omega),s⟩
 ·intro K z;dsimp only;rw[e9];refine⟨fun h=>absurd h (by omega),fun _=>?_⟩
  rw[T4];have e:=YY b V f;refine⟨fun h=>absurd h ?_,fun _=>hk⟩
  intro F;apply F;show(rP m N N).2.2<0;rw[e];decide
end Go.Abs.T1
end
section
namespace Go.Proofs
open Go.Shelf
def Tryz.bT:Go.Shelf.Ren:=⟨fun|4=>147|n=>n,fun|22=>45|25=>48|3=>3|4=>4|9=>9|20=>20|0=>0|n=>n,fun|n=>n⟩
theorem Tryz.QH:Go.Proofs.Lays8.n4 Tryz.prog Tryz.bT:= {
 mixed:=by kernel_rfl
 f4:=⟨Tryz.f147.name,by decide,Tryz.func147.trans (congrArg some (by kernel_rfl))⟩
 t0:=Tryz.underlying0
 a0:=Tryz.isAgg0
 z0:=Tryz.sizeOf0
 v0:=Tryz.zeroValue0
 t3:=Tryz.underlying3
 a3:=Tryz.isAgg3
 z3:=Tryz.sizeOf3
 v3:=Tryz.zeroValue3
 t4:=Tryz.underlying4
 a4:=Tryz.isAgg4
 z4:=Tryz.sizeOf4
 v4:=Tryz.zeroValue4
 t9:=Tryz.underlying9
 a9:=Tryz.isAgg9
 z9:=Tryz.sizeOf9
 v9:=Tryz.zeroValue9
 t20:=Tryz.underlying20
 a20:=Tryz.isAgg20
 z20:=Tryz.sizeOf20
 v20:=Tryz.zeroValue20
 t22:=Tryz.underlying45
 a22:=Tryz.isAgg45
 z22:=Tryz.sizeOf45
 v22:=Tryz.zeroValue45}
end Go.Proofs
end
section
namespace Go.Abs
open Go.ChangeShapes Go.WideShapes Go.RowKit
def W9(w:World):j0 where
 cells:=fun b=>match w.heap[b]? with
  |some (.cells cs _ _)=>some cs
  |_=>none
 inv:=fun _=>none
 y:=none
theorem Ga{w:World}{b:Nat}{cs:Array Value}(h:(W9 w).cells b=some cs):∃e a,w.heap[b]? =some (.cells cs e a):=by
 simp only[W9]at h;split at h
 ·rename_i c e a d;cases h;exact⟨e,a,d⟩
 ·cases h
theorem YZ(w:World):J0 (fun b=>b<w.heap.size) (W9 w) w where
 y6:=⟨fun b cs h=>Ga h,fun b p h=>by cases h⟩
 lt:=fun b h=>h
 inv:=fun b p h=>by cases h
 apart:=fun b p h=>by cases h
theorem Gb{w w':World}(h:Kept (fun b=>b<w.heap.size) w w'):Below w.heap.size w w':=⟨h.os,h.tape,h.output,h.size,fun k a=>h.block k a⟩
theorem Ee{w:World}{base:Nat}{a:Addr}{n:Nat}{cs:List Value}(h:w.cells? base a n=some cs)(j:0<n):
  a.spot=none/\∃arr,(W9 w).cells a.block=some arr/\cs=u0 arr a.off n:=by
 obtain⟨_,q,f⟩:=World.cells?_some h;have c:=f 0 j;have k:a.add 0=a:=by simp[Addr.add]
 rw[k,List.getElem?_eq_getElem (by omega)]at c
 have l:=World.cell?_spot c;refine⟨l,?_⟩;have d:∃arr e g,w.heap[a.block]? =some (.cells arr e g):=by
  unfold World.cell? at c;split at c
  ·exact⟨_,_,_,‹_›⟩
  ·cases c
 obtain⟨arr,e,g,d⟩:=d;refine⟨arr,by simp only[W9,d],?_⟩
 have b:∀i,i<n->arr[a.off+i]? =cs[i]? :=by
  intro i hi;rw[<-f i hi];have m:(a.add i).block=a.block:=by unfold Addr.add;split<;>rfl
  have o:(a.add i).off=a.off+i:=by unfold Addr.add;split<;>simp_all
  have p:(a.add i).spot=none:=by unfold Addr.add;split<;>simp_all
  unfold World.cell?;rw[m,d];simp only[p,o,Option.isSome_none,Bool.false_eq_true,if_false]
 apply List.ext_getElem?;intro i;unfold u0;rw[List.getElem?_take,List.getElem?_drop];by_cases hi:i<n
 ·rw[if_pos hi,<-b i hi,Array.getElem?_toList]
 ·rw[if_neg hi,List.getElem?_eq_none (by omega)]
def Ty.wf:(t:Ty)->t.den->Prop
 |.int k,n=>(Lit.int k n).wf=true
 |.bool,_=>True
 |.slice e,l=>∀x∈(show List e.den from l),e.wf x
 |.pair a b,x=>a.wf x.1/\b.wf x.2
variable {H:Type} {enc:TypeId×Value->H} {P:Program} {w:World} {base:Nat} {spare:Nat->Bool} {held:Bool}
theorem trod_bool{t:TypeId}{a:Nat}{cs:List Value}{x:DataW H×List MemPlace}(c:P.underlying t=some .bool)(h:DataW.trod enc P w base spare held a t cs=some x):∃b,cs=[.bool b]:=by
 cases a with
 |zero=>simp[DataW.trod]at h
 |succ n=>
  unfold DataW.trod at h;rw[c]at h;split at h<;>simp_all
theorem Ef{f:TypeId->Option Ty}{K:j0}{n:Nat}{cs:List Value}(d:∀t ty,f t=some ty->P.cellsOf t=ty.size)
  (g:∀t ty,f t=some ty->∀cs x,DataW.trod enc P w base spare held n t cs=some x->∃y:ty.den,s9 K ty y cs/\ty.wf y):
  ∀ (j:List Field) (o:Nat) (ty:Ty),gH f j o=some ty->cs.length=o+ty.size->(∀a∈j,∃x,DataW.trod enc P w base spare held n a.type ((cs.drop a.offset).take (P.cellsOf a.type))=some x)->∃y:ty.den,s9 K ty y (cs.drop o)/\ty.wf y
 |[],_,_,h,_,_=>by simp[gH]at h
 |[a],o,ty,h,k,e=>by
  replace h:(if a.offset=o then f a.type else none)=some ty:=h
  split at h
  ·rename_i i;obtain⟨x,e⟩:=e a (by simp)
   rw[d _ _ h,i,List.take_of_length_le (by rw[List.length_drop];omega)]at e
   exact g _ _ h _ _ e
  ·cases h
 |a::b::r,o,ty,h,k,e=>by
  replace h:(if a.offset=o then(match f a.type with
   |some x=>match gH f (b::r) (o+x.size)with
    |some y=>some (.pair x y)
    |none=>none
   |none=>none)else none)=some ty:=h
  split at h
  ·rename_i i;split at h
   ·rename_i p l;split at h
    ·rename_i q s;cases h;simp only[Ty.size]at k;obtain⟨z,m⟩:=e a (by simp)
     rw[d _ _ l,i]at m;obtain⟨y1,u,v⟩:=g _ _ l _ _ m;obtain⟨A,B,C⟩:=Ef d g (b::r) (o+p.size) q s (by omega) (fun c D=>e c (List.mem_cons_of_mem _ D))
     refine⟨(y1,A),⟨_,_,?_,u,B⟩,⟨v,C⟩⟩;rw[<-List.drop_drop];exact(List.take_append_drop _ _).symm
    ·cases h
   ·cases h
  ·cases h
theorem Ba:∀ (d:Nat) (t:TypeId) (ty:Ty),X3 P d t=some ty->∀ (l:Nat) (cs:List Value) (x:DataW H×List MemPlace),DataW.trod enc P w base spare held l t cs=some x->∃y:ty.den,s9 (W9 w) ty y cs/\ty.wf y:=by
 intro d
 induction d with
 |zero=>intro t ty h;simp[X3]at h
 |succ d L=>
  intro t ty h l cs x j;unfold X3 at h;split at h
  ·rename_i i k hi o;split at h
   ·cases h;obtain⟨n,rfl,_,R⟩:=DataW.trod_int o j;exact⟨n,rfl,R⟩
   ·cases h
  ·rename_i i hi o;split at h
   ·cases h;obtain⟨b,rfl⟩:=trod_bool o j;exact⟨b,rfl,trivial⟩
   ·cases h
  ·rename_i i e hi o;split at h
   ·split at h
    ·rename_i a B;cases h;obtain⟨_,_,p,q,_,_⟩:=bQ d e a B;have r:P.cellsOf e=a.size:=by simp only[Program.cellsOf,p,Option.map_some,Option.getD_some,q]
     rcases Deep.open_slice o j with⟨rfl,_⟩|⟨ad,len,cap,m,n,D,Pl,rfl,_,C,_,S,_,u⟩
     ·exact⟨([]:List a.den),⟨none,0,rfl,Nat.le_refl _,Or.inl rfl⟩,fun x j=>by cases j⟩
     ·have T:len<=m:=by rw[S];split<;>omega
      have c:∀i,i<len->∃y:a.den,a.wf y/\ad.spot=none/\∃arr,(W9 w).cells ad.block=some arr/\s9 (W9 w) a y (u0 arr (ad.off+i*a.size) a.size):=by
       intro i hi;obtain⟨E,v,F⟩:=u i (by omega)
       rw[r]at v;obtain⟨M,arr,z,A⟩:=Ee v a.size_pos;obtain⟨y,y1,U⟩:=L e a B n E _ F;have V:(ad.add (i*a.size)).block=ad.block:=by unfold Addr.add;split<;>rfl
       have X:(ad.add (i*a.size)).off=ad.off+i*a.size:=by unfold Addr.add;split<;>simp_all
       have Y:ad.spot=none:=by
        obtain⟨Z,s,_⟩:=u 0 (by omega)
        rw[r,Nat.zero_mul]at s;have e0:ad.add 0=ad:=by simp[Addr.add]
        rw[e0]at s;exact(Ee s a.size_pos).1
       rw[V]at z;rw[X]at A;rw[A]at y1;exact⟨y,U,Y,arr,z,y1⟩
      let g:Nat->a.den:=fun i=>if h:i<len then Classical.choose (c i h)else a.zero
      have N:∀i (h:i<len),g i=Classical.choose (c i h):=fun i h=>by simp only[g,dif_pos h]
      refine⟨((List.range len).map g:List a.den),⟨some ad,cap,?_,?_,?_⟩,?_⟩
      ·rw[List.length_map,List.length_range]
      ·rw[List.length_map,List.length_range];exact C
      ·rcases Nat.eq_zero_or_pos len with G|G
       ·subst G;exact Or.inl rfl
       ·have h1:=Classical.choose_spec (c 0 G);obtain⟨_,M,arr,z,_⟩:=h1;refine Or.inr ⟨ad.block,ad.off,arr,?_,z,?_⟩
        ·rw[<-M]
        ·intro i hi;rw[List.length_map,List.length_range]at hi;have h2:=Classical.choose_spec (c i hi);obtain⟨_,_,O,A,s4⟩:=h2;rw[z]at A;cases A;rw[List.getElem_map,List.getElem_range,N i hi];exact s4
      ·intro x j;obtain⟨i,hi,rfl⟩:=List.mem_map.1 j;have hi:=List.mem_range.1 hi;rw[N i hi];exact(Classical.choose_spec (c i hi)).1
    ·cases h
   ·cases h
  ·rename_i i I hi o;split at h
   ·rename_i a B;split at h
    ·rename_i hs;cases h;obtain⟨xs,n,rfl,_,hl,hxl,j⟩:=DataW.trod_struct o j;have r:P.cellsOf t=ty.size:=by simp only[Program.cellsOf,hi,Option.map_some,Option.getD_some,hs]
     have:=Ef (K:=W9 w) (cs:=cs) (n:=n) (enc:=enc) (P:=P) (w:=w) (base:=base) (spare:=spare) (held:=held) (f:=X3 P d) (fun t ty h=>by
      obtain⟨_,_,p,q,_,_⟩:=bQ d t ty h;simp only[Program.cellsOf,p,Option.map_some,Option.getD_some,q]) (fun t ty h cs x j=>L t ty h n cs x j) I.toList 0 ty B (by omega) (fun f hf=>by
      obtain⟨i,hi,rfl⟩:=List.getElem_of_mem hf;have J:i<I.size:=by simpa using hi
      have:=j i I[i] (by simp[J])
      rw[List.getElem?_eq_getElem (by omega)]at this
      exact⟨_,by simpa using this⟩)
     simpa using this
    ·cases h
   ·cases h
  ·cases h
def zS(P:Program)(t:TypeId):Bool:=match P.underlying t with
 |some (.struct _)=>true
 |_=>false
def Eg(P:Program)(t:TypeId):Bool:=match P.underlying t with
 |some (.slice _)=>true
 |_=>false
theorem Eh{t:TypeId}(h:zS P t=true):∃a,P.underlying t=some (.struct a):=by
 unfold zS at h;split at h
 ·exact⟨_,‹_›⟩
 ·cases h
theorem Gc{t:TypeId}(h:Eg P t=true):∃e,P.underlying t=some (.slice e):=by
 unfold Eg at h;split at h
 ·exact⟨_,‹_›⟩
 ·cases h
theorem OH{r:Reach}{b d:Nat}{t:TypeId}(ty:Ty){v:Value}{c:DataW H}{ps:List MemPlace}(e:zS P t=true)(f:X3 P d t=some ty)
  (g:Value.okWide P w r b t v)(h:DataW.Trod enc P w base spare held t v c ps)(i:Nat->Option Hd):∃y:ty.den,c8 (W9 w) i (.agg (ty.cells y)) v/\ty.wf y:=by
 obtain⟨n,j⟩:=Eh e;obtain⟨cs,rfl,_⟩:=okWide_struct j g;obtain⟨a,k⟩:=h;obtain⟨y,l,m⟩:=Ba d t ty f a _ _ k;refine⟨y,?_,m⟩;simp only[c8];exact⟨cs,rfl,R4 ty y _ l⟩
theorem GV{r:Reach}{c d:Nat}{t:TypeId}(ty:Ty){v:Value}{f:DataW H}{ps:List MemPlace}(g:Eg P t=true)(i:X3 P d t=some (.slice ty))
  (j:Value.okWide P w r c t v)(h:DataW.Trod enc P w base spare held t v f ps)(k:Nat->Option Hd):∃l:List ty.den,c8 (W9 w) k (.P5 ty l false) v/\∀x∈l,ty.wf x:=by
 obtain⟨e,m⟩:=Gc g;obtain⟨a,len,cap,rfl⟩:=okWide_slice m j;obtain⟨b,n⟩:=h;obtain⟨y,o,p⟩:=Ba d t (.slice ty) i b _ _ n;refine⟨(show List ty.den from y),?_,p⟩;obtain⟨q,s,u,z,A⟩:=o;simp only[c8];refine⟨q,s,?_,z,⟨fun h=>absurd h (by simp),A⟩⟩
 simpa [Value.cells]using u
theorem Za{r:Reach}{a:Nat}{t:TypeId}(k:IntKind){v:Value}{b:DataW H}{ps:List MemPlace}(c:P.underlying t=some (.int k))
  (d:Value.okWide P w r a t v)(h:DataW.Trod enc P w base spare held t v b ps)(e:Nat->Option Hd):∃n,c8 (W9 w) e (.int k n) v/\(Lit.int k n).wf=true:=by
 obtain⟨n,rfl,_,_,f⟩:=open_int c d h;exact⟨n,by simp[c8],f⟩
theorem So{P:Program}{f:FuncId}{g:List a7}{W:World}{vs:List Value}(h:gU P f g [] (fun v _=>v=.bool true))(d:c9 (W9 W) (fun _=>none) g vs):
  Calls P f vs.toArray W fun e w'=>e=.returned (.bool true)/\Below W.heap.size W w':=by
 refine(h (fun b=>b<W.heap.size) (W9 W) (fun _=>none) W vs (YZ W) d ⟨fun r c f hd h=>(by cases h),fun r c hd b h=>(by cases h),fun r c hd b h=>(by cases h),fun r k c c' hd i b h=>(by cases h)⟩ (fun _ _=>rfl) (fun r d=>absurd d (Nat.not_lt_zero _))).mono ?_
 rintro e w' ⟨v,r,l,K',H',rfl,rfl,_,a,_,_,_,j,_⟩;simp only[c8]at a;subst a;exact⟨rfl,Gb j⟩
theorem QI{n:Int}(h:(Lit.int .u8 n).wf=true):0<=n/\n<=255:=by
 unfold Lit.wf at h;rw[Bool.and_eq_true,decide_eq_true_eq,decide_eq_true_eq]at h;have a:IntKind.min .u8=0:=by decide
 have b:IntKind.max .u8=255:=by decide
 omega
theorem QJ{n:Int}(h:(Lit.int .u16 n).wf=true):0<=n/\n<=65535:=by
 unfold Lit.wf at h;rw[Bool.and_eq_true,decide_eq_true_eq,decide_eq_true_eq]at h;have a:IntKind.min .u16=0:=by decide
 have b:IntKind.max .u16=65535:=by decide
 omega
end Go.Abs
end
section
namespace Go.Abs
structure l5(P:Program)(f:FuncId)(vs:List Var):Prop where
 code:∃fn c,P.funcs[f]? =some fn/\fn.body=some c/\(fn.name== "runtime.NumGoroutine")=false
 kept:∀v∈vs,v.Kept P f
theorem l5.add{P:Program}{f:FuncId}{vs:List Var}{l:List (FuncId×V6)}(h:l5 P f vs)(a:Good P (m4 l)):Good P (m4 ((f,N9 vs)::l)):=by
 obtain⟨g,c,b,d,e⟩:=h.code;exact zM a b d e (GH vs h.kept)
structure n8(P:Program)(f:FuncId):Prop where
 code:∃fn c,P.funcs[f]? =some fn/\fn.body=some c/\(fn.name== "runtime.NumGoroutine")=false
theorem o9{P:Program}{f:FuncId}{a:Func}(b:P.funcs[f]? =some a)(d:a.body.isSome=true)(e:(a.name== "runtime.NumGoroutine")=false):n8 P f:=by
 obtain⟨c,g⟩:=Option.isSome_iff_exists.1 d;exact⟨a,c,b,g,e⟩
theorem u4{P:Program}{f:FuncId}{v:Var}(h:n8 P f)(b:v.Kept P f):l5 P f [v]:=⟨h.code,fun v' a=>by simp at a;subst a;exact b⟩
theorem l5.one{P:Program}{f:FuncId}{v:Var}(h:l5 P f [v]):v.Kept P f:=h.kept v (by simp)
theorem OI{P:Program}{f:FuncId}{a:List a7}{cs:List c7}{k k':a7->List c7->Prop}(h:gU P f a cs k)(b:∀v c,k v c->k' v c):gU P f a cs k':=by
 intro F K H w vs d g i j l;refine(h F K H w vs d g i j l).mono ?_;rintro e w' ⟨v,r,m,K',H',n,g2,o⟩;exact⟨v,r,m,K',H',n,b _ _ g2,o⟩
end Go.Abs
end
section
open Go.Proofs
set_option maxRecDepth 100000
set_option linter.unusedVariables false
namespace Go.Abs.T1
open Go.Shelf
theorem VP{F:Nat->Prop}{K:j0}{H:Nat->Option Hd}{w:World}:j8 F K H w (E8 (fun _=>none) 0 []):=
 ⟨fun r c f hd h=>(by cases h),fun r c hd b h=>(by cases h),fun r c hd b h=>(by cases h),fun r d c c' hd a b h=>(by cases h)⟩
theorem Sp{n:Int}(Y:0<=n)(Z:n<=100000){k:a7->List c7->Prop}(z:k (.B6 0 false) [.sl tS []]):gU Tryz.prog 147 [.R9 tS,.int .i64 n] [] k:=by
 intro F K H w vs f g C l D;obtain⟨v0,E,rfl,m,d⟩:=g.inv;obtain⟨v1,o,rfl,p,c⟩:=d.inv;obtain rfl:o=[]:=c9.H8.1 c;clear g d c;simp only[c8]at m p;subst p;subst m;have A:n=((n.toNat:Nat):Int):=by omega
 rcases Nat.eq_zero_or_pos n.toNat with I|B
 ·have:=Any8.slices_Grow_room Tryz.QH none 0 0 0 w (Nat.le_refl _) (by omega) (by omega) (by omega)
  rw[A,I];refine Calls.mono this ?_;rintro e w' ⟨rfl,rfl⟩;obtain⟨H',q1,J,q3,q4⟩:=Du (M:=[]) (n:=0) (ty:=tS) C (fun r _=>l r (Nat.zero_le _))
  have q5:j8 F K H' w' (E8 (fun _=>none) 0 [c7.sl tS []]):=by
   have e:E8 (fun _=>none) 0 [c7.sl tS []]=n9 [(0,c7.sl tS [],p8.own)]:=by
    funext r;show S0 (fun _=>none) 0 _ r=_
    unfold S0 n9;split<;>split<;>first|rfl|omega
   rw[e];exact J
  exact⟨_,.B6 0 false,[.sl tS []],K,H',rfl,z,.refl K,q4,q5,fun r h=>q3 r h,f,.refl _ _,.refl _ _,Nat.zero_le _,fun r h=>absurd h (Nat.not_lt_zero _)⟩
 obtain⟨L,s,u,N,x,O⟩:∃i,Tryz.prog.info? (Tryz.bT.t 25)=some i/\i.zero=some (.agg #[.int .i64 0,.int .i64 0,.int .i64 0])/\i.size=3/\i.bytes=24/\True:=⟨Tryz.t48,by kernel_rfl,by kernel_rfl,by kernel_rfl,by kernel_rfl,trivial⟩
 have:=Any8.slices_Grow_grow Tryz.QH L _ s u (by omega) none 0 0 n.toNat [] w (Nat.le_refl _) (by omega) (by rw[x];omega) (by omega) (by simp) (fun _=>rfl) (fun a _ j v P=>by simp at P)
 rw[<-A]at this;refine Calls.mono this ?_;rintro e w' ⟨rfl,rfl⟩;have R:=grownCap_ge w (0+n.toNat) 0 (Tryz.bT.t 25);have hM:=grownCap_le_maxLen w (0+n.toNat) 0 (Tryz.bT.t 25) (by unfold maxLen;omega)
 unfold maxLen at hM;generalize grownCap w (0+n.toNat) 0 (Tryz.bT.t 25)=G at R hM ⊢;have q:J0 F K w.drew:=⟨f.y6,f.lt,f.inv,f.apart⟩;have y:j8 F K H w.drew (fun _=>none):=VP
 have S:=Q6 q y (nx:=0) (l 0 (Nat.le_refl _)) (([]:List Value).toArray++Builtin.zeroCells (Value.agg #[.int .i64 0,.int .i64 0,.int .i64 0]).cells (0+n.toNat- 0)++Builtin.zeroCells (Value.agg #[.int .i64 0,.int .i64 0,.int .i64 0]).cells (G- (0+n.toNat))) (Tryz.bT.t 25)
  (.sl tS []) ⟨some w.heap.size,3,0,G⟩ rfl (by
   refine⟨rfl,rfl,⟨Nat.zero_le _,by show G<=_;omega⟩,.inr ⟨w.heap.size,_,_,(0,0),rfl,L7 w.drew _,?_,fun i hi=>by simp at hi⟩⟩
   show G*3<=_;simp only[Array.size_append,size_zeroCells,Value.cells]
   simp;omega)
  (.B6 0 false) (.slice (some ⟨w.heap.size,0,none⟩) 0 G) (by simp only[c8];exact⟨_,j6 _ _ _,rfl,by simp⟩) []
 obtain⟨a1,a2,a3,T,U,V,X,a8⟩:=S;refine⟨_,.B6 0 false,[.sl tS []],K,_,rfl,z,.refl K,T,U,fun r h=>?_,V,?_,.refl _ _,Nat.zero_le _,fun r h=>absurd h (Nat.not_lt_zero _)⟩
 ·have h:1<=r:=h;rw[n6 _ _ _ _ (by omega)]
  exact l r (Nat.zero_le _)
 ·exact Kept.trans (b:=w.drew) ⟨rfl,rfl,rfl,Nat.le_refl _,fun _ _=>rfl,Nat.le_succ _⟩ X
theorem Sq:∀b cs k,(HV tS).run b cs k->gU Tryz.prog 147 b cs k:=by
 rintro b cs k ⟨a,c⟩;have a:Uv tS b cs:=a;unfold Uv at a;split at a
 ·split at a
  ·rename_i e;subst e;exact Sp a.1 a.2 c
  ·exact a.elim
 ·exact a.elim
theorem b0g{l:List (FuncId×V6)}(a:Good Tryz.prog (m4 l)):Good Tryz.prog (m4 ((147,HV tS)::l)):=by
 obtain⟨c,b⟩:=Option.isSome_iff_exists.1 (show Tryz.f147.body.isSome=true by kernel_rfl)
 exact zM a Tryz.func147 b (by kernel_rfl) Sq
end Go.Abs.T1
end
