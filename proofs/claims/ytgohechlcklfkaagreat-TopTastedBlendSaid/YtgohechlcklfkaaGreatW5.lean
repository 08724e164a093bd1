/- Part 5 of the road to this seat's statements: lemmas about a small interpreter over the model's code, and about the functions that it is used on. No condition of its own. -/
import Derived.Laws.BitsLemmas
import Derived.Test.YtgohechlcklfkaaGreatW4
set_option linter.all false
section
namespace Go.Abs
noncomputable section
inductive BV where
 |c (n:Nat)
 |a (k n:Nat)
 |t (l:List (Nat×Nat))
 |u
inductive l8 where
 |er (c x:Nat)
 |ok (v:BV) (new:List HO) (set:List (Nat×HO)) (rd:List Nat)
def fN{α:Type}(n:Nat)(k:Nat->α):α:=@Nat.rec (fun _=>α) (k 0) (fun m _=>k (Nat.succ m)) n
def iB{α:Type}(b:Bool)(t f:α):α:=@Bool.rec (fun _=>α) f t b
def nB(b:Bool)(c:Nat)(k:l8):l8:=@Bool.rec (fun _=>l8) (.er c 0) k b
def G8(b:Bool):Nat:=@Bool.rec (fun _=>Nat) 9 17 b
def iZ(n:Nat):Nat:=Nat.add (Nat.mul 128 n) 1180591620717411303456
def zT(c:Nat):Nat:=Nat.mod c 8
def hZ(n i k:Nat):Nat:=Nat.mod (Nat.div n (Nat.pow cB i)) (Nat.pow cB k)
def uT(n i k x:Nat):Nat:=Nat.add (Nat.sub n (Nat.mul (hZ n i k) (Nat.pow cB i))) (Nat.mul x (Nat.pow cB i))
def BE(n i k:Nat):Nat:=hZ n (Nat.succ i) k
def VQ(o n m:Nat):Nat:=Nat.add (Nat.sub o (Nat.mod n cB)) (Nat.mod (Nat.add (Nat.mod n cB) m) 4294967291)
def U9(n i k x:Nat):Nat:=VQ (uT n (Nat.succ i) k x) n (Nat.mul x (Nat.succ (Nat.mul 2 i)))
def qC(n:Nat):Nat:=Nat.add (Nat.mul n cB) (Nat.mod n 4294967291)
def LF(z s:Nat):Nat->Nat:=@Nat.rec (fun _=>Nat) 0 (fun _ a=>Nat.add z (Nat.mul (Nat.pow cB s) a))
def qD:Value->Nat
 |.int k (.ofNat m)=>P8 (F6 k) (Nat.add cZ m)
 |.int k (.negSucc m)=>P8 (F6 k) (Nat.sub cZ (Nat.succ m))
 |.bool b=>G8 b
 |.slice none 0 0=>25
 |.pointer none=>33
 |.map none=>41
 |.nilFunc=>49
 |_=>0
def nH:Value->Bool
 |.int _ (.ofNat m)=>Nat.ble m 18446744073709551616
 |.int _ (.negSucc m)=>Nat.ble (Nat.succ m) cZ
 |.bool _=>true
 |.slice none 0 0=>true
 |.pointer none=>true
 |.map none=>true
 |.nilFunc=>true
 |_=>false
def Gd:List Value->Nat
 |[]=>0
 |v::vs=>Nat.add (qD v) (Nat.mul cB (Gd vs))
def OJ:Value->BV
 |.agg cs=>iB (cs.toList.all nH) (.a cs.toList.length (Gd cs.toList)) .u
 |v=>iB (nH v) (.c (qD v)) .u
def uU(P:Program)(t:TypeId):Nat:=match P.underlying t,P.info? t with
 |some (.struct _),some i=>i.size+2
 |some (.array _ _),some i=>i.size+2
 |some _,some i=>iB (Nat.beq i.size 1) 1 0
 |_,_=>0
def aD(a:Nat):Nat:=@Nat.rec (fun _=>Nat) 0 (fun m _=>@Nat.rec (fun _=>Nat) 1 (fun k _=>k) m) a
def Ge(P:Program)(t:TypeId):Option TypeId:=match P.underlying t with
 |some (.slice e)=>some e
 |_=>none
def arT(P:Program)(t:TypeId):Option (Nat×TypeId):=match P.underlying t with
 |some (.array n e)=>some (n,e)
 |_=>none
def I5(P:Program)(t:TypeId):Nat:=match Ge P t with
 |some e=>aD (uU P e)
 |none=>0
def FE(P:Program)(t:TypeId):Nat:=match arT P t with
 |some x=>x.1
 |none=>0
def Bb(P:Program)(t:TypeId):Nat:=match arT P t with
 |some x=>aD (uU P x.2)
 |none=>0
def Zb(P:Program)(t:TypeId):Nat:=match arT P t with
 |some x=>uU P x.2
 |none=>0
def lO(P:Program)(t:TypeId):Nat:=match P.info? t with
 |some i=>(match i.zero with
  |some v=>Gd v.cells.toList
  |none=>0)
 |none=>0
def cX(P:Program)(t:TypeId):Bool:=match P.info? t with
 |some i=>(match i.zero with
  |some v=>v.cells.toList.all nH && Nat.beq v.cells.toList.length i.size && !Nat.beq i.size 0 && Nat.ble i.size 16777216 && Nat.ble i.bytes 65536
  |none=>false)
 |none=>false
def GW(P:Program)(t:TypeId)(i:Nat):Nat:=match P.underlying t with
 |some (.struct a)=>(match a[i]? with
  |some f=>iB (Nat.beq (aD (uU P f.type)) 0) 0 (f.offset+1)
  |none=>0)
 |_=>0
def OK(P:Program)(t:TypeId)(i:Nat):Nat:=match P.underlying t with
 |some (.struct a)=>(match a[i]? with
  |some f=>uU P f.type
  |none=>0)
 |_=>0
def mpK(P:Program)(t:TypeId):Option (TypeId×TypeId):=match P.underlying t with
 |some (.map k v)=>some (k,v)
 |_=>none
def a2g(P:Program)(k:TypeId):Bool:=match P.underlying k with
 |some (.struct _)=>aR P k (j7 P k)
 |some (.int _)=>true
 |_=>false
def a03(P:Program)(t:TypeId):Bool:=match P.info? t with
 |some i=>(match i.zero with
  |some (.agg _)=>Nat.ble 2 (uU P t)
  |some (.tuple _)=>false
  |some _=>Nat.beq (uU P t) 1
  |none=>false)
 |none=>false
def IK(P:Program)(t:TypeId):Nat:=match mpK P t with
 |some x=>iB (a2g P x.1 && cX P x.2 && a03 P x.2) (uU P x.1) 0
 |none=>0
def OL(P:Program)(t:TypeId):Nat:=match mpK P t with
 |some x=>uU P x.2
 |none=>0
def VR(P:Program)(t:TypeId):Nat:=match mpK P t with
 |some x=>lO P x.2
 |none=>0
def kdT(P:Program)(t:TypeId):Nat:=match P.underlying t with
 |some (.int k)=>F6 k
 |_=>0
def vC(v:BV)(k:Nat->l8):l8:=@BV.rec (fun _=>l8) k (fun _ _=>.er 2 0) (fun _=>.er 3 0) (.er 4 0) v
def vR(v:BV)(k:Nat->Nat->l8):l8:=@BV.rec (fun _=>l8) (fun n=>nB (Nat.ble 3 n) 5 (k 1 n)) (fun s n=>k s n) (fun _=>.er 6 0) (.er 7 0) v
def BF(b n:Nat):BV:=@Nat.rec (fun _=>BV) (.c n) (fun k _=>.a k n) b
def tcB(v:BV):Nat:=@BV.rec (fun _=>Nat) (fun _=>1) (fun k _=>Nat.succ (Nat.succ k)) (fun _=>0) 0 v
def vN(v:BV):l8:=.ok v [] [] []
def kM(c:Nat):l8:=.ok (.c c) [] [] []
def kLo(k:Nat):Nat:=match k with|1=>cZ- 128|2=>cZ- 32768|3=>cZ- 2147483648|4=>0|_=>cZ
def kHi(k:Nat):Nat:=match k with|1=>cZ+127|2=>cZ+32767|3=>cZ+2147483647|4=>cZ+cZ- 1|5=>cZ+255|6=>cZ+65535|7=>cZ+4294967295|8=>cZ+cZ+cZ- 1|_=>0
def dY(a v:Nat):l8:=nB (Nat.ble (kLo a) v) 10 (nB (Nat.ble v (kHi a)) 11 (kM (P8 a v)))
def BZ(a:Nat):Nat:=Nat.div (Nat.mod a 128) 8
def s8(a:Nat):Nat:=Nat.div a 128
def VT(a:Nat):Nat:=Nat.mod (Nat.add (s8 a) cZ) 18446744073709551616
def mulC(x y:Nat):Nat:=iB (Nat.ble cZ x) (iB (Nat.ble cZ y) (Nat.add cZ (Nat.mul (Nat.sub x cZ) (Nat.sub y cZ))) (Nat.sub cZ (Nat.mul (Nat.sub x cZ) (Nat.sub cZ y))))
 (iB (Nat.ble cZ y) (Nat.sub cZ (Nat.mul (Nat.sub cZ x) (Nat.sub y cZ))) (Nat.add cZ (Nat.mul (Nat.sub cZ x) (Nat.sub cZ y))))
def QK(x y:Nat):Bool:=iB (Nat.ble cZ x) (iB (Nat.ble cZ y) true (Nat.ble (Nat.mul (Nat.sub x cZ) (Nat.sub cZ y)) cZ)) (iB (Nat.ble cZ y) (Nat.ble (Nat.mul (Nat.sub cZ x) (Nat.sub y cZ)) cZ) true)
def VU(f:Nat->Nat->Nat)(a b:Nat):l8:=nB (Nat.beq (BZ a) 4) 12 (dY 4 (Nat.mod (Nat.add (f (VT a) (VT b)) cZ) 18446744073709551616))
def Sr(b:Bool):l8:=kM (G8 b)
abbrev IOp:=Nat->Nat->l8
def Ss:BinOp->IOp:=@BinOp.rec (fun _=>IOp)
 (fun a b=>nB (Nat.ble cZ (Nat.add (s8 a) (s8 b))) 13 (dY (BZ a) (Nat.sub (Nat.add (s8 a) (s8 b)) cZ)))
 (fun a b=>nB (Nat.ble (s8 b) (Nat.add (s8 a) cZ)) 14 (dY (BZ a) (Nat.sub (Nat.add (s8 a) cZ) (s8 b))))
 (fun a b=>nB (QK (s8 a) (s8 b)) 15 (dY (BZ a) (mulC (s8 a) (s8 b))))
 (fun a b=>nB (Nat.ble cZ (s8 a)) 16 (nB (Nat.ble (Nat.succ cZ) (s8 b)) 17 (dY (BZ a) (Nat.add cZ (Nat.div (Nat.sub (s8 a) cZ) (Nat.sub (s8 b) cZ))))))
 (fun a b=>nB (Nat.ble cZ (s8 a)) 18 (nB (Nat.ble (Nat.succ cZ) (s8 b)) 19 (dY (BZ a) (Nat.add cZ (Nat.mod (Nat.sub (s8 a) cZ) (Nat.sub (s8 b) cZ))))))
 (VU Nat.land) (VU Nat.lor) (VU Nat.xor) (fun _ _=>.er 20 0) (fun _ _=>.er 21 0) (fun _ _=>.er 22 0)
 (fun _ _=>.er 23 0) (fun _ _=>.er 24 0)
 (fun a b=>Sr (Nat.ble (Nat.succ a) b)) (fun a b=>Sr (Nat.ble a b)) (fun a b=>Sr (Nat.ble (Nat.succ b) a)) (fun a b=>Sr (Nat.ble b a))
def jO(l:Bool)(a b:Nat):l8:=nB (Nat.beq (BZ a) 4) 46 (nB (Nat.ble cZ (s8 a)) 25 (nB (Nat.ble cZ (s8 b)) 26 (nB (Nat.ble (s8 b) (Nat.add cZ 63)) 27
 (dY 4 (Nat.add cZ (iB l (Nat.mul (Nat.sub (s8 a) cZ) (Nat.pow 2 (Nat.sub (s8 b) cZ))) (Nat.div (Nat.sub (s8 a) cZ) (Nat.pow 2 (Nat.sub (s8 b) cZ)))))))))
def O9:BinOp->Nat:=@BinOp.rec (fun _=>Nat) 0 0 0 0 0 0 0 0 1 2 0 3 4 0 0 0 0
def rM(c:Nat):Bool:=Nat.beq (zT c) 0
def eqK(P:Program)(t:TypeId):Nat:=match P.underlying t with
 |some .bool=>1
 |some (.slice _)=>2
 |some (.map _ _)=>3
 |some (.pointer _)=>4
 |_=>0
def isB(c:Nat):Bool:=iB (Nat.beq c 9) true (Nat.beq c 17)
def LG(d c a b:Nat)(k:Bool->l8):l8:=nB (Nat.beq b c) 28 (nB (iB (Nat.beq (zT a) d) true (Nat.beq a c)) 29 (k (Nat.beq a b)))
def eqC(P:Program)(t:TypeId)(a b:Nat)(k:Bool->l8):l8:=iB (rM a) (nB (Nat.beq (Nat.mod a 128) (Nat.mod b 128)) 30 (k (Nat.beq a b)))
 ((fun q=>iB (Nat.beq q 1) (nB (isB a) 31 (nB (isB b) 48 (k (Nat.beq a b)))) (iB (Nat.beq q 2) (LG 5 25 a b k) (iB (Nat.beq q 3) (LG 6 41 a b k) (iB (Nat.beq q 4) (LG 4 33 a b k) (.er 49 0))))) (eqK P t))
def a05(k:Nat):Nat:=Nat.div (Nat.sub (Nat.pow cB k) 1) (Nat.sub cB 1)
def Ei(k n:Nat):Bool:=Nat.beq (Nat.land n (Nat.mul 127 (a05 k))) (Nat.mul 32 (a05 k))
def IL(P:Program)(t:TypeId)(k:Nat):Bool:=iB (aR P t k) true (iB (HI P t k) (Nat.beq (bZ P t) k) false)
def VV(P:Program)(op:BinOp)(t:TypeId)(x y:BV):l8:=@BV.rec (fun _=>l8)
 (fun a=>vC y fun b=>(fun m=>iB (Nat.beq m 0) (nB (rM a) 32 (nB (Nat.beq (Nat.mod a 128) (Nat.mod b 128)) 33 (Ss op a b)))
  (iB (Nat.beq m 1) (nB (rM a) 34 (nB (rM b) 35 (jO true a b))) (iB (Nat.beq m 2) (nB (rM a) 36 (nB (rM b) 37 (jO false a b)))
   (eqC P t a b fun e=>kM (G8 (iB (Nat.beq m 3) e (Bool.not e))))))) (O9 op))
 (fun s a=>@BV.rec (fun _=>l8) (fun _=>.er 38 0) (fun c b=>nB (Nat.beq s c) 39 (nB (IL P t s) 40 (nB (Ei s a) 58 (nB (Ei s b) 59 ((fun m=>iB (Nat.beq m 3) (kM (G8 (Nat.beq a b))) (iB (Nat.beq m 4) (kM (G8 (Bool.not (Nat.beq a b)))) (.er 41 0))) (O9 op)))))) (fun _=>.er 42 0) (.er 43 0) y)
 (fun _=>.er 44 0) (.er 45 0) x
def pR(c:Nat):Nat:=Nat.div c 8388608
def pO(c:Nat):Nat:=Nat.mod (Nat.div c 8) 1048576
def zU(c:Nat):Bool:=Nat.beq (zT c) 4
def JI(c:Nat):Bool:=Nat.beq (zT c) 5
def XS(c:Nat):Bool:=Nat.beq (zT c) 6
def sR(c:Nat):Nat:=Nat.div c 4503599627370496
def sO(c:Nat):Nat:=Nat.mod (Nat.div c 4294967296) 1048576
def sL(c:Nat):Nat:=Nat.mod (Nat.div c 4096) 1048576
def sE(c:Nat):Nat:=Nat.mod (Nat.div c 16) 256
def sF(c:Nat):Nat:=Nat.mod (Nat.div c 8) 2
def mR(c:Nat):Nat:=Nat.div c 8
def fF(c:Nat):Nat:=Nat.mod (Nat.div c 8) 65536
def fR(c:Nat):Nat:=Nat.div c 524288
abbrev Hp:=Nat->HO
def hC(o:HO)(k:Nat->Nat->l8):l8:=@HO.rec (fun _=>l8) k (fun _ _ _ _=>.er 50 0) (fun _ _ _ _=>.er 51 0) (fun _ _ _ _=>.er 52 0) (.er 53 0) o
abbrev ME:=List (Nat×Nat×Nat)
def hM(o:HO)(k:Nat->Nat->ME->Nat->l8):l8:=@HO.rec (fun _=>l8) (fun _ _=>.er 54 0) k (fun _ _ _ _=>.er 55 0) (fun _ _ _ _=>.er 56 0) (.er 57 0) o
def Su(o:HO)(c:Nat):l8:=.ok (.c c) [o] [] []
def QL(c a b:BV):l8:=vC c fun n=>iB (Nat.beq n 17) (vN a) (nB (Nat.beq n 9) 60 (vN b))
def VW(P:Program)(e:TypeId)(nx:Nat):l8:=nB (cX P e) 61 (Su (.c (j7 P e) (qC (lO P e))) (kN nx 0))
def Zc(x:BV)(nx:Nat):l8:=vR x fun s n=>Su (.c s (qC n)) (kN nx 0)
def cQ(P:Program)(t:TypeId)(ev:Operand->BV):List (Nat×Operand)->Nat->(Nat->l8)->l8:=@List.rec (Nat×Operand) (fun _=>Nat->(Nat->l8)->l8) (fun n k=>k n)
 (fun p _ a n k=>@Nat.rec (fun _=>l8) (.er 62 0) (fun o _=>vR (ev p.2) fun s x=>nB (Nat.beq s (aD (OK P t p.1))) 63 (nB (Nat.ble (Nat.add o s) (j7 P t)) 157 (fN (uT n o s x) fun b=>a b k))) (GW P t p.1))
def IM(P:Program)(t:TypeId):Bool:=match P.underlying t with
 |some (.struct a)=>a.toList.all fun f=>(P.info? f.type).isSome
 |some (.array _ e)=>(P.info? e).isSome
 |_=>false
def Ej(P:Program)(t:TypeId)(ps:List (Nat×Operand))(ev:Operand->BV):l8:=nB (cX P t) 64 (nB (IM P t) 65 (cQ P t ev ps (lO P t) fun n=>vN (.a (j7 P t) n)))
def nI(ev:Operand->BV)(a:Nat):List (Nat×Operand)->Nat->(Nat->l8)->l8:=@List.rec (Nat×Operand) (fun _=>Nat->(Nat->l8)->l8) (fun _ k=>k 0)
 (fun p _ b i k=>nB (Nat.beq p.1 i) 66 (vR (ev p.2) fun s x=>nB (Nat.beq s a) 67 (b (Nat.succ i) fun n=>k (Nat.add x (Nat.mul (Nat.pow cB a) n)))))
def OM(nx len a n b:Nat):l8:=nB (Nat.ble len 1048575) 68 (nB (Nat.ble a 255) 69 (nB (Nat.ble 1 a) 70 (nB (Nat.ble (Nat.mul len a) 16777216) 158 (Su (.c (Nat.mul len a) (qC n)) (Ar nx 0 len a b)))))
def qE(P:Program)(t:TypeId)(len:Nat)(ps:List (Nat×Operand))(ev:Operand->BV)(nx:Nat):l8:=
 nB (Nat.beq ps.length len) 71 (nB (@Option.rec TypeId (fun _=>Bool) false (fun e=>cX P e) (Ge P t)) 72 (nI ev (I5 P t) ps 0 fun n=>OM nx len (I5 P t) n 1))
def tQ(P:Program)(t:TypeId)(x:BV)(D:Hp):l8:=vC x fun c=>nB (zU c) 73 (@Nat.rec (fun _=>l8) (.er 74 0) (fun a _=>hC (D (pR c)) fun s n=>
 nB (Nat.ble (Nat.add (pO c) (aD (Nat.succ a))) s) 75 (.ok (BF a (BE n (pO c) (aD (Nat.succ a)))) [] [] [pR c])) (uU P t))
def iA(P:Program)(t:TypeId)(a x:BV)(D:Hp):l8:=vC a fun c=>nB (zU c) 76 (hC (D (pR c)) fun s n=>vR x fun b y=>
 nB (Nat.beq b (j7 P t)) 77 (nB (Nat.ble 1 b) 78 (nB (Nat.ble (Nat.add (pO c) b) s) 79 (.ok (.c 1) [] [(pR c,.c s (U9 n (pO c) b y))] [pR c]))))
def rN(x:BV):l8:=vC x fun c=>nB (iB (zU c) true (Nat.beq (zT c) 7)) 80 (kM c)
def Zd(x:BV):l8:=vC x fun c=>iB (Nat.beq c 17) (kM 9) (nB (Nat.beq c 9) 81 (kM 17))
def Ze(x:BV):l8:=vC x fun c=>nB (rM c) 82 (nB (Nat.ble (s8 c) (Nat.add cZ cZ)) 83 (dY (BZ c) (Nat.sub (Nat.add cZ cZ) (s8 c))))
def xUn(op:UnOp)(x:BV):l8:=@UnOp.rec (fun _=>l8) (Ze x) (.er 84 0) (Zd x) (.er 85 0) op
def QM(P:Program)(s a:TypeId)(x:BV):l8:=vC x fun c=>nB (rM c) 86 (nB (Option.isSome (P.underlying s)) 87 (dY (kdT P a) (s8 c)))
def nJ(P:Program)(t:TypeId)(x:BV)(f:Nat):l8:=vC x fun c=>nB (zU c) 88 (@Nat.rec (fun _=>l8) (.er 89 0) (fun o _=>nB (Nat.ble (Nat.add (pO c) o) 1048575) 90 (kM (Nat.add c (Nat.mul 8 o)))) (GW P t f))
def iC(P:Program)(t:TypeId)(x:BV)(f:Nat):l8:=@BV.rec (fun _=>l8) (fun _=>.er 91 0) (fun k n=>@Nat.rec (fun _=>l8) (.er 92 0) (fun o _=>@Nat.rec (fun _=>l8) (.er 93 0) (fun a _=>
 nB (Nat.ble (Nat.add o (aD (Nat.succ a))) k) 94 (vN (BF a (hZ n o (aD (Nat.succ a)))))) (OK P t f)) (GW P t f)) (fun _=>.er 95 0) (.er 96 0) x
def vI(v:BV)(k:Nat->l8):l8:=vC v fun c=>nB (rM c) 97 (nB (Nat.ble cZ (s8 c)) 98 (k (Nat.sub (s8 c) cZ)))
def nK(P:Program)(t:TypeId)(x i:BV):l8:=vC x fun c=>vI i fun j=>
 iB (JI c) (nB (Nat.ble 1 (I5 P t)) 99 (nB (Nat.ble (Nat.succ j) (sL c)) 100 (nB (Nat.ble (Nat.add (sO c) (Nat.mul j (I5 P t))) 1048575) 101 (kM (kN (sR c) (Nat.add (sO c) (Nat.mul j (I5 P t))))))))
  (nB (zU c) 102 (nB (Nat.ble (Nat.succ j) (FE P t)) 103 (nB (Nat.ble 1 (Bb P t)) 104 (nB (Nat.ble (Nat.add (pO c) (Nat.mul j (Bb P t))) 1048575) 105 (kM (Nat.add c (Nat.mul 8 (Nat.mul j (Bb P t)))))))))
def qF(P:Program)(t:TypeId)(x i:BV):l8:=@BV.rec (fun _=>l8) (fun _=>.er 106 0) (fun k n=>vI i fun j=>@Nat.rec (fun _=>l8) (.er 107 0) (fun a _=>
 nB (Nat.ble (Nat.succ j) (FE P t)) 108 (nB (Nat.ble (Nat.mul (Nat.succ j) (aD (Nat.succ a))) k) 109 (nB (Nat.ble 1 (aD (Nat.succ a))) 110 (vN (BF a (hZ n (Nat.mul j (aD (Nat.succ a))) (aD (Nat.succ a)))))))) (Zb P t)) (fun _=>.er 111 0) (.er 112 0) x
def a2i:List (Nat×Nat)->Nat->(Nat->Nat->l8)->l8:=@List.rec (Nat×Nat) (fun _=>Nat->(Nat->Nat->l8)->l8) (fun i _=>.er 113 i) (fun p _ a i=>@Nat.rec (fun _=>(Nat->Nat->l8)->l8) (fun k=>k p.1 p.2) (fun j _=>a j) i)
def eD(x:BV)(i:Nat):l8:=@BV.rec (fun _=>l8) (fun _=>.er 114 0) (fun _ _=>.er 115 0) (fun l=>a2i l i fun s n=>vN (BF s n)) (.er 116 0) x
def iD(c:Nat)(k:Nat->l8):l8:=iB (Nat.beq c 25) (k 0) (nB (JI c) 117 (k (sL c)))
def oI(ev:Operand->BV)(x:Option Operand)(d:Nat)(k:Nat->l8):l8:=@Option.rec Operand (fun _=>l8) (k d) (fun o=>vI (ev o) k) x
def oN{α:Type}(x:Option Operand)(a b:α):α:=@Option.rec Operand (fun _=>α) a (fun _=>b) x
def iE(P:Program)(t:TypeId)(x:BV)(lo hi mx:Option Operand)(ev:Operand->BV)(D:Hp):l8:=vC x fun c=>
 iB (zU c) (oI ev lo 0 fun a=>oI ev hi (FE P t) fun b=>oN mx (nB (Nat.ble a b) 118 (nB (Nat.ble b (FE P t)) 119 (nB (Nat.ble 1 (Bb P t)) 120 (nB (Nat.ble (Bb P t) 255) 121 (nB (Nat.ble (FE P t) 1048575) 122
     (nB (Nat.ble (Nat.add (pO c) (Nat.mul a (Bb P t))) 1048575) 123 (hC (D (pR c)) fun s _=>nB (Nat.ble (Nat.add (pO c) (Nat.mul (FE P t) (Bb P t))) s) 155 (.ok (.c (Ar (pR c) (Nat.add (pO c) (Nat.mul a (Bb P t))) (Nat.sub b a) (Bb P t) (iB (Nat.beq b (FE P t)) 1 0))) [] [] [pR c]))))))))
     (.er 124 0))
  (nB (Nat.ble 1 (I5 P t)) 125 (iD c fun l=>oI ev lo 0 fun a=>oI ev hi l fun b=>oI ev mx l fun m=>
     nB (oN mx true (oN hi false true)) 156 (nB (Nat.ble a b) 126 (nB (Nat.ble b m) 127 (nB (Nat.ble m l) 128 (iB (Nat.beq c 25) (kM 25)
      (nB (Nat.beq (sE c) (I5 P t)) 129 (nB (Nat.ble (Nat.add (sO c) (Nat.mul a (I5 P t))) 1048575) 130
         (kM (Ar (sR c) (Nat.add (sO c) (Nat.mul a (I5 P t))) (Nat.sub b a) (I5 P t) (iB (Nat.beq b m) (oN mx (sF c) 1) 0)))))))))))
def Zf(D:Hp)(a c:Nat)(k:Nat->Nat->List Nat->l8):l8:=iB (Nat.beq c 25) (k 0 0 []) (nB (JI c) 131 (hC (D (sR c)) fun s n=>nB (Nat.ble (Nat.add (sO c) (Nat.mul (sL c) a)) s) 132 (k (sL c) (BE n (sO c) (Nat.mul (sL c) a)) [sR c])))
def LH(P:Program)(t:TypeId)(c nx:Nat)(D:Hp)(m ys:Nat)(rd:List Nat):l8:=iB (Nat.beq m 0) (nB (iB (Nat.beq c 25) true (JI c)) 159 (.ok (.c c) [] [] rd))
 (Zf D (I5 P t) c fun l xs b=>nB (Nat.ble (Nat.add l m) 1048575) 133 (nB (Nat.ble (I5 P t) 255) 134 (nB (Nat.ble 1 (I5 P t)) 135
  (iB (iB (Nat.beq c 25) true (Nat.beq (sF c) 1))
   (.ok (.c (Ar nx 0 (Nat.add l m) (I5 P t) 0)) [.c (Nat.mul (Nat.add l m) (I5 P t)) (qC (Nat.add xs (Nat.mul ys (Nat.pow cB (Nat.mul l (I5 P t))))))] [] (List.append b rd))
   (nB (Nat.beq (sO c) 0) 136 (nB (Nat.beq (sE c) (I5 P t)) 137 (nB (iB (@List.rec Nat (fun _=>Bool) false (fun a _ _=>Nat.beq a (sR c)) rd) false true) 138
    (.ok (.c (Ar nx 0 (Nat.add l m) (I5 P t) 0)) [.c (Nat.mul (Nat.add l m) (I5 P t)) (qC (Nat.add xs (Nat.mul ys (Nat.pow cB (Nat.mul l (I5 P t))))))] [(sR c,.z)] (List.append b rd)))))))))
def fK(P:Program)(t u:TypeId)(x y:BV)(nx:Nat)(D:Hp):l8:=nB (@Option.rec TypeId (fun _=>Bool) false (fun e=>cX P e) (Ge P t)) 139 (nB (Nat.ble 1 (I5 P t)) 135 (vC x fun c=>
 iB (Nat.beq (kdT P u) 4) (vI y fun n=>nB (Nat.ble n 1048575) 140 (LH P t c nx D n (LF (@Option.rec TypeId (fun _=>Nat) 0 (fun e=>lO P e) (Ge P t)) (I5 P t) n) []))
  (nB (Nat.beq t u) 141 (vC y fun d=>Zf D (I5 P t) d fun m ys rd=>LH P t c nx D m ys rd))))
def xI(P:Program)(t u:TypeId)(x y:BV)(D:Hp):l8:=nB (Option.isSome (Ge P u)) 142 (nB (Nat.ble 1 (I5 P t)) 143 (vC x fun c=>vC y fun d=>Zf D (I5 P t) d fun m ys rd=>iD c fun l=>
 fN (iB (Nat.ble m l) m l) fun q=>iB (Nat.beq q 0) (.ok (.c (iZ 0)) [] [] rd) (hC (D (sR c)) fun s n=>nB (Nat.ble (Nat.add (sO c) (Nat.mul q (I5 P t))) s) 144
  (.ok (.c (iZ q)) [] [(sR c,.c s (U9 n (sO c) (Nat.mul q (I5 P t)) (hZ ys 0 (Nat.mul q (I5 P t)))))] (sR c::rd)))))
def nL(P:Program)(t:TypeId)(x:BV)(D:Hp):l8:=vC x fun c=>@Option.rec TypeId (fun _=>l8) (.er 145 0) (fun e=>nB (cX P e) 146 (nB (Nat.ble 1 (I5 P t)) 135 (iD c fun l=>iB (Nat.beq l 0) (kM 1) (hC (D (sR c)) fun s n=>
 nB (Nat.ble (Nat.add (sO c) (Nat.mul l (I5 P t))) s) 147 (.ok (.c 1) [] [(sR c,.c s (U9 n (sO c) (Nat.mul l (I5 P t)) (LF (lO P e) (I5 P t) l)))] [sR c]))))) (Ge P t)
def Zg(P:Program)(t:TypeId)(x:BV):l8:=nB (Option.isSome (Ge P t)) 148 (vC x fun c=>iD c fun l=>kM (iZ l))
def Zh(P:Program)(t:TypeId)(x:BV):l8:=nB (Option.isSome (Ge P t)) 149 (vC x fun c=>iB (Nat.beq c 25) (kM (iZ 0)) (nB (JI c) 150 (nB (Nat.beq (sF c) 1) 151 (kM (iZ (sL c))))))
def iF(b:Nat->Nat->Bool)(ev:Operand->BV):List Operand->Nat->l8:=@List.rec Operand (fun _=>Nat->l8) (fun a=>kM a) (fun o _ d a=>vC (ev o) fun c=>nB (Nat.beq (Nat.mod a 128) (Nat.mod c 128)) 152 (iB (b c a) (d c) (d a)))
def Bc(a:Nat->Nat->Bool)(ev:Operand->BV)(l:List Operand):l8:=@List.rec Operand (fun _=>l8) (.er 153 0) (fun o r _=>vC (ev o) fun c=>nB (rM c) 154 (iF a ev r c)) l
end
end Go.Abs
end
section
namespace Go.Abs
noncomputable section
def GX(a:Nat):ME->(Nat->Nat->l8)->l8->l8:=@List.rec (Nat×Nat×Nat) (fun _=>(Nat->Nat->l8)->l8->l8) (fun _ e=>e) (fun p _ b k e=>iB (Nat.beq p.2.1 a) (k p.1 p.2.2) (b k e))
def VX(a v:Nat):ME->(ME->l8)->l8:=@List.rec (Nat×Nat×Nat) (fun _=>(ME->l8)->l8) (fun k=>k []) (fun p l b k=>iB (Nat.beq p.2.1 a) (k ((p.1,a,v)::l)) (b fun c=>k (p::c)))
def VY(a:Nat):ME->(ME->l8)->l8:=@List.rec (Nat×Nat×Nat) (fun _=>(ME->l8)->l8) (fun k=>k []) (fun p l b k=>iB (Nat.beq p.2.1 a) (k l) (b fun c=>k (p::c)))
def QN(x:Nat×Nat×Nat):ME->(ME->l8)->l8:=@List.rec (Nat×Nat×Nat) (fun _=>(ME->l8)->l8) (fun k=>k [x]) (fun p _ a k=>a fun b=>k (p::b))
def VZ(s v:Nat):ME->(ME->l8)->l8->l8:=@List.rec (Nat×Nat×Nat) (fun _=>(ME->l8)->l8->l8) (fun _ e=>e) (fun p l a k e=>iB (Nat.beq p.1 s) (k ((p.1,p.2.1,v)::l)) (a (fun b=>k (p::b)) e))
def Ek(P:Program)(t:TypeId)(nx:Nat):l8:=@Nat.rec (fun _=>l8) (.er 160 0) (fun ks _=>@Nat.rec (fun _=>l8) (.er 161 0) (fun vs _=>Su (.m ks vs [] 0) (iQ nx)) (OL P t)) (IK P t)
def tR(P:Program)(t:TypeId)(x i:BV)(D:Hp)(k:Nat->Nat->Nat->Nat->ME->Nat->l8):l8:=vC x fun c=>nB (XS c) 162 (hM (D (mR c)) fun ks vs l clk=>
 nB (Nat.beq (Nat.succ ks) (IK P t)) 163 (nB (Nat.beq (tcB i) (IK P t)) 164 (nB (Nat.beq (Nat.succ vs) (OL P t)) 165 (vR i fun b a=>nB (Ei b a) 188 (k (mR c) a ks vs l clk)))))
def rO(P:Program)(t:TypeId)(x i:BV)(b:Bool)(D:Hp):l8:=tR P t x i D fun r a _ vs l _=>
 GX a l (fun _ v=>iB b (.ok (.t [(vs,v),(0,17)]) [] [] [r]) (.ok (BF vs v) [] [] [r])) (iB b (.ok (.t [(vs,VR P t),(0,9)]) [] [] [r]) (.ok (BF vs (VR P t)) [] [] [r]))
def V1(P:Program)(t:TypeId)(m x v:BV)(D:Hp):l8:=tR P t m x D fun r a ks vs l clk=>nB (Nat.beq (tcB v) (Nat.succ vs)) 166 (vR v fun _ n=>
 GX a l (fun _ _=>VX a n l fun b=>.ok (.c 1) [] [(r,.m ks vs b clk)] [r]) (QN (clk,a,n) l fun b=>.ok (.c 1) [] [(r,.m ks vs b (Nat.succ clk))] [r]))
def fZ(P:Program)(t:TypeId)(m x:BV)(D:Hp):l8:=tR P t m x D fun r a ks vs l clk=>
 nB (Nat.ble clk 1048576) 189 (GX a l (fun s v=>nB (Nat.ble s 1048576) 189 (.ok (.t [(vs,v),(0,iZ s)]) [] [] [r])) (QN (clk,a,VR P t) l fun b=>.ok (.t [(vs,VR P t),(0,iZ clk)]) [] [(r,.m ks vs b (Nat.succ clk))] [r]))
def Y6(m s v:BV)(D:Hp):l8:=vC m fun c=>nB (XS c) 167 (vI s fun s=>hM (D (mR c)) fun ks vs l clk=>nB (Nat.beq (tcB v) (Nat.succ vs)) 168 (vR v fun _ n=>
 VZ s n l (fun a=>.ok (.c 1) [] [(mR c,.m ks vs a clk)] [mR c]) (.er 169 0)))
def jP(P:Program)(t:TypeId)(m x:BV)(D:Hp):l8:=tR P t m x D fun r a ks vs l clk=>VY a l fun b=>.ok (.c 1) [] [(r,.m ks vs b clk)] [r]
def a2j:Fn->Option Nat|.func f=>some f|_=>none
def El(ev:Operand->BV):List Operand->(Nat->l8)->l8:=@List.rec Operand (fun _=>(Nat->l8)->l8) (fun k=>k 0) (fun o _ a k=>a fun m=>vC (ev o) fun c=>nB (Nat.ble 3 c) 170 (k (Nat.add c (Nat.mul cB m))))
def gA(c:Fn)(a b:List Operand)(ev:Operand->BV)(nx:Nat):l8:=@Option.rec Nat (fun _=>l8) (.er 171 0) (fun f=>nB (Nat.ble f 65535) 172 (El ev a fun d=>El ev b fun e=>
 iB (Nat.beq (Nat.add a.length b.length) 0) (kM (vM f 0)) (nB (Nat.ble a.length 4095) 173 (nB (Nat.ble b.length 4095) 174 (Su (.f a.length d b.length e) (vM f (Nat.succ nx))))))) (a2j c)
abbrev Lk:=List (Nat×Nat)
def oF(k:Nat):Nat:=Nat.mul 4 (Nat.div (Nat.sub (Nat.pow cB k) 1) (Nat.sub cB 1))
def xJ(k n:Nat):Bool:=Nat.beq (Nat.land n (oF k)) 0
def Gf{β:Type}(m:Nat)(a b c d:β):β:=@Nat.rec (fun _=>β) a (fun m _=>@Nat.rec (fun _=>β) b (fun m _=>@Nat.rec (fun _=>β) c (fun _ _=>d) m) m) m
def uV(c:Nat):Nat:=Gf (Nat.sub (zT c) 4) 8388608 4503599627370496 8 524288
def lkF(r:Nat):Lk->(Nat->l8)->l8->l8:=@List.rec (Nat×Nat) (fun _=>(Nat->l8)->l8->l8) (fun _ e=>e) (fun p _ a k e=>iB (Nat.beq p.1 r) (k p.2) (a k e))
abbrev KL:=Nat->Lk->List Nat->Nat->l8
def IN(c r:Nat)(L:Lk)(q:List Nat)(m:Nat)(k:KL):l8:=
 lkF r L (fun j=>fN (Nat.sub (Nat.add c (Nat.mul j (uV c))) (Nat.mul r (uV c))) fun c'=>k c' L q m)
  (fN (Nat.sub (Nat.add c (Nat.mul m (uV c))) (Nat.mul r (uV c))) fun c'=>fN (Nat.succ m) fun a=>k c' ((r,m)::L) (r::q) a)
def IP(c:Nat)(L:Lk)(q:List Nat)(m:Nat)(k:KL):l8:=iB (Nat.beq (Nat.land c 4) 0) (k c L q m)
 (iB (Nat.beq (zT c) 7) (@Nat.rec (fun _=>l8) (k c L q m) (fun r _=>IN c r L q m k) (fR c)) (fN (Nat.div c (uV c)) fun r=>IN c r L q m k))
def Zi:Nat->Nat->Lk->List Nat->Nat->KL->l8:=@Nat.rec (fun _=>Nat->Lk->List Nat->Nat->KL->l8) (fun _ L q m k=>k 0 L q m)
 (fun _ a n L q m k=>IP (Nat.mod n cB) L q m fun c L q m=>a (Nat.div n cB) L q m fun b L q m=>k (Nat.add c (Nat.mul cB b)) L q m)
def Em(s n:Nat)(L:Lk)(q:List Nat)(m:Nat)(k:KL):l8:=iB (xJ s n) (k n L q m) (Zi s n L q m fun a L q m=>fN a fun a=>k a L q m)
def szS(a:Nat):Nat:=@Nat.rec (fun _=>Nat) 1 (fun j _=>j) a
def Zj:List (Nat×Nat)->Lk->List Nat->Nat->(List (Nat×Nat)->Lk->List Nat->Nat->l8)->l8:=@List.rec (Nat×Nat) (fun _=>Lk->List Nat->Nat->(List (Nat×Nat)->Lk->List Nat->Nat->l8)->l8) (fun L q m k=>k [] L q m)
 (fun p _ a L q m k=>Em (szS p.1) p.2 L q m fun n L q m=>a L q m fun l L q m=>k ((p.1,n)::l) L q m)
def eP{α:Type}:List α->Nat:=@List.rec α (fun _=>Nat) 0 (fun _ _ a=>Nat.succ a)
def LI(v:BV)(L:Lk)(q:List Nat)(m:Nat)(k:BV->Lk->List Nat->Nat->l8):l8:=@BV.rec (fun _=>l8) (fun c=>nB (Bool.not (Nat.beq c 2)) 180 (IP c L q m fun c=>k (.c c))) (fun s n=>Em s n L q m fun n=>k (.a s n)) (fun l=>nB (Bool.not (Nat.beq (eP l) 0)) 199 (Zj l L q m fun l=>k (.t l))) (.er 181 0) v
def QO:List BV->Lk->List Nat->Nat->(List BV->Lk->List Nat->Nat->l8)->l8:=@List.rec BV (fun _=>Lk->List Nat->Nat->(List BV->Lk->List Nat->Nat->l8)->l8) (fun L q m k=>k [] L q m)
 (fun v _ a L q m k=>LI v L q m fun v L q m=>a L q m fun l=>k (v::l))
def ON(ks vs:Nat):ME->Bool:=@List.rec (Nat×Nat×Nat) (fun _=>Bool) true (fun p _ a=>iB (xJ (szS ks) p.2.1) (iB (xJ (szS vs) p.2.2) a false) false)
def En(o:HO)(L:Lk)(q:List Nat)(m:Nat)(k:HO->Lk->List Nat->Nat->l8):l8:=@HO.rec (fun _=>l8)
 (fun s n=>iB (Nat.beq (Nat.land n (Nat.mul cB (oF s))) 0) (k (.c s n) L q m) (Em s (Nat.div n cB) L q m fun n=>fN (qC n) fun n=>k (.c s n)))
 (fun a b l c=>nB (ON a b l) 182 (k (.m a b l c) L q m))
 (fun g d h e=>Em g d L q m fun d L q m=>Em h e L q m fun e=>k (.f g d h e))
 (fun _ _ _ _=>.er 183 0) (.er 184 0) o
def LJ(l:List Nat):List Nat:=@List.rec Nat (fun _=>List Nat->List Nat) (fun a=>a) (fun x _ b a=>b (x::a)) l []
def Wa(l:List HO):List HO:=@List.rec HO (fun _=>List HO->List HO) (fun a=>a) (fun x _ b a=>b (x::a)) l []
def qG(D:Hp):Nat->List Nat->List Nat->Lk->Nat->List HO->(List HO->Lk->Nat->l8)->l8:=@Nat.rec (fun _=>List Nat->List Nat->Lk->Nat->List HO->(List HO->Lk->Nat->l8)->l8) (fun _ _ _ _ _ _=>.er 185 0)
 (fun _ d q a L m c k=>@List.rec Nat (fun _=>l8) (@List.rec Nat (fun _=>l8) (k c L m) (fun b e _=>d (LJ (b::e)) [] L m c k) a)
  (fun r f _=>En (D r) L a m fun o L a m=>d f a L m (o::c) k) q)
def lP:Nat->Nat->Nat->Lk->Lk:=@Nat.rec (fun _=>Nat->Nat->Lk->Lk) (fun _ _ L=>L) (fun _ a i r L=>a (Nat.succ i) (Nat.succ r) ((i,r)::L))
def dL:List Nat->Nat->Lk->Lk:=@List.rec Nat (fun _=>Nat->Lk->Lk) (fun _ L=>L) (fun r _ a i L=>a (Nat.succ i) ((i,r)::L))
def Eo(a b:HO):Bool:=@HO.rec (fun _=>Bool) (fun s n=>@HO.rec (fun _=>Bool) (fun c d=>iB (Nat.beq s c) (Nat.beq n d) false) (fun _ _ _ _=>false) (fun _ _ _ _=>false) (fun _ _ _ _=>false) false b) (fun _ _ _ _=>false) (fun _ _ _ _=>true) (fun _ _ _ _=>false) false a
def Y7(D:Hp):List HO->List Nat->Lk->(List (Nat×HO)->List HO->l8)->l8:=@List.rec HO (fun _=>List Nat->Lk->(List (Nat×HO)->List HO->l8)->l8) (fun _ _ k=>k [] [])
 (fun o _ b c L k=>En o L [] 0 fun o' _ q _=>nB (Nat.beq (eP q) 0) 186 (@List.rec Nat (fun _=>l8) (b c L fun s n=>k s (o'::n)) (fun r a _=>b a L fun s n=>iB (Eo o' (D r)) (k s n) (k ((r,o')::s) n)) c))
def zV:List Nat->Bool:=@List.rec Nat (fun _=>Bool) true (fun r _ a=>iB (Nat.ble r 1048574) a false)
def V2(L:Lk):List Nat:=@List.rec (Nat×Nat) (fun _=>List Nat->List Nat) (fun a=>a) (fun p _ b a=>b (p.1::a)) L []
inductive Rn where
 |er (c x:Nat)
 |ok (v:BV) (l:List HO)
abbrev J6:=FuncId->List BV->List HO->Rn
def iG(R:J6)(D:Hp)(f:FuncId)(args:List BV)(nx:Nat):l8:=QO args [] [] 0 fun b L q m=>qG D 2000 (LJ q) [] L m [] fun d L m=>
 @Rn.rec (fun _=>l8) (fun c x=>.er c x) (fun v a=>(fun olds=>fN (Nat.sub (eP a) m) fun e=>nB (Nat.ble (Nat.add m (Nat.add nx e)) 1048574) 198 (nB (zV olds) 197 (LI v (lP e m nx (dL olds 0 [])) [] 0 fun v' _ q _=>nB (Nat.beq (eP q) 0) 187
  (Y7 D a olds (lP e m nx (dL olds 0 [])) fun s n=>.ok v' n s olds)))) (V2 L)) (R f b (Wa d))
def hI(o:HO)(k:Nat->Nat->List Nat->Nat->l8):l8:=@HO.rec (fun _=>l8) (fun _ _=>.er 220 0) (fun _ _ _ _=>.er 221 0) (fun _ _ _ _=>.er 222 0) k (.er 223 0) o
def zW(P:Program)(t:TypeId)(x:BV)(nx:Nat)(D:Hp):l8:=vC x fun c=>nB (XS c) 224 (hM (D (mR c)) fun ks vs _ clk=>nB (Nat.beq (Nat.succ ks) (IK P t)) 225 (nB (Nat.beq (Nat.succ vs) (OL P t)) 232 (.ok (.c (kN nx 0)) [.i (mR c) clk [] clk] [] [mR c])))
def IQ:ME->Nat->Bool:=@List.rec (Nat×Nat×Nat) (fun _=>Nat->Bool) (fun _=>true) (fun p _ a n=>iB (Nat.ble n p.1) (a (Nat.succ p.1)) false)
def Sv(s:Nat):ME->(Nat×Nat×Nat->l8)->l8->l8:=@List.rec (Nat×Nat×Nat) (fun _=>(Nat×Nat×Nat->l8)->l8->l8) (fun _ e=>e) (fun p _ a k e=>iB (Nat.beq p.1 s) (k p) (a k e))
def uW(x:BV)(D:Hp):l8:=vC x fun c=>nB (zU c) 226 (nB (Nat.beq (pO c) 0) 227 (hI (D (pR c)) fun m _ seen a=>hM (D m) fun ks vs l clk=>nB (Nat.beq clk a) 228 (nB (IQ l 0) 229
 (@List.rec Nat (fun _=>l8) (.er 230 0) (fun s _ _=>Sv s l (fun p=>.ok (.t [(ks,p.2.1),(vs,p.2.2)]) [] [] [pR c,m]) (.er 231 0)) seen))))
def eV(ev:Operand->BV):List Operand->List BV->List BV:=@List.rec Operand (fun _=>List BV->List BV) (fun a=>a) (fun o _ b a=>ev o::b a)
def aA:Nat->Nat->List BV->List BV:=@Nat.rec (fun _=>Nat->List BV->List BV) (fun _ a=>a) (fun _ b n a=>.c (Nat.mod n cB)::b (Nat.div n cB) a)
def Ep{β:Type}(D:Hp)(c:Nat)(args:List BV->List BV)(e:Nat->β)(k:FuncId->List BV->List Nat->β):β:=
 iB (Nat.beq (zT c) 7) (@Nat.rec (fun _=>β) (k (fF c) (args []) []) (fun r _=>@HO.rec (fun _=>β) (fun _ _=>e 190) (fun _ _ _ _=>e 191) (fun a b d f=>k (fF c) (aA a b (args (aA d f []))) [r]) (fun _ _ _ _=>e 192) (e 193) (D r)) (fR c)) (e 194)
def Er(q:List Nat)(z:l8):l8:=@l8.rec (fun _=>l8) (fun c x=>.er c x) (fun v n s rd=>.ok v n s (List.append q rd)) z
def qH(R:J6)(D:Hp)(g:BV)(c:Call)(ev:Operand->BV)(nx:Nat):l8:=vC g fun a=>Ep D a (eV ev c.args.toList) (fun n=>.er n 0) fun f l q=>fN f fun f=>Er q (iG R D f l nx)
abbrev Arm:=Program->J6->(Operand->BV)->Nat->Hp->l8
def tT(n:Nat):Arm:=fun _ _ _ _ _=>.er 200 n
def a0(c:Call):Operand:=c.args.getD 0 default
def a1(c:Call):Operand:=c.args.getD 1 default
def y0(c:Call):TypeId:=c.argTypes.getD 0 0
def y1(c:Call):TypeId:=c.argTypes.getD 1 0
def P1(c:Call)(n:Nat):Bool:=Nat.beq c.args.size n && Nat.beq c.argTypes.size n
def lQ(c:Call):Builtin->Arm:=@Builtin.rec (fun _=>Arm)
 (fun P _ ev nx D=>nB (P1 c 2) 201 (fK P (y0 c) (y1 c) (ev (a0 c)) (ev (a1 c)) nx D))
 (fun P _ ev _ _=>nB (P1 c 1) 202 (Zh P (y0 c) (ev (a0 c)))) (fun P _ ev _ D=>nB (P1 c 1) 203 (nL P (y0 c) (ev (a0 c)) D)) (tT 1) (tT 2)
 (fun P _ ev _ D=>nB (P1 c 2) 204 (xI P (y0 c) (y1 c) (ev (a0 c)) (ev (a1 c)) D)) (fun P _ ev _ D=>nB (P1 c 2) 205 (jP P (y0 c) (ev (a0 c)) (ev (a1 c)) D)) (tT 3)
 (fun P _ ev _ _=>nB (P1 c 1) 206 (Zg P (y0 c) (ev (a0 c)))) (tT 4)
 (fun _ _ ev _ _=>Bc (fun y x=>Nat.ble (Nat.succ x) y) ev c.args.toList) (fun _ _ ev _ _=>Bc (fun y x=>Nat.ble (Nat.succ y) x) ev c.args.toList)
 (tT 5) (tT 6) (tT 7) (tT 8) (tT 9) (tT 10) (tT 11) (tT 12) (tT 13) (tT 14) (tT 15) (tT 16) (tT 17) (tT 18)
def xK(c:Call):Arm:=@Callee.rec (fun _=>Arm) (fun g _ R ev nx D=>qH R D (ev g) c ev nx) (fun _ _=>tT 19) (lQ c) c.callee
def rQ(t:TypeId)(l a:Operand):Arm:=fun P _ ev nx _=>@Option.rec TypeId (fun _=>l8) (.er 207 0) (fun e=>nB (cX P e) 208 (vI (ev l) fun n=>vI (ev a) fun b=>nB (Nat.beq n b) 209 (fN n fun n=>OM nx n (I5 P t) (LF (lO P e) (I5 P t) n) 1))) (Ge P t)
def OO:Op->Arm:=@Op.rec (fun _=>Arm)
 (fun x _ _ ev _ _=>vN (ev x)) (fun x _ _ ev _ _=>vN (ev x)) (fun c a b _ _ ev _ _=>QL (ev c) (ev a) (ev b)) (fun e P _ _ nx _=>VW P e nx) (fun _ x _ _ ev nx _=>Zc (ev x) nx)
 (fun t ps P _ ev _ _=>Ej P t ps.toList ev) (fun t n ps P _ ev nx _=>qE P t n ps.toList ev nx) (fun t m k v P _ ev _ D=>V1 P t (ev m) (ev k) (ev v) D)
 (fun t x P _ ev _ D=>tQ P t (ev x) D) (fun t a x P _ ev _ D=>iA P t (ev a) (ev x) D) (fun _=>tT 20) (fun _=>tT 21) (fun x _ _ ev _ _=>rN (ev x)) (fun op t x y _ P _ ev _ _=>VV P op t (ev x) (ev y))
 (fun op _ x _ _ ev _ _=>xUn op (ev x)) (fun s d x P _ ev _ _=>QM P s d (ev x)) (fun _ _=>tT 22) (fun _ _=>tT 23) (fun f a b _ _ ev nx _=>gA f a.toList b.toList ev nx) (fun t r P _ _ nx _=>oN r (Ek P t nx) (.er 210 0)) (fun _ _=>tT 24)
 rQ
 (fun t x lo hi mx P _ ev _ D=>iE P t (ev x) lo hi mx ev D) (fun t x f P _ ev _ _=>nJ P t (ev x) f) (fun t x f P _ ev _ _=>iC P t (ev x) f) (fun t x i P _ ev _ _=>nK P t (ev x) (ev i)) (fun t x i P _ ev _ _=>qF P t (ev x) (ev i))
 (fun t x i g P _ ev _ D=>rO P t (ev x) (ev i) g D) (fun t m x v P _ ev _ D=>V1 P t (ev m) (ev x) (ev v) D) (fun t m x P _ ev _ D=>fZ P t (ev m) (ev x) D) (fun _ m s v _ _ ev _ D=>Y6 (ev m) (ev s) (ev v) D)
 (fun t x P _ ev nx D=>zW P t (ev x) nx D) (fun _ _=>tT 26) (fun i _ _ ev _ D=>uW (ev i) D) (fun _ _ _ _=>tT 28) (fun x i _ _ ev _ _=>eD (ev x) i) xK
 (fun _=>tT 29) (fun _=>tT 30) (fun _=>tT 31) (fun _ _=>tT 32) (fun _ _ _=>tT 33) (fun _ _=>tT 34)
end
end Go.Abs
end
section
namespace Go.Abs
noncomputable section
inductive Tr(α:Type) where
 |e:Tr α
 |v (a:α):Tr α
 |n (a b c d:Tr α):Tr α
abbrev w7:=Tr HO
def eE(nx:Nat):Nat:=Nat.succ (Nat.div (Nat.log2 nx) 2)
def a6m(t:Tr HO):HO:=@Tr.rec HO (fun _=>HO) .z (fun a=>a) (fun _ _ _ _ _ _ _ _=>.z) t
def sW:Nat->Tr HO->Nat->HO:=@Nat.rec (fun _=>Tr HO->Nat->HO) (fun t _=>a6m t)
 (fun k e t r=>@Tr.rec HO (fun _=>HO) .z (fun _=>.z) (fun a b c d _ _ _ _=>Gf (Nat.mod (Nat.div r (Nat.pow 4 k)) 4) (e a r) (e b r) (e c r) (e d r)) t)
def kids{β:Type}(t:Tr HO)(k:Tr HO->Tr HO->Tr HO->Tr HO->β):β:=@Tr.rec HO (fun _=>β) (k .e .e .e .e) (fun _=>k .e .e .e .e) (fun a b c d _ _ _ _=>k a b c d) t
def IS{β:Type}(x:HO):Nat->Tr HO->Nat->(Tr HO->β)->β:=@Nat.rec (fun _=>Tr HO->Nat->(Tr HO->β)->β) (fun _ _ k=>k (.v x))
 (fun j e t i k=>kids t fun a b c d=>Gf (Nat.mod (Nat.div i (Nat.pow 4 j)) 4) (e a i fun f=>k (.n f b c d)) (e b i fun g=>k (.n a g c d)) (e c i fun c'=>k (.n a b c' d)) (e d i fun h=>k (.n a b c h)))
def s6(nx:Nat)(d:w7)(r:Nat):HO:=iB (Nat.ble (Nat.succ r) nx) (sW (eE nx) d r) .z
def zX{β:Type}(nx:Nat)(d:w7)(r:Nat)(o:HO)(k:w7->β):β:=IS o (eE nx) d r k
def I2{β:Type}(nx:Nat)(d:w7)(o:HO)(k:Nat->w7->β):β:=zX nx d nx o fun b=>fN (Nat.succ nx) fun a=>iB (Nat.beq (eE a) (eE nx)) (k a b) (k a (.n b .e .e .e))
def fO{β:Type}(o:HO)(k:HO->β):β:=@HO.rec (fun _=>β) (fun s n=>fN s fun s=>fN n fun n=>k (.c s n)) (fun a b l c=>fN a fun a=>fN b fun b=>fN c fun c=>k (.m a b l c)) (fun a b c d=>fN a fun a=>fN b fun b=>fN c fun c=>fN d fun d=>k (.f a b c d)) (fun a b c d=>k (.i a b c d)) (k .z) o
abbrev J1:=List (Nat×BV)
def uX(E t:Nat):Nat:=Nat.mod (Nat.div E (Nat.pow cB (Nat.succ t))) cB
def uY(E t n:Nat):Nat:=Nat.succ (Nat.add (Nat.sub E (Nat.mul (Nat.mod (Nat.div E (Nat.pow cB (Nat.succ t))) cB) (Nat.pow cB (Nat.succ t)))) (Nat.mul n (Nat.pow cB (Nat.succ t))))
def LK:J1->Nat->BV:=@List.rec (Nat×BV) (fun _=>Nat->BV) (fun _=>.u) (fun p _ a t=>iB (Nat.beq p.1 t) p.2 (a t))
def Es{β:Type}(v:BV):J1->Nat->(J1->β)->β:=@List.rec (Nat×BV) (fun _=>Nat->(J1->β)->β) (fun t k=>k [(t,v)]) (fun p l a t k=>iB (Nat.beq p.1 t) (k ((t,v)::l)) (a t fun b=>k (p::b)))
def a6n(n:Nat)(a:BV):BV:=@Nat.rec (fun _=>BV) a (fun m _=>.c (Nat.succ m)) n
def F7(E:Nat)(A:J1)(t:Nat):BV:=a6n (uX E t) (LK A t)
def eF(E:Nat)(A:J1)(x:Operand):BV:=@Operand.rec (fun _=>BV) (fun t=>F7 E A t) (fun v=>OJ v) (fun _=>.u) (fun f=>iB (Nat.ble f 65535) (.c (vM f 0)) .u) x
def fP{β:Type}:List (Nat×Nat)->(List (Nat×Nat)->β)->β:=@List.rec (Nat×Nat) (fun _=>(List (Nat×Nat)->β)->β) (fun k=>k []) (fun p _ c k=>fN p.1 fun a=>fN p.2 fun b=>c fun l=>k ((a,b)::l))
def fB{β:Type}(v:BV)(k:BV->β):β:=@BV.rec (fun _=>β) (fun n=>fN n fun n=>k (.c n)) (fun s n=>fN s fun s=>fN n fun n=>k (.a s n)) (fun l=>fP l fun l=>k (.t l)) (k .u) v
def bM(t:Nat)(v:BV)(E:Nat)(A:J1)(k:Nat->J1->Rn):Rn:=iB (Nat.ble (Nat.mod E cB) 604462909807314587353088)
 (@BV.rec (fun _=>Rn) (fun n=>iB (Nat.ble 1 n) (iB (Nat.ble n 1208925819614629174706175) (fN (uY E t n) fun b=>k b A) (.er 508 n)) (.er 509 n)) (fun s n=>fN (uY E t 0) fun b=>fN s fun s=>fN n fun n=>Es (.a s n) A t fun c=>k b c) (fun l=>fN (uY E t 0) fun b=>fP l fun l=>Es (.t l) A t fun c=>k b c) (fN (uY E t 0) fun b=>Es .u A t fun c=>k b c) v) (.er 505 0)
def lR(o:Option Tmp)(v:BV)(E:Nat)(A:J1)(k:Nat->J1->Rn):Rn:=@Option.rec Tmp (fun _=>Rn) (k E A) (fun t=>bM t v E A k) o
abbrev KS:=Nat->J1->Nat->w7->Nat->Rn
abbrev JB:=List (List Nat×List Nat)
def news{β:Type}:List HO->Nat->w7->(Nat->w7->β)->β:=@List.rec HO (fun _=>Nat->w7->(Nat->w7->β)->β) (fun nx D k=>k nx D) (fun o _ b nx D k=>fO o fun o=>I2 nx D o fun a D'=>b a D' k)
def OP(nx:Nat):List (Nat×HO)->w7->(w7->Rn)->Rn:=@List.rec (Nat×HO) (fun _=>w7->(w7->Rn)->Rn) (fun D k=>k D) (fun p _ a D k=>fN p.1 fun r=>fO p.2 fun o=>iB (Nat.ble (Nat.succ r) nx) (zX nx D r o fun D'=>a D' k) (.er 507 r))
def iH(o:Oper)(P:Program)(R:J6)(E:Nat)(A:J1)(nx:Nat)(D:w7)(k:Nat->J1->Nat->w7->List Nat->List (Nat×HO)->List HO->Rn):Rn:=
 @l8.rec (fun _=>Rn) (fun c x=>.er c x) (fun v new set rd=>
  @List.rec HO (fun _=>Rn) (@List.rec (Nat×HO) (fun _=>Rn) (lR o.dst v E A fun a b=>k a b nx D rd [] [])
    (fun _ _ _=>OP nx set D fun D'=>lR o.dst v E A fun a b=>k a b nx D' rd set []) set)
   (fun _ _ _=>OP nx set D fun D'=>news new nx D' fun d e=>iB (Nat.ble d 1048574) (lR o.dst v E A fun a b=>k a b d e rd set new) (.er 500 nx)) new) (OO o.op P R (eF E A) nx (s6 nx D))
def a2l(all:Array Oper)(j:Nat):Option Nat:=(all[j]?).bind (·.dst)
def jQ(all:Array Oper)(E:Nat)(o:Oper)(a b:Rn):Rn:=@Option.rec (Nat×Bool) (fun _=>Rn) a (fun g=>@Option.rec Nat (fun _=>Rn) (.er 501 0) (fun d=>
 iB (Nat.beq (uX E d) (G8 g.2)) a (iB (Nat.beq (uX E d) (G8 (Bool.not g.2))) b (iB (Nat.beq (uX E d) 1) b (.er 502 0)))) (a2l all g.1)) o.guard
abbrev YH:=List BV->Nat->w7->(Bool->Nat->Nat->w7->Rn)->Rn
def Wb:Op->Option (Operand×List Operand)
 |.call c=>(match c.callee with
  |.value g=>some (g,c.args.toList)
  |_=>none)
 |_=>none
def Wc(E:Nat)(A:J1)(o:Oper)(k:List BV->Rn)(e:Rn):Rn:=@Option.rec (Operand×List Operand) (fun _=>Rn) e (fun g=>@BV.rec (fun _=>Rn) (fun n=>iB (Nat.beq n 2) (k (eV (eF E A) g.2 [])) e) (fun _ _=>e) (fun _=>e) e (eF E A g.1)) (Wb o.op)
def IU:List Oper->Program->J6->Array Oper->KS->KS:=@List.rec Oper (fun _=>Program->J6->Array Oper->KS->KS) (fun _ _ _ k=>k) (fun o _ e P R all k E A nx D p=>
 jQ all E o (iH o P R E A nx D fun a b d D' _ _ _=>e P R all k a b d D' p) (lR o.dst (.c 1) E A fun a b=>e P R all k a b nx D p))
def fM:List Oper->Program->J6->YH->Array Oper->KS->KS:=@List.rec Oper (fun _=>Program->J6->YH->Array Oper->KS->KS) (fun _ _ _ _ k=>k) (fun o _ f P R y all k E A nx D p=>
 jQ all E o (Wc E A o (fun args=>iB (Nat.beq p 0) (y args nx D fun b g a D'=>lR o.dst (.c (G8 b)) E A fun d e=>f P R y all k d e a D' g) (.er 503 0)) (iH o P R E A nx D fun d e a D' _ _ _=>f P R y all k d e a D' p))
  (lR o.dst (.c 1) E A fun d e=>f P R y all k d e nx D p))
def V3(l:List Oper)(P:Program)(R:J6)(Y:Option YH)(all:Array Oper)(k:KS):KS:=@Option.rec YH (fun _=>KS) (IU l P R all k) (fun y=>fM l P R y all k) Y
abbrev KT:=Nat->J1->Nat->w7->Nat->JB->Rn
abbrev a6o:=Program->J6->Array Oper->KT->KT
def rng:Nat->Nat->List Nat:=@Nat.rec (fun _=>Nat->List Nat) (fun _=>[]) (fun _ a i=>i::a (Nat.succ i))
def LM:List Nat->List Nat->List Nat:=@List.rec Nat (fun _=>List Nat->List Nat) (fun l=>l) (fun a _ b l=>a::b l)
def Zk:List (Nat×HO)->List Nat:=@List.rec (Nat×HO) (fun _=>List Nat) [] (fun p _ a=>p.1::a)
def kI:List Oper->a6o:=@List.rec Oper (fun _=>a6o) (fun _ _ _ k=>k) (fun o _ e P R all k E A nx D p f=>
 jQ all E o (iH o P R E A nx D fun a b d D' rd set new=>e P R all k a b d D' p ((rd,LM (Zk set) (rng (eP new) nx))::f))
  (lR o.dst (.c 1) E A fun a b=>e P R all k a b nx D p (([],[])::f)))
def LN:Op->Bool
 |.alloc _=>true
 |.box _ _=>true
 |.buildSlice _ _ _=>true
 |.insert _ _ _ _=>true
 |.store _ _ _=>true
 |.makeFunc _ _ _=>true
 |.makeMap _ _=>true
 |.range _ _=>true
 |.makeSlice _ _ _=>true
 |.mapUpdate _ _ _ _=>true
 |.mapEntry _ _ _=>true
 |.entryStore _ _ _ _=>true
 |.call _=>true
 |_=>false
def OS:Op->Bool
 |.load _ _=>true
 |.slice _ _ _ _ _=>true
 |.lookup _ _ _ _=>true
 |.entry _=>true
 |o=>LN o
def xL(i:Nat)(c:Oper):Nat->List Oper->List Nat->List (Nat×Nat)
 |j,d::e,a::b=>if a.testBit i|| !((LN c.op && OS d.op)||(OS c.op && LN d.op))then xL i c (j+1) e b else(i,j)::xL i c (j+1) e b
 |_,_,_=>[]
def xM:Nat->List Oper->List Nat->List (Nat×Nat)
 |i,o::b,_::a=>xL i o (i+1) b a++xM (i+1) b a
 |_,_,_=>[]
def fQ(s:Nat):List Nat->Bool:=@List.rec Nat (fun _=>Bool) false (fun a _ b=>iB (Nat.beq a s) true b)
def Be(b:List Nat):List Nat->Bool:=@List.rec Nat (fun _=>Bool) true (fun a _ c=>iB (fQ a b) false c)
def BG:JB->Nat->List Nat×List Nat:=@List.rec (List Nat×List Nat) (fun _=>Nat->List Nat×List Nat) (fun _=>([],[])) (fun p _ a i=>@Nat.rec (fun _=>List Nat×List Nat) p (fun j _=>a j) i)
def Sw(x y:List Nat×List Nat):Bool:=iB (Be x.2 y.2) (iB (Be x.2 y.1) (Be x.1 y.2) false) false
def nM(a:JB):List (Nat×Nat)->Bool:=@List.rec (Nat×Nat) (fun _=>Bool) true (fun p _ b=>iB (Sw (BG a p.1) (BG a p.2)) b false)
def BH(l:JB):JB:=@List.rec (List Nat×List Nat) (fun _=>JB->JB) (fun a=>a) (fun x _ b a=>b (x::a)) l []
def dM(ops:Array Oper):List (Nat×Nat):=xM 0 ops.toList (FI ops.toList)
def rS(ops:Array Oper)(P:Program)(R:J6)(k:KS):KS:=fun E A nx D p=>kI ops.toList P R ops (fun b c a D' d e=>iB (nM (BH e) (dM ops)) (k b c a D' d) (.er 504 0)) E A nx D p []
def Zl(p q:Nat×Nat):Bool:=iB (Nat.beq p.1 q.1) (Nat.beq p.2 q.2) false
def Zm(p q:Nat×Nat×Nat):Bool:=iB (Nat.beq p.1 q.1) (iB (Nat.beq p.2.1 q.2.1) (Nat.beq p.2.2 q.2.2) false) false
def QP{α:Type}(f:α->α->Bool):List α->List α->Bool:=@List.rec α (fun _=>List α->Bool) (fun l=>@List.rec α (fun _=>Bool) true (fun _ _ _=>false) l) (fun a _ c l=>@List.rec α (fun _=>Bool) false (fun b r _=>iB (f a b) (c r) false) l)
def Gg(a b:BV):Bool:=@BV.rec (fun _=>Bool) (fun n=>@BV.rec (fun _=>Bool) (fun m=>Nat.beq n m) (fun _ _=>false) (fun _=>false) false b) (fun s n=>@BV.rec (fun _=>Bool) (fun _=>false) (fun t m=>iB (Nat.beq s t) (Nat.beq n m) false) (fun _=>false) false b) (fun l=>@BV.rec (fun _=>Bool) (fun _=>false) (fun _ _=>false) (fun r=>QP Zl l r) false b) false a
def XT(a b:HO):Bool:=@HO.rec (fun _=>Bool) (fun s n=>@HO.rec (fun _=>Bool) (fun d e=>iB (Nat.beq s d) (Nat.beq n e) false) (fun _ _ _ _=>false) (fun _ _ _ _=>false) (fun _ _ _ _=>false) false b)
 (fun k v l c=>@HO.rec (fun _=>Bool) (fun _ _=>false) (fun k' v' f c'=>iB (Nat.beq k k') (iB (Nat.beq v v') (iB (Nat.beq c c') (QP Zm l f) false) false) false) (fun _ _ _ _=>false) (fun _ _ _ _=>false) false b)
 (fun a1 g h i=>@HO.rec (fun _=>Bool) (fun _ _=>false) (fun _ _ _ _=>false) (fun j m o p=>iB (Nat.beq a1 j) (iB (Nat.beq g m) (iB (Nat.beq h o) (Nat.beq i p) false) false) false) (fun _ _ _ _=>false) false b) (fun _ _ _ _=>false) false a
def We(r:Rn)(v:BV)(l:List HO):Bool:=@Rn.rec (fun _=>Bool) (fun _ _=>false) (fun v' a=>iB (Gg v' v) (QP XT a l) false) r
def E7(seen:List Nat):ME->ME:=@List.rec (Nat×Nat×Nat) (fun _=>ME) [] (fun p _ a=>iB (fQ p.1 seen) a (p::a))
def Sx(a:Nat):ME->Bool:=@List.rec (Nat×Nat×Nat) (fun _=>Bool) true (fun p _ b=>iB (Nat.ble (Nat.succ p.1) a) b false)
def OT(a b:Rn):Rn:=@Rn.rec (fun _=>Rn) (fun c x=>.er c x) (fun v l=>iB (We b v l) (.ok v l) (.er 541 0)) a
def Sy(k:Nat×Nat×Nat->Rn):ME->Rn:=@List.rec (Nat×Nat×Nat) (fun _=>Rn) (.er 542 0) (fun p r a=>@List.rec (Nat×Nat×Nat) (fun _=>Rn) (k p) (fun _ _ _=>OT (k p) a) r)
def Et(ops:Array Oper):Option (Operand×Tmp):=match ops.toList with
 |o::_=>(match o.op,o.dst,o.guard with
  |.next i false,some t,none=>some (i,t)
  |_,_,_=>none)
 |[]=>none
def Eu(i:Operand)(t:Tmp)(k:KS):KS:=fun E A nx D p=>
 @BV.rec (fun _=>Rn) (fun c=>iB (zU c) (iB (Nat.beq (pO c) 0) (@HO.rec (fun _=>Rn) (fun _ _=>.er 543 0) (fun _ _ _ _=>.er 544 0) (fun _ _ _ _=>.er 545 0) (fun m a seen b=>@HO.rec (fun _=>Rn) (fun _ _=>.er 546 0) (fun ks vs l clk=>iB (Sx a l) (iB (Nat.ble a b)
  (@List.rec (Nat×Nat×Nat) (fun _=>Rn) (bM t (.t [(0,9)]) E A fun d f=>k d f nx D p)
   (fun q U _=>Sy (fun e=>fN e.1 fun s=>zX nx D (pR c) (.i m a (s::seen) clk) fun D'=>bM t (.t [(0,17),(ks,e.2.1),(vs,e.2.2)]) E A fun d f=>k d f nx D' p) (q::U)) (E7 seen l)) (.er 547 0)) (.er 548 0)) (fun _ _ _ _=>.er 549 0) (fun _ _ _ _=>.er 550 0) (.er 551 0) (s6 nx D m)) (.er 552 0) (s6 nx D (pR c))) (.er 553 0)) (.er 554 0)) (fun _ _=>.er 555 0) (fun _=>.er 556 0) (.er 557 0) (eF E A i)
abbrev KC:=I3->KS
abbrev GY:=YH->FuncId->List BV->Nat->w7->(Nat->w7->Nat->Rn)->Rn
abbrev OU:=Program->Nat->J6->GY->Option YH->Nat->J1->Nat->w7->Nat->KC->Rn
def BI(e:I3)(a:Rn)(b:Nat->Rn)(c:Rn):Rn:=@I3.rec (fun _=>Rn) a b c e
def Ev(b:Nat->J1->Nat->w7->Nat->KC->Rn)(k:KC):Nat->KS:=@Nat.rec (fun _=>KS) (fun _ _ _ _ _=>.er 510 0) (fun _ g E A nx D p=>b E A nx D p fun e c d a D' f=>BI e (g c d a D' f) (fun i=>k (.exit i) c d a D' f) (k .ret c d a D' f))
def a2n(v:BV):Bool:=@BV.rec (fun _=>Bool) (fun n=>iB (Nat.beq n 2) false true) (fun _ _=>true) (fun _=>true) true v
def LO:List Nat->List BV->Nat->J1->(Nat->J1->Rn)->Rn:=@List.rec Nat (fun _=>List BV->Nat->J1->(Nat->J1->Rn)->Rn) (fun vs E A k=>@List.rec BV (fun _=>Rn) (k E A) (fun _ _ _=>.er 511 0) vs) (fun p _ a vs E A k=>@List.rec BV (fun _=>Rn) (.er 512 0) (fun v r _=>iB (a2n v) (bM p v E A fun b c=>a r b c k) (.er 524 0)) vs)
def Zn(ops:Array Oper)(a:Bool):OU:=fun P _ R _ Y E A nx D p k=>iB a
 (@Option.rec Nat (fun _=>Rn) (rS ops P R (k .normal) E A nx D p)
  (fun c=>@Option.rec YH (fun _=>Rn) (rS ops P R (k .normal) E A nx D p) (fun y=>rS (Q4 ops c) P R (fun E A nx D p=>V3 (ops.toList.drop c) P R (some y) ops (k .normal) E A nx D p) E A nx D p) Y) (Au ops))
 (@Option.rec (Operand×Tmp) (fun _=>Rn) (V3 ops.toList P R Y ops (k .normal) E A nx D p) (fun i=>Eu i.1 i.2 (V3 (List.drop 1 ops.toList) P R Y ops (k .normal)) E A nx D p) (Et ops))
def Ca(D:Hp)(c:Nat)(e:Nat->Rn)(k:FuncId->List BV->Rn):Rn:=
 iB (Nat.beq (zT c) 7) (@Nat.rec (fun _=>Rn) (k (fF c) []) (fun r _=>@HO.rec (fun _=>Rn) (fun _ _=>e 190) (fun _ _ _ _=>e 191) (fun a _ b d=>iB (Nat.beq a 0) (k (fF c) (aA b d [])) (e 195)) (fun _ _ _ _=>e 192) (e 193) (D r)) (fR c)) (e 194)
def BJ:Code->OU:=@Code.rec (fun _=>OU)
 (fun _ _ _ _ _ E A nx D p k=>k .normal E A nx D p)
 (fun _ ops o=>Zn ops o)
 (fun _ _ b q P F R I Y E A nx D p k=>b P F R I Y E A nx D p fun e d h a D' l=>BI e (q P F R I Y d h a D' l k) (fun i=>k (.exit i) d h a D' l) (k .ret d h a D' l))
 (fun g _ _ b q P F R I Y E A nx D p k=>@BV.rec (fun _=>Rn) (fun n=>iB (Nat.beq n 17) (b P F R I Y E A nx D p k) (iB (Nat.beq n 9) (q P F R I Y E A nx D p k) (.er 513 0))) (fun _ _=>.er 514 0) (fun _=>.er 515 0) (.er 516 0) (eF E A g))
 (fun id _ b P F R I Y E A nx D p k=>b P F R I Y E A nx D p fun e d h a D' l=>BI e (k .normal d h a D' l) (fun i=>iB (Nat.beq i id) (k .normal d h a D' l) (k (.exit i) d h a D' l)) (k .ret d h a D' l))
 (fun _ b P F R I Y E A nx D p k=>Ev (b P F R I Y) k F E A nx D p)
 (fun g ps _ _ b q P F R I _ E A nx D p k=>@BV.rec (fun _=>Rn) (fun t=>Ca (s6 nx D) t (fun n=>.er n 0) fun f cap=>fN f fun f=>
  I (fun args nx D kk=>LO ps.toList args E A fun d h=>b P F R I none d h nx D 0 fun e u v r w x=>BI e (q P F R I none u v r w x fun y _ _ m s _=>BI y (kk true 0 m s) (fun i=>fN (Nat.succ (Nat.succ i)) fun j=>kk false j m s) (kk false 1 m s)) (fun _=>.er 517 0) (.er 518 0))
   f (.c 2::cap) nx D (fun a D' j=>@Nat.rec (fun _=>Rn) (k .normal E A a D' p) (fun j _=>@Nat.rec (fun _=>Rn) (k .ret E A a D' p) (fun i _=>k (.exit i) E A a D' p) j) j)) (fun _ _=>.er 519 0) (fun _=>.er 520 0) (.er 521 0) (eF E A g))
 (fun i _ _ _ _ _ E A nx D p k=>k (.exit i) E A nx D p)
 (fun _ b=>b)
 (fun _ _ _ _ _ _ E A nx D p k=>k .normal E A nx D p)
 (fun _ _ _ _ _ _ _ _ _ _ _ _=>.er 522 0)
 (fun _ _ _ _ _ E A nx D p k=>k .ret E A nx D p)
 (fun _ _ _ _ _ _ _ _ _ _ _ _=>.er 523 0)
def jR:List BV->Nat->Nat->J1->(Nat->J1->Rn)->Rn:=@List.rec BV (fun _=>Nat->Nat->J1->(Nat->J1->Rn)->Rn) (fun _ E A k=>k E A) (fun v _ a i E A k=>bM i v E A fun b c=>a (Nat.succ i) b c k)
def a6p(v:BV):Nat:=@BV.rec (fun _=>Nat) (fun n=>n) (fun _ n=>n) (fun _=>1) 2 v
def xN(l:List BV):Nat:=@List.rec BV (fun _=>Nat) 0 (fun v _ a=>Nat.mod (Nat.add (a6p v) (Nat.mul 3 a)) 4294967291) l
def Wf(P:Program)(r:ResultVar)(E:Nat)(A:J1)(D:Hp):l8:=@ResultVar.rec (fun _=>l8) (fun t=>vN (F7 E A t)) (fun a t=>tQ P t (F7 E A a) D) r
def Wg{β:Type}(v:BV)(k:Nat×Nat->β)(e:β):β:=@BV.rec (fun _=>β) (fun n=>iB (Nat.ble 3 n) (k (0,n)) e) (fun s n=>k (Nat.succ s,n)) (fun _=>e) e v
def rOf(r:l8)(k:BV->Rn):Rn:=@l8.rec (fun _=>Rn) (fun c x=>.er c x) (fun v _ _ _=>k v) r
def Zo(P:Program)(E:Nat)(A:J1)(D:Hp):List ResultVar->(List (Nat×Nat)->Rn)->Rn:=@List.rec ResultVar (fun _=>(List (Nat×Nat)->Rn)->Rn) (fun k=>k []) (fun r _ a k=>rOf (Wf P r E A D) fun v=>Wg v (fun p=>a fun l=>k (p::l)) (.er 530 0))
def a6r(P:Program)(b:List ResultVar)(E:Nat)(A:J1)(D:Hp)(k:BV->Rn):Rn:=@List.rec ResultVar (fun _=>Rn) (k (.c 1)) (fun r a _=>@List.rec ResultVar (fun _=>Rn) (rOf (Wf P r E A D) k) (fun _ _ _=>Zo P E A D b fun l=>k (.t l)) a) b
def a07(r:l8)(k:BV->List HO->Rn):Rn:=@l8.rec (fun _=>Rn) (fun c x=>.er c x) (fun v l _ _=>k v l) r
def kJ(P:Program)(f:Nat):Code:=match P.funcs[f]? with
 |some a=>(match a.body with
  |some c=>c
  |none=>.refuse "")
 |none=>.refuse ""
def zY(P:Program)(f:Nat):List ResultVar:=match P.funcs[f]? with
 |some a=>a.results.toList
 |none=>[]
def G0(n:Nat):Code->Bool
 |.region _ ops _=>G6 n ops.toList
 |.seq a b=>G0 n a && G0 n b
 |.cond _ a b=>G0 n a && G0 n b
 |.block _ a=>G0 n a
 |.loop a=>G0 n a
 |.scope a=>G0 n a
 |.rangeFunc _ ps a b=>Gp n ps.toList && G0 n a && G0 n b
 |_=>true
def LQ(P:Program)(f:Nat):Bool:=match P.funcs[f]? with
 |some a=>(match a.body with
  |some c=>Code.j3 c && G0 a.ntmps c && !(a.name== "runtime.NumGoroutine")
  |none=>false)
 |none=>false
def QQ(P:Program)(f:Nat):Bool:=match P.funcs[f]? with
 |some a=>Nat.beq a.results.size 0
 |none=>false
def itC(F:Nat)(P:Program)(R:J6):GY:=fun y f args nx D k=>iB (LQ P f && QQ P f) (jR args 0 (xN args) [] fun E A=>BJ (kJ P f) P F R (fun _ f _ _ _ _=>.er 531 f) (some y) E A nx D 0 fun e _ _ a D' b=>BI e (k a D' b) (fun _=>.er 532 f) (k a D' b)) (.er 533 f)
def cR:Nat->Lk->Lk:=@Nat.rec (fun _=>Lk->Lk) (fun l=>l) (fun j a l=>a ((j,j)::l))
def Wh:Nat->List Nat->List Nat:=@Nat.rec (fun _=>List Nat->List Nat) (fun l=>l) (fun j a l=>a (j::l))
def eqF(o o':HO):Bool:=@HO.rec (fun _=>Bool) (fun _ _=>true) (fun _ _ _ _=>true) (fun a b c d=>@HO.rec (fun _=>Bool) (fun _ _=>false) (fun _ _ _ _=>false) (fun e f c' g=>iB (Nat.beq a e) (iB (Nat.beq b f) (iB (Nat.beq c c') (Nat.beq d g) false) false) false) (fun _ _ _ _=>false) false o') (fun _ _ _ _=>true) true o
def a2p:List HO->List HO->Bool:=@List.rec HO (fun _=>List HO->Bool) (fun _=>true) (fun o _ a l=>@List.rec HO (fun _=>Bool) false (fun o' r _=>iB (eqF o o') (a r) false) l)
def zZ(P:Program)(f m:Nat)(a:List HO)(E:Nat)(A:J1)(D:Hp):Rn:=a6r P (zY P f) E A D fun v=>a07 (LI v (cR m []) [] m fun v L q d=>qG D 2000 (Wh m (LJ q)) [] L d [] fun b _ c=>nB (Nat.ble c 1048574) 200 (nB (a2p a (Wa b)) 201 (.ok v (Wa b) [] []))) fun v l=>fB v fun v=>.ok v l
def a6t(F:Nat)(P:Program):Nat->J6:=@Nat.rec (fun _=>J6) (fun f _ _=>.er 534 f) (fun _ c f args a=>iB (LQ P f) (iB (Nat.ble (eP a) 1000000) (jR args 0 (xN args) [] fun E A=>news a 0 .e fun m D=>BJ (kJ P f) P F c (itC F P c) none E A m D 0 fun e d g b D' _=>
 BI e (zZ P f m a d g (s6 b D')) (fun _=>.er 535 f) (zZ P f m a d g (s6 b D'))) (.er 536 f)) (.er 537 f))
end
end Go.Abs
end
section
namespace Go.Abs
section
variable {b:Nat}
theorem xO(a:0<b){lo y i j:Nat}(c:j<i):(lo+b^i*y) /b^j % b=lo/b^j % b:=by
 have e:b^i*y=b^j*(b*(b^ (i- j- 1)*y)):=by
  rw[<-Nat.mul_assoc b,<-Nat.pow_succ',<-Nat.mul_assoc,<-Nat.pow_add];congr 2;omega
 rw[e,Nat.add_mul_div_left _ _ (Nat.pow_pos a),Nat.add_mul_mod_self_left]
theorem Ew(a:0<b){lo y i j:Nat}(c:lo<b^i)(d:i<=j):(lo+b^i*y) /b^j=y/b^ (j- i):=by
 have e:b^j=b^i*b^ (j- i):=by rw[<-Nat.pow_add];congr 1;omega
 rw[e,<-Nat.div_div_eq_div_mul,Nat.add_mul_div_left _ _ (Nat.pow_pos a),Nat.div_eq_of_lt c,Nat.zero_add]
theorem Sz{n i k j:Nat}(a:j<k):(n/b^i % b^k) /b^j % b=n/b^ (i+j) % b:=by
 have e:b^k=b^j*b^ (k- j):=by rw[<-Nat.pow_add];congr 1;omega
 rw[e,Nat.mod_mul_right_div_self,Nat.div_div_eq_div_mul,<-Nat.pow_add];refine Nat.mod_mod_of_dvd _ ?_;exact⟨b^ (k- j- 1),by rw[<-Nat.pow_succ'];congr 1;omega⟩
theorem xP(n i k x:Nat):n- (n/b^i % b^k)*b^i+x*b^i=n % b^i+b^i*(x+b^k*(n/b^i/b^k)):=by
 have c:=Nat.div_add_mod n (b^i);have a:=Nat.div_add_mod (n/b^i) (b^k);have d:b^i*(n/b^i)=b^i*(b^k*(n/b^i/b^k))+b^i*(n/b^i % b^k):=by rw[<-Nat.mul_add,a]
 rw[Nat.mul_add,Nat.mul_comm (n/b^i % b^k),Nat.mul_comm x];generalize b^i*(n/b^i % b^k)=p at*
 generalize b^i*(b^k*(n/b^i/b^k))=q at*
 generalize b^i*(n/b^i)=t at*
 generalize n % b^i=u at*
 generalize b^i*x=v at*
 clear a;omega
theorem Aa(a:0<b){n i k x j:Nat}(e:x<b^k):(n- (n/b^i % b^k)*b^i+x*b^i) /b^j % b=if i<=j/\j<i+k then x/b^ (j- i) % b else n/b^j % b:=by
 have c:n % b^i<b^i:=Nat.mod_lt _ (Nat.pow_pos a);rw[xP];by_cases d:j<i
 ·rw[xO a d,if_neg (by omega)]
  conv=>rhs;rw[<-Nat.div_add_mod n (b^i),Nat.add_comm,xO a d]
 ·rw[Ew a c (by omega)]
  by_cases f:j<i+k
  ·rw[if_pos ⟨by omega,f⟩,xO a (by omega)]
  ·rw[if_neg (by omega),Ew a e (by omega),Nat.div_div_eq_div_mul,Nat.div_div_eq_div_mul,<-Nat.pow_add,<-Nat.pow_add]
   congr 3;omega
theorem a2q(d:0<b){n i k x s:Nat}(j:x<b^k)(e:n<b^s)(l:i+k<=s):n- (n/b^i % b^k)*b^i+x*b^i<b^s:=by
 have f:n % b^i<b^i:=Nat.mod_lt _ (Nat.pow_pos d);rw[xP];have g:x+b^k*(n/b^i/b^k)<b^ (s- i):=by
  have h:n/b^i/b^k<b^ (s- i- k):=by
   rw[Nat.div_div_eq_div_mul,<-Nat.pow_add];refine Nat.div_lt_of_lt_mul ?_;rw[<-Nat.pow_add];have:i+k+(s- i- k)=s:=by omega
   rw[this];exact e
  have a:b^ (s- i)=b^k*b^ (s- i- k):=by rw[<-Nat.pow_add];congr 1;omega
  rw[a];have c:b^k*(n/b^i/b^k+1)<=b^k*b^ (s- i- k):=Nat.mul_le_mul_left _ h;rw[Nat.mul_add]at c;omega
 have a:b^s=b^i*b^ (s- i):=by rw[<-Nat.pow_add];congr 1;omega
 rw[a];have c:b^i*((x+b^k*(n/b^i/b^k))+1)<=b^i*b^ (s- i):=Nat.mul_le_mul_left _ g;rw[Nat.mul_add _ _ 1]at c;omega
end
theorem T7:0<cB:=by decide
theorem T8(n i:Nat):R6 n i=n/cB^i % cB:=rfl
theorem Zp(n i k:Nat):hZ n i k=n/cB^i % cB^k:=rfl
theorem IV(n i k x:Nat):uT n i k x=n- (n/cB^i % cB^k)*cB^i+x*cB^i:=rfl
theorem QR{n i k j:Nat}(a:j<k):R6 (hZ n i k) j=R6 n (i+j):=by rw[T8,Zp,Sz a,T8]
theorem sub_lt(n i k:Nat):hZ n i k<cB^k:=Nat.mod_lt _ (Nat.pow_pos T7)
theorem IW{n i k x j:Nat}(a:x<cB^k):R6 (uT n i k x) j=if i<=j/\j<i+k then R6 x (j- i)else R6 n j:=by
 rw[T8,IV,Aa T7 a,T8,T8]
theorem Zq{n i k x s:Nat}(a:x<cB^k)(c:n<cB^s)(d:i+k<=s):uT n i k x<cB^s:=a2q T7 a c d
theorem Wi(n i:Nat):R6 n i<cB:=Nat.mod_lt _ T7
theorem Y8{n:Nat}(h:n<cB):R6 n 0=n:=by rw[T8,Nat.pow_zero,Nat.div_one,Nat.mod_eq_of_lt h]
theorem rT(n i:Nat):R6 (n/cB) i=R6 n (i+1):=by
 rw[T8,T8,Nat.div_div_eq_div_mul,<-Nat.pow_succ']
theorem Ex{x y s j:Nat}(a:x<cB^s):R6 (x+y*cB^s) j=if j<s then R6 x j else R6 y (j- s):=by
 rw[Nat.mul_comm y];by_cases h:j<s
 ·rw[if_pos h,T8,xO T7 h,T8]
 ·rw[if_neg h,T8,Ew T7 a (by omega),T8]
theorem IX{x y s k:Nat}(d:x<cB^s)(a:y<cB^k):x+y*cB^s<cB^ (s+k):=by
 rw[Nat.pow_add];have c:cB^s*(y+1)<=cB^s*cB^k:=Nat.mul_le_mul_left _ a;rw[Nat.mul_add]at c;rw[Nat.mul_comm y];omega
end Go.Abs
end
section
namespace Go.Abs
section
variable {H:Nat->Option Hd} {c:Nat} {v:Value}
theorem fS(k n:Nat):P8 k n=128*n+8*k:=rfl
theorem dS(r o:Nat):kN r o=8*(r*1048576+o)+4:=rfl
theorem kK(r o l e f:Nat):Ar r o l e f=8*(2*(256*(1048576*(r*1048576+o)+l)+e)+f)+5:=rfl
theorem dT(r:Nat):iQ r=8*r+6:=rfl
theorem Y9(f r:Nat):vM f r=8*(r*65536+f)+7:=rfl
theorem dU(k:IntKind):1<=F6 k/\F6 k<=8:=by cases k<;>decide
theorem lS{k k':IntKind}(h:F6 k=F6 k'):k=k':=by cases k<;>cases k'<;>first|rfl|(exact absurd h (by decide))
theorem j5.lt(h:j5 H c v):3<=c/\c<cB:=by
 cases h with
 |int k n a=>have:=dU k;rw[fS];simp only[cB];omega
 |ptr r off hd b d a=>rw[dS];simp only[cB];omega
 |sl r off len i e hd b g cap d a j l m=>rw[kK];simp only[cB];omega
 |map r hd b d=>rw[dT];simp only[cB];omega
 |HE f a=>rw[Y9];simp only[cB];omega
 |fn f r hd o p d a=>rw[Y9];simp only[cB];omega
 |_=>simp only[cB];omega
theorem xQ(c:Nat):zT c=c % 8:=rfl
theorem jS:rM c=true↔c % 8=0:=by simp[rM,xQ]
theorem X0:zU c=true↔c % 8=4:=by simp[zU,xQ]
theorem X1:JI c=true↔c % 8=5:=by simp[JI,xQ]
theorem rU:XS c=true↔c % 8=6:=by simp[XS,xQ]
theorem j5.isInt(h:j5 H c v)(hi:rM c=true):∃k,BZ c=F6 k/\v=.int k ((s8 c:Nat) - (cZ:Int))/\c=P8 (F6 k) (s8 c)/\s8 c<73786976294838206464:=by
 rw[jS]at hi;cases h with
 |int k n a=>
  have m:=dU k;have d:s8 (P8 (F6 k) n)=n:=by show(128*n+8*F6 k) /128=n;omega
  have j:BZ (P8 (F6 k) n)=F6 k:=by show(128*n+8*F6 k) % 128/8=F6 k;omega
  exact⟨k,j,by rw[d],by rw[d],by rw[d];exact a⟩
 |ptr r off hd b e a=>rw[dS]at hi;omega
 |sl r off len l g hd b i cap e a o p q=>rw[kK]at hi;omega
 |map r hd b e=>rw[dT]at hi;omega
 |HE f a=>rw[Y9]at hi;omega
 |fn f r hd s t e a=>rw[Y9]at hi;omega
 |_=>omega
theorem j5.isBool(h:j5 H c v):(c=17->v=.bool true)/\(c=9->v=.bool false):=by
 constructor<;>intro e<;>cases h with
 |int k n a=>have l:=dU k;rw[fS]at e;omega
 |ptr r off hd b d a=>rw[dS]at e;omega
 |sl r off len j g hd b i cap d a m o p=>rw[kK]at e;omega
 |map r hd b d=>rw[dT]at e;omega
 |HE f a=>rw[Y9]at e;omega
 |fn f r hd q s d a=>rw[Y9]at e;omega
 |_=>first|rfl|(exact absurd e (by decide))
theorem j5.oG(h:j5 H c v)(hi:zU c=true):∃hd b,H (pR c)=some hd/\hd.base=some b/\v=.pointer (some ⟨b,pO c,none⟩)/\c=kN (pR c) (pO c)/\pR c<1048576/\pO c<1048576:=by
 rw[X0]at hi;cases h with
 |ptr r off hd b d a e g=>
  have l:pR (kN r off)=r:=by show(8*(r*1048576+off)+4) /8388608=r;omega
  have m:pO (kN r off)=off:=by show(8*(r*1048576+off)+4) /8 % 1048576=off;omega
  rw[l,m];exact⟨hd,b,e,g,rfl,rfl,d,a⟩
 |int k n a=>rw[fS]at hi;omega
 |sl r off len o i hd b j cap d a e g p=>rw[kK]at hi;omega
 |map r hd b d=>rw[dT]at hi;omega
 |HE f a=>rw[Y9]at hi;omega
 |fn f r hd q s d a=>rw[Y9]at hi;omega
 |_=>omega
theorem j5.uB(h:j5 H c v)(hi:JI c=true):∃hd b a cap,H (sR c)=some hd/\hd.base=some b/\v=.slice (some ⟨b,a,none⟩) (sL c) cap/\sL c<=cap/\(sF c=1->cap=sL c)/\(cap=0\/a=sO c)/\sO c+cap*sE c<=hd.sz/\
  c=Ar (sR c) (sO c) (sL c) (sE c) (sF c)/\sR c<1048576/\sO c<1048576/\sL c<1048576/\sE c<256/\sF c<2:=by
 rw[X1]at hi;cases h with
 |sl r off len yO full hd b a cap e d i j l m o p q s g=>
  have t:sR (Ar r off len yO full)=r:=by show(8*(2*(256*(1048576*(r*1048576+off)+len)+yO)+full)+5) /4503599627370496=r;omega
  have u:sO (Ar r off len yO full)=off:=by show(8*(2*(256*(1048576*(r*1048576+off)+len)+yO)+full)+5) /4294967296 % 1048576=off;omega
  have w:sL (Ar r off len yO full)=len:=by show(8*(2*(256*(1048576*(r*1048576+off)+len)+yO)+full)+5) /4096 % 1048576=len;omega
  have x:sE (Ar r off len yO full)=yO:=by show(8*(2*(256*(1048576*(r*1048576+off)+len)+yO)+full)+5) /16 % 256=yO;omega
  have y:sF (Ar r off len yO full)=full:=by show(8*(2*(256*(1048576*(r*1048576+off)+len)+yO)+full)+5) /8 % 2=full;omega
  rw[t,u,w,x,y];exact⟨hd,b,a,cap,m,o,rfl,p,q,s,g,rfl,e,d,i,j,l⟩
 |int k n d=>rw[fS]at hi;omega
 |ptr r off hd b e d=>rw[dS]at hi;omega
 |map r hd b e=>rw[dT]at hi;omega
 |HE f d=>rw[Y9]at hi;omega
 |fn f r hd z A e d=>rw[Y9]at hi;omega
 |_=>omega
theorem j5.isMap(h:j5 H c v)(hi:XS c=true):∃hd b,H (mR c)=some hd/\hd.base=some b/\v=.map (some b)/\c=iQ (mR c)/\mR c<1048576:=by
 rw[rU]at hi;cases h with
 |map r hd b d a e=>
  have j:mR (iQ r)=r:=by show(8*r+6) /8=r;omega
  rw[j];exact⟨hd,b,a,e,rfl,rfl,d⟩
 |int k n a=>rw[fS]at hi;omega
 |ptr r off hd b d a=>rw[dS]at hi;omega
 |sl r off len l g hd b i cap d a e m o=>rw[kK]at hi;omega
 |HE f a=>rw[Y9]at hi;omega
 |fn f r hd p q d a=>rw[Y9]at hi;omega
 |_=>omega
theorem j5.isNil(h:j5 H c v):(c=25->v=.slice none 0 0)/\(c=33->v=.pointer none)/\(c=41->v=.map none)/\(c=49->v=.nilFunc):=by
 refine⟨fun e=>?_,fun e=>?_,fun e=>?_,fun e=>?_⟩<;>cases h with
 |int k n a=>have l:=dU k;rw[fS]at e;omega
 |ptr r off hd b d a=>rw[dS]at e;omega
 |sl r off len j g hd b i cap d a m o p=>rw[kK]at e;omega
 |map r hd b d=>rw[dT]at e;omega
 |HE f a=>rw[Y9]at e;omega
 |fn f r hd q s d a=>rw[Y9]at e;omega
 |_=>first|rfl|(exact absurd e (by decide))
theorem j5.Zr(h:j5 H c v)(hi:c % 8=7):(fR c=0/\v=.func (.func (fF c)) #[] #[])\/∃r hd a ca,fR c=r+1/\H r=some hd/\hd.base=none/\hd.sz=a.size+4096*ca.size/\a.size<4096/\r<1048575/\
  (∀ (i:Nat) (v:Value),a[i]? =some v->j5 H (R6 hd.len i) v)/\(∀ (i:Nat) (v:Value),ca[i]? =some v->j5 H (R6 hd.cap i) v)/\v=.func (.func (fF c)) a ca:=by
 cases h with
 |HE f d=>
  have g:fR (vM f 0)=0:=by show(8*(0*65536+f)+7) /524288=0;omega
  have j:fF (vM f 0)=f:=by show(8*(0*65536+f)+7) /8 % 65536=f;omega
  rw[g,j];exact .inl ⟨rfl,rfl⟩
 |fn f r hd a ca e d l m o s t u=>
  have g:fR (vM f (r+1))=r+1:=by show(8*((r+1)*65536+f)+7) /524288=r+1;omega
  have j:fF (vM f (r+1))=f:=by show(8*((r+1)*65536+f)+7) /8 % 65536=f;omega
  rw[g,j];exact .inr ⟨r,hd,a,ca,rfl,l,m,o,s,e,t,u,rfl⟩
 |int k n d=>rw[fS]at hi;omega
 |ptr r off hd b e d=>rw[dS]at hi;omega
 |sl r off len w p hd b q cap e d l m o=>rw[kK]at hi;omega
 |map r hd b e=>rw[dT]at hi;omega
 |_=>omega
theorem j5.one(h:j5 H c v):one v=true:=by cases h<;>rfl
end
def u7(K:j0)(H:Nat->Option Hd):BV->Value->Prop
 |.c n,v=>(n=1/\v=.tuple #[])\/(n=2/\∃l,K.y=some l/\v=.func (.yield l) #[] #[])\/j5 H n v
 |.a k n,v=>I1 H (k+1) n v
 |.t l,v=>∃vs:Array Value,v=.tuple vs/\vs.size=l.length/\∀ (i:Nat) (p:Nat×Nat) (x:Value),l[i]? =some p->vs[i]? =some x->I1 H p.1 p.2 x
 |.u,_=>True
def Q2:BV->a7
 |.c n=>if n=1 then .I9 []else if n=2 then .J2 else if n=9 then .bool false else if n=17 then .bool true else .Bu 0 n
 |.a k n=>.Bu (k+1) n
 |.t l=>.I9 (l.map fun p=>.Bu p.1 p.2)
 |.u=>.R3
section
variable {K:j0} {H:Nat->Option Hd}
theorem xR:∀ (l:List (Nat×Nat)) (vs:List Value),(c9 K H (l.map fun p=>.Bu p.1 p.2) vs↔vs.length=l.length/\∀ (i:Nat) (p:Nat×Nat) (x:Value),l[i]? =some p->vs[i]? =some x->I1 H p.1 p.2 x)
 |[],vs=>by
  simp only[List.map_nil,c9.H8];constructor
  ·rintro rfl;exact⟨rfl,fun i p x h=>by simp at h⟩
  ·rintro⟨h,_⟩;exact List.length_eq_zero_iff.1 h
 |p::l,vs=>by
  constructor
  ·intro h;obtain⟨c,cs,rfl,d,e⟩:=c9.inv (by simpa using h)
   obtain⟨f,g2⟩:=(xR l cs).1 e;refine⟨by simp[f],fun i q x a b=>?_⟩
   cases i with
   |zero=>simp at a b;subst a;subst b;simpa only[c8]using d
   |succ i=>exact g2 i q x (by simpa using a) (by simpa using b)
  ·rintro⟨d,e⟩;cases vs with
   |nil=>simp at d
   |cons c cs=>
    refine .cons (by simp only[c8];exact e 0 p c rfl rfl) ((xR l cs).2 ⟨by simpa using d,fun i q x a b=>e (i+1) q x (by simpa using a) (by simpa using b)⟩)
theorem u7.Q2{x:BV}{v:Value}(h:u7 K H x v):c8 K H (Q2 x) v:=by
 cases x with
 |u=>simp[Abs.Q2,c8]
 |a k n=>simp only[Abs.Q2,c8];exact h
 |t l=>
  obtain⟨vs,rfl,b,d⟩:=h;simp only[Abs.Q2,c8];exact⟨vs,rfl,(xR l _).2 ⟨by simpa using b,fun i p x f g=>d i p x f (by simpa using g)⟩⟩
 |c n=>
  simp only[Abs.Q2];rcases h with⟨rfl,rfl⟩|⟨rfl,l,b,rfl⟩|h
  ·simp[c8,c9]
  ·simp only[Nat.reduceEqDiff,if_false,if_true,c8];exact⟨l,b,rfl⟩
  ·have j:=h.lt.1;rw[if_neg (by omega),if_neg (by omega)]
   split
   ·rename_i e;simp only[c8];exact h.isBool.2 e
   ·split
    ·rename_i e;simp only[c8];exact h.isBool.1 e
    ·simp only[c8];exact h
end
end Go.Abs
end
section
namespace Go.Abs
def I6(m:Mm):Hp:=fun r=>match m r with
 |some (.F8 o,.own)=>o
 |_=>.z
structure V4(F:Nat->Prop)(K:j0)(H:Nat->Option Hd)(w:World)(m:Mm)(nx:Nat)(v:BV)(new:List HO)(set:List (Nat×HO))(x:Value)(w':World)(K':j0)(H':Nat->Option Hd):Prop where
 le:K.le K'
 hle:bY H H'
 I2:∀r,H r=none->H' r≠none->nx<=r/\r<nx+new.length
 rep:u7 K' H' v x
 mem:j8 F K' H' w' (E8 (bB m set) nx (new.map .F8))
 ok:J0 F K' w'
 kept:Kept F w w'
 fix:Fix F K K'
def B3(P:Program)(F:Nat->Prop)(K:j0)(H:Nat->Option Hd)(w:World)(m:Mm)(nx:Nat)(v:BV)(new:List HO)(set:List (Nat×HO)):Result Next->Prop
 |.ok (.value x) w'=>∃K' H',V4 F K H w m nx v new set x w' K' H'
 |.ok .skip w'=>∃K' H',V4 F K H w m nx v new set (.tuple #[]) w' K' H'
 |.ok (.enter f args) w'=>w'=w/\Calls P f args w (fun e a=>∃x K' H',e=.returned x/\V4 F K H w m nx v new set x a K' H')
 |_=>False
theorem J8{α:Type}(n:Nat)(k:Nat->α):fN n k=k n:=by cases n<;>rfl
theorem j2{α:Type}(b:Bool)(t f:α):iB b t f=if b then t else f:=by cases b<;>rfl
section
variable {v:BV} {new:List HO} {set:List (Nat×HO)} {rd:List Nat}
theorem c6{b:Bool}{c:Nat}{k:l8}(h:nB b c k=.ok v new set rd):b=true/\k=.ok v new set rd:=by
 cases b
 ·cases h
 ·exact⟨rfl,h⟩
theorem z7{x:BV}{k:Nat->l8}(h:vC x k=.ok v new set rd):∃n,x=.c n/\k n=.ok v new set rd:=by
 cases x with
 |c n=>exact⟨n,rfl,h⟩
 |_=>cases h
theorem jT{x:BV}{k:Nat->Nat->l8}(h:vR x k=.ok v new set rd):∃s n,((x=.c n/\s=1/\3<=n)\/x=.a s n)/\k s n=.ok v new set rd:=by
 cases x with
 |c n=>
  obtain⟨b,d⟩:=c6 (show nB (Nat.ble 3 n) 5 (k 1 n)=_ from h);exact⟨1,n,.inl ⟨rfl,rfl,Nat.le_of_ble_eq_true b⟩,d⟩
 |a s n=>exact⟨s,n,.inr rfl,h⟩
 |_=>cases h
theorem Bf{x:BV}{k:Nat->l8}(h:vI x k=.ok v new set rd):∃c,x=.c c/\rM c=true/\cZ<=s8 c/\k (s8 c- cZ)=.ok v new set rd:=by
 obtain⟨c,e,a⟩:=z7 h;obtain⟨b,d⟩:=c6 a;obtain⟨f,g⟩:=c6 d;exact⟨c,e,b,Nat.le_of_ble_eq_true f,g⟩
end
section
variable {P:Program} {F:Nat->Prop} {K:j0} {H:Nat->Option Hd} {w:World} {m:Mm} {nx:Nat} {v:BV} {new:List HO} {set:List (Nat×HO)} {rd:List Nat} {ev:Operand->BV} {ρ:Operand->Value}
theorem u7.cell{n:Nat}{x:Value}(h:u7 K H (.c n) x)(a:3<=n):j5 H n x:=by
 rcases h with⟨rfl,_⟩|⟨rfl,_⟩|h
 ·omega
 ·omega
 ·exact h
theorem u7.int{n:Nat}{x:Value}(h:u7 K H (.c n) x)(hi:rM n=true):∃k,BZ n=F6 k/\x=.int k ((s8 n:Nat) - (cZ:Int))/\n=P8 (F6 k) (s8 n)/\s8 n<73786976294838206464:=by
 rcases h with⟨rfl,_⟩|⟨rfl,_⟩|h
 ·cases hi
 ·cases hi
 ·exact h.isInt hi
theorem u7.bool{n:Nat}{x:Value}(h:u7 K H (.c n) x):(n=17->x=.bool true)/\(n=9->x=.bool false):=by
 constructor<;>intro e<;>subst e
 ·exact(h.cell (by omega)).isBool.1 rfl
 ·exact(h.cell (by omega)).isBool.2 rfl
theorem u7.row{x:BV}{s n:Nat}{y:Value}(h:u7 K H x y)(g:(x=.c n/\s=1/\3<=n)\/x=.a s n):w9 H s n y.cells.toList:=by
 rcases g with⟨rfl,rfl,j⟩|rfl
 ·have b:=h.cell j;have f:=b.lt;refine⟨by rw[Nat.pow_one];exact f.2,?_,?_⟩
  ·cases b<;>rfl
  ·intro i z d;have e:y.cells.toList=[y]:=by cases b<;>rfl
   rw[e]at d;cases i with
   |zero=>simp at d;subst d;rw[Y8 f.2];exact b
   |succ i=>simp at d
 ·obtain⟨cs,rfl,k⟩:=h;exact k
theorem Z0(b:Bool):u7 K H (.c (G8 b)) (.bool b):=by
 cases b
 ·exact .inr (.inr .Bv)
 ·exact .inr (.inr .Tm)
theorem Wj{k:IntKind}{n:Nat}(a:kLo (F6 k)<=n)(b:n<=kHi (F6 k)):U1 k ((n:Int) - (cZ:Int)):=by
 unfold U1;cases k<;>simp only[F6,kLo,kHi,cZ]at a b<;>simp only[IntKind.wrap,IntKind.bits,IntKind.signed,cZ]<;>simp<;>omega
theorem IY{k:IntKind}{n:Nat}(h:dY (F6 k) n=.ok v new set rd):U1 k ((n:Int) - (cZ:Int))/\new=[]/\set=[]/\rd=[]/\v=.c (P8 (F6 k) n)/\u7 K H v (.int k ((n:Int) - (cZ:Int))):=by
 obtain⟨b,d⟩:=c6 h;obtain⟨a,e⟩:=c6 d;have b:=Nat.le_of_ble_eq_true b;have a:=Nat.le_of_ble_eq_true a;cases e;refine⟨Wj b a,rfl,rfl,rfl,rfl,.inr (.inr (.int k n ?_))⟩;cases k<;>simp only[F6,kHi,cZ]at a<;>omega
theorem s5(l9:J0 F K w)(hm:j8 F K H w m){x:Value}(h:u7 K H v x):B3 P F K H w m nx v [] [] (.ok (.value x) w):=
 ⟨K,H,.refl K,.refl H,fun _ h a=>absurd h a,h,hm,l9,.refl F w,.refl F K⟩
variable (l9:J0 F K w) (hm:j8 F K H w m) (n0:∀x,u7 K H (ev x) (ρ x))
include l9 hm n0
theorem Wk(o:Oper){x:Operand}(a:o.op=.move x\/o.op=.assign x)(h:vN (ev x)=.ok v new set rd):B3 P F K H w m nx v new set ((execOp ρ o).run P w):=by
 cases h;have e:(execOp ρ o).run P w=.ok (.value (ρ x)) w:=by
  rcases a with a|a<;>simp[execOp,a]
 rw[e];exact s5 l9 hm (n0 x)
theorem a2r(o:Oper){c a b:Operand}(g:o.op=.pick c a b)(h:QL (ev c) (ev a) (ev b)=.ok v new set rd):B3 P F K H w m nx v new set ((execOp ρ o).run P w):=by
 obtain⟨n,e,h⟩:=z7 h;have i:=e▸n0 c;rw[j2]at h;split at h
 ·rename_i d;cases h;have f:=i.bool.1 (Nat.eq_of_beq_eq_true d);simp only[execOp,g,f,asBool,Sem.run_bind,Sem.run_pure,Result.andThen_ok];exact s5 l9 hm (n0 a)
 ·obtain⟨j,h⟩:=c6 h;cases h;have f:=i.bool.2 (Nat.eq_of_beq_eq_true j);simp only[execOp,g,f,asBool,Sem.run_bind,Sem.run_pure,Result.andThen_ok];exact s5 l9 hm (n0 b)
theorem OV(o:Oper){x:Operand}(g:o.op=.nilCheck x)(h:rN (ev x)=.ok v new set rd):B3 P F K H w m nx v new set ((execOp ρ o).run P w):=by
 obtain⟨c,e,h⟩:=z7 h;obtain⟨a,h⟩:=c6 h;cases h;have i:=e▸n0 x;have f:(execOp ρ o).run P w=.ok (.value (ρ x)) w:=by
  rw[j2]at a;have d:j5 H c (ρ x):=by
   rcases i with⟨rfl,_⟩|⟨rfl,_⟩|d
   ·exact absurd a (by decide)
   ·exact absurd a (by decide)
   ·exact d
  split at a
  ·rename_i j;obtain⟨hd,b,_,_,ev,_⟩:=d.oG j;simp only[execOp,g,ev,Sem.run_pure]
  ·have k:c % 8=7:=by simpa [xQ]using a
   rcases d.Zr k with⟨_,ev⟩|⟨r,hd,l,n,_,_,_,_,_,_,_,_,ev⟩<;>simp only[execOp,g,ev,Sem.run_pure]
 rw[f];exact s5 l9 hm i
theorem a2s(o:Oper){op:UnOp}{t:TypeId}{x:Operand}(a:o.op=.unOp op t x)(h:xUn op (ev x)=.ok v new set rd):B3 P F K H w m nx v new set ((execOp ρ o).run P w):=by
 cases op with
 |neg=>
  obtain⟨c,e,h⟩:=z7 (show Ze (ev x)=_ from h);obtain⟨l,h⟩:=c6 h;obtain⟨b,h⟩:=c6 h;have b:=Nat.le_of_ble_eq_true b;obtain⟨k,n,p,_⟩:=(e▸n0 x).int l;rw[n]at h;have q:s8 c<=9223372036854775808+9223372036854775808:=b;have r:((Nat.sub (Nat.add cZ cZ) (s8 c):Nat):Int) - (cZ:Int)=0- ((s8 c:Nat) - (cZ:Int)):=by
   show((9223372036854775808+9223372036854775808- s8 c:Nat):Int) - 9223372036854775808=0- ((s8 c:Int) - 9223372036854775808);omega
  obtain⟨g,rfl,rfl,rfl,_,i⟩:=IY (K:=K) (H:=H) h;rw[r]at g i;simp only[execOp,a,p,Op.unary];rw[j1 (x:=.int k (0- ((s8 c:Nat) - (cZ:Int)))) (w':=w) (by
   have s:k.wrap (0- ((s8 c:Nat) - (cZ:Int)))=0- ((s8 c:Nat) - (cZ:Int)):=g
   simp only[Op.intArith,s];simp)]
  exact s5 l9 hm i
 |not=>
  obtain⟨c,e,h⟩:=z7 (show Zd (ev x)=_ from h);have j:=e▸n0 x;rw[j2]at h;split at h
  ·rename_i d;cases h;have f:=j.bool.1 (Nat.eq_of_beq_eq_true d);simp only[execOp,a,f,Op.unary];rw[j1 (x:=.bool false) (w':=w) (by simp)]
   exact s5 l9 hm (Z0 false)
  ·obtain⟨u,h⟩:=c6 h;cases h;have f:=j.bool.2 (Nat.eq_of_beq_eq_true u);simp only[execOp,a,f,Op.unary];rw[j1 (x:=.bool true) (w':=w) (by simp)]
   exact s5 l9 hm (Z0 true)
 |xor=>cases h
 |plus=>cases h
theorem SA(o:Oper){s a:TypeId}{x:Operand}(g:o.op=.convert s a x)(h:QM P s a (ev x)=.ok v new set rd):B3 P F K H w m nx v new set ((execOp ρ o).run P w):=by
 obtain⟨c,e,h⟩:=z7 h;obtain⟨i,h⟩:=c6 h;obtain⟨j,h⟩:=c6 h;obtain⟨u,y,k,_⟩:=(e▸n0 x).int i;obtain⟨z,l⟩:=Option.isSome_iff_exists.1 j;unfold kdT at h;split at h
 ·rename_i f n;obtain⟨p,rfl,rfl,rfl,_,q⟩:=IY (K:=K) (H:=H) h;have r:f.wrap ((s8 c:Nat) - (cZ:Int))=(s8 c:Nat) - (cZ:Int):=p;simp only[execOp,g,k];rw[j1 (x:=.int f ((s8 c:Nat) - (cZ:Int))) (w':=w) ?_]
  ·exact s5 l9 hm q
  ·simp only[convert,Sem.run_bind,u3 l,u3 n,Result.andThen_ok];simp only[Conv.intToInt];rw[r];rfl
 ·obtain⟨_,h⟩:=c6 h;obtain⟨b,h⟩:=c6 h;rename_i t;obtain⟨d,_⟩:=c6 (show nB (Nat.ble (kLo 0) (s8 c)) 10 (nB (Nat.ble (s8 c) (kHi 0)) 11 (kM (P8 0 (s8 c))))=_ from by assumption)
  have d:=Nat.le_of_ble_eq_true d;have b:=Nat.le_of_ble_eq_true b;simp only[kLo,kHi,cZ]at b d;omega
end
end Go.Abs
end
section
namespace Go.Abs
section
variable {P:Program} {F:Nat->Prop} {K:j0} {H:Nat->Option Hd} {w:World} {m:Mm} {nx:Nat} {v:BV} {new:List HO} {set:List (Nat×HO)} {rd:List Nat} {ev:Operand->BV} {ρ:Operand->Value}
theorem Zs{b:Bool}(h:Sr b=.ok v new set rd):v=.c (G8 b)/\new=[]/\set=[]/\rd=[]:=by cases h;exact⟨rfl,rfl,rfl,rfl⟩
theorem Cb{k:IntKind}{a b:Nat}(c:a=P8 (F6 k) (s8 a))(d:b=P8 (F6 k) (s8 b)):(a<b↔s8 a<s8 b)/\(a<=b↔s8 a<=s8 b)/\(a=b↔s8 a=s8 b):=by
 rw[fS]at c d;refine⟨⟨fun h=>?_,fun h=>?_⟩,⟨fun h=>?_,fun h=>?_⟩,⟨fun h=>?_,fun h=>?_⟩⟩<;>omega
theorem LR{k k':IntKind}{a b:Nat}(c:a=P8 (F6 k) (s8 a))(d:b=P8 (F6 k') (s8 b))(h:Nat.beq (Nat.mod a 128) (Nat.mod b 128)=true):k=k':=by
 have h:=Nat.eq_of_beq_eq_true h;have h:a % 128=b % 128:=h;have e:=dU k;have f:=dU k';rw[fS]at c d;exact lS (by omega)
theorem Wl{x y:Nat}(h:QK x y=true):((mulC x y:Nat):Int) - (cZ:Int)=((x:Int) - (cZ:Int))*((y:Int) - (cZ:Int)):=by
 unfold QK at h;unfold mulC;generalize cZ=z at h ⊢;simp only[j2,Nat.ble_eq]at h ⊢;by_cases d:z<=x
 ·rw[if_pos d]at h ⊢;obtain⟨p,rfl⟩:=Nat.exists_eq_add_of_le d;have c:((z+p:Nat):Int) - (z:Int)=p:=by omega
  by_cases a:z<=y
  ·rw[if_pos a];obtain⟨q,rfl⟩:=Nat.exists_eq_add_of_le a;have b:((z+q:Nat):Int) - (z:Int)=q:=by omega
   show((z+(z+p- z)*(z+q- z):Nat):Int) - (z:Int)=_;rw[Nat.add_sub_cancel_left,Nat.add_sub_cancel_left,c,b,Int.natCast_add,Int.natCast_mul];omega
  ·rw[if_neg a]at h ⊢;obtain⟨q,f⟩:=Nat.exists_eq_add_of_le (Nat.le_of_lt (Nat.lt_of_not_le a));have h:(z+p- z)*(z- y)<=z:=Nat.le_of_ble_eq_true h;show((z- (z+p- z)*(z- y):Nat):Int) - (z:Int)=_;rw[Nat.add_sub_cancel_left]at h ⊢;have e:z- y=q:=by omega
   rw[e]at h ⊢;have b:(y:Int) - (z:Int)= -(q:Int):=by omega
   rw[c,b,Int.mul_neg,<-Int.natCast_mul];omega
 ·rw[if_neg d]at h ⊢;obtain⟨p,i⟩:=Nat.exists_eq_add_of_le (Nat.le_of_lt (Nat.lt_of_not_le d));have e:z- x=p:=by omega
  have c:(x:Int) - (z:Int)= -(p:Int):=by omega
  by_cases a:z<=y
  ·rw[if_pos a]at h ⊢;obtain⟨q,rfl⟩:=Nat.exists_eq_add_of_le a;have h:(z- x)*(z+q- z)<=z:=Nat.le_of_ble_eq_true h;show((z- (z- x)*(z+q- z):Nat):Int) - (z:Int)=_;rw[Nat.add_sub_cancel_left]at h ⊢;rw[e]at h ⊢;have b:((z+q:Nat):Int) - (z:Int)=q:=by omega
   rw[c,b,Int.neg_mul,<-Int.natCast_mul];omega
  ·rw[if_neg a];obtain⟨q,f⟩:=Nat.exists_eq_add_of_le (Nat.le_of_lt (Nat.lt_of_not_le a));have g:z- y=q:=by omega
   have b:(y:Int) - (z:Int)= -(q:Int):=by omega
   show((z+(z- x)*(z- y):Nat):Int) - (z:Int)=_;rw[e,g,c,b,Int.neg_mul_neg,Int.natCast_add,Int.natCast_mul];omega
theorem Ey{f:Nat->Nat->Nat}{k:IntKind}{a b:Nat}(c:BZ a=F6 k)(h:VU f a b=.ok v new set rd):k=.i64/\dY (F6 .i64) ((f (VT a) (VT b)+cZ) % 18446744073709551616)=.ok v new set rd:=by
 obtain⟨d,e⟩:=c6 h;rw[c]at d;exact⟨lS (Nat.eq_of_beq_eq_true d),e⟩
theorem rV(a:Nat):(BitVec.ofInt 64 (((s8 a:Nat):Int) - (cZ:Int))).toNat=VT a:=by
 rw[BitVec.toNat_ofInt];show((((s8 a:Nat):Int) - 9223372036854775808) % 18446744073709551616).toNat=(s8 a+9223372036854775808) % 18446744073709551616;omega
theorem Ez(r:Nat):IntKind.i64.wrap (r:Int)=(((r+cZ) % 18446744073709551616:Nat):Int) - (cZ:Int):=by
 rw[IntKind.wrap_i64];show((r:Int)+9223372036854775808) % 18446744073709551616- 9223372036854775808=(((r+9223372036854775808) % 18446744073709551616:Nat):Int) - 9223372036854775808;omega
theorem SB{a b:Nat}(_:a=P8 (F6 .i64) (s8 a))(_:b=P8 (F6 .i64) (s8 b)):gJ .and .i64 (((s8 a:Nat):Int) - (cZ:Int)) (((s8 b:Nat):Int) - (cZ:Int))=(((Nat.land (VT a) (VT b)+cZ) % 18446744073709551616:Nat):Int) - (cZ:Int):=by
 show IntKind.i64.wrap ((BitVec.ofInt 64 _ &&& BitVec.ofInt 64 _).toNat:Int)=_;rw[BitVec.toNat_and,rV,rV];exact Ez _
theorem Wm{a b:Nat}(_:a=P8 (F6 .i64) (s8 a))(_:b=P8 (F6 .i64) (s8 b)):gJ .or .i64 (((s8 a:Nat):Int) - (cZ:Int)) (((s8 b:Nat):Int) - (cZ:Int))=(((Nat.lor (VT a) (VT b)+cZ) % 18446744073709551616:Nat):Int) - (cZ:Int):=by
 show IntKind.i64.wrap ((BitVec.ofInt 64 _|||BitVec.ofInt 64 _).toNat:Int)=_;rw[BitVec.toNat_or,rV,rV];exact Ez _
theorem Wn{a b:Nat}(_:a=P8 (F6 .i64) (s8 a))(_:b=P8 (F6 .i64) (s8 b)):gJ .xor .i64 (((s8 a:Nat):Int) - (cZ:Int)) (((s8 b:Nat):Int) - (cZ:Int))=(((Nat.xor (VT a) (VT b)+cZ) % 18446744073709551616:Nat):Int) - (cZ:Int):=by
 show IntKind.i64.wrap ((BitVec.ofInt 64 _^^^BitVec.ofInt 64 _).toNat:Int)=_;rw[BitVec.toNat_xor,rV,rV];exact Ez _
theorem Wo{op:BinOp}{k:IntKind}{a b:Nat}{t:TypeId}{ox oy:Operand}(N:O9 op=0)(u:a=P8 (F6 k) (s8 a))(l:b=P8 (F6 k) (s8 b))(d:BZ a=F6 k)
  (h:Ss op a b=.ok v new set rd):new=[]/\set=[]/\rd=[]/\∃z,u7 K H v z/\(do eqGuard op t ox oy (.int k ((s8 a:Nat) - (cZ:Int))) (.int k ((s8 b:Nat) - (cZ:Int)));binOp op t (.int k ((s8 a:Nat) - (cZ:Int))) (.int k ((s8 b:Nat) - (cZ:Int))):Sem Value).run P w=.ok z w:=by
 have E:∀n:Int,c8 K H (.int k n) (.int k n):=fun n=>by simp[c8]
 have G:∀ (kk:a7->Prop) (z:Value),(∀x y,kk x->c8 K H x y->y=z)->W4 P op t (.int k ((s8 a:Nat) - (cZ:Int))) (.int k ((s8 b:Nat) - (cZ:Int))) kk->
   (do eqGuard op t ox oy (.int k ((s8 a:Nat) - (cZ:Int))) (.int k ((s8 b:Nat) - (cZ:Int)));binOp op t (.int k ((s8 a:Nat) - (cZ:Int))) (.int k ((s8 b:Nat) - (cZ:Int))):Sem Value).run P w=.ok z w:=by
  intro kk z g c;obtain⟨x,y,O,g2,I⟩:=dQ (w:=w) (ox:=ox) (oy:=oy) (E _) (E _) c;rw[g x y O g2]at I;exact I
 have num:∀ (n:Nat) (z:Int),((n:Nat):Int) - (cZ:Int)=z->dY (F6 k) n=.ok v new set rd->(U1 k z->W4 P op t (.int k ((s8 a:Nat) - (cZ:Int))) (.int k ((s8 b:Nat) - (cZ:Int))) (fun x=>x=.int k z))->
   new=[]/\set=[]/\rd=[]/\∃z,u7 K H v z/\(do eqGuard op t ox oy (.int k ((s8 a:Nat) - (cZ:Int))) (.int k ((s8 b:Nat) - (cZ:Int)));binOp op t (.int k ((s8 a:Nat) - (cZ:Int))) (.int k ((s8 b:Nat) - (cZ:Int))):Sem Value).run P w=.ok z w:=by
  intro n z R A l;obtain⟨r,rfl,rfl,rfl,_,J⟩:=IY (K:=K) (H:=H) A;rw[R]at r J;exact⟨rfl,rfl,rfl,_,J,G _ (.int k z) (fun x y e B=>by subst e;exact S1 B) (l r)⟩
 have o:∀ (p q:Bool),Sr p=.ok v new set rd->p=q->W4 P op t (.int k ((s8 a:Nat) - (cZ:Int))) (.int k ((s8 b:Nat) - (cZ:Int))) (fun x=>x=.bool q)->
   new=[]/\set=[]/\rd=[]/\∃z,u7 K H v z/\(do eqGuard op t ox oy (.int k ((s8 a:Nat) - (cZ:Int))) (.int k ((s8 b:Nat) - (cZ:Int)));binOp op t (.int k ((s8 a:Nat) - (cZ:Int))) (.int k ((s8 b:Nat) - (cZ:Int))):Sem Value).run P w=.ok z w:=by
  intro p q A e l;obtain⟨rfl,rfl,rfl,rfl⟩:=Zs A;subst e;exact⟨rfl,rfl,rfl,_,Z0 p,G _ (.bool p) (fun x y e B=>by subst e;exact X9 B) l⟩
 obtain⟨S,T,U⟩:=Cb u l;cases op<;>first|(exact absurd N (by decide))|skip
 case add=>
  obtain⟨g,c⟩:=c6 (show nB (Nat.ble cZ (Nat.add (s8 a) (s8 b))) 13 (dY (BZ a) (Nat.sub (Nat.add (s8 a) (s8 b)) cZ))=_ from h);have g:cZ<=s8 a+s8 b:=Nat.le_of_ble_eq_true g;rw[d]at c;refine num _ _ ?_ c (fun s=>by simp only[W4,if_true];exact⟨s,by first|trivial|rfl⟩)
  show((s8 a+s8 b- cZ:Nat):Int) - (cZ:Int)=_;generalize cZ=z at*
  omega
 case sub=>
  obtain⟨g,c⟩:=c6 (show nB (Nat.ble (s8 b) (Nat.add (s8 a) cZ)) 14 (dY (BZ a) (Nat.sub (Nat.add (s8 a) cZ) (s8 b)))=_ from h);have g:s8 b<=s8 a+cZ:=Nat.le_of_ble_eq_true g;rw[d]at c;refine num _ _ ?_ c (fun s=>by simp only[W4,if_true];exact⟨s,by first|trivial|rfl⟩)
  show((s8 a+cZ- s8 b:Nat):Int) - (cZ:Int)=_;generalize cZ=z at*
  omega
 case mul=>
  obtain⟨g,c⟩:=c6 (show nB (QK (s8 a) (s8 b)) 15 (dY (BZ a) (mulC (s8 a) (s8 b)))=_ from h);rw[d]at c;exact num _ _ (Wl g) c (fun s=>by simp only[W4,if_true];exact⟨s,by first|trivial|rfl⟩)
 case quo=>
  obtain⟨g,c⟩:=c6 (show nB (Nat.ble cZ (s8 a)) 16 (nB (Nat.ble (Nat.succ cZ) (s8 b)) 17 (dY (BZ a) (Nat.add cZ (Nat.div (Nat.sub (s8 a) cZ) (Nat.sub (s8 b) cZ)))))=_ from h);obtain⟨r,c⟩:=c6 c;have g:cZ<=s8 a:=Nat.le_of_ble_eq_true g;have r:cZ+1<=s8 b:=Nat.le_of_ble_eq_true r;rw[d]at c;have i:((s8 a:Nat):Int) - (cZ:Int)=((s8 a- cZ:Nat):Int):=by generalize cZ=z at*;omega
  have j:((s8 b:Nat):Int) - (cZ:Int)=((s8 b- cZ:Nat):Int):=by generalize cZ=z at*;omega
  have C:(0:Int)<=((s8 a- cZ:Nat):Int):=Int.natCast_nonneg _;have D:(0:Int)<((s8 b- cZ:Nat):Int):=by generalize cZ=z at*;omega
  refine num _ ((((s8 a:Nat):Int) - (cZ:Int)) / (((s8 b:Nat):Int) - (cZ:Int))) ?_ c (fun s=>?_)
  ·show((cZ+(s8 a- cZ) / (s8 b- cZ):Nat):Int) - (cZ:Int)=_;rw[i,j,Int.natCast_add,Int.natCast_ediv];generalize ((s8 a- cZ:Nat):Int) / ((s8 b- cZ:Nat):Int)=q;generalize cZ=z at*
   omega
  ·simp only[W4,if_true];exact⟨⟨by rw[i];exact C,by rw[j];exact D,s⟩,by first|trivial|rfl⟩
 case rem=>
  obtain⟨g,c⟩:=c6 (show nB (Nat.ble cZ (s8 a)) 18 (nB (Nat.ble (Nat.succ cZ) (s8 b)) 19 (dY (BZ a) (Nat.add cZ (Nat.mod (Nat.sub (s8 a) cZ) (Nat.sub (s8 b) cZ)))))=_ from h);obtain⟨r,c⟩:=c6 c;have g:cZ<=s8 a:=Nat.le_of_ble_eq_true g;have r:cZ+1<=s8 b:=Nat.le_of_ble_eq_true r;rw[d]at c;have i:((s8 a:Nat):Int) - (cZ:Int)=((s8 a- cZ:Nat):Int):=by generalize cZ=z at*;omega
  have j:((s8 b:Nat):Int) - (cZ:Int)=((s8 b- cZ:Nat):Int):=by generalize cZ=z at*;omega
  have C:(0:Int)<=((s8 a- cZ:Nat):Int):=Int.natCast_nonneg _;have D:(0:Int)<((s8 b- cZ:Nat):Int):=by generalize cZ=z at*;omega
  refine num _ ((((s8 a:Nat):Int) - (cZ:Int)) % (((s8 b:Nat):Int) - (cZ:Int))) ?_ c (fun s=>?_)
  ·show((cZ+(s8 a- cZ) % (s8 b- cZ):Nat):Int) - (cZ:Int)=_;rw[i,j,Int.natCast_add,Int.natCast_emod];generalize ((s8 a- cZ:Nat):Int) % ((s8 b- cZ:Nat):Int)=q;generalize cZ=z at*
   omega
  ·simp only[W4,if_true];exact⟨⟨by rw[i];exact C,by rw[j];exact D⟩,by first|trivial|rfl⟩
 case lss=>
  refine o _ (decide (((s8 a:Nat):Int) - (cZ:Int)<((s8 b:Nat):Int) - (cZ:Int))) h ?_ (by simp only[W4,if_true])
  rw[Bool.eq_iff_iff,Nat.ble_eq,decide_eq_true_eq];have:Nat.succ a<=b↔a<b:=Iff.rfl;rw[this,S];generalize cZ=z at*
  omega
 case leq=>
  refine o _ (decide (((s8 a:Nat):Int) - (cZ:Int)<=((s8 b:Nat):Int) - (cZ:Int))) h ?_ (by simp only[W4,if_true])
  rw[Bool.eq_iff_iff,Nat.ble_eq,decide_eq_true_eq,T];generalize cZ=z at*
  omega
 case gtr=>
  obtain⟨L,M,_⟩:=Cb l u;refine o _ (decide (((s8 a:Nat):Int) - (cZ:Int)>((s8 b:Nat):Int) - (cZ:Int))) h ?_ (by simp only[W4,if_true])
  rw[Bool.eq_iff_iff,Nat.ble_eq,decide_eq_true_eq];have:Nat.succ b<=a↔b<a:=Iff.rfl;rw[this,L];generalize cZ=z at*
  omega
 case geq=>
  obtain⟨L,M,_⟩:=Cb l u;refine o _ (decide (((s8 a:Nat):Int) - (cZ:Int)>=((s8 b:Nat):Int) - (cZ:Int))) h ?_ (by simp only[W4,if_true])
  rw[Bool.eq_iff_iff,Nat.ble_eq,decide_eq_true_eq,M];generalize cZ=z at*
  omega
 case and=>
  obtain⟨i,j⟩:=Ey (f:=Nat.land) d h;subst i;exact num _ _ rfl j (fun _=>by simp only[W4,if_true];exact congrArg _ (SB u l))
 case or=>
  obtain⟨i,j⟩:=Ey (f:=Nat.lor) d h;subst i;exact num _ _ rfl j (fun _=>by simp only[W4,if_true];exact congrArg _ (Wm u l))
 case xor=>
  obtain⟨i,j⟩:=Ey (f:=Nat.xor) d h;subst i;exact num _ _ rfl j (fun _=>by simp only[W4,if_true];exact congrArg _ (Wn u l))
 all_goals cases h
end
end Go.Abs
end
section
namespace Go.Abs
section
variable {P:Program} {F:Nat->Prop} {K:j0} {H:Nat->Option Hd} {w:World} {m:Mm} {nx:Nat} {v:BV} {new:List HO} {set:List (Nat×HO)} {rd:List Nat} {ev:Operand->BV} {ρ:Operand->Value}
theorem b0i{k:IntKind}{a:Nat}(b:BZ a=F6 k)(h:Nat.beq (BZ a) 4=true):k=.i64:=by
 rw[b]at h;exact lS (k':=.i64) (Nat.eq_of_beq_eq_true h)
theorem EA{l:Bool}{op:BinOp}(o:op=if l then .shl else .shr){e kb:IntKind}{a b:Nat}{t:TypeId}{ox oy:Operand}(f:BZ a=F6 e)
  (h:jO l a b=.ok v new set rd):new=[]/\set=[]/\rd=[]/\∃z,u7 K H v z/\(do eqGuard op t ox oy (.int e ((s8 a:Nat) - (cZ:Int))) (.int kb ((s8 b:Nat) - (cZ:Int)));binOp op t (.int e ((s8 a:Nat) - (cZ:Int))) (.int kb ((s8 b:Nat) - (cZ:Int))):Sem Value).run P w=.ok z w:=by
 have d:∀ (k:IntKind) (n:Int),c8 K H (.int k n) (.int k n):=fun k n=>by simp[c8]
 obtain⟨A,h⟩:=c6 h;obtain⟨p,h⟩:=c6 h;obtain⟨r,h⟩:=c6 h;obtain⟨s,h⟩:=c6 h;have B:=b0i f A;subst B;have p:cZ<=s8 a:=Nat.le_of_ble_eq_true p;have r:cZ<=s8 b:=Nat.le_of_ble_eq_true r;have s:s8 b<=cZ+63:=Nat.le_of_ble_eq_true s;obtain⟨g,rfl,rfl,rfl,_,C⟩:=IY (k:=.i64) (K:=K) (H:=H) h;have D:((s8 a:Nat):Int) - (cZ:Int)=((s8 a- cZ:Nat):Int):=by generalize cZ=z at*;omega
 have E:((s8 b:Nat):Int) - (cZ:Int)=((s8 b- cZ:Nat):Int):=by generalize cZ=z at*;omega
 have G:s8 b- cZ<=63:=by generalize cZ=z at*;omega
 have u:min ((s8 b- cZ:Nat):Int).toNat IntKind.i64.bits=s8 b- cZ:=by
  rw[Int.toNat_natCast];show min (s8 b- cZ) 64=_;omega
 refine⟨rfl,rfl,rfl,_,C,?_⟩;rw[D,E];cases l with
 |true=>
  subst o;have i:((Nat.add cZ (iB true (Nat.mul (Nat.sub (s8 a) cZ) (Nat.pow 2 (Nat.sub (s8 b) cZ))) (Nat.div (Nat.sub (s8 a) cZ) (Nat.pow 2 (Nat.sub (s8 b) cZ)))):Nat):Int) - (cZ:Int)=((s8 a- cZ:Nat):Int)*2^ (s8 b- cZ):=by
   simp only[j2,if_true,Nat.add_eq,Nat.mul_eq,Nat.sub_eq,Nat.pow_eq];rw[Int.natCast_add,Int.natCast_mul,Int.natCast_pow];generalize ((s8 a- cZ:Nat):Int)*((2:Nat):Int) ^ (s8 b- cZ)=q;generalize cZ=z at*
   omega
  rw[i]at g ⊢;obtain⟨x,y,j,g2,c⟩:=dQ (P:=P) (w:=w) (op:=.shl) (t:=t) (ox:=ox) (oy:=oy) (kk:=fun x=>x=.int .i64 (((s8 a- cZ:Nat):Int)*2^ (s8 b- cZ))) (d .i64 ((s8 a- cZ:Nat):Int)) (d kb ((s8 b- cZ:Nat):Int)) (by
   simp only[W4];refine⟨Int.natCast_nonneg _,?_⟩;simp only[XX,u]
   rw[show IntKind.i64.wrap (((s8 a- cZ:Nat):Int)*2^ (s8 b- cZ))=_ from g])
  subst j;rw[S1 g2]at c;exact c
 |false=>
  subst o;have i:((Nat.add cZ (iB false (Nat.mul (Nat.sub (s8 a) cZ) (Nat.pow 2 (Nat.sub (s8 b) cZ))) (Nat.div (Nat.sub (s8 a) cZ) (Nat.pow 2 (Nat.sub (s8 b) cZ)))):Nat):Int) - (cZ:Int)=((s8 a- cZ:Nat):Int) /2^ (s8 b- cZ):=by
   simp only[j2,Bool.false_eq_true,if_false,Nat.add_eq,Nat.sub_eq,Nat.pow_eq];rw[show Nat.div (s8 a- cZ) (2^ (s8 b- cZ))=(s8 a- cZ) /2^ (s8 b- cZ)from rfl,Int.natCast_add,Int.natCast_ediv,Int.natCast_pow];generalize ((s8 a- cZ:Nat):Int) / ((2:Nat):Int) ^ (s8 b- cZ)=q;generalize cZ=z at*
   omega
  rw[i]at g ⊢;obtain⟨x,y,j,g2,c⟩:=dQ (P:=P) (w:=w) (op:=.shr) (t:=t) (ox:=ox) (oy:=oy) (kk:=fun x=>x=.int .i64 (((s8 a- cZ:Nat):Int) /2^ (s8 b- cZ))) (d .i64 ((s8 a- cZ:Nat):Int)) (d kb ((s8 b- cZ:Nat):Int)) (by
   simp only[W4];refine⟨Int.natCast_nonneg _,?_⟩;simp only[XY,u]
   rw[Int.fdiv_eq_ediv_of_nonneg _ (by exact Int.le_of_lt (Int.pow_pos (by decide)))])
  subst j;rw[S1 g2]at c;exact c
theorem aO{c:Nat}(h:kM c=.ok v new set rd):v=.c c/\new=[]/\set=[]/\rd=[]:=by cases h;exact⟨rfl,rfl,rfl,rfl⟩
theorem Cc{op:BinOp}{e:Bool}{t:TypeId}{x y:Value}{ox oy:Operand}(d:op=.eql\/op=.neq)(a:∀op,(eqGuard op t ox oy x y).run P w=.ok () w)(b:(Op.equal t x y).run P w=.ok e w)(c:∀op,op=.eql\/op=.neq->binOp op t x y=(match op with
   |.eql=>do pure (.bool (<-Op.equal t x y))
   |_=>do pure (.bool (!(<-Op.equal t x y)))))
  (h:kM (G8 (iB (Nat.beq (O9 op) 3) e (Bool.not e)))=.ok v new set rd):new=[]/\set=[]/\rd=[]/\∃z,u7 K H v z/\(do eqGuard op t ox oy x y;binOp op t x y:Sem Value).run P w=.ok z w:=by
 obtain⟨rfl,rfl,rfl,rfl⟩:=aO h;refine⟨rfl,rfl,rfl,_,Z0 _,?_⟩;rcases d with rfl|rfl
 ·simp only[Sem.run_bind,a,Result.andThen_ok,c .eql (.inl rfl),b];rfl
 ·simp only[Sem.run_bind,a,Result.andThen_ok,c .neq (.inr rfl),b];rfl
theorem QS{op:BinOp}{a b:Nat}{t:TypeId}{ox oy:Operand}{x y:Value}(I:u7 K H (.c a) x)(M:u7 K H (.c b) y)(u:op=.eql\/op=.neq)
  (h:eqC P t a b (fun e=>kM (G8 (iB (Nat.beq (O9 op) 3) e (Bool.not e))))=.ok v new set rd):new=[]/\set=[]/\rd=[]/\∃z,u7 K H v z/\(do eqGuard op t ox oy x y;binOp op t x y:Sem Value).run P w=.ok z w:=by
 unfold eqC at h;rw[j2]at h;split at h
 ·rename_i hi;obtain⟨E,h⟩:=c6 h;obtain⟨k,hk,rfl,i,_⟩:=I.int hi;have X:rM b=true:=by
   have E:a % 128=b % 128:=Nat.eq_of_beq_eq_true E;rw[jS]at hi ⊢;omega
  obtain⟨k',Wp,rfl,hb,_⟩:=M.int X;have:=LR i hb E;subst this;obtain⟨rfl,rfl,rfl,rfl⟩:=aO h;have S:∀n:Int,c8 K H (.int k n) (.int k n):=fun n=>by simp[c8]
  have he:(Nat.beq a b)=(((s8 a:Nat):Int) - (cZ:Int)==((s8 b:Nat):Int) - (cZ:Int)):=by
   obtain⟨_,_,c3⟩:=Cb i hb;rw[Bool.eq_iff_iff,Nat.beq_eq,c3,beq_iff_eq];generalize cZ=z at*
   omega
  rcases u with rfl|rfl
  ·obtain⟨p,q,Y,g2,N⟩:=dQ (P:=P) (w:=w) (op:=.eql) (t:=t) (ox:=ox) (oy:=oy) (kk:=fun x=>x=.bool (((s8 a:Nat):Int) - (cZ:Int)==((s8 b:Nat):Int) - (cZ:Int))) (S (((s8 a:Nat):Int) - (cZ:Int))) (S (((s8 b:Nat):Int) - (cZ:Int))) (by simp only[W4,if_true])
   subst Y;rw[X9 g2]at N;exact⟨rfl,rfl,rfl,_,by rw[show iB (Nat.beq (O9 .eql) 3) (Nat.beq a b) (Bool.not (Nat.beq a b))=_ from he];exact Z0 _,N⟩
  ·obtain⟨p,q,Y,g2,N⟩:=dQ (P:=P) (w:=w) (op:=.neq) (t:=t) (ox:=ox) (oy:=oy) (kk:=fun x=>x=.bool (((s8 a:Nat):Int) - (cZ:Int) !=((s8 b:Nat):Int) - (cZ:Int))) (S (((s8 a:Nat):Int) - (cZ:Int))) (S (((s8 b:Nat):Int) - (cZ:Int))) (by simp only[W4,if_true])
   subst Y;rw[X9 g2]at N;exact⟨rfl,rfl,rfl,_,by rw[show iB (Nat.beq (O9 .neq) 3) (Nat.beq a b) (Bool.not (Nat.beq a b))=(((s8 a:Nat):Int) - (cZ:Int) !=((s8 b:Nat):Int) - (cZ:Int))from congrArg Bool.not he];exact Z0 _,N⟩
 ·have h:iB (Nat.beq (eqK P t) 1) (nB (isB a) 31 (nB (isB b) 48 (kM (G8 (iB (Nat.beq (O9 op) 3) (Nat.beq a b) (Bool.not (Nat.beq a b))))))) (iB (Nat.beq (eqK P t) 2) (LG 5 25 a b fun e=>kM (G8 (iB (Nat.beq (O9 op) 3) e (Bool.not e))))
   (iB (Nat.beq (eqK P t) 3) (LG 6 41 a b fun e=>kM (G8 (iB (Nat.beq (O9 op) 3) e (Bool.not e)))) (iB (Nat.beq (eqK P t) 4) (LG 4 33 a b fun e=>kM (G8 (iB (Nat.beq (O9 op) 3) e (Bool.not e)))) (.er 49 0))))=.ok v new set rd:=h
  rw[j2]at h;have A:∀ (Z T:Nat) (k:Bool->l8),LG Z T a b k=.ok v new set rd->b=T/\(a % 8=Z\/a=T)/\k (Nat.beq a b)=.ok v new set rd:=by
   intro Z T k hh;obtain⟨E,hh⟩:=c6 hh;obtain⟨J,hh⟩:=c6 hh;refine⟨Nat.eq_of_beq_eq_true E,?_,hh⟩;rw[j2]at J;split at J
   ·rename_i G;exact .inl (Nat.eq_of_beq_eq_true G)
   ·exact .inr (Nat.eq_of_beq_eq_true J)
  have g:∀q,Nat.beq (eqK P t) q=true->q≠0->∃d,P.underlying t=some d/\((q=1/\d=.bool)\/(q=2/\∃e,d=.slice e)\/(q=3/\∃e f,d=.map e f)\/(q=4/\∃e,d=.pointer e)):=by
   intro q j h0;have j:=Nat.eq_of_beq_eq_true j;unfold eqK at j;split at j
   ·rename_i r;exact⟨_,r,.inl ⟨j.symm,rfl⟩⟩
   ·rename_i e r;exact⟨_,r,.inr (.inl ⟨j.symm,e,rfl⟩)⟩
   ·rename_i e f r;exact⟨_,r,.inr (.inr (.inl ⟨j.symm,e,f,rfl⟩))⟩
   ·rename_i e r;exact⟨_,r,.inr (.inr (.inr ⟨j.symm,e,rfl⟩))⟩
   ·exact absurd j.symm h0
  split at h
  ·rename_i j;obtain⟨d,r,hd⟩:=g 1 j (by decide)
   rcases hd with⟨_,rfl⟩|⟨hh,_⟩|⟨hh,_⟩|⟨hh,_⟩<;>first|(exact absurd hh (by decide))|skip
   obtain⟨E,h⟩:=c6 h;obtain⟨J,h⟩:=c6 h;have bb:∀ (c:Nat) (z:Value),isB c=true->u7 K H (.c c) z->∃p,z=.bool p/\c=G8 p:=by
    intro c z U hz;unfold isB at U;rw[j2]at U;split at U
    ·rename_i V;have V:=Nat.eq_of_beq_eq_true V;exact⟨false,hz.bool.2 V,V⟩
    ·have O:=Nat.eq_of_beq_eq_true U;exact⟨true,hz.bool.1 O,O⟩
   obtain⟨p,rfl,rfl⟩:=bb a x E I;obtain⟨q,rfl,rfl⟩:=bb b y J M;refine Cc u (fun op=>by cases op<;>simp[eqGuard]) (e:=Nat.beq (G8 p) (G8 q)) ?_ (fun op _=>by cases op<;>first|rfl|(rename_i hh;rcases hh with hh|hh<;>cases hh)) h
   rw[show Nat.beq (G8 p) (G8 q)=(p==q)by cases p<;>cases q<;>rfl]
   simp[Op.equal,Op.maxDepth,run_equalIn_bool w 9999 t p q r]
  ·have B:∀op,op=BinOp.eql\/op=BinOp.neq->∀x y:Value,(∀k n,x≠ .int k n)->(∀k n,x≠ .float k n)->(∀k n m,x≠ .complex k n m)->(∀s,x≠ .string s)->binOp op t x y=(match op with
     |.eql=>do pure (.bool (<-Op.equal t x y))
     |_=>do pure (.bool (!(<-Op.equal t x y)))):=by
    intro op L x y E J G h4;rcases L with rfl|rfl<;>cases x<;>first|rfl|(exact absurd rfl (E _ _))|(exact absurd rfl (J _ _))|(exact absurd rfl (G _ _ _))|(exact absurd rfl (h4 _))
   have a08:∀n,3<=n->u7 K H (.c n)=j5 H n\/True:=fun _ _=>.inr trivial
   rw[j2]at h;split at h
   ·rename_i j;obtain⟨d,r,hd⟩:=g 2 j (by decide)
    rcases hd with⟨hh,_⟩|⟨_,e,rfl⟩|⟨hh,_⟩|⟨hh,_⟩<;>first|(exact absurd hh (by decide))|skip
    obtain⟨rfl,i,h⟩:=A _ _ _ h;have R:y=.slice none 0 0:=(M.cell (by decide)).isNil.1 rfl
    subst R;have C:∃p l c,x=.slice p l c/\Nat.beq a 25=p.isNone:=by
     rcases i with i|rfl
     ·have G:3<=a:=by omega
      obtain⟨hd,b,o,cap,_,_,rfl,_⟩:=(I.cell G).uB (X1.2 i);exact⟨_,_,_,rfl,by rw[Bool.eq_iff_iff,Nat.beq_eq];constructor<;>intro hh<;>first|(subst hh;exact absurd i (by decide))|cases hh⟩
     ·exact⟨none,0,0,(I.cell (by decide)).isNil.1 rfl,rfl⟩
    obtain⟨p,l,c,rfl,D⟩:=C;rw[D]at h;exact Cc u (fun op=>by cases op<;>simp[eqGuard]) (run_equal_slice_nil (P:=P) w t e p l c r) (fun op L=>B op L _ _ (fun _ _=>by simp) (fun _ _=>by simp) (fun _ _ _=>by simp) (fun _=>by simp)) h
   ·rw[j2]at h;split at h
    ·rename_i j;obtain⟨d,r,hd⟩:=g 3 j (by decide)
     rcases hd with⟨hh,_⟩|⟨hh,_⟩|⟨_,e,f,rfl⟩|⟨hh,_⟩<;>first|(exact absurd hh (by decide))|skip
     obtain⟨rfl,i,h⟩:=A _ _ _ h;have R:y=.map none:=(M.cell (by decide)).isNil.2.2.1 rfl
     subst R;have C:∃p,x=.map p/\Nat.beq a 41=p.isNone:=by
      rcases i with i|rfl
      ·have G:3<=a:=by omega
       obtain⟨hd,b,_,_,rfl,_⟩:=(I.cell G).isMap (rU.2 i);exact⟨_,rfl,by rw[Bool.eq_iff_iff,Nat.beq_eq];constructor<;>intro hh<;>first|(subst hh;exact absurd i (by decide))|cases hh⟩
      ·exact⟨none,(I.cell (by decide)).isNil.2.2.1 rfl,rfl⟩
     obtain⟨p,rfl,D⟩:=C;rw[D]at h;exact Cc u (fun op=>by cases op<;>simp[eqGuard]) (run_equal_map_nil (P:=P) w t e f p r) (fun op L=>B op L _ _ (fun _ _=>by simp) (fun _ _=>by simp) (fun _ _ _=>by simp) (fun _=>by simp)) h
    ·rw[j2]at h;split at h
     ·rename_i j;obtain⟨d,r,hd⟩:=g 4 j (by decide)
      rcases hd with⟨hh,_⟩|⟨hh,_⟩|⟨hh,_⟩|⟨_,e,rfl⟩<;>first|(exact absurd hh (by decide))|skip
      obtain⟨rfl,i,h⟩:=A _ _ _ h;have R:y=.pointer none:=(M.cell (by decide)).isNil.2.1 rfl
      subst R;have C:∃p,x=.pointer p/\Nat.beq a 33=p.isNone:=by
       rcases i with i|rfl
       ·have G:3<=a:=by omega
        obtain⟨hd,b,_,_,rfl,_⟩:=(I.cell G).oG (X0.2 i);exact⟨_,rfl,by rw[Bool.eq_iff_iff,Nat.beq_eq];constructor<;>intro hh<;>first|(subst hh;exact absurd i (by decide))|cases hh⟩
       ·exact⟨none,(I.cell (by decide)).isNil.2.1 rfl,rfl⟩
      obtain⟨p,rfl,D⟩:=C;rw[D]at h;have hr:(Op.equal t (.pointer p) (.pointer none)).run P w=.ok p.isNone w:=by
       have:∀d,(Op.equalIn (d+1) t (.pointer p) (.pointer none)).run P w=.ok p.isNone w:=by
        intro d;cases p<;>simp[Op.equalIn,run_underlying r]
       exact this 9999
      exact Cc u (fun op=>by cases op<;>simp[eqGuard]) hr (fun op L=>B op L _ _ (fun _ _=>by simp) (fun _ _=>by simp) (fun _ _ _=>by simp) (fun _=>by simp)) h
     ·cases h
end
end Go.Abs
end
section
namespace Go.Abs
theorem Wq:∀k:Nat,(cB^ (k+1) - 1) / (cB- 1)=1+cB*((cB^k- 1) / (cB- 1)):=by
 intro k;have e:∀j:Nat,∃q,cB^j=q*(cB- 1)+1:=by
  intro j
  induction j with
  |zero=>exact⟨0,by simp⟩
  |succ j f=>
   obtain⟨q,b⟩:=f;refine⟨q*cB+1,?_⟩;rw[Nat.pow_succ,b];have d:cB=(cB- 1)+1:=by decide
   generalize cB- 1=c at*
   rw[d];simp only[Nat.add_mul,Nat.mul_add,Nat.one_mul,Nat.mul_one];omega
 obtain⟨q,b⟩:=e k;have a:0<cB- 1:=by decide
 have g:(cB^k- 1) / (cB- 1)=q:=by rw[b,Nat.add_sub_cancel,Nat.mul_div_cancel _ a]
 rw[g,Nat.pow_succ,b];have d:cB=(cB- 1)+1:=by decide
 have h:(q*(cB- 1)+1)*cB- 1=(1+cB*q)*(cB- 1):=by
  generalize cB- 1=c at*
  rw[d];simp only[Nat.add_mul,Nat.mul_add,Nat.one_mul,Nat.mul_one];rw[Nat.mul_comm c q];omega
 rw[h,Nat.mul_div_cancel _ a]
theorem EC(x y:Nat):Nat.land x y=Nat.land (x % cB) (y % cB)+cB*Nat.land (x/cB) (y/cB):=by
 have e:cB=2^80:=by decide
 rw[e];have c:=Nat.div_add_mod (Nat.land x y) (2^80);have a:Nat.land x y % 2^80=Nat.land (x % 2^80) (y % 2^80):=by
  show(x &&& y) % 2^80=(x % 2^80) &&& (y % 2^80);apply Nat.eq_of_testBit_eq;intro i;simp only[Nat.testBit_and,Nat.testBit_mod_two_pow];cases decide (i<80)<;>simp
 have b:Nat.land x y/2^80=Nat.land (x/2^80) (y/2^80):=by
  show(x &&& y) /2^80=(x/2^80) &&& (y/2^80);apply Nat.eq_of_testBit_eq;intro i;simp only[Nat.testBit_and,Nat.testBit_div_two_pow]
 rw[<-a,<-b];omega
theorem ED{c d:Nat}(a:c<cB)(hd:d<cB):∀ (k n:Nat),Nat.land n (c*((cB^k- 1) / (cB- 1)))=d*((cB^k- 1) / (cB- 1))->∀i,i<k->Nat.land (R6 n i) c=d
 |0,_,_,i,hi=>by omega
 |k+1,n,h,i,hi=>by
  rw[Wq,EC]at h;have b:∀c,c*(1+cB*((cB^k- 1) / (cB- 1)))=c+cB*(c*((cB^k- 1) / (cB- 1))):=by
   intro c;rw[Nat.mul_add,Nat.mul_one,<-Nat.mul_assoc,<-Nat.mul_assoc,Nat.mul_comm c cB]
  rw[b c,b d,Nat.add_mul_mod_self_left,Nat.mod_eq_of_lt a,Nat.add_mul_div_left _ _ T7,Nat.div_eq_of_lt a,Nat.zero_add]at h;have f:Nat.land (n % cB) c<cB:=Nat.lt_of_le_of_lt Nat.and_le_right a;have e:Nat.land (n % cB) c=d:=by
   have:=congrArg (· % cB) h
   simp only[Nat.add_mul_mod_self_left,Nat.mod_eq_of_lt f,Nat.mod_eq_of_lt hd]at this;exact this
  have g:Nat.land (n/cB) (c*((cB^k- 1) / (cB- 1)))=d*((cB^k- 1) / (cB- 1)):=by
   rw[e]at h;exact Nat.eq_of_mul_eq_mul_left T7 (Nat.add_left_cancel h)
  cases i with
  |zero=>rw[T8,Nat.pow_zero,Nat.div_one];exact e
  |succ i=>rw[<-rT];exact ED a hd k (n/cB) g i (by omega)
theorem xS{k n:Nat}(h:Ei k n=true)(i:Nat)(hi:i<k):R6 n i % 128=32:=by
 have h:=ED (c:=127) (d:=32) (by decide) (by decide) k n (Nat.eq_of_beq_eq_true h) i hi
 have e:Nat.land (R6 n i) 127=R6 n i % 2^7:=Nat.and_two_pow_sub_one_eq_mod (R6 n i) 7;rw[e]at h;exact h
theorem IZ:∀ (k a b:Nat),a<cB^k->b<cB^k->(∀i,i<k->R6 a i=R6 b i)->a=b
 |0,a,b,c,d,_=>by rw[Nat.pow_zero]at c d;omega
 |k+1,a,b,c,d,h=>by
  have f:=h 0 (by omega)
  rw[T8,T8,Nat.pow_zero,Nat.div_one,Nat.div_one]at f;have e:∀x,x<cB^ (k+1)->x/cB<cB^k:=fun x g=>Nat.div_lt_of_lt_mul (by rw[Nat.pow_succ']at g;exact g)
  have j:=IZ k (a/cB) (b/cB) (e a c) (e b d) (fun i hi=>by rw[rT,rT];exact h (i+1) (by omega))
  rw[<-Nat.div_add_mod a cB,<-Nat.div_add_mod b cB,f,j]
theorem SC{k n:Nat}(h:xJ k n=true):∀i,i<k->Nat.land (R6 n i) 4=0:=
 ED (d:=0) (by decide) (by decide) k n (by rw[Nat.zero_mul];exact Nat.eq_of_beq_eq_true h)
end Go.Abs
end
section
namespace Go.Abs
section
variable {P:Program} {F:Nat->Prop} {K:j0} {H:Nat->Option Hd} {w:World} {m:Mm} {nx:Nat} {v:BV} {new:List HO} {set:List (Nat×HO)} {rd:List Nat} {ev:Operand->BV} {ρ:Operand->Value}
def m7(s a:Nat):List Int:=(List.range s).map fun i=>((s8 (R6 a i):Nat):Int) - (cZ:Int)
theorem LU{s a:Nat}{vs:List Value}(h:w9 H s a vs)(hi:Ei s a=true):vs=(m7 s a).map fun n=>Value.int .i64 n:=by
 obtain⟨_,l,f⟩:=h;refine List.ext_getElem? (fun i=>?_)
 by_cases c:i<s
 ·have d:i<vs.length:=by omega
  rw[List.getElem?_eq_getElem d];have g:=f i vs[i] (List.getElem?_eq_getElem d);have o:=xS hi i c;obtain⟨k,j,e,_⟩:=g.isInt (jS.2 (by omega))
  have b:BZ (R6 a i)=4:=by show R6 a i % 128/8=4;omega
  have:k=.i64:=lS (k':=.i64) (by rw[<-j,b];rfl)
  subst this;rw[e];simp[m7,c]
 ·rw[List.getElem?_eq_none (by omega),List.getElem?_eq_none (by simp[m7];omega)]
theorem OW{s a b:Nat}(g:a<cB^s)(j:b<cB^s)(c:Ei s a=true)(d:Ei s b=true):Nat.beq a b=(m7 s a==m7 s b):=by
 rw[Bool.eq_iff_iff,Nat.beq_eq,beq_iff_eq];constructor
 ·rintro rfl;rfl
 ·intro h;refine IZ s a b g j (fun i hi=>?_)
  have f:(m7 s a)[i]? =(m7 s b)[i]? :=by rw[h]
  simp only[m7,List.getElem?_map,List.getElem?_range hi,Option.map_some,Option.some.injEq]at f;have k:=xS c i hi;have l:=xS d i hi;have e:s8 (R6 a i)=s8 (R6 b i):=by generalize cZ=z at f;omega
  have n:s8 (R6 a i)=R6 a i/128:=rfl;have o:s8 (R6 b i)=R6 b i/128:=rfl;omega
theorem nO:∀ (l e:List Int),l.length=e.length->dO (l.map fun n=>.int .i64 n) (e.map fun n=>.int .i64 n)=some (l==e)
 |[],[],_=>rfl
 |[a],[b],_=>by simp[dO]
 |a::c::l,b::d::e,h=>by
  have f:=nO (c::l) (d::e) (by simpa using h)
  simp only[List.map_cons]at f ⊢;simp only[dO,if_true,f];rfl
 |[],_::_,h=>by simp at h
 |_::_,[],h=>by simp at h
 |[_],_::_::_,h=>by simp at h
 |_::_::_,[_],h=>by simp at h
theorem LV{op:BinOp}{s a b:Nat}{t:TypeId}{ox oy:Operand}{x y:Value}(R:u7 K H (.a s a) x)(S:u7 K H (.a s b) y)(k:op=.eql\/op=.neq)(h:IL P t s=true)(o:Ei s a=true)(r:Ei s b=true):
  ∃z,u7 K H (.c (G8 (match op with|.eql=>Nat.beq a b|_=> !Nat.beq a b))) z/\(do eqGuard op t ox oy x y;binOp op t x y:Sem Value).run P w=.ok z w:=by
 obtain⟨cs,rfl,J⟩:=R;obtain⟨G,rfl,hd⟩:=S;have L:=LU J o;have M:=LU hd r;have E:=OW J.1 hd.1 o r;have len:∀n,(m7 s n).length=s:=fun n=>by simp[m7]
 unfold IL at h;rw[j2]at h;split at h
 ·rename_i hI;have f:∀ (l:List Int) (us:List Value),us=l.map (fun n=>Value.int .i64 n)->c9 K H (l.map fun n=>a7.int .i64 n) us:=by
   intro l us e;subst e
   induction l with
   |nil=>exact .nil
   |cons n l T=>exact .cons (by simp[c8]) T
  have u:c8 K H (.agg ((m7 s a).map fun n=>a7.int .i64 n)) (.agg cs):=by simp only[c8];exact⟨cs,rfl,f _ _ L⟩
  have A:c8 K H (.agg ((m7 s b).map fun n=>a7.int .i64 n)) (.agg G):=by simp only[c8];exact⟨G,rfl,f _ _ M⟩
  rcases k with rfl|rfl
  ·obtain⟨p,q,j,g2,d⟩:=dQ (P:=P) (w:=w) (op:=.eql) (t:=t) (ox:=ox) (oy:=oy) (kk:=fun x=>x=.bool (m7 s a==m7 s b)) u A (by
    simp only[W4,List.length_map,len,hI,if_true,nO _ _ ((len a).trans (len b).symm)])
   subst j;rw[X9 g2]at d;exact⟨_,by show u7 K H (.c (G8 (Nat.beq a b))) (.bool (m7 s a==m7 s b));rw[E];exact Z0 _,d⟩
  ·obtain⟨p,q,j,g2,d⟩:=dQ (P:=P) (w:=w) (op:=.neq) (t:=t) (ox:=ox) (oy:=oy) (kk:=fun x=>x=.bool (!(m7 s a==m7 s b))) u A (by
    simp only[W4,List.length_map,len,hI,if_true,nO _ _ ((len a).trans (len b).symm)])
   subst j;rw[X9 g2]at d;exact⟨_,by show u7 K H (.c (G8 (!Nat.beq a b))) (.bool (!(m7 s a==m7 s b)));rw[E];exact Z0 _,d⟩
 ·rw[j2]at h;split at h
  ·rename_i N;have O:bZ P t=s:=Nat.eq_of_beq_eq_true h;have g:∀ (l:List Int) (us:Array Value),us.toList=l.map (fun n=>Value.int .i64 n)->c8 K H (.V5 (.int .i64) l) (.agg us):=by
    intro l us e;have B:us.size=l.length:=by rw[<-Array.length_toList,e];simp
    simp only[c8];refine⟨us,rfl,by rw[B];exact(Nat.mul_one _).symm,fun i hi=>?_⟩
    show u0 us (0+i*(Ty.int .i64).size) (Ty.int .i64).size=[Value.int .i64 l[i]];have C:i<(l:List Int).length:=hi;have I:us.toList[i]? =some (Value.int .i64 ((l:List Int)[i]'C)):=by rw[e,List.getElem?_map,List.getElem?_eq_getElem C];rfl
    simp only[u0,Ty.size,Nat.mul_one,Nat.zero_add];have D:i<us.toList.length:=by simp[B];exact hi
    rw[List.drop_eq_getElem_cons D];rw[List.getElem?_eq_getElem D]at I;simp only[Option.some.injEq]at I;rw[I];rfl
   have u:=g _ cs L;have A:=g _ G M;rcases k with rfl|rfl
   ·obtain⟨p,q,j,g2,d⟩:=dQ (P:=P) (w:=w) (op:=.eql) (t:=t) (ox:=ox) (oy:=oy) (kk:=fun x=>x=.bool (m7 s a==m7 s b)) u A (by
     simp only[W4,O,N,true_and,if_true,vQ]
     exact⟨len a,len b,by first|trivial|rfl⟩)
    subst j;rw[X9 g2]at d;exact⟨_,by show u7 K H (.c (G8 (Nat.beq a b))) (.bool (m7 s a==m7 s b));rw[E];exact Z0 _,d⟩
   ·obtain⟨p,q,j,g2,d⟩:=dQ (P:=P) (w:=w) (op:=.neq) (t:=t) (ox:=ox) (oy:=oy) (kk:=fun x=>x=.bool (!(m7 s a==m7 s b))) u A (by
     simp only[W4,O,N,true_and,if_true,vQ]
     exact⟨len a,len b,by first|trivial|rfl⟩)
    subst j;rw[X9 g2]at d;exact⟨_,by show u7 K H (.c (G8 (!Nat.beq a b))) (.bool (!(m7 s a==m7 s b)));rw[E];exact Z0 _,d⟩
  ·cases h
theorem xT(op:BinOp):O9 op=0\/(O9 op=1/\op=.shl)\/(O9 op=2/\op=.shr)\/(O9 op=3/\op=.eql)\/(O9 op=4/\op=.neq):=by
 cases op<;>first|exact .inl rfl|exact .inr (.inl ⟨rfl,rfl⟩)|exact .inr (.inr (.inl ⟨rfl,rfl⟩))|exact .inr (.inr (.inr (.inl ⟨rfl,rfl⟩)))|exact .inr (.inr (.inr (.inr ⟨rfl,rfl⟩)))
theorem Zt(T:J0 F K w)(V:j8 F K H w m)(E:∀x,u7 K H (ev x) (ρ x))(o:Oper){op:BinOp}{t u:TypeId}{x y:Operand}(Z:o.op=.binOp op t x y u)(h:VV P op t (ev x) (ev y)=.ok v new set rd):B3 P F K H w m nx v new set ((execOp ρ o).run P w):=by
 have d:∀z,u7 K H v z->(do eqGuard op t x y (ρ x) (ρ y);binOp op t (ρ x) (ρ y):Sem Value).run P w=.ok z w->new=[]->set=[]->B3 P F K H w m nx v new set ((execOp ρ o).run P w):=by
  intro z n i M N;subst M;subst N;simp only[execOp,Z];rw[j1 i];exact s5 T V n
 have C:=E x;have D:=E y;generalize ev x=X at h C;generalize ev y=Y at h D;cases X with
 |c a=>
  obtain⟨b,rfl,h⟩:=z7 (show vC Y _=_ from h);rcases xT op with j|⟨j,rfl⟩|⟨j,rfl⟩|⟨j,rfl⟩|⟨j,rfl⟩
  ·have O:∃r,iB (Nat.beq (O9 op) 0) (nB (rM a) 32 (nB (Nat.beq (Nat.mod a 128) (Nat.mod b 128)) 33 (Ss op a b))) r=l8.ok v new set rd:=⟨_,h⟩;obtain⟨r,h⟩:=O;rw[j]at h;obtain⟨n,h⟩:=c6 (show nB (rM a) 32 (nB (Nat.beq (Nat.mod a 128) (Nat.mod b 128)) 33 (Ss op a b))=_ from h);obtain⟨i,h⟩:=c6 h;obtain⟨k,p,G,R,_⟩:=C.int n;have q:rM b=true:=by
    have i:a % 128=b % 128:=Nat.eq_of_beq_eq_true i;rw[jS]at n ⊢;omega
   obtain⟨k',I,J,S,_⟩:=D.int q;have:=LR R S i;subst this;obtain⟨A,B,_,z,f,g⟩:=Wo (P:=P) (K:=K) (H:=H) (w:=w) (t:=t) (ox:=x) (oy:=y) j R S p h;exact d z f (by rw[G,J];exact g) A B
  ·obtain⟨n,h⟩:=c6 (show nB (rM a) 34 (nB (rM b) 35 (jO true a b))=_ from h);obtain⟨i,h⟩:=c6 h;obtain⟨k,p,G,R,_⟩:=C.int n;obtain⟨k',I,J,S,_⟩:=D.int i;obtain⟨A,B,_,z,f,g⟩:=EA (P:=P) (K:=K) (H:=H) (w:=w) (l:=true) (op:=.shl) rfl (kb:=k') (t:=t) (ox:=x) (oy:=y) p h;exact d z f (by rw[G,J];exact g) A B
  ·obtain⟨n,h⟩:=c6 (show nB (rM a) 36 (nB (rM b) 37 (jO false a b))=_ from h);obtain⟨i,h⟩:=c6 h;obtain⟨k,p,G,R,_⟩:=C.int n;obtain⟨k',I,J,S,_⟩:=D.int i;obtain⟨A,B,_,z,f,g⟩:=EA (P:=P) (K:=K) (H:=H) (w:=w) (l:=false) (op:=.shr) rfl (kb:=k') (t:=t) (ox:=x) (oy:=y) p h;exact d z f (by rw[G,J];exact g) A B
  ·obtain⟨A,B,_,z,f,g⟩:=QS (P:=P) (K:=K) (H:=H) (w:=w) (op:=.eql) (ox:=x) (oy:=y) C D (.inl rfl) (show eqC P t a b (fun e=>kM (G8 (iB (Nat.beq (O9 .eql) 3) e (Bool.not e))))=_ from h)
   exact d z f g A B
  ·obtain⟨A,B,_,z,f,g⟩:=QS (P:=P) (K:=K) (H:=H) (w:=w) (op:=.neq) (ox:=x) (oy:=y) C D (.inr rfl) (show eqC P t a b (fun e=>kM (G8 (iB (Nat.beq (O9 .neq) 3) e (Bool.not e))))=_ from h)
   exact d z f g A B
 |a s a=>
  cases Y with
  |a s' b=>
   obtain⟨n,i⟩:=c6 (show nB (Nat.beq s s') 39 _=_ from h);have e:=Nat.eq_of_beq_eq_true n;clear h n;subst e;obtain⟨U,M⟩:=c6 i;clear i;obtain⟨L,N⟩:=c6 M;clear M;obtain⟨q,h⟩:=c6 N;clear N;rcases xT op with j|⟨j,rfl⟩|⟨j,rfl⟩|⟨j,rfl⟩|⟨j,rfl⟩
   ·have O:iB (Nat.beq (O9 op) 3) (kM (G8 (Nat.beq a b))) (iB (Nat.beq (O9 op) 4) (kM (G8 (Bool.not (Nat.beq a b)))) (.er 41 0))=l8.ok v new set rd:=h;rw[j]at O;exact l8.noConfusion (show l8.er 41 0=_ from O)
   ·exact l8.noConfusion (show l8.er 41 0=_ from h)
   ·exact l8.noConfusion (show l8.er 41 0=_ from h)
   ·obtain⟨rfl,rfl,rfl,rfl⟩:=aO (show kM (G8 (Nat.beq a b))=_ from h);obtain⟨z,f,g⟩:=LV (P:=P) (w:=w) (ox:=x) (oy:=y) C D (.inl rfl) U L q;exact d z f g rfl rfl
   ·obtain⟨rfl,rfl,rfl,rfl⟩:=aO (show kM (G8 (Bool.not (Nat.beq a b)))=_ from h);obtain⟨z,f,g⟩:=LV (P:=P) (w:=w) (ox:=x) (oy:=y) C D (.inr rfl) U L q;exact d z f g rfl rfl
  |c b=>exact l8.noConfusion (show l8.er 38 0=_ from h)
  |t l=>exact l8.noConfusion (show l8.er 42 0=_ from h)
  |u=>exact l8.noConfusion (show l8.er 43 0=_ from h)
 |t l=>exact l8.noConfusion (show l8.er 44 0=_ from h)
 |u=>exact l8.noConfusion (show l8.er 45 0=_ from h)
end
end Go.Abs
end
section
namespace Go.Abs
section
variable {P:Program} {F:Nat->Prop} {K:j0} {H:Nat->Option Hd} {w:World} {m:Mm} {nx:Nat} {v:BV} {new:List HO} {set:List (Nat×HO)} {rd:List Nat} {ev:Operand->BV} {ρ:Operand->Value}
theorem Zu:aD 1=1:=rfl
theorem Zv(k:Nat):aD (k+2)=k:=rfl
theorem Cd{t:TypeId}{n:Nat}(h:uU P t=n+1):∃i d,P.info? t=some i/\P.underlying t=some d/\i.size=aD (n+1)/\j7 P t=aD (n+1)/\((n=0/\Q1 P t=false)\/(∃k,n=k+1/\Q1 P t=true)):=by
 unfold uU at h;have f:∀i,P.info? t=some i->j7 P t=i.size:=fun i hi=>by simp[j7,hi]
 split at h
 ·rename_i g i c hi;have e:n=i.size+1:=by omega
  subst e;exact⟨i,_,hi,c,rfl,f i hi,.inr ⟨i.size,rfl,by simp[Q1,c]⟩⟩
 ·rename_i a b i c hi;have e:n=i.size+1:=by omega
  subst e;exact⟨i,_,hi,c,rfl,f i hi,.inr ⟨i.size,rfl,by simp[Q1,c]⟩⟩
 ·rename_i d i l o c hi;rw[j2]at h;split at h
  ·rename_i p;have e:n=0:=by omega
   subst e;have j:i.size=1:=Nat.eq_of_beq_eq_true p;refine⟨i,d,hi,c,j,by rw[f i hi,j];rfl,.inl ⟨rfl,?_⟩⟩
   unfold Q1;rw[c];cases d with
   |struct g=>exact absurd rfl (l g)
   |array n e=>exact absurd rfl (o n e)
   |_=>rfl
  ·cases h
 ·cases h
theorem rW{t:TypeId}(h:aD (uU P t)≠0):j7 P t=aD (uU P t):=by
 cases e:uU P t with
 |zero=>rw[e]at h;exact absurd rfl h
 |succ n=>obtain⟨_,_,_,_,_,a,_⟩:=Cd e;exact a
theorem Ce{t:TypeId}{f o:Nat}(h:GW P t f=o+1):∃b a,P.underlying t=some (.struct b)/\b[f]? =some a/\a.offset=o/\aD (uU P a.type)≠0/\OK P t f=uU P a.type:=by
 unfold GW at h;split at h
 ·rename_i b c;split at h
  ·rename_i a d;rw[j2]at h;split at h
   ·cases h
   ·rename_i g;refine⟨b,a,c,d,by omega,fun e=>g (by rw[e];rfl),?_⟩
    unfold OK;rw[c];simp only[d]
  ·cases h
 ·cases h
theorem SD{t:TypeId}{f o:Nat}(h:GW P t f=o+1):jX P t f=some (o,aD (OK P t f)):=by
 obtain⟨g,i,b,c,d,a,e⟩:=Ce h;unfold jX;rw[b];simp only[c];rw[rW a,if_neg a,d,e]
theorem QT{r a b:Nat}:Nat.add (kN r a) (Nat.mul 8 b)=kN r (a+b):=by
 show 8*(r*1048576+a)+4+8*b=8*(r*1048576+(a+b))+4;omega
variable (l9:J0 F K w) (hm:j8 F K H w m) (n0:∀x,u7 K H (ev x) (ρ x))
include l9 hm n0
theorem LW(o:Oper){t:TypeId}{x:Operand}{f:Nat}(i:o.op=.fieldAddr t x f)(h:nJ P t (ev x) f=.ok v new set rd):B3 P F K H w m nx v new set ((execOp ρ o).run P w):=by
 obtain⟨c,e,h⟩:=z7 h;obtain⟨d,h⟩:=c6 h;cases a:GW P t f with
 |zero=>rw[a]at h;exact l8.noConfusion (show l8.er 89 0=_ from h)
 |succ q=>
  rw[a]at h;obtain⟨g,h⟩:=c6 (show nB (Nat.ble (Nat.add (pO c) q) 1048575) 90 (kM (Nat.add c (Nat.mul 8 q)))=_ from h);obtain⟨rfl,rfl,rfl,rfl⟩:=aO h;have g:pO c+q<=1048575:=Nat.le_of_ble_eq_true g;have j:=e▸n0 x;have k:j5 H c (ρ x):=j.cell (by rw[X0]at d;omega)
  obtain⟨hd,b,l,g2,n,p,r,u⟩:=k.oG d;have s:=qT (w:=w) (SD a) b (pO c);simp only[execOp,i,n];rw[j1 s];refine s5 l9 hm (.inr (.inr ?_));rw[show Nat.add c (Nat.mul 8 q)=kN (pR c) (pO c+q)by rw[<-QT,<-p]]
  exact .ptr _ _ hd b r (by omega) l g2
theorem SE(o:Oper){x:Operand}{i:Nat}(j:o.op=.extract x i)(h:eD (ev x) i=.ok v new set rd):B3 P F K H w m nx v new set ((execOp ρ o).run P w):=by
 have d:=n0 x;generalize ev x=X at h d;cases X with
 |t l=>
  obtain⟨vs,e,q,r⟩:=d;have b:∀ (l:List (Nat×Nat)) (i:Nat),a2i l i (fun s n=>vN (BF s n))=.ok v new set rd->∃p,l[i]? =some p/\v=BF p.1 p.2/\new=[]/\set=[]:=by
   intro l
   induction l with
   |nil=>intro i h;exact l8.noConfusion (show l8.er 113 i=_ from h)
   |cons p l y=>
    intro i h;cases i with
    |zero=>
     have h:vN (BF p.1 p.2)=.ok v new set rd:=h;cases h;exact⟨p,rfl,rfl,rfl,rfl⟩
    |succ i=>exact y i h
  obtain⟨p,f,rfl,rfl,rfl⟩:=b l i h;have hi:i<vs.size:=by
   rw[q];exact(List.getElem?_eq_some_iff.1 f).1
  have g:=r i p vs[i] f (Array.getElem?_eq_getElem hi);simp only[execOp,j,e];rw[j1 (x:=vs[i]) (w':=w) (by simp[Instr.extract,hi])]
  refine s5 l9 hm ?_;obtain⟨s,n⟩:=p;cases s with
  |zero=>exact .inr (.inr g)
  |succ k=>exact g
 |c n=>exact l8.noConfusion (show l8.er 114 0=_ from h)
 |a k n=>exact l8.noConfusion (show l8.er 115 0=_ from h)
 |u=>exact l8.noConfusion (show l8.er 116 0=_ from h)
end
end Go.Abs
end
section
namespace Go.Abs
section
variable {P:Program} {F:Nat->Prop} {K:j0} {H:Nat->Option Hd} {w:World} {m:Mm} {nx:Nat} {v:BV} {new:List HO} {set:List (Nat×HO)} {rd:List Nat} {ev:Operand->BV} {ρ:Operand->Value}
def T9(k n:Nat):List a7:=(List.range k).map fun i=>.Bu 0 (R6 n i)
theorem P0(k n:Nat):(T9 k n).length=k:=by simp[T9]
theorem iI{k n i:Nat}(h:i<k):(T9 k n)[i]? =some (.Bu 0 (R6 n i)):=by simp[T9,h]
theorem Bg:∀ (b:List a7) (vs:List Value),vs.length=b.length->(∀ (i:Nat) (a:a7) (v:Value),b[i]? =some a->vs[i]? =some v->c8 K H a v)->c9 K H b vs
 |[],vs,h,_=>by rw[List.length_eq_zero_iff.1 h];exact .nil
 |a::b,[],h,_=>by simp at h
 |a::b,v::vs,h,c=>.cons (c 0 a v rfl rfl) (Bg b vs (by simpa using h) (fun i x y d e=>c (i+1) x y (by simpa using d) (by simpa using e)))
theorem nP{k n:Nat}{vs:List Value}(h:w9 H k n vs):c9 K H (T9 k n) vs:=by
 refine Bg _ _ (by rw[P0];exact h.2.1) (fun i a x b c=>?_)
 have hi:i<k:=by rw[<-P0 k n];exact(List.getElem?_eq_some_iff.1 b).1
 rw[iI hi]at b;cases b;simp only[c8];exact h.2.2 i x c
theorem OY{k n:Nat}{vs:List Value}(e:n<cB^k)(h:c9 K H (T9 k n) vs):w9 H k n vs:=by
 refine⟨e,by rw[c9.length h,P0],fun i x a=>?_⟩
 have hi:i<k:=by rw[<-P0 k n,<-c9.length h];exact(List.getElem?_eq_some_iff.1 a).1
 obtain⟨c,b,d⟩:=h.get i _ (iI hi);rw[a]at b;cases b;simp only[c8]at d;exact d
theorem LX{k n off s:Nat}(h:off+s<=k):((T9 k n).drop off).take s=T9 s (hZ n off s):=by
 refine List.ext_getElem? (fun i=>?_)
 by_cases hi:i<s
 ·rw[List.getElem?_take_of_lt hi,List.getElem?_drop,iI (by omega),iI hi,QR hi]
 ·rw[List.getElem?_eq_none (by simp[P0];omega),List.getElem?_eq_none (by rw[P0];omega)]
theorem LY{k n off s:Nat}{vs:List Value}(b:w9 H k n vs)(h:off+s<=k):w9 H s (hZ n off s) ((vs.drop off).take s):=by
 refine⟨sub_lt _ _ _,by simp[b.2.1];omega,fun i x a=>?_⟩
 have hi:i<s:=by
  have:=(List.getElem?_eq_some_iff.1 a).1;simp at this;omega
 rw[List.getElem?_take_of_lt hi,List.getElem?_drop]at a;rw[QR hi];exact b.2.2 _ x a
theorem xU{t:TypeId}{j k n off:Nat}(p:uU P t=j+1)(r:off+aD (j+1)<=k):
  ∃a,FC P t ((T9 k n).drop off)=some a/\∀z,c8 K H a z->u7 K H (BF j (hZ n off (aD (j+1)))) z:=by
 obtain⟨i,d,hi,l,A,o,s⟩:=Cd p;have f:aD (j+1)<=((T9 k n).drop off).length:=by rw[List.length_drop,P0];omega
 rcases s with⟨rfl,g⟩|⟨q,rfl,g⟩
 ·refine⟨.Bu 0 (R6 n off),?_,fun z h=>?_⟩
  ·have hd:(T9 k n).drop off=.Bu 0 (R6 n off)::(T9 k n).drop (off+1):=by
    have c:off<(T9 k n).length:=by rw[P0];have:aD (0+1)=1:=rfl;omega
    rw[List.drop_eq_getElem_cons c];congr 1;have:=iI (k:=k) (n:=n) (i:=off) (by rw[P0]at c;exact c)
    rw[List.getElem?_eq_getElem c]at this;exact Option.some.inj this
   rw[hd];unfold Q1 at g;unfold FC;rw[l]at g ⊢;cases d with
   |struct u=>cases g
   |array a b=>cases g
   |_=>rfl
  ·simp only[c8]at h;refine .inr (.inr ?_);have e:hZ n off (aD (0+1))=R6 n off:=by
    show n/cB^off % cB^1=_;rw[Nat.pow_one];rfl
   show j5 H (hZ n off (aD (0+1))) z;rw[e];exact h
 ·refine⟨.agg (((T9 k n).drop off).take (aD (q+1+1))),?_,fun z h=>?_⟩
  ·unfold Q1 at g;unfold FC;rw[l]at g ⊢;cases d with
   |struct u=>simp only[hi,Option.isSome_some,Bool.true_and,o,decide_eq_true_eq];rw[if_pos f]
   |array a b=>simp only[hi,Option.isSome_some,Bool.true_and,o,decide_eq_true_eq];rw[if_pos f]
   |_=>cases g
  ·rw[LX r]at h;simp only[c8]at h;obtain⟨cs,rfl,y⟩:=h;exact⟨cs,rfl,OY (sub_lt _ _ _) y⟩
variable (l9:J0 F K w) (hm:j8 F K H w m) (n0:∀x,u7 K H (ev x) (ρ x))
include l9 hm n0
theorem Zw(o:Oper){t:TypeId}{x:Operand}{f:Nat}(y:o.op=.field t x f)(h:iC P t (ev x) f=.ok v new set rd):B3 P F K H w m nx v new set ((execOp ρ o).run P w):=by
 have s:=n0 x;generalize ev x=X at h s;cases X with
 |a k n=>
  cases b:GW P t f with
  |zero=>unfold iC at h;rw[b]at h;exact l8.noConfusion (show l8.er 92 0=_ from h)
  |succ q=>
   cases g:OK P t f with
   |zero=>unfold iC at h;rw[b,g]at h;exact l8.noConfusion (show l8.er 93 0=_ from h)
   |succ d=>
    unfold iC at h;rw[b,g]at h;obtain⟨i,A⟩:=c6 (show nB (Nat.ble (Nat.add q (aD (Nat.succ d))) k) 94 (vN (BF d (hZ n q (aD (Nat.succ d)))))=_ from h);clear h;cases A;have i:q+aD (d+1)<=k:=Nat.le_of_ble_eq_true i;obtain⟨I,J,B,j,p,L,r⟩:=Ce b;obtain⟨cs,e,C⟩:=s;obtain⟨a,D,g2⟩:=xU (P:=P) (K:=K) (H:=H) (n:=n) (r.symm.trans g) i;obtain⟨z,E,G⟩:=vZ (P:=P) (w:=w) (nP (K:=K) C) D;simp only[execOp,y,e];rw[j1 (x:=z) (w':=w) ?_]
    ·exact s5 l9 hm (g2 z G)
    ·simp only[Instr.field,Sem.run_bind,u3 B,Result.andThen_ok,j,asAgg,Sem.run_pure,p,E]
 |c n=>exact l8.noConfusion (show l8.er 91 0=_ from h)
 |t l=>exact l8.noConfusion (show l8.er 95 0=_ from h)
 |u=>exact l8.noConfusion (show l8.er 96 0=_ from h)
end
end Go.Abs
end
section
namespace Go.Abs
section
variable {P:Program} {F:Nat->Prop} {K:j0} {H:Nat->Option Hd} {w:World} {m:Mm} {nx:Nat} {v:BV} {new:List HO} {set:List (Nat×HO)} {rd:List Nat} {ev:Operand->BV} {ρ:Operand->Value}
theorem Jc(n i k:Nat):BE n i k=hZ (n/cB) i k:=by
 show n/cB^ (i+1) % cB^k=n/cB/cB^i % cB^k;rw[Nat.div_div_eq_div_mul,<-Nat.pow_succ']
theorem iJ{o:HO}{k:Nat->Nat->l8}(h:hC o k=.ok v new set rd):∃s n,o=.c s n/\k s n=.ok v new set rd:=by
 cases o with
 |c s n=>exact⟨s,n,rfl,h⟩
 |_=>cases h
theorem R0{r:Nat}{o:HO}(h:I6 m r=o)(a:o≠ .z):m r=some (.F8 o,.own):=by
 unfold I6 at h;split at h
 ·rename_i o' e;rw[e,h]
 ·exact absurd h.symm a
theorem cS(hm:j8 F K H w m){r s n b:Nat}{hd:Hd}(d:I6 m r=.c s n)(g:H r=some hd)(h:hd.base=some b):
  ∃cs e,w.heap[b]? =some (.cells cs e (0,0))/\cs.size=hd.sz/\s<=cs.size/\w9 H s (n/cB) (cs.toList.take s)/\m r=some (.F8 (.c s n),.own):=by
 have a:=R0 d (by simp)
 obtain⟨p,cs,e,q,i,g2,j,k,l⟩:=hm.cont r _ .own hd a (by simp) g
 rw[h]at i;cases i;obtain⟨_,_,_,f⟩:=hm.own r _ hd b a g h;obtain⟨o,t,hh⟩:=f rfl;rw[g2]at hh;cases hh;exact⟨cs,e,g2,j,k,l,a⟩
theorem EF{k n o s x:Nat}{vs d:List Value}(b:w9 H k n vs)(c:w9 H s x d)(h:o+s<=k):w9 H k (uT n o s x) (vs.take o++d++vs.drop (o+s)):=by
 have g:=b.2.1;have j:=c.2.1;refine⟨Zq c.1 b.1 h,by simp;omega,fun i y a=>?_⟩
 rw[IW c.1];by_cases e:i<o
 ·rw[if_neg (by omega)]
  rw[List.append_assoc,List.getElem?_append_left (by simp;omega),List.getElem?_take_of_lt e]at a
  exact b.2.2 i y a
 ·by_cases f:i<o+s
  ·rw[if_pos ⟨by omega,f⟩]
   rw[List.append_assoc,List.getElem?_append_right (by simp;omega),List.getElem?_append_left (by simp;omega)]at a
   refine c.2.2 (i- o) y ?_;rw[<-a];congr 1;simp;omega
  ·rw[if_neg (by omega)]
   rw[List.append_assoc,List.getElem?_append_right (by simp;omega),List.getElem?_append_right (by simp;omega),List.getElem?_drop]at a
   refine b.2.2 i y ?_;rw[<-a];congr 1;simp;omega
theorem GZ{A U:List Value}{o s:Nat}(h:o+U.length<=s)(c:s<=A.length):(A.take o++U++A.drop (o+U.length)).take s=(A.take s).take o++U++(A.take s).drop (o+U.length):=by
 refine List.ext_getElem? (fun i=>?_)
 by_cases a:i<s
 ·rw[List.getElem?_take_of_lt a,List.append_assoc,List.append_assoc];by_cases b:i<o
  ·rw[List.getElem?_append_left (by simp;omega),List.getElem?_append_left (by simp;omega),List.getElem?_take_of_lt b,List.getElem?_take_of_lt b,List.getElem?_take_of_lt a]
  ·by_cases d:i<o+U.length
   ·rw[List.getElem?_append_right (by simp;omega),List.getElem?_append_left (by simp;omega),List.getElem?_append_right (by simp;omega),List.getElem?_append_left (by simp;omega)]
    congr 1;simp;omega
   ·rw[List.getElem?_append_right (by simp;omega),List.getElem?_append_right (by simp;omega),List.getElem?_append_right (by simp;omega),List.getElem?_append_right (by simp;omega),List.getElem?_drop,List.getElem?_drop,List.getElem?_take_of_lt (by simp;omega)]
    congr 1;simp;omega
 ·rw[List.getElem?_eq_none (by simp;omega),List.getElem?_eq_none (by simp;omega)]
theorem Wr{o n a:Nat}(h:o % cB=n % cB):(VQ o n a) /cB=o/cB:=by
 show(o- n % cB+(n % cB+a) % 4294967291) /cB=o/cB;have c:=Nat.div_add_mod o cB;have b:(n % cB+a) % 4294967291<cB:=Nat.lt_trans (Nat.mod_lt _ (by decide)) (by decide)
 rw[<-h]at b ⊢;have e:o- o % cB=cB*(o/cB):=by omega
 rw[e,Nat.mul_add_div T7,Nat.div_eq_of_lt b,Nat.add_zero]
theorem EG{n i k x:Nat}(b:x<cB^k):U9 n i k x/cB=uT (n/cB) i k x:=by
 have a:uT n (i+1) k x % cB=n % cB:=by
  have:=IW (n:=n) (i:=i+1) (k:=k) (x:=x) (j:=0) b;rw[if_neg (by omega),T8,T8,Nat.pow_zero,Nat.div_one,Nat.div_one]at this
  exact this
 show VQ (uT n (i+1) k x) n _/cB=_;rw[Wr a,IV,IV,xP,xP];have c:n % cB^ (i+1)=n % cB+cB*(n/cB % cB^i):=by rw[Nat.pow_succ',Nat.mod_mul]
 rw[c,Nat.pow_succ',Nat.mul_assoc cB,Nat.add_assoc,<-Nat.mul_add,Nat.add_mul_div_left _ _ T7,Nat.div_eq_of_lt (Nat.mod_lt _ T7),Nat.zero_add,Nat.div_div_eq_div_mul n cB]
variable (l9:J0 F K w) (hm:j8 F K H w m) (n0:∀x,u7 K H (ev x) (ρ x))
include l9 hm n0
theorem a2t(o:Oper){t:TypeId}{x:Operand}(k:o.op=.load t x)(h:tQ P t (ev x) (I6 m)=.ok v new set rd):B3 P F K H w m nx v new set ((execOp ρ o).run P w):=by
 obtain⟨c,e,h⟩:=z7 h;obtain⟨j,h⟩:=c6 h;cases f:uU P t with
 |zero=>rw[f]at h;exact l8.noConfusion (show l8.er 74 0=_ from h)
 |succ d=>
  rw[f]at h;obtain⟨s,n,g,h⟩:=iJ (show hC (I6 m (pR c)) (fun s n=>nB (Nat.ble (Nat.add (pO c) (aD (Nat.succ d))) s) 75 (.ok (BF d (BE n (pO c) (aD (Nat.succ d)))) [] [] [pR c]))=_ from h)
  obtain⟨i,h⟩:=c6 h;cases h;have i:pO c+aD (d+1)<=s:=Nat.le_of_ble_eq_true i;have l:j5 H c (ρ x):=(e▸n0 x).cell (by rw[X0]at j;omega)
  obtain⟨hd,b,p,g2,q,E,G,I⟩:=l.oG j;obtain⟨cs,J,r,L,q3,q4,_⟩:=cS hm g p g2;obtain⟨a,u,y⟩:=xU (P:=P) (K:=K) (H:=H) (n:=n/cB) f i;have A:c9 K H ((T9 s (n/cB)).drop (pO c)) (u0 cs (pO c) ((T9 s (n/cB)).drop (pO c)).length):=by
   have:=c9.drop (pO c) (nP (K:=K) q4);have B:u0 cs (pO c) ((T9 s (n/cB)).drop (pO c)).length=(cs.toList.take s).drop (pO c):=by
    rw[List.length_drop,P0,List.drop_take];rfl
   rw[B];exact this
  obtain⟨z,C,D⟩:=mM (P:=P) r A u;simp only[execOp,k,q,Instr.loadAt,Instr.sureAddr];rw[j1 (x:=z) (w':=w) (by simpa using C),Jc]
  exact s5 l9 hm (y z D)
omit l9 hm n0 in
theorem row_one{k n:Nat}{vs:List Value}(h:w9 H k n vs):∀y∈vs,one y=true:=by
 intro y a;obtain⟨i,hi⟩:=List.mem_iff_getElem?.1 a;exact(h.2.2 i y hi).one
theorem Zx(o:Oper){t:TypeId}{a x:Operand}(z:o.op=.store t a x)(h:iA P t (ev a) (ev x) (I6 m)=.ok v new set rd):B3 P F K H w m nx v new set ((execOp ρ o).run P w):=by
 obtain⟨c,e,h⟩:=z7 h;obtain⟨q,h⟩:=c6 h;obtain⟨s,n,j,h⟩:=iJ h;obtain⟨s',y,B,h⟩:=jT h;obtain⟨k,h⟩:=c6 h;obtain⟨r,h⟩:=c6 h;obtain⟨l,h⟩:=c6 h;cases h;have k:s'=j7 P t:=Nat.eq_of_beq_eq_true k;have r:1<=s':=Nat.le_of_ble_eq_true r;have l:pO c+s'<=s:=Nat.le_of_ble_eq_true l;have C:j5 H c (ρ a):=(e▸n0 a).cell (by rw[X0]at q;omega)
 obtain⟨hd,b,p,g2,D,R,S,T⟩:=C.oG q;obtain⟨cs,V,E,G,q3,q4,f⟩:=cS hm j p g2;have d:=(n0 x).row B;have u:=d.2.1;obtain⟨w',I,g⟩:=dI (P:=P) (t:=t) (v:=ρ x) (off:=pO c) (u.trans k) (by omega) E (by omega) (row_one d)
 simp only[execOp,z,D];rw[kE I];have i:(G1 cs (pO c) (ρ x).cells.toList).size=cs.size:=J7 _ _ _;have I2:w9 H s (U9 n (pO c) s' y/cB) ((G1 cs (pO c) (ρ x).cells.toList).toList.take s):=by
  rw[EG d.1,G2 _ _ _ (by omega)]
  have:=EF q4 d l;have J:(cs.toList.take (pO c)++(ρ x).cells.toList++cs.toList.drop (pO c+(ρ x).cells.toList.length)).take s=(cs.toList.take s).take (pO c)++(ρ x).cells.toList++(cs.toList.take s).drop (pO c+s'):=by
   have:=GZ (A:=cs.toList) (U:=(ρ x).cells.toList) (o:=pO c) (s:=s) (by omega) (by simpa using q3)
   rw[this,u]
  rw[J];exact this
 obtain⟨L,M,N,_⟩:=hm.own _ _ hd b f p g2;refine⟨K,H,.refl K,.refl H,fun _ h O=>absurd h O,.inl ⟨rfl,rfl⟩,?_,l9.S0 g M N,g.kept L,.refl F K⟩
 show j8 F K H w' (S0 m (pR c) (.F8 (.c s (U9 n (pO c) s' y)),.own));exact hm.XW _ _ _ hd b f p g2 g.other (fun _=>⟨_,_,g.here⟩) ⟨b,_,_,_,g2,g.here,by rw[i];exact G,by rw[i];exact q3,I2⟩
end
end Go.Abs
end
section
namespace Go.Abs
section
variable {P:Program} {F:Nat->Prop} {K:j0} {H:Nat->Option Hd} {w:World} {m:Mm} {nx:Nat} {v:BV} {new:List HO} {set:List (Nat×HO)} {rd:List Nat} {ev:Operand->BV} {ρ:Operand->Value}
theorem EH{x:Value}(h:nH x=true):j5 H (qD x) x:=by
 unfold nH at h;split at h
 ·rename_i k n;have h:n<=18446744073709551616:=Nat.le_of_ble_eq_true h;have e:Value.int k (Int.ofNat n)=Value.int k (((cZ+n:Nat):Int) - (cZ:Int)):=by
   congr 1;show(n:Int)=_;generalize cZ=z;omega
  rw[show qD (.int k (Int.ofNat n))=P8 (F6 k) (cZ+n)from rfl,e];exact .int k _ (by show 9223372036854775808+n<73786976294838206464;omega)
 ·rename_i k n;have h:n+1<=cZ:=Nat.le_of_ble_eq_true h;have e:Value.int k (Int.negSucc n)=Value.int k (((cZ- (n+1):Nat):Int) - (cZ:Int)):=by
   congr 1;generalize cZ=z at*
   omega
  rw[show qD (.int k (Int.negSucc n))=P8 (F6 k) (cZ- (n+1))from rfl,e];exact .int k _ (by show 9223372036854775808- (n+1)<73786976294838206464;omega)
 ·rename_i b;cases b
  ·exact .Bv
  ·exact .Tm
 ·exact .FF
 ·exact .tX
 ·exact .HC
 ·exact .HD
 ·cases h
theorem lT:∀ (vs:List Value),vs.all nH=true->w9 H vs.length (Gd vs) vs
 |[],_=>⟨by simp[Gd],rfl,fun i x h=>by simp at h⟩
 |x::vs,h=>by
  simp only[List.all_cons,Bool.and_eq_true]at h;have c:=EH (H:=H) h.1;have d:=lT vs h.2;have e:Gd (x::vs)=qD x+Gd vs*cB^1:=by
   show qD x+cB*Gd vs=_;rw[Nat.pow_one,Nat.mul_comm]
  have f:=c.lt.2;have a:qD x<cB^1:=by rw[Nat.pow_one];exact f
  rw[e];refine⟨by rw[List.length_cons,Nat.add_comm vs.length];exact IX a d.1,rfl,fun i y b=>?_⟩
  rw[Ex a];cases i with
  |zero=>simp at b;subst b;rw[if_pos (by omega),Y8 f];exact c
  |succ i=>rw[if_neg (by omega)];exact d.2.2 i y (by simpa using b)
theorem EI(x:Value):u7 K H (OJ x) x:=by
 unfold OJ;split
 ·rename_i cs;rw[j2];split
  ·rename_i h;exact⟨cs,rfl,lT _ h⟩
  ·trivial
 ·rw[j2];split
  ·rename_i h;exact .inr (.inr (EH h))
  ·trivial
theorem iK{t:TypeId}(h:cX P t=true):∃i z,P.info? t=some i/\i.zero=some z/\z.cells.toList.length=i.size/\j7 P t=i.size/\i.size≠0/\i.size<=16777216/\lO P t=Gd z.cells.toList/\z.cells.toList.all nH=true:=by
 unfold cX at h;split at h
 ·rename_i i hi;split at h
  ·rename_i z a;simp only[Bool.and_eq_true,Bool.not_eq_true',Nat.beq_eq,Nat.ble_eq]at h;obtain⟨⟨⟨⟨c,d⟩,b⟩,f⟩,_⟩:=h;refine⟨i,z,hi,a,d,by simp[j7,hi],?_,f,by simp[lO,hi,a],c⟩
   intro e;rw[e]at b;cases b
  ·cases h
 ·cases h
theorem LZ{t:TypeId}(h:cX P t=true){i:TypeInfo}(hi:P.info? t=some i):i.bytes<=65536:=by
 unfold cX at h;rw[hi]at h;simp only at h;split at h
 ·simp only[Bool.and_eq_true,Nat.ble_eq]at h;exact h.2
 ·cases h
theorem EK(n:Nat):qC n/cB=n:=by
 show(n*cB+n % 4294967291) /cB=n;have a:n % 4294967291<cB:=Nat.lt_trans (Nat.mod_lt _ (by decide)) (by decide)
 rw[Nat.mul_comm,Nat.mul_add_div T7,Nat.div_eq_of_lt a,Nat.add_zero]
theorem lU(l9:J0 F K w)(hm:j8 F K H w m)(a:H nx=none){s n:Nat}{arr:Array Value}(e:TypeId)(b:s<=arr.size)(d:w9 H s n (arr.toList.take s)){x:Value}
  (f:∀hd:Hd,hd.base=some w.heap.size->hd.sz=arr.size->u7 K (S0 H nx hd) v x):∃K' H',V4 F K H w m nx v [.c s (qC n)] [] x (w.alloc (.cells arr e)) K' H':=by
 let hd:Hd:=⟨some w.heap.size,arr.size,0,0⟩
 have g:o8 K (S0 H nx hd) (w.alloc (.cells arr e)) hd (.F8 (.c s (qC n))):=
  ⟨w.heap.size,arr,e,(0,0),rfl,L7 w _,rfl,b,by rw[EK];exact d.eQ (L9 a)⟩
 have:=Q6 l9 hm a arr e (.F8 (.c s (qC n))) hd rfl g .R3 (.bool false) (by simp[c8]) []
 exact⟨K,S0 H nx hd,this.le,this.hle,this.I2,f hd rfl rfl,this.mem,this.ok,this.kept,this.fix⟩
theorem QU{hd:Hd}(hn:nx<1048576)(a:hd.base=some w.heap.size):u7 K (S0 H nx hd) (.c (kN nx 0)) (.pointer (some ⟨w.heap.size,0,none⟩)):=
 .inr (.inr (.ptr nx 0 hd w.heap.size hn (by decide) (j6 _ _ _) a))
variable (l9:J0 F K w) (hm:j8 F K H w m) (n0:∀x,u7 K H (ev x) (ρ x)) (H7:∀i,i<new.length->H (nx+i)=none) (hn:nx<1048575)
include l9 hm n0 H7 hn
theorem Zy(o:Oper){e:TypeId}(c:o.op=.alloc e)(h:VW P e nx=.ok v new set rd):B3 P F K H w m nx v new set ((execOp ρ o).run P w):=by
 obtain⟨d,h⟩:=c6 h;cases h;obtain⟨i,z,hi,f,g,j,_,_,k,l⟩:=iK d;have a:(execOp ρ o).run P w=.ok (.value (.pointer (some ⟨w.heap.size,0,none⟩))) (w.alloc (.cells z.cells e)):=by
  simp only[execOp,c];refine j1 ?_;simp only[Instr.alloc,Sem.run_bind,aJ hi f,Result.andThen_ok,newVar,lA];rfl
 rw[a];have b:j7 P e=z.cells.size:=by rw[j,<-g];simp
 refine lU l9 hm (H7 0 (by simp)) e (by omega) ?_ (fun hd n _=>QU (by omega) n)
 rw[k,b,List.take_of_length_le (by simp)]
 have:=lT (H:=H) _ l;simpa using this
theorem a6u(o:Oper){e:TypeId}{x:Operand}(b:o.op=.box e x)(h:Zc (ev x) nx=.ok v new set rd):B3 P F K H w m nx v new set ((execOp ρ o).run P w):=by
 obtain⟨s,n,c,h⟩:=jT h;cases h;have a:=(n0 x).row c;simp only[execOp,b];rw[j1 (x:=.pointer (some ⟨w.heap.size,0,none⟩)) (w':=w.alloc (.cells (ρ x).cells e)) rfl];have f:(ρ x).cells.size=s:=by have:=a.2.1;simpa using this
 refine lU l9 hm (H7 0 (by simp)) e (by omega) ?_ (fun hd d _=>QU (by omega) d)
 rw[List.take_of_length_le (by simp;omega)]
 exact a
end
end Go.Abs
end
section
namespace Go.Abs
section
variable {P:Program} {F:Nat->Prop} {K:j0} {H:Nat->Option Hd} {w:World} {m:Mm} {nx:Nat} {v:BV} {new:List HO} {set:List (Nat×HO)} {rd:List Nat} {ev:Operand->BV} {ρ:Operand->Value}
theorem qI{t e:TypeId}(h:Ge P t=some e):P.underlying t=some (.slice e):=by
 unfold Ge at h;split at h
 ·rename_i b a;cases h;exact a
 ·cases h
theorem EL{t:TypeId}(h:1<=I5 P t):∃e,Ge P t=some e/\P.underlying t=some (.slice e)/\I5 P t=j7 P e/\aD (uU P e)=j7 P e:=by
 unfold I5 at h ⊢;cases a:Ge P t with
 |none=>rw[a]at h;simp at h
 |some e=>
  rw[a]at h;have:=rW (P:=P) (t:=e) (by simp only at h;omega)
  exact⟨e,rfl,qI a,this.symm,this.symm⟩
theorem EM{t:TypeId}(h:1<=Bb P t):∃e,P.underlying t=some (.array (FE P t) e)/\Bb P t=j7 P e/\Zb P t=uU P e:=by
 unfold Bb at h ⊢;unfold FE Zb;cases a:arT P t with
 |none=>rw[a]at h;simp at h
 |some x=>
  rw[a]at h;have:=rW (P:=P) (t:=x.2) (by simp only at h;omega)
  refine⟨x.2,?_,this.symm,rfl⟩;unfold arT at a;split at a
  ·rename_i n e b;cases a;exact b
  ·cases a
theorem Ws{z a:Nat}(h:z<=a):∃j,a=z+j/\a- z=j:=⟨a- z,by omega,rfl⟩
theorem uZ{x:BV}{y:Value}{k:Nat->l8}(a:u7 K H x y)(h:vI x k=.ok v new set rd):∃j ki,y=.int ki ((j:Nat):Int)/\k j=.ok v new set rd:=by
 obtain⟨c,rfl,d,e,b⟩:=Bf h;obtain⟨ki,_,a,_⟩:=a.int d;obtain⟨j,f,g⟩:=Ws e;rw[g]at b;have i:∀z:Nat,(((z+j:Nat):Int) - (z:Int))=(j:Int):=fun z=>by omega
 refine⟨j,ki,?_,b⟩;rw[a,f,i]
theorem Wt{c:Nat}{x:Value}{k:Nat->l8}(a:u7 K H (.c c) x)(h:iD c k=.ok v new set rd):∃p l f,x=.slice p l f/\l<1048576/\k l=.ok v new set rd:=by
 unfold iD at h;rw[j2]at h;split at h
 ·rename_i e;have e:=Nat.eq_of_beq_eq_true e;subst e;exact⟨none,0,0,(a.cell (by decide)).isNil.1 rfl,by decide,h⟩
 ·obtain⟨d,h⟩:=c6 h;have g:j5 H c x:=a.cell (by rw[X1]at d;omega)
  obtain⟨hd,b,o,cap,_,_,i,_,_,_,_,_,_,_,g2,_⟩:=g.uB d;exact⟨_,_,_,i,g2,h⟩
theorem xV{n:Nat}(h:n<1048577):u7 K H (.c (iZ n)) (.int .i64 (n:Int)):=by
 have a:iZ n=P8 (F6 .i64) (cZ+n):=by
  show 128*n+1180591620717411303456=128*(9223372036854775808+n)+8*4;omega
 have b:Value.int .i64 (n:Int)=.int .i64 (((cZ+n:Nat):Int) - (cZ:Int)):=by
  congr 1;generalize cZ=z;omega
 rw[a,b];exact .inr (.inr (.int .i64 _ (by show 9223372036854775808+n<73786976294838206464;omega)))
variable (l9:J0 F K w) (hm:j8 F K H w m) (n0:∀x,u7 K H (ev x) (ρ x))
include l9 hm n0
theorem Ma(o:Oper){t:TypeId}{x y:Operand}(B:o.op=.indexAddr t x y)(h:nK P t (ev x) (ev y)=.ok v new set rd):B3 P F K H w m nx v new set ((execOp ρ o).run P w):=by
 obtain⟨c,L,h⟩:=z7 h;obtain⟨j,ki,C,h⟩:=uZ (n0 y) h;have D:=L▸n0 x;rw[j2]at h;split at h
 ·rename_i E;obtain⟨d,h⟩:=c6 h;obtain⟨f,h⟩:=c6 h;obtain⟨g,h⟩:=c6 h;obtain⟨rfl,rfl,rfl,rfl⟩:=aO h;have d:1<=I5 P t:=Nat.le_of_ble_eq_true d;have f:j+1<=sL c:=Nat.le_of_ble_eq_true f;have g:sO c+j*I5 P t<=1048575:=Nat.le_of_ble_eq_true g;obtain⟨e,_,n,p,_⟩:=EL d;have q:j5 H c (ρ x):=D.cell (by rw[X1]at E;omega)
  obtain⟨hd,b,o',cap,r,g2,s,G,I,k,S,T,M,N,_⟩:=q.uB E
  have u:o'=sO c:=by rcases k with k|k;·omega
                     ·exact k
  subst u;have O:=jF (P:=P) (w:=w) (t:=t) (e:=e) (a:=(j:Int)) (ki:=ki) (b:=b) (off:=sO c) (len:=sL c) (cap:=cap) n (by omega) (Int.natCast_nonneg _) (by rw[Int.toNat_natCast];omega)
  simp only[execOp,B,s,C];rw[j1 O,Int.toNat_natCast,<-p];refine s5 l9 hm (.inr (.inr ?_));have z:sO c+j*I5 P t<1048576:=by omega
  have l:Nat.add (sO c) (Nat.mul j (I5 P t))=sO c+j*I5 P t:=rfl;rw[l];exact .ptr _ _ hd b M z r g2
 ·obtain⟨J,h⟩:=c6 h;obtain⟨d,h⟩:=c6 h;obtain⟨f,h⟩:=c6 h;obtain⟨g,h⟩:=c6 h;obtain⟨rfl,rfl,rfl,rfl⟩:=aO h;have d:j+1<=FE P t:=Nat.le_of_ble_eq_true d;have f:1<=Bb P t:=Nat.le_of_ble_eq_true f;have g:pO c+j*Bb P t<=1048575:=Nat.le_of_ble_eq_true g;obtain⟨e,n,p,_⟩:=EM f;have q:j5 H c (ρ x):=D.cell (by rw[X0]at J;omega)
  obtain⟨hd,b,r,g2,s,G,I,k⟩:=q.oG J;obtain⟨i,hi,A⟩:=N3 (P:=P) (t:=e) (by omega)
  have R:(j:Int)<(FE P t:Int):=by omega
  simp only[execOp,B,s,C];rw[j1 (x:=.pointer (some ⟨b,pO c+j*j7 P e,none⟩)) (w':=w) ?_]
  ·refine s5 l9 hm (.inr (.inr ?_));rw[show Nat.add c (Nat.mul 8 (Nat.mul j (Bb P t)))=kN (pR c) (pO c+j*Bb P t)by rw[show Nat.mul j (Bb P t)=j*Bb P t from rfl,<-QT,<-G],<-p]
   exact .ptr _ _ hd b I (by omega) r g2
  ·simp only[Instr.indexAt,Sem.run_bind,asIntOf,Sem.run_pure,Result.andThen_ok,u3 n,Instr.sureAddr];simp[R,M1 hi,A,G5]
theorem a6v(o:Oper){c:Call}{x:Operand}{t:TypeId}(d:o.op=.call c)(f:c.callee=.builtin .len)(g:c.args.toList=[x])(i:c.argTypes.toList=[t])(h:Zg P t (ev x)=.ok v new set rd):B3 P F K H w m nx v new set ((execOp ρ o).run P w):=by
 obtain⟨a,h⟩:=c6 h;obtain⟨e,j⟩:=Option.isSome_iff_exists.1 a;have k:=qI j;obtain⟨n,q,h⟩:=z7 h;obtain⟨p,l,u,r,g2,h⟩:=Wt (q▸n0 x) h;obtain⟨rfl,rfl,rfl,rfl⟩:=aO h;have b:(execOp ρ o).run P w=.ok (.value (.int .i64 (l:Int))) w:=by
  rw[B9 o d f];have a:c.args.map ρ= #[ρ x]:=by
   apply Array.toList_inj.1;simp[g]
  have s:c.argTypes= #[t]:=by
   apply Array.toList_inj.1;simp[i]
  rw[a,s];simp only[builtin];refine j1 ?_;simp only[Builtin.len_,r];simp[u3 k,goInt]
 rw[b];exact s5 l9 hm (xV (by omega))
end
end Go.Abs
end
section
namespace Go.Abs
section
variable {P:Program} {F:Nat->Prop} {K:j0} {H:Nat->Option Hd} {w:World} {m:Mm} {nx:Nat} {v:BV} {new:List HO} {set:List (Nat×HO)} {rd:List Nat} {ev:Operand->BV} {ρ:Operand->Value}
theorem Wu{k k':IntKind}{n a:Nat}(h:P8 (F6 k) n % 128=P8 (F6 k') a % 128):k=k':=by
 have c:=dU k;have d:=dU k';have e:(128*n+8*F6 k) % 128=(128*a+8*F6 k') % 128:=h;have b:F6 k=F6 k':=by omega
 revert b;cases k<;>cases k'<;>decide
theorem Cf{k:IntKind}{n n':Nat}:P8 (F6 k) n<P8 (F6 k) n'↔n<n':=by
 show 128*n+8*F6 k<128*n'+8*F6 k↔n<n';omega
theorem Ab(n0:∀x,u7 K H (ev x) (ρ x))(a:IntKind):∀ (l:List Operand) (n:Nat),n<73786976294838206464->iF (fun y x=>Nat.ble (Nat.succ x) y) ev l (P8 (F6 a) n)=.ok v new set rd->
  ∃f,v=.c (P8 (F6 a) f)/\f<73786976294838206464/\new=[]/\set=[]/\rd=[]/\((l.map ρ).foldlM Builtin.max2 (.int a ((n:Nat) - (cZ:Int)))).run P w=.ok (.int a ((f:Nat) - (cZ:Int))) w
 |[],n,g,h=>by
  obtain⟨rfl,rfl,rfl,rfl⟩:=aO h;exact⟨n,rfl,g,rfl,rfl,rfl,by simp⟩
 |o::l,n,g,h=>by
  obtain⟨c,i,h⟩:=z7 h;obtain⟨d,h⟩:=c6 h;have d:=Nat.eq_of_beq_eq_true d;have hi:rM c=true:=by
   rw[jS];have r:(128*n+8*F6 a) % 128=c % 128:=d;omega
  obtain⟨k',_,j,k,p⟩:=(i▸n0 o).int hi;rw[k]at d h;have q:=Wu d;subst q;generalize s8 c=n2 at*
  rw[j2]at h;simp only[List.map_cons,List.foldlM_cons,Sem.run_bind,j,Builtin.max2,Sem.run_pure,Result.andThen_ok];split at h
  ·rename_i b;have b:P8 (F6 a) n<P8 (F6 a) n2:=Nat.le_of_ble_eq_true b;have b:=Cf.1 b;have e:((n2:Nat):Int) - (cZ:Int)>(n:Int) - (cZ:Int):=by generalize cZ=z;omega
   rw[if_pos e];exact Ab n0 a l n2 p h
  ·rename_i b;have b:¬P8 (F6 a) n<P8 (F6 a) n2:=fun hh=>b (Nat.ble_eq_true_of_le hh)
   have b:¬n<n2:=fun hh=>b (Cf.2 hh)
   have e:¬((n2:Nat):Int) - (cZ:Int)>(n:Int) - (cZ:Int):=by generalize cZ=z;omega
   rw[if_neg e];exact Ab n0 a l n g h
theorem Ac(n0:∀x,u7 K H (ev x) (ρ x))(a:IntKind):∀ (l:List Operand) (n:Nat),n<73786976294838206464->iF (fun y x=>Nat.ble (Nat.succ y) x) ev l (P8 (F6 a) n)=.ok v new set rd->
  ∃g,v=.c (P8 (F6 a) g)/\g<73786976294838206464/\new=[]/\set=[]/\rd=[]/\((l.map ρ).foldlM Builtin.min2 (.int a ((n:Nat) - (cZ:Int)))).run P w=.ok (.int a ((g:Nat) - (cZ:Int))) w
 |[],n,i,h=>by
  obtain⟨rfl,rfl,rfl,rfl⟩:=aO h;exact⟨n,rfl,i,rfl,rfl,rfl,by simp⟩
 |o::l,n,i,h=>by
  obtain⟨c,j,h⟩:=z7 h;obtain⟨f,h⟩:=c6 h;have f:=Nat.eq_of_beq_eq_true f;have hi:rM c=true:=by
   rw[jS];have s:(128*n+8*F6 a) % 128=c % 128:=f;omega
  obtain⟨k',_,k,p,q⟩:=(j▸n0 o).int hi;rw[p]at f h;have r:=Wu f;subst r;generalize s8 c=d at*
  rw[j2]at h;simp only[List.map_cons,List.foldlM_cons,Sem.run_bind,k,Builtin.min2,Sem.run_pure,Result.andThen_ok];split at h
  ·rename_i b;have b:P8 (F6 a) d<P8 (F6 a) n:=Nat.le_of_ble_eq_true b;have b:=Cf.1 b;have e:((d:Nat):Int) - (cZ:Int)<(n:Int) - (cZ:Int):=by generalize cZ=z;omega
   rw[if_pos e];exact Ac n0 a l d q h
  ·rename_i b;have b:¬P8 (F6 a) d<P8 (F6 a) n:=fun hh=>b (Nat.ble_eq_true_of_le hh)
   have b:¬d<n:=fun hh=>b (Cf.2 hh)
   have e:¬((d:Nat):Int) - (cZ:Int)<(n:Int) - (cZ:Int):=by generalize cZ=z;omega
   rw[if_neg e];exact Ac n0 a l n i h
variable (l9:J0 F K w) (hm:j8 F K H w m) (n0:∀x,u7 K H (ev x) (ρ x))
include l9 hm n0
theorem a6w(o:Oper){c:Call}(e:o.op=.call c)(f:c.callee=.builtin .max)(h:Bc (fun y x=>Nat.ble (Nat.succ x) y) ev c.args.toList=.ok v new set rd):B3 P F K H w m nx v new set ((execOp ρ o).run P w):=by
 unfold Bc at h;cases a:c.args.toList with
 |nil=>rw[a]at h;cases h
 |cons x r=>
  rw[a]at h;obtain⟨n,g,h⟩:=z7 h;obtain⟨i,h⟩:=c6 h;obtain⟨d,_,j,b,k⟩:=(g▸n0 x).int i;rw[b]at h;obtain⟨l,rfl,p,rfl,rfl,rfl,g2⟩:=Ab (P:=P) (w:=w) n0 d r _ k h;rw[B9 o e f];simp only[builtin];rw[j1 (w':=w) ?_]
  ·exact s5 l9 hm (.inr (.inr (.int d l p)))
  ·simp only[Builtin.max_,Array.toList_map,a,List.map_cons,j];exact g2
theorem a6x(o:Oper){c:Call}(e:o.op=.call c)(f:c.callee=.builtin .min)(h:Bc (fun y x=>Nat.ble (Nat.succ y) x) ev c.args.toList=.ok v new set rd):B3 P F K H w m nx v new set ((execOp ρ o).run P w):=by
 unfold Bc at h;cases a:c.args.toList with
 |nil=>rw[a]at h;cases h
 |cons x r=>
  rw[a]at h;obtain⟨n,g,h⟩:=z7 h;obtain⟨i,h⟩:=c6 h;obtain⟨d,_,j,b,k⟩:=(g▸n0 x).int i;rw[b]at h;obtain⟨l,rfl,p,rfl,rfl,rfl,g2⟩:=Ac (P:=P) (w:=w) n0 d r _ k h;rw[B9 o e f];simp only[builtin];rw[j1 (w':=w) ?_]
  ·exact s5 l9 hm (.inr (.inr (.int d l p)))
  ·simp only[Builtin.min_,Array.toList_map,a,List.map_cons,j];exact g2
theorem a6y(o:Oper){c:Call}{x:Operand}{t:TypeId}(s:o.op=.call c)(u:c.callee=.builtin .cap)(y:c.args.toList=[x])(z:c.argTypes.toList=[t])(h:Zh P t (ev x)=.ok v new set rd):B3 P F K H w m nx v new set ((execOp ρ o).run P w):=by
 obtain⟨d,h⟩:=c6 h;obtain⟨e,A⟩:=Option.isSome_iff_exists.1 d;have B:=qI A;obtain⟨n,C,h⟩:=z7 h;have k:=C▸n0 x;have⟨l,p,q,D,g2,h⟩:∃l p q,ρ x=.slice p q l/\l<1048577/\kM (iZ l)=.ok v new set rd:=by
  rw[j2]at h;split at h
  ·rename_i f;have f:=Nat.eq_of_beq_eq_true f;subst f;exact⟨0,_,_,(k.cell (by decide)).isNil.1 rfl,by decide,h⟩
  ·obtain⟨a,h⟩:=c6 h;obtain⟨g,h⟩:=c6 h;have g:=Nat.eq_of_beq_eq_true g;have i:j5 H n (ρ x):=k.cell (by rw[X1]at a;omega)
   obtain⟨hd,b,o',cap,_,_,r,_,E,_,_,_,_,_,q3,_⟩:=i.uB a;rw[E g]at r;exact⟨_,_,_,r,by omega,h⟩
 obtain⟨rfl,rfl,rfl,rfl⟩:=aO h;have j:(execOp ρ o).run P w=.ok (.value (.int .i64 (l:Int))) w:=by
  rw[B9 o s u];have d:c.args.map ρ= #[ρ x]:=by
   apply Array.toList_inj.1;simp[y]
  have a:c.argTypes= #[t]:=by
   apply Array.toList_inj.1;simp[z]
  rw[d,a];simp only[builtin];refine j1 ?_;simp only[Builtin.cap_,D];simp[u3 B,goInt]
 rw[j];exact s5 l9 hm (xV g2)
end
end Go.Abs
end
section
namespace Go.Abs
section
variable {P:Program} {F:Nat->Prop} {K:j0} {H:Nat->Option Hd} {w:World} {m:Mm} {nx:Nat} {v:BV} {new:List HO} {set:List (Nat×HO)} {rd:List Nat} {ev:Operand->BV} {ρ:Operand->Value}
theorem a2u(P:Program)(t:TypeId):Bb P t=aD (Zb P t):=by
 unfold Bb Zb;cases arT P t<;>rfl
def Bd(ρ:Operand->Value)(o:Option Operand)(d a:Nat):Prop:=match o with
 |none=>a=d
 |some x=>∃ki,ρ x=.int ki ((a:Nat):Int)
theorem Bh(n0:∀x,u7 K H (ev x) (ρ x)){o:Option Operand}{d:Nat}{k:Nat->l8}(h:oI ev o d k=.ok v new set rd):∃a,Bd ρ o d a/\k a=.ok v new set rd:=by
 cases o with
 |none=>exact⟨d,rfl,h⟩
 |some x=>
  obtain⟨j,ki,b,c⟩:=uZ (n0 x) h;exact⟨j,⟨ki,b⟩,c⟩
theorem aB{x:Operand}{ki:IntKind}{a n:Nat}{c:BoundsCode}(h:ρ x=.int ki (a:Int))(b:a<=n):(Instr.sliceBound (ρ x) n c).run P w=.ok a w:=by
 rw[h,M4 (Int.natCast_nonneg _) (by omega),Int.toNat_natCast]
theorem vA{lo hi mx:Option Operand}{a b f len cap:Nat}{s:Bool}(c:Bd ρ lo 0 a)(d:Bd ρ hi len b)(e:Bd ρ mx cap f)(hh:mx.isSome=true->hi.isSome=true)(h:a<=b)(g:b<=f)(i:f<=cap):
  (Instr.sliceBounds s len cap (lo.map ρ) (hi.map ρ) (mx.map ρ)).run P w=.ok (a,b,f) w:=by
 cases mx with
 |none=>
  cases e;cases hi with
  |none=>
   cases d;cases lo with
   |none=>cases c;simp[Instr.sliceBounds]
   |some x=>obtain⟨j,c⟩:=c;simp[Instr.sliceBounds,aB c h]
  |some y=>
   obtain⟨k,d⟩:=d;cases lo with
   |none=>cases c;simp[Instr.sliceBounds,aB d g]
   |some x=>obtain⟨j,c⟩:=c;simp[Instr.sliceBounds,aB c h,aB d g]
 |some z=>
  obtain⟨k3,e⟩:=e;cases hi with
  |none=>exact absurd (hh rfl) (by simp)
  |some y=>
   obtain⟨k,d⟩:=d;cases lo with
   |none=>cases c;simp[Instr.sliceBounds,aB d g,aB e i]
   |some x=>obtain⟨j,c⟩:=c;simp[Instr.sliceBounds,aB c h,aB d g,aB e i]
variable (l9:J0 F K w) (hm:j8 F K H w m) (n0:∀x,u7 K H (ev x) (ρ x))
include l9 hm n0
theorem Zz(o:Oper){t:TypeId}{x i:Operand}(B:o.op=.index t x i)(h:qF P t (ev x) (ev i)=.ok v new set rd):B3 P F K H w m nx v new set ((execOp ρ o).run P w):=by
 have s:=n0 x;generalize ev x=X at h s;cases X with
 |a k n=>
  obtain⟨j,ki,C,h⟩:=uZ (n0 i) (show vI (ev i) (fun j=>@Nat.rec (fun _=>l8) (.er 107 0) (fun b _=>nB (Nat.ble (Nat.succ j) (FE P t)) 108 (nB (Nat.ble (Nat.mul (Nat.succ j) (aD (Nat.succ b))) k) 109 (nB (Nat.ble 1 (aD (Nat.succ b))) 110 (vN (BF b (hZ n (Nat.mul j (aD (Nat.succ b))) (aD (Nat.succ b)))))))) (Zb P t))=_ from h)
  cases d:Zb P t with
  |zero=>rw[d]at h;exact l8.noConfusion (show l8.er 107 0=_ from h)
  |succ b=>
   rw[d]at h;obtain⟨y,h⟩:=c6 (show nB (Nat.ble (Nat.succ j) (FE P t)) 108 (nB (Nat.ble (Nat.mul (Nat.succ j) (aD (Nat.succ b))) k) 109 (nB (Nat.ble 1 (aD (Nat.succ b))) 110 (vN (BF b (hZ n (Nat.mul j (aD (Nat.succ b))) (aD (Nat.succ b)))))))=_ from h);obtain⟨f,h⟩:=c6 h;obtain⟨g,h⟩:=c6 h;cases h;have y:j+1<=FE P t:=Nat.le_of_ble_eq_true y;have f:(j+1)*aD (b+1)<=k:=Nat.le_of_ble_eq_true f;have g:1<=aD (b+1):=Nat.le_of_ble_eq_true g;have p:Bb P t=aD (b+1):=by rw[a2u,d]
   obtain⟨e,D,A,q⟩:=EM (by rw[p];exact g)
   obtain⟨cs,E,G⟩:=s;have I:j*aD (b+1)+aD (b+1)<=k:=by rw[Nat.add_mul,Nat.one_mul]at f;exact f
   obtain⟨a,J,g2⟩:=xU (P:=P) (K:=K) (H:=H) (n:=n) (q.symm.trans d) I;obtain⟨z,L,M⟩:=vZ (P:=P) (w:=w) (nP (K:=K) G) J;obtain⟨N,hi,r⟩:=N3 (P:=P) (t:=e) (by rw[<-A,p];omega)
   have O:(j:Int)<(FE P t:Int):=by omega
   have R:j*j7 P e=j*aD (b+1):=by rw[<-A,p]
   simp only[execOp,B,E,C];rw[j1 (x:=z) (w':=w) ?_]
   ·exact s5 l9 hm (g2 z M)
   ·simp only[Instr.index,Sem.run_bind,asIntOf,Sem.run_pure,Result.andThen_ok,u3 D];rw[if_pos ⟨Int.natCast_nonneg _,O⟩];simp only[Sem.run_bind,M1 hi,r,Result.andThen_ok,Int.toNat_natCast,R,L]
 |c n=>exact l8.noConfusion (show l8.er 106 0=_ from h)
 |t l=>exact l8.noConfusion (show l8.er 111 0=_ from h)
 |u=>exact l8.noConfusion (show l8.er 112 0=_ from h)
end
end Go.Abs
end
section
namespace Go.Abs
section
variable {P:Program} {F:Nat->Prop} {K:j0} {H:Nat->Option Hd} {w:World} {m:Mm} {nx:Nat} {v:BV} {new:List HO} {set:List (Nat×HO)} {rd:List Nat} {ev:Operand->BV} {ρ:Operand->Value}
theorem QV{r o a b e yO f n:Nat}{hd:Hd}{g o':Nat}(j:r<1048576)(k:o+a*yO<1048576)(y:b<1048576)(l:yO<256)(p:f<2)(q:H r=some hd)(s:hd.base=some g)
  (z:a<=b)(A:b<=e)(t:f=1->e=b)(i:e=0\/o'=o)(B:o+e*yO<=hd.sz)(u:n=b- a):
  u7 K H (.c (Ar r (o+a*yO) n yO f)) (.slice (if e=a then some ⟨g,o',none⟩else some (⟨g,o'+a*yO,none⟩:Addr)) (b- a) (e- a)):=by
 subst u;refine .inr (.inr ?_);have C:o+a*yO+(e- a)*yO=o+e*yO:=by
  obtain⟨d,rfl⟩:∃d,e=a+d:=⟨e- a,by omega⟩
  rw[Nat.add_sub_cancel_left,Nat.add_mul];omega
 split
 ·rename_i h;exact .sl _ _ _ _ _ hd g o' (e- a) j k (by omega) l p q s (by omega) (fun h=>by have:=t h;omega) (.inl (by omega)) (by omega)
 ·rename_i h;refine .sl _ _ _ _ _ hd g (o'+a*yO) (e- a) j k (by omega) l p q s (by omega) (fun h=>by have:=t h;omega) ?_ (by omega)
  rcases i with i|i
  ·omega
  ·exact .inr (by rw[i])
theorem lV{c:Nat}{k:Nat->l8}(h:iD c k=.ok v new set rd):(c=25/\k 0=.ok v new set rd)\/(JI c=true/\k (sL c)=.ok v new set rd):=by
 unfold iD at h;rw[j2]at h;split at h
 ·rename_i e;exact .inl ⟨Nat.eq_of_beq_eq_true e,h⟩
 ·exact .inr (c6 h)
theorem a09{mx hi:Option Operand}(a:oN mx true (oN hi false true)=true):mx.isSome=true->hi.isSome=true:=by
 cases mx with
 |none=>simp
 |some z=>cases hi with
  |none=>exact Bool.noConfusion (show false=true from a)
  |some z=>simp
variable (l9:J0 F K w) (hm:j8 F K H w m) (n0:∀x,u7 K H (ev x) (ρ x))
include l9 hm n0
theorem ZA(o:Oper){t:TypeId}{x:Operand}{lo hi mx:Option Operand}(R:o.op=.slice t x lo hi mx)(h:iE P t (ev x) lo hi mx ev (I6 m)=.ok v new set rd):B3 P F K H w m nx v new set ((execOp ρ o).run P w):=by
 obtain⟨c,ex,h⟩:=z7 h;have S:=ex▸n0 x;rw[j2]at h;split at h
 ·rename_i hp;obtain⟨a,u,h⟩:=Bh n0 h;obtain⟨b,y,h⟩:=Bh n0 h;cases mx with
  |some z=>exact l8.noConfusion (show l8.er 124 0=_ from h)
  |none=>
   obtain⟨k,h⟩:=c6 h;obtain⟨d,h⟩:=c6 h;obtain⟨i,h⟩:=c6 h;obtain⟨l,h⟩:=c6 h;obtain⟨q,h⟩:=c6 h;obtain⟨B,h⟩:=c6 h;obtain⟨s,n,T,h⟩:=iJ h;obtain⟨h7,h⟩:=c6 h;cases h;have k:a<=b:=Nat.le_of_ble_eq_true k;have d:b<=FE P t:=Nat.le_of_ble_eq_true d;have i:1<=Bb P t:=Nat.le_of_ble_eq_true i;have l:Bb P t<=255:=Nat.le_of_ble_eq_true l;have q:FE P t<=1048575:=Nat.le_of_ble_eq_true q;have B:pO c+a*Bb P t<=1048575:=Nat.le_of_ble_eq_true B;have h7:pO c+FE P t*Bb P t<=s:=Nat.le_of_ble_eq_true h7;obtain⟨e,M,U,_⟩:=EM i;have V:j5 H c (ρ x):=S.cell (by rw[X0]at hp;omega)
   obtain⟨hd,A,N,g2,X,g4,Y,C⟩:=V.oG hp;obtain⟨cs,et,Z,q2,q3,q4,_⟩:=cS hm T N g2;obtain⟨D,j,r⟩:=N3 (P:=P) (t:=e) (by omega)
   have E:=vA (P:=P) (w:=w) (s:=false) (mx:=none) u y (show Bd ρ none (FE P t) (FE P t)from rfl) (by simp) k d (Nat.le_refl _)
   simp only[execOp,R,X];rw[j1 (x:=.slice (if FE P t=a then some ⟨A,pO c,none⟩else some (⟨A,pO c+a*Bb P t,none⟩:Addr)) (b- a) (FE P t- a)) (w':=w) ?_]
   ·refine s5 l9 hm ?_;refine QV Y (by omega) (by omega) (by omega) ?_ N g2 k d ?_ (.inr rfl) (by omega) rfl
    ·rw[j2];split<;>decide
    ·rw[j2];split
     ·rename_i f;intro _;exact(Nat.eq_of_beq_eq_true f).symm
     ·intro f;exact absurd f (by decide)
   ·simp only[Instr.sliceAt,Sem.run_bind,u3 M,Result.andThen_ok,Instr.sureAddr,Sem.run_pure,E,M1 j,r,<-U,G5];split<;>rfl
 ·obtain⟨k,k1⟩:=c6 h;clear h;have k:1<=I5 P t:=Nat.le_of_ble_eq_true k;obtain⟨e,_,M,U,_⟩:=EL k;obtain⟨D,j,r⟩:=N3 (P:=P) (t:=e) (by omega)
  rcases lV k1 with⟨e0,G⟩|⟨O,G⟩
  ·clear k1;obtain⟨a,u,k3⟩:=Bh n0 G;clear G;obtain⟨b,y,k4⟩:=Bh n0 k3;clear k3;obtain⟨m',I,J⟩:=Bh n0 k4;clear k4;obtain⟨h0,k6⟩:=c6 J;clear J;obtain⟨d,k7⟩:=c6 k6;clear k6;obtain⟨i,k8⟩:=c6 k7;clear k7;obtain⟨l,k9⟩:=c6 k8;clear k8;have d:a<=b:=Nat.le_of_ble_eq_true d;have i:b<=m':=Nat.le_of_ble_eq_true i;have l:m'<=0:=Nat.le_of_ble_eq_true l;rw[j2,if_pos (by rw[e0];rfl)]at k9
   obtain⟨r1,r2,r3,r4⟩:=aO k9;rw[r1,r2,r3];have hv:=(S.cell (by rw[e0];decide)).isNil.1 e0
   have ha0:a=0:=by omega
   have hb0:b=0:=by omega
   have HZ:m'=0:=by omega
   rw[ha0]at u;rw[hb0]at y;rw[HZ]at I;have E:=vA (P:=P) (w:=w) (s:=true) u y I (a09 h0) (Nat.le_refl _) (Nat.le_refl _) (Nat.le_refl _);have g:=kZ (P:=P) (w:=w) M j none 0 0 _ _ _ _ _ _ E;simp only[execOp,R,hv];rw[j1 g];exact s5 l9 hm (.inr (.inr .FF))
  ·clear k1;obtain⟨a,u,k3⟩:=Bh n0 G;clear G;obtain⟨b,y,k4⟩:=Bh n0 k3;clear k3;obtain⟨m',I,J⟩:=Bh n0 k4;clear k4;obtain⟨h0,k6⟩:=c6 J;clear J;obtain⟨d,k7⟩:=c6 k6;clear k6;obtain⟨i,k8⟩:=c6 k7;clear k7;obtain⟨l,k9⟩:=c6 k8;clear k8;have d:a<=b:=Nat.le_of_ble_eq_true d;have i:b<=m':=Nat.le_of_ble_eq_true i;have l:m'<=sL c:=Nat.le_of_ble_eq_true l;have hn:¬(Nat.beq c 25=true):=by
    intro f;rw[Nat.eq_of_beq_eq_true f]at O;exact absurd O (by decide)
   rw[j2,if_neg hn]at k9;obtain⟨q,k10⟩:=c6 k9;obtain⟨B,k11⟩:=c6 k10;obtain⟨r1,r2,r3,r4⟩:=aO k11;rw[r1,r2,r3];have q:sE c=I5 P t:=Nat.eq_of_beq_eq_true q;have B:sO c+a*I5 P t<=1048575:=Nat.le_of_ble_eq_true B;have V:j5 H c (ρ x):=S.cell (by rw[X1]at O;omega)
   obtain⟨hd,A,o',cap,N,g2,X,g4,Y,C,g7,g8,g9,g10,g11,g12,g13⟩:=V.uB O;obtain⟨p,bm',e1,e3,e4⟩:∃p,Bd ρ mx cap p/\m'<=p/\p<=cap/\(mx=none/\p=cap/\m'=sL c\/mx≠none/\p=m'):=by
    cases mx with
    |none=>cases I;exact⟨cap,rfl,g4,Nat.le_refl _,.inl ⟨rfl,rfl,rfl⟩⟩
    |some z=>exact⟨m',I,Nat.le_refl _,by omega,.inr ⟨by simp,rfl⟩⟩
   have E:=vA (P:=P) (w:=w) (s:=true) u y bm' (a09 h0) d (by omega) e3
   have g:=kZ (P:=P) (w:=w) M j (some ⟨A,o',none⟩) (sL c) cap _ _ _ _ _ _ E;simp only[execOp,R,X];rw[j1 g];refine s5 l9 hm ?_;have e5:Option.map (fun x:Addr=>x.add (a*D.size)) (some (⟨A,o',none⟩:Addr))=some (⟨A,o'+a*I5 P t,none⟩:Addr):=by
    rw[Option.map_some,G5,r,<-U]
   rw[e5];have XK:sO c+p*I5 P t<=hd.sz:=by
    have:p*I5 P t<=cap*I5 P t:=Nat.mul_le_mul_right _ e3;rw[q]at g7;omega
   refine QV g9 (by omega) (by omega) (by rw[<-q];exact g12) ?_ N g2 d (by omega) ?_ ?_ XK rfl
   ·rw[j2];split
    ·cases mx with
     |none=>exact g13
     |some z=>show 1<2;decide
    ·decide
   ·intro f;rw[j2]at f;split at f
    ·rename_i L;have L:=Nat.eq_of_beq_eq_true L;rcases e4 with⟨Z,q2,q3⟩|⟨Z,q2⟩
     ·rw[Z]at f;have:=Y f;omega
     ·omega
    ·exact absurd f (by decide)
   ·rcases C with C|C
    ·exact .inl (by omega)
    ·exact .inr C
end
end Go.Abs
end
section
namespace Go.Abs
section
variable {P:Program} {F:Nat->Prop} {K:j0} {H:Nat->Option Hd} {w:World} {m:Mm} {nx:Nat} {v:BV} {new:List HO} {set:List (Nat×HO)} {rd:List Nat} {ev:Operand->BV} {ρ:Operand->Value}
theorem Ad(n0:∀x,u7 K H (ev x) (ρ x)){t:TypeId}{s:Nat}{place:Nat->Option (Nat×Nat)}(A:j7 P t=s)(B:∀f o,GW P t f=o+1->place f=some (o,aD (OK P t f))){k:Nat->l8}:
  ∀ (ps:List (Nat×Operand)) (n:Nat) (cs:Array Value),w9 H s n cs.toList->cQ P t ev ps n k=.ok v new set rd->
  ∃c a,Instr.fill place cs (ps.map fun u=>(u.1,ρ u.2))=some a/\w9 H s c a.toList/\k c=.ok v new set rd
 |[],n,cs,j,h=>⟨n,cs,rfl,j,h⟩
 |(i,x)::ps,n,cs,j,h=>by
  cases p:GW P t i with
  |zero=>exact absurd (show(@Nat.rec (fun _=>l8) (.er 62 0) (fun o _=>vR (ev x) fun s x=>nB (Nat.beq s (aD (OK P t i))) 63 (nB (Nat.ble (Nat.add o s) (j7 P t)) 157 (fN (uT n o s x) fun c=>cQ P t ev ps c k))) (GW P t i))=_ from h) (by rw[p];exact l8.noConfusion)
  |succ off=>
   have h:=(show(@Nat.rec (fun _=>l8) (.er 62 0) (fun o _=>vR (ev x) fun s x=>nB (Nat.beq s (aD (OK P t i))) 63 (nB (Nat.ble (Nat.add o s) (j7 P t)) 157 (fN (uT n o s x) fun c=>cQ P t ev ps c k))) (GW P t i))=_ from h)
   rw[p]at h;obtain⟨q,y,E,G⟩:=jT h;obtain⟨d,I⟩:=c6 G;obtain⟨l,C⟩:=c6 I;rw[J8]at C;have d:=Nat.eq_of_beq_eq_true d;have J:=B i off p;have l:off+q<=j7 P t:=Nat.le_of_ble_eq_true l;rw[A]at l;have N:off+aD (OK P t i)<=s:=by rw[<-d];exact l
   have D:=(n0 x).row E;have g:=D.2.1;have r:=j.2.1;simp only[Array.length_toList]at g r;have b:off+(ρ x).cells.toList.length<=cs.size:=by rw[Array.length_toList,g,d];omega
   have z:w9 H s (uT n off q y) (G1 cs off (ρ x).cells.toList).toList:=by
    rw[G2 cs _ _ b];have e:off+(ρ x).cells.toList.length=off+q:=by rw[Array.length_toList,g]
    rw[e];exact EF j D (by omega)
   obtain⟨c,a,L,g2,M⟩:=Ad n0 A B ps _ _ z C;refine⟨c,a,?_,g2,M⟩;simp only[List.map_cons,Instr.fill,J];rw[if_neg ?_]
   ·rw[fE];exact L
   ·simp only[Bool.or_eq_true,decide_eq_true_eq,not_or];refine⟨by rw[g,d];simp,by rw[g,d];omega⟩
variable (l9:J0 F K w) (hm:j8 F K H w m) (n0:∀x,u7 K H (ev x) (ρ x))
include l9 hm n0
theorem ZB(o:Oper){t:TypeId}{ps:Array (Nat×Operand)}(O:o.op=.build t ps)(h:Ej P t ps.toList ev=.ok v new set rd):B3 P F K H w m nx v new set ((execOp ρ o).run P w):=by
 obtain⟨R,J⟩:=c6 h;obtain⟨g,L⟩:=c6 J;clear h J;obtain⟨S,z,M,g2,T,U,Z,g6,V,X⟩:=iK R;have j:w9 H (j7 P t) (lO P t) z.cells.toList:=by
  have:=lT (H:=H) z.cells.toList X;rw[T,<-U,<-V]at this;exact this
 have u:∃n b,P.built t (ps.map fun(i,x)=>(i,ρ x)).toList=some b/\w9 H (j7 P t) n b.toList/\vN (.a (j7 P t) n)=.ok v new set rd:=by
  unfold IM at g;split at g
  ·rename_i y k;have d:∀f∈y.toList,∃i,P.info? f.type=some i:=by
    intro f l;exact Option.isSome_iff_exists.1 (List.all_eq_true.1 g f l)
   obtain⟨A,b,p,q,q3⟩:=Ad n0 (s:=j7 P t) rfl (place:=fun i=>((y.toList.map fun f=>(f.offset,j7 P f.type)).toArray)[i]?) (by
    intro f off l;obtain⟨B,C,c,D,E,hz,G⟩:=Ce l;rw[k]at c;cases c;have Y:aD (uU P C.type)=j7 P C.type:=(rW (by omega)).symm
    simp[D,E,G,Y]) ps.toList _ z.cells j L
   refine⟨A,b,?_,q,q3⟩;unfold Program.built;rw[M,k];simp only[g2,jG y.toList d];rw[<-p];congr 1;simp
  ·rename_i n e k;obtain⟨N,I⟩:=Option.isSome_iff_exists.1 g;obtain⟨A,b,p,q,q3⟩:=Ad n0 (s:=j7 P t) rfl (place:=fun i=>some (i*N.size,N.size)) (by
    intro f off l;obtain⟨B,C,c,_⟩:=Ce l;rw[k]at c
    cases c) ps.toList _ z.cells j L
   refine⟨A,b,?_,q,q3⟩;unfold Program.built;rw[M,k];simp only[g2,I];rw[<-p];congr 1;simp
  ·cases g
 obtain⟨n,b,p,q,q3⟩:=u;cases q3;have r:=run_build w t (ps.map fun(i,x)=>(i,ρ x)) b p
 simp only[execOp,O];rw[j1 r];exact s5 l9 hm ⟨b,rfl,q⟩
end
end Go.Abs
end
section
namespace Go.Abs
section
variable {P:Program} {F:Nat->Prop} {K:j0} {H:Nat->Option Hd} {w:World} {m:Mm} {nx:Nat} {v:BV} {new:List HO} {set:List (Nat×HO)} {rd:List Nat} {ev:Operand->BV} {ρ:Operand->Value}
theorem Cg{s k x n:Nat}{d vs:List Value}(a:w9 H s x d)(c:w9 H k n vs):w9 H (s+k) (x+n*cB^s) (d++vs):=by
 refine⟨IX a.1 c.1,by rw[List.length_append,a.2.1,c.2.1],fun i y b=>?_⟩
 rw[Ex a.1];split
 ·rename_i hi;rw[List.getElem?_append_left (by rw[a.2.1];exact hi)]at b
  exact a.2.2 i y b
 ·rename_i hi;rw[List.getElem?_append_right (by rw[a.2.1];omega),a.2.1]at b
  exact c.2.2 _ y b
theorem Ae(d:∀x,u7 K H (ev x) (ρ x)){sz:Nat}:∀ (ps:List (Nat×Operand)) (i:Nat) (cs:Array Value) (k:Nat->l8),(i+ps.length)*sz=cs.size->nI ev sz ps i k=.ok v new set rd->
  ∃n a rest,Instr.fill (fun i=>some (i*sz,sz)) cs (ps.map fun u=>(u.1,ρ u.2))=some a/\a.toList=cs.toList.take (i*sz)++rest/\w9 H (ps.length*sz) n rest/\k n=.ok v new set rd
 |[],i,cs,k,p,h=>by
  refine⟨0,cs,[],rfl,?_,⟨by simp,by simp,fun i x f=>by simp at f⟩,h⟩
  rw[List.append_nil,List.take_of_length_le];rw[Array.length_toList,<-p];simp
 |(j,x)::ps,i,cs,k,p,h=>by
  obtain⟨r,B⟩:=c6 (show nB (Nat.beq j i) 66 (vR (ev x) fun s x=>nB (Nat.beq s sz) 67 (nI ev sz ps (Nat.succ i) fun n=>k (Nat.add x (Nat.mul (Nat.pow cB sz) n))))=_ from h)
  obtain⟨q,y,C,D⟩:=jT B;obtain⟨t,k3⟩:=c6 D;have r:=Nat.eq_of_beq_eq_true r;have t:=Nat.eq_of_beq_eq_true t;have f:=(d x).row C;rw[t]at f;have z:=f.2.1;have A:i*sz+sz+ps.length*sz=cs.size:=by
   rw[<-p,List.length_cons,Nat.add_mul,Nat.add_mul,Nat.one_mul];omega
  have b:i*sz+(ρ x).cells.toList.length<=cs.size:=by omega
  have g:=G2 cs (i*sz) _ b;have l:(i+1)*sz=i*sz+sz:=by rw[Nat.add_mul,Nat.one_mul]
  obtain⟨n,a,rest,E,g2,G,I⟩:=Ae d ps (i+1) (G1 cs (i*sz) (ρ x).cells.toList) _ (by rw[J7,Nat.add_mul,l];exact A) k3
  refine⟨_,a,(ρ x).cells.toList++rest,?_,?_,?_,I⟩
  ·have c:=z;simp only[Array.length_toList]at c;simp only[List.map_cons,Instr.fill,r];rw[if_neg ?_]
   ·rw[fE];exact E
   ·simp only[Bool.or_eq_true,decide_eq_true_eq,not_or];refine⟨by rw[c];simp,by rw[c];omega⟩
  ·rw[g2,g,l,<-List.append_assoc];congr 1;have o:(cs.toList.take (i*sz)).length=i*sz:=by rw[List.length_take,Array.length_toList];omega
   rw[List.take_append_of_le_length (by rw[List.length_append,o,z];omega),List.take_of_length_le (by rw[List.length_append,o,z];omega)]
  ·have:=Cg f G;have e:y+n*cB^sz=Nat.add y (Nat.mul (Nat.pow cB sz) n):=by rw[Nat.mul_comm];rfl
   rw[<-e,List.length_cons,Nat.add_mul,Nat.one_mul,Nat.add_comm];exact this
end
end Go.Abs
end
section
namespace Go.Abs
section
variable {P:Program} {F:Nat->Prop} {K:j0} {H:Nat->Option Hd} {w:World} {m:Mm} {nx:Nat} {v:BV} {new:List HO} {set:List (Nat×HO)} {rd:List Nat} {ev:Operand->BV} {ρ:Operand->Value}
theorem Af{len b n a:Nat}(h:OM nx len b n a=.ok v new set rd):len<=1048575/\b<=255/\1<=b/\len*b<=16777216/\v=.c (Ar nx 0 len b a)/\new=[.c (len*b) (qC n)]/\set=[]/\rd=[]:=by
 obtain⟨d,e⟩:=c6 h;obtain⟨f,g⟩:=c6 e;obtain⟨j,k3⟩:=c6 g;obtain⟨k,k4⟩:=c6 k3;cases k4;exact⟨Nat.le_of_ble_eq_true d,Nat.le_of_ble_eq_true f,Nat.le_of_ble_eq_true j,Nat.le_of_ble_eq_true k,rfl,rfl,rfl,rfl⟩
theorem Wv{hd:Hd}{len a:Nat}(hn:nx<1048576)(d:len<=1048575)(e:a<=255)(b:hd.base=some w.heap.size)(f:hd.sz=len*a):u7 K (S0 H nx hd) (.c (Ar nx 0 len a 1)) (.slice (some ⟨w.heap.size,0,none⟩) len len):=
 .inr (.inr (.sl nx 0 len a 1 hd w.heap.size 0 len hn (by decide) (by omega) (by omega) (by decide) (j6 _ _ _) b (Nat.le_refl _) (fun _=>rfl) (.inr rfl) (by omega)))
variable (l9:J0 F K w) (hm:j8 F K H w m) (n0:∀x,u7 K H (ev x) (ρ x)) (H7:∀i,i<new.length->H (nx+i)=none) (hn:nx<1048575)
include l9 hm n0 H7 hn
theorem Jd(o:Oper){t:TypeId}{n:Nat}{ps:Array (Nat×Operand)}(r:o.op=.buildSlice t n ps)(h:qE P t n ps.toList ev nx=.ok v new set rd):B3 P F K H w m nx v new set ((execOp ρ o).run P w):=by
 obtain⟨f,s⟩:=c6 h;obtain⟨b,k⟩:=c6 s;have f:=Nat.eq_of_beq_eq_true f;cases g:Ge P t with
 |none=>rw[g]at b;exact Bool.noConfusion (show false=true from b)
 |some e=>
  rw[g]at b;have b:cX P e=true:=b;have u:=qI g;obtain⟨i,z,hi,y,M,A,O,_,_,_⟩:=iK b;have B:1<=I5 P t:=by
   obtain⟨_,_,_,_,_,_,q⟩:=Ae n0 ps.toList 0 (Array.replicate (ps.toList.length*I5 P t) (Value.bool false)) _ (by simp) k
   exact(Af q).2.2.1
  have l:I5 P t=i.size:=by
   have C:I5 P t=aD (uU P e):=by unfold I5;rw[g]
   rw[C]at B ⊢;rw[<-rW (by omega),A]
  rw[l]at k;obtain⟨N,BL,rest,D,p,q3,q4⟩:=Ae n0 ps.toList 0 ((Array.range (n*i.size)).map fun j=>(if n*i.size=0 then #[]else z.cells)[j % (if n*i.size=0 then #[]else z.cells).size]!) _ (by simp[<-f]) k
  obtain⟨E,G,R,S,rfl,rfl,rfl,rfl⟩:=Af q4;simp only[Nat.zero_mul,List.take_zero,List.nil_append]at p;rw[f]at q3;have a:Instr.fill (fun j=>some (j*i.size,i.size)) ((Array.range (n*i.size)).map fun j=>(if n*i.size=0 then #[]else z.cells)[j % (if n*i.size=0 then #[]else z.cells).size]!) (ps.map fun(j,x)=>(j,ρ x)).toList=some BL:=by
   rw[<-D];congr 1;simp
  have c:(Instr.buildSlice t n (ps.map fun(j,x)=>(j,ρ x))).run P w=.ok (.slice (some ⟨w.heap.size,0,none⟩) n n) (w.alloc (.cells BL e)):=by
   simp only[Instr.buildSlice,Sem.run_bind,u3 u,Result.andThen_ok,M1 hi];rw[if_neg (by omega)]
   by_cases d:n*i.size=0
   ·simp only[d,if_true]at a ⊢;simp only[Sem.run_bind,Sem.run_pure,Result.andThen_ok,a,lA]
   ·simp only[d,if_false]at a ⊢;simp only[Sem.run_bind,aJ hi y,Sem.run_pure,Result.andThen_ok,a,lA]
  simp only[execOp,r];rw[j1 c];have I:BL.size=n*i.size:=by rw[<-Array.length_toList,p,q3.2.1]
  refine lU l9 hm (H7 0 (by simp)) e (by omega) ?_ (fun hd J L=>Wv (by omega) E G J (by rw[L,I]))
  rw[List.take_of_length_le (by rw[Array.length_toList];omega),p]
  exact q3
end
end Go.Abs
end
section
namespace Go.Abs
section
variable {P:Program} {F:Nat->Prop} {K:j0} {H:Nat->Option Hd} {w:World} {m:Mm} {nx:Nat} {v:BV} {new:List HO} {set:List (Nat×HO)} {rd:List Nat} {ev:Operand->BV} {ρ:Operand->Value}
theorem xW{z s:Nat}{vs:List Value}(h:w9 H s z vs):∀n:Nat,w9 H (n*s) (LF z s n) (List.replicate n vs).flatten
 |0=>⟨by show 0<cB^ (0*s);exact Nat.pow_pos T7,by simp,fun i x a=>by simp at a⟩
 |n+1=>by
  have b:=xW h n;have e:LF z s (n+1)=z+LF z s n*cB^s:=by
   show z+cB^s*LF z s n=_;rw[Nat.mul_comm]
  rw[e,List.replicate_succ,List.flatten_cons,Nat.add_mul,Nat.one_mul,Nat.add_comm (n*s)];exact Cg h b
theorem EO{t:TypeId}(h:(@Option.rec TypeId (fun _=>Bool) false (fun e=>cX P e) (Ge P t))=true)(d:1<=I5 P t):∃e i z,Ge P t=some e/\P.underlying t=some (.slice e)/\P.info? e=some i/\i.zero=some z/\i.bytes<=65536/\
  i.size=I5 P t/\z.cells.size=I5 P t/\(∀H,w9 H (I5 P t) (lO P e) z.cells.toList):=by
 cases a:Ge P t with
 |none=>rw[a]at h;exact Bool.noConfusion (show false=true from h)
 |some e=>
  rw[a]at h;have h:cX P e=true:=h;obtain⟨i,z,hi,f,c,g2,l,n,g,j⟩:=iK h;have b:I5 P t=i.size:=by
   have k:I5 P t=aD (uU P e):=by unfold I5;rw[a]
   rw[k]at d ⊢;rw[<-rW (by omega),g2]
  refine⟨e,i,z,rfl,qI a,hi,f,LZ h hi,b.symm,by rw[b,<-c];simp,fun H=>?_⟩
  rw[b,<-c,g];exact lT _ j
theorem Ha(z:Array Value)(n s:Nat)(b:z.size=s)(d:1<=s):(madeCells z (n*s)).toList=(List.replicate n z.toList).flatten:=by
 apply List.ext_getElem?;intro j;by_cases c:j<n*s
 ·have a:j % s<s:=Nat.mod_lt _ d;rw[oZ z.toList s (by simpa using b) n j c]
  have e:j % z.size<z.size:=by rw[b];exact a
  simp[madeCells,c,b,getElem!_pos z (j % s) (by omega)]
 ·rw[List.getElem?_eq_none (by simp[size_madeCells];omega),List.getElem?_eq_none]
  have:((List.replicate n z.toList).flatten).length=n*s:=by simp[b]
  omega
variable (l9:J0 F K w) (hm:j8 F K H w m) (n0:∀x,u7 K H (ev x) (ρ x)) (H7:∀i,i<new.length->H (nx+i)=none) (hn:nx<1048575)
include l9 hm n0 H7 hn
theorem Mb{R:J6}(o:Oper){t:TypeId}{l c:Operand}(y:o.op=.makeSlice t l c)(h:rQ t l c P R ev nx (I6 m)=.ok v new set rd):B3 P F K H w m nx v new set ((execOp ρ o).run P w):=by
 unfold rQ at h;cases g:Ge P t with
 |none=>rw[g]at h;exact l8.noConfusion (show l8.er 207 0=_ from h)
 |some e=>
  rw[g]at h;obtain⟨r,A⟩:=c6 h;obtain⟨n,ki,B,C⟩:=uZ (n0 l) A;obtain⟨N,j,D,k3⟩:=uZ (n0 c) C;obtain⟨k,k4⟩:=c6 k3;have k:=Nat.eq_of_beq_eq_true k;subst k;rw[J8]at k4;obtain⟨E,G,s,O,rfl,rfl,rfl,rfl⟩:=Af k4;obtain⟨S,i,z,a,I,hi,J,u,L,p,b⟩:=EO (P:=P) (t:=t) (by rw[g];exact r) s
  rw[g]at a;cases a;have d:(i.bytes:Int)*(n:Int)<=281474976710656:=by
   have r:(i.bytes:Int)*(n:Int)<=65536*(n:Int):=Int.mul_le_mul_of_nonneg_right (by omega) (by omega)
   omega
  have f:=run_make (P:=P) w t e i z I hi J ki j n n (by omega) (Int.le_refl _) d (by omega)
  simp only[execOp,y,B,D];rw[j1 f];simp only[Int.toNat_natCast,L];have q:(madeCells z.cells (n*I5 P t)).size=n*I5 P t:=size_madeCells _ _;refine lU l9 hm (H7 0 (by simp)) e (by omega) ?_ (fun hd u M=>Wv (by omega) E G u (by rw[M,q]))
  rw[List.take_of_length_le (by rw[Array.length_toList];omega),Ha _ _ _ p s]
  exact xW (b H) n
end
end Go.Abs
end
section
namespace Go.Abs
section
variable {P:Program} {F:Nat->Prop} {K:j0} {H:Nat->Option Hd} {w:World} {m:Mm} {nx:Nat} {v:BV} {new:List HO} {set:List (Nat×HO)} {rd:List Nat} {ev:Operand->BV} {ρ:Operand->Value}
structure a2v(P:Program)(w:World)(t u:TypeId)(e:TypeId)(i:TypeInfo)(z:Value)(y:Value)(n:Nat)(news:List Value):Prop where
 zero:n=0->∀ty b sl sc,sl<=sc->(Builtin.append_ #[t,u] ty #[.slice b sl sc,y]).run P w=.ok (.slice b sl sc) w
 room:∀ty g sl sc cur eb,w.heap[g]? =some (.cells cur eb (0,0))->sl+n<=sc->sl*i.size+news.length<=cur.size->∃w',(Builtin.append_ #[t,u] ty #[.slice (some ⟨g,0,none⟩) sl sc,y]).run P w=.ok (.slice (some ⟨g,0,none⟩) (sl+n) sc) w'/\HG w w' g (G1 cur (sl*i.size) news) eb
 nil:0<n->∀ty,(Builtin.append_ #[t,u] ty #[.slice none 0 0,y]).run P w=.ok (.slice (some ⟨w.heap.size,0,none⟩) n (grownCap w n 0 e)) (w.drew.alloc (.cells (news.toArray++Builtin.zeroCells z.cells (grownCap w n 0 e- n)) e))
 grow:∀ty b sl sc (olds:List Value),olds.length=sl*i.size->(∀j v,olds[j]? =some v->w.cell? (b.add j)=some v)->sc<sl+n->sl+n<=1048576->(Builtin.append_ #[t,u] ty #[.slice (some b) sl sc,y]).run P w=
  .ok (.slice (some ⟨w.heap.size,0,none⟩) (sl+n) (grownCap w (sl+n) sc e)) (w.drew.alloc (.cells (olds.toArray++news.toArray++Builtin.zeroCells z.cells (grownCap w (sl+n) sc e- (sl+n))) e))
theorem EP{t e:TypeId}{i:TypeInfo}{z:Value}(hu:P.underlying t=some (.slice e))(hi:P.info? e=some i)(hz:i.zero=some z)(hb:i.bytes<=65536){a:Option Addr}{n c:Nat}{news:List Value}(hn:n<=1048576)
  (hl:news.length=n*i.size)(ha:0<n->∃b,a=some b/\∀j v,news[j]? =some v->w.cell? (b.add j)=some v)(h1:∀v∈news,one v=true):a2v P w t t e i z (.slice a n c) n news where
 zero:=fun e0 ty b sl sc h=>by subst e0;exact eA (P:=P) (w:=w) (ty:=ty) hu hi b a sl sc c h
 room:=fun ty g sl sc cur eb hh h2 h3=>by
  rcases Nat.eq_zero_or_pos n with h0|h0
  ·subst h0;refine⟨w,eA (P:=P) (w:=w) (ty:=ty) hu hi _ a sl sc c (by omega),?_⟩
   have:news=[]:=List.eq_nil_of_length_eq_zero (by omega)
   subst this;exact HG.refl hh
  ·obtain⟨b,rfl,hc⟩:=ha h0;have hf:=run_firstCells_some (P:=P) w i.size n b n c news hl hc;obtain⟨w',h4,h5⟩:=Abs.G9 P g (sl*i.size) eb news w cur 0 hh (by omega) h1
   refine⟨w',?_,by simpa using h5⟩
   have b0k:(⟨g,0,none⟩:Addr).add (sl*i.size)=⟨g,sl*i.size,none⟩:=by rw[G5];simp
   simp only[Builtin.append_];simp[u3 hu,M1 hi,Builtin.lenOf,h2,hf,b0k,h4]
 nil:=fun h0 ty=>by
  obtain⟨b,rfl,hc⟩:=ha h0;have:n*i.bytes<=1048576*65536:=Nat.mul_le_mul hn hb;exact run_append_nil (P:=P) w t ty e i z hu hi hz b n c news hl hc h0 (by omega) (by omega)
 grow:=fun ty b sl sc olds h2 h3 h4 h5=>by
  rcases Nat.eq_zero_or_pos n with h0|h0
  ·subst h0;have:news=[]:=List.eq_nil_of_length_eq_zero (by omega)
   subst this;have hf:∀w,(Builtin.firstCells i.size 0 (.slice a 0 c)).run P w=.ok #[] w:=by
    intro w;cases a<;>simp[Builtin.firstCells,loadCells,loadCellsFrom]
   have hfo:=run_firstCells_some (P:=P) w.drew i.size sl b sl sc olds h2 (by simpa using h3)
   have hmul:sl*i.bytes<=1048576*65536:=Nat.mul_le_mul (by omega) hb
   have a1U:=growslice_fits (need:=sl) (old:=sc) (bytes:=i.bytes) (by omega) (by omega)
   have n1:¬(sl<=sc):=by omega
   have n2:¬(9223372036854775807<(sl:Int)):=by omega
   have n3:¬(281474976710656<Builtin.nextslicecap sl sc*i.bytes):=by omega
   simp only[Builtin.append_,Nat.add_zero];simp[u3 hu,sizeOf,typeInfo,zeroValue,hi,hz,Builtin.lenOf,n1,n2,n3,Question.forced,hf,hfo,newRow,grownCap]
  ·obtain⟨a',rfl,hc⟩:=ha h0;have hmul:(sl+n)*i.bytes<=1048576*65536:=Nat.mul_le_mul (by omega) hb
   have a1U:=growslice_fits (need:=sl+n) (old:=sc) (bytes:=i.bytes) (by omega) (by omega)
   exact run_append_grow (P:=P) w t ty e i z hu hi hz b sl sc olds h2 h3 a' n c news hl hc h4 (by omega) a1U
theorem qJ(z:Array Value)(n:Nat)(a:1<=z.size):(Builtin.zeroCells z n).toList=(List.replicate n z.toList).flatten:=by
 have:=Ha z n z.size rfl a;rw[<-this];rfl
theorem OZ{t u e:TypeId}{i:TypeInfo}{z:Value}{Y kx:IntKind}(o:P.underlying t=some (.slice e))(j:P.underlying u=some (.int Y))(hi:P.info? e=some i)(B:i.zero=some z)(O:i.bytes<=65536)(C:z.cells.size=i.size)(hs:1<=i.size){n:Nat}(Z:n<=1048576)
  (h1:∀v∈z.cells.toList,one v=true):a2v P w t u e i z (.int kx (n:Int)) n (List.replicate n z.cells.toList).flatten:=by
 have D:IntKind.i64.wrap (n:Int)=(n:Int):=by rw[IntKind.wrap_i64];omega
 have E:¬((n:Int)<0):=by omega
 have G:n*i.bytes<=1048576*65536:=Nat.mul_le_mul Z O;have I:¬(281474976710656<(n:Int)*(i.bytes:Int)):=by
  have:((n*i.bytes:Nat):Int)<=1048576*65536:=by omega
  rw[Int.natCast_mul]at this;omega
 have d:=qJ z.cells n (by omega)
 have R:(List.replicate n z.cells.toList).flatten.length=n*i.size:=by simp[C]
 have p:∀v∈(List.replicate n z.cells.toList).flatten,one v=true:=by
  intro v J;obtain⟨l,S,J⟩:=List.mem_flatten.1 J;rw[List.mem_replicate]at S;exact h1 v (S.2▸J)
 have L:i.size≠0:=by omega
 have q:n=0->∀ty b a f,a<=f->(Builtin.append_ #[t,u] ty #[.slice b a f,.int kx (n:Int)]).run P w=.ok (.slice b a f) w:=by
  intro e0 ty b a f h;subst e0;have k:IntKind.i64.wrap 0=0:=by decide
  simp only[Builtin.append_];cases b<;>simp[u3 o,u3 j,M1 hi,uH hi,asInt,asIntOf,k,h,storeCells]
 refine⟨q,?_,?_,?_⟩
 ·intro ty g a f M eb hh N T;rcases Nat.eq_zero_or_pos n with c|c
  ·refine⟨w,?_,?_⟩
   ·rw[q c ty _ a f (by omega),c,Nat.add_zero]
   ·subst c;exact HG.refl hh
  ·have c:n≠0:=by omega
   obtain⟨w',U,V⟩:=Abs.G9 P g (a*i.size) eb _ w M 0 hh (by omega) p
   refine⟨w',?_,by simpa using V⟩
   have r:(⟨g,0,none⟩:Addr).add (a*i.size)=⟨g,a*i.size,none⟩:=by rw[G5];simp
   simp only[Builtin.append_];simp[u3 o,u3 j,M1 hi,uH hi,asInt,asIntOf,D,E,I,N,Nat.mul_ne_zero c L,aJ hi B,r,d,U]
 ·intro h0 ty;have c:n≠0:=by omega
  have s:¬(9223372036854775807<(n:Int)):=by omega
  have x:¬(281474976710656<Builtin.nextslicecap n 0*i.bytes):=by rw[nextslicecap_zero h0];omega
  simp only[Builtin.append_];simp[u3 o,u3 j,M1 hi,uH hi,asInt,asIntOf,D,E,I,c,Nat.mul_ne_zero c L,s,x,Question.forced,run_firstCells_none,aJ hi B,newRow,grownCap,<-d]
 ·intro ty b a f olds N T U V;have X:(a+n)*i.bytes<=1048576*65536:=Nat.mul_le_mul (by omega) O
  have y:=growslice_fits (need:=a+n) (old:=f) (bytes:=i.bytes) (by omega) (by omega)
  have s:¬(9223372036854775807<(a:Int)+(n:Int)):=by omega
  have A:=run_firstCells_some (P:=P) w.drew i.size a b a f olds N (by simpa using T)
  rcases Nat.eq_zero_or_pos n with c|c
  ·subst c;have c:¬(a<=f):=by omega
   have s:¬(9223372036854775807<(a:Int)):=by omega
   have x:¬(281474976710656<Builtin.nextslicecap a f*i.bytes):=by simpa using y
   have k:IntKind.i64.wrap 0=0:=by decide
   simp only[Builtin.append_];simp[u3 o,u3 j,M1 hi,uH hi,asInt,asIntOf,k,c,s,x,Question.forced,A,aJ hi B,newRow,grownCap]
  ·have c:n≠0:=by omega
   have n4:¬(a+n<=f):=by omega
   have x:¬(281474976710656<Builtin.nextslicecap (a+n) f*i.bytes):=by omega
   simp only[Builtin.append_];simp[u3 o,u3 j,M1 hi,uH hi,asInt,asIntOf,D,E,I,Nat.mul_ne_zero c L,s,x,n4,Question.forced,A,aJ hi B,newRow,grownCap,<-d]
end
end Go.Abs
end
section
namespace Go.Abs
section
variable {P:Program} {F:Nat->Prop} {K:j0} {H:Nat->Option Hd} {w:World} {m:Mm} {nx:Nat} {v:BV} {new:List HO} {set:List (Nat×HO)} {rd:List Nat} {ev:Operand->BV} {ρ:Operand->Value}
theorem V4.drew{x:Value}{w':World}{K':j0}{H':Nat->Option Hd}(h:V4 F K H w.drew m nx v new set x w' K' H'):V4 F K H w m nx v new set x w' K' H':=
 ⟨h.le,h.hle,h.I2,h.rep,h.mem,h.ok,⟨h.kept.os,h.kept.tape,h.kept.output,h.kept.size,h.kept.block,Nat.le_trans (Nat.le_succ _) h.kept.drawn⟩,h.fix⟩
theorem V4.kill{x:Value}{w':World}{K':j0}{H':Nat->Option Hd}{r:Nat}(h:V4 F K H w (bN m (r,.dead)) nx v new [] x w' K' H'):V4 F K H w m nx v new [(r,.z)] x w' K' H':=
 ⟨h.le,h.hle,h.I2,h.rep,h.mem,h.ok,h.kept,h.fix⟩
theorem nQ(l9:J0 F K w)(hm:j8 F K H w m)(j:H nx=none)(hn:nx<1048575){e:TypeId}{z:Value}{sz l n xs ys cap:Nat}{olds news:List Value}(k:z.cells.size=sz)(y:sz<=255)(A:l+n<=1048575)(o:w9 H (l*sz) xs olds)(p:w9 H (n*sz) ys news)(g:l+n<=cap):
  ∃K' H',V4 F K H w m nx (.c (Ar nx 0 (l+n) sz 0)) [.c ((l+n)*sz) (qC (xs+ys*cB^ (l*sz)))] [] (.slice (some ⟨w.heap.size,0,none⟩) (l+n) cap) (w.drew.alloc (.cells (olds.toArray++news.toArray++Builtin.zeroCells z.cells (cap- (l+n))) e)) K' H':=by
 have a:=Cg o p;have q:l*sz+n*sz=(l+n)*sz:=by rw[Nat.add_mul]
 rw[q]at a;have b:(olds++news).length=(l+n)*sz:=a.2.1;have d:(olds.toArray++news.toArray++Builtin.zeroCells z.cells (cap- (l+n))).size=cap*sz:=by
  have B:(l+n)*sz+(cap- (l+n))*sz=cap*sz:=by rw[<-Nat.add_mul];congr 1;omega
  have C:olds.toArray.size+news.toArray.size=(l+n)*sz:=by rw[<-b];simp
  rw[Array.size_append,Array.size_append,size_zeroCells,k];omega
 have f:(l+n)*sz<=cap*sz:=Nat.mul_le_mul_right _ g;obtain⟨K',H',r⟩:=lU (nx:=nx) (v:=.c (Ar nx 0 (l+n) sz 0)) (x:=.slice (some ⟨w.heap.size,0,none⟩) (l+n) cap) (l9.heap (w':=w.drew) rfl) (hm.heap (w':=w.drew) rfl) j e (s:=(l+n)*sz) (n:=xs+ys*cB^ (l*sz)) (arr:=olds.toArray++news.toArray++Builtin.zeroCells z.cells (cap- (l+n))) (by rw[d];exact f) (by
  have:(olds.toArray++news.toArray++Builtin.zeroCells z.cells (cap- (l+n))).toList.take ((l+n)*sz)=olds++news:=by
   rw[Array.toList_append,Array.toList_append,List.take_append_of_le_length (by simp only[List.length_append]at b ⊢;omega),List.take_of_length_le (by simp only[List.length_append]at b ⊢;omega)]
  rw[this];exact a) (fun hd t u=>.inr (.inr (.sl nx 0 (l+n) sz 0 hd w.heap.size 0 cap (by omega) (by decide) (by omega) (by omega) (by decide) (j6 _ _ _) t g (fun h=>by cases h) (.inr rfl) (by rw[u,d];omega))))
 exact⟨K',H',r.drew⟩
theorem ER(l:Nat)(a:Nat)(h:l=0):w9 H (l*a) 0 []:=by
 subst h;exact⟨by simp,by simp,fun i x b=>by simp at b⟩
theorem ES{D:Hp}{a c:Nat}{k:Nat->Nat->List Nat->l8}(h:Zf D a c k=.ok v new set rd):(c=25/\k 0 0 []=.ok v new set rd)\/(JI c=true/\∃s n,D (sR c)=.c s n/\sO c+sL c*a<=s/\k (sL c) (BE n (sO c) (sL c*a)) [sR c]=.ok v new set rd):=by
 unfold Zf at h;rw[j2]at h;split at h
 ·rename_i e;exact .inl ⟨Nat.eq_of_beq_eq_true e,h⟩
 ·obtain⟨b,h⟩:=c6 h;obtain⟨s,n,d,h⟩:=iJ h;obtain⟨f,h⟩:=c6 h;exact .inr ⟨b,s,n,d,Nat.le_of_ble_eq_true f,h⟩
variable (l9:J0 F K w) (hm:j8 F K H w m)
include l9 hm
omit l9 in
theorem ET{c s n d:Nat}{x:Value}(k:j5 H c x)(l:JI c=true)(hd:I6 m (sR c)=.c s n)(o:sO c+sL c*d<=s):∃olds a cap,x=.slice (some a) (sL c) cap/\w9 H (sL c*d) (BE n (sO c) (sL c*d)) olds/\(sL c≠0->∀j u,olds[j]? =some u->w.cell? (a.add j)=some u):=by
 obtain⟨p,b,o',cap,q,g2,r,E,G,f,I,J,L,t,y,z,A⟩:=k.uB l;obtain⟨cs,M,B,N,q3,q4,C⟩:=cS hm hd q g2;refine⟨((cs.toList.take s).drop (sO c)).take (sL c*d),⟨b,o',none⟩,cap,r,?_,?_⟩
 ·rw[Jc];exact LY q4 o
 ·intro O j u e;have D:o'=sO c:=by rcases f with f|f<;>omega
  rw[D,G5,cY B];rw[List.drop_take,List.take_take]at e;have g:j<min (sL c*d) (s- sO c):=by
   rcases Nat.lt_or_ge j (min (sL c*d) (s- sO c))with h|h
   ·exact h
   ·rw[List.getElem?_eq_none (by rw[List.length_take];omega)]at e;cases e
  rw[List.getElem?_take_of_lt g,List.getElem?_drop]at e;simpa using e
variable (H7:∀i,i<new.length->H (nx+i)=none) (hn:nx<1048575)
include H7 hn
theorem Pa{t u e:TypeId}{i:TypeInfo}{z:Value}{c n ys:Nat}{x y:Value}{news:List Value}{rd0:List Nat}(V:z.cells.size=i.size)(d:i.size=I5 P t)(hx:u7 K H (.c c) x)(E:a2v P w t u e i z y n news)(hy:w9 H (n*I5 P t) ys news){ty:TypeId}
  (h:LH P t c nx (I6 m) n ys rd0=.ok v new set rd):∃x' w' K' H',(Builtin.append_ #[t,u] ty #[x,y]).run P w=.ok x' w'/\V4 F K H w m nx v new set x' w' K' H':=by
 unfold LH at h;rw[j2]at h;split at h
 ·rename_i X;have X:=Nat.eq_of_beq_eq_true X;obtain⟨B,h⟩:=c6 h;cases h;obtain⟨p,l,cp,rfl,hle⟩:∃p l cp,x=.slice p l cp/\l<=cp:=by
   rw[j2]at B;split at B
   ·rename_i q;rw[Nat.eq_of_beq_eq_true q]at hx;exact⟨_,_,_,(hx.cell (by decide)).isNil.1 rfl,Nat.le_refl _⟩
   ·obtain⟨_,_,_,_,_,_,g,g',_⟩:=(hx.cell (by rw[X1]at B;omega)).uB B
    exact⟨_,_,_,g,g'⟩
  exact⟨_,w,K,H,E.zero X ty p l cp hle,.refl K,.refl H,fun _ h h'=>absurd h h',hx,hm,l9,.refl F w,.refl F K⟩
 ·rename_i X;have XN:0<n:=by
   rcases Nat.eq_zero_or_pos n with h|h
   ·subst h;exact absurd rfl X
   ·exact h
  have RW:=hy.2.1;rcases ES h with⟨rfl,k1⟩|⟨hs,s,N,Y,hb,k1⟩
  ·obtain⟨B,k2⟩:=c6 k1;obtain⟨R,k3⟩:=c6 k2;obtain⟨h3,k4⟩:=c6 k3;have B:0+n<=1048575:=Nat.le_of_ble_eq_true B;have R:I5 P t<=255:=Nat.le_of_ble_eq_true R;rw[j2,if_pos (by rfl)]at k4
   cases k4;have ex:=(hx.cell (by decide)).isNil.1 rfl
   obtain⟨K',H',hA⟩:=nQ (nx:=nx) (e:=e) (l:=0) (n:=n) (xs:=0) (ys:=ys) (cap:=grownCap w n 0 e) (olds:=[]) (news:=news) l9 hm (H7 0 (by simp)) hn (V.trans d) R B (ER 0 _ rfl) hy (by rw[Nat.zero_add];exact grownCap_ge w _ _ _)
   refine⟨_,_,K',H',by rw[ex];exact E.nil XN ty,?_⟩
   simp only[Nat.zero_add,Array.empty_append]at hA;simp only[Nat.zero_add,Nat.add_eq,Nat.mul_eq,Nat.pow_eq];exact hA
  ·obtain⟨B,k2⟩:=c6 k1;obtain⟨R,k3⟩:=c6 k2;obtain⟨h3,k4⟩:=c6 k3;have B:sL c+n<=1048575:=Nat.le_of_ble_eq_true B;have R:I5 P t<=255:=Nat.le_of_ble_eq_true R;have hc:j5 H c x:=hx.cell (by rw[X1]at hs;omega)
   obtain⟨olds,a,cap,ex,G,hoc⟩:=ET hm hc hs Y hb;obtain⟨RJ,b,o',a8p,g1,g2,g3,g4,g5,g6,g7,g8,g9,g10,g11,g12,g13⟩:=hc.uB hs;rw[ex]at g3;simp only[Value.slice.injEq,Option.some.injEq,true_and]at g3;obtain⟨rfl,rfl⟩:=g3;have I:∀j u,olds[j]? =some u->w.cell? ((⟨b,o',none⟩:Addr).add j)=some u:=by
    intro j u hj;refine hoc ?_ j u hj;intro X;have:=G.2.1;rw[X,Nat.zero_mul]at this;rw[List.eq_nil_of_length_eq_zero this]at hj;cases hj
   have L:olds.length=sL c*i.size:=by rw[G.2.1,d]
   have hnc:¬(Nat.beq c 25=true):=by
    intro hb;rw[Nat.eq_of_beq_eq_true hb]at hs;exact absurd hs (by decide)
   rw[j2,j2,if_neg hnc]at k4;split at k4
   ·rename_i k;have k:=Nat.eq_of_beq_eq_true k;cases k4;have a4q:cap=sL c:=g5 k;obtain⟨K',H',hA⟩:=nQ (nx:=nx) (e:=e) (l:=sL c) (n:=n) (cap:=grownCap w (sL c+n) cap e) l9 hm (H7 0 (by simp)) hn (V.trans d) R B G hy (grownCap_ge w _ _ _)
    exact⟨_,_,K',H',by rw[ex];exact E.grow ty _ _ _ olds L I (by omega) (by omega),hA⟩
   ·obtain⟨h4,k5⟩:=c6 k4;obtain⟨h5,k6⟩:=c6 k5;obtain⟨_,k7⟩:=c6 k6;cases k7;have h4:sO c=0:=Nat.eq_of_beq_eq_true h4;have h5:sE c=I5 P t:=Nat.eq_of_beq_eq_true h5;have M:=R0 Y (by simp)
    have UC:bN m (sR c,p8.dead)=S0 m (sR c) (.F8 (.c s N),.dead):=by simp[bN,M]
    have hmd:j8 F K H w (bN m (sR c,p8.dead)):=by
     rw[UC];exact hm.flag _ _ .own .dead M (by simp) (by simp)
    by_cases o:sL c+n<=cap
    ·have ho':o'=0:=by rcases g6 with g6|g6<;>omega
     subst ho';obtain⟨cs,et,q1,q2,q3,q4,_⟩:=cS hm Y g1 g2;obtain⟨o1,o2,o3,_⟩:=hm.own _ _ RJ b M g1 g2;have r:sL c*i.size+news.length<=cs.size:=by
      rw[RW,d,<-Nat.add_mul,q2];have:(sL c+n)*I5 P t<=cap*I5 P t:=Nat.mul_le_mul_right _ o;rw[h4,h5]at g7;omega
     obtain⟨w',hr,J⟩:=E.room ty b (sL c) cap cs et q1 o r;have Z:=J.kept (F:=F) o1;have S:∀C c' f' f T,bN m (sR c,p8.dead) C=some (c',f')->f'≠ .dead->H C=some f->f.base=some T->T≠b:=by
      intro C c' f' f T D O p3 p4 p5;subst p5;rw[UC]at D;by_cases e':C=sR c
      ·subst e';rw[j6]at D;cases D;exact O rfl
      ·rw[n6 _ _ _ _ e']at D;cases f' with
       |dead=>exact O rfl
       |own=>exact e' (hm.inj C _ c' _ f RJ T D M p3 g1 p4 g2)
       |aQ=>
        obtain⟨BL,g⟩:=hm.aQ C c' f T D p3 p4;rw[o2]at g;cases g
     have PY:j8 F K H w' (bN m (sR c,p8.dead)):=hmd.world (fun C c' f' f T D O p3 p4=>J.other T (S C c' f' f T D O p3 p4))
     have CP:J0 F K w':=l9.S0 J o2 o3
     let W3:Hd:=⟨some b,cs.size,0,0⟩
     have hf:H nx=none:=H7 0 (by simp)
     have A:=Cg G hy;have e1:sL c*I5 P t+n*I5 P t=(sL c+n)*I5 P t:=by rw[Nat.add_mul]
     rw[e1]at A;have U:(G1 cs (sL c*i.size) news).size=cs.size:=J7 _ _ _;have a6A:(G1 cs (sL c*i.size) news).toList.take ((sL c+n)*I5 P t)=olds++news:=by
      have hq:olds=cs.toList.take (sL c*I5 P t):=by
          apply List.ext_getElem?;intro j;by_cases hj:j<sL c*I5 P t
          ·rw[List.getElem?_take_of_lt hj];have Ww:j<olds.length:=by rw[L,d];exact hj
           have h6:=I j olds[j] (by simp[Ww])
           rw[G5,cY q1]at h6;simp[Ww]at h6 ⊢;exact h6.symm
          ·rw[List.getElem?_eq_none (by rw[L,d];omega),List.getElem?_eq_none (by rw[List.length_take];omega)]
      rw[G2 cs _ _ r,d,<-hq,List.take_append_of_le_length (by rw[A.2.1];exact Nat.le_refl _),List.take_of_length_le (by rw[A.2.1];exact Nat.le_refl _)]
     have a4m:(sL c+n)*I5 P t<=cs.size:=by
      rw[<-Nat.add_mul]at e1;rw[RW,d,<-Nat.add_mul]at r;exact r
     refine⟨_,w',K,S0 H nx W3,by rw[ex];exact hr,V4.kill ⟨.refl K,L9 hf,?_,?_,?_,CP,Z,.refl F K⟩⟩
     ·intro C D O;by_cases e':C=nx
      ·subst e';simp
      ·rw[n6 _ _ _ _ e']at O;exact absurd D O
     ·refine .inr (.inr (.sl nx 0 (sL c+n) (I5 P t) 0 W3 b 0 cap (by omega) (by decide) (by omega) (by omega) (by decide) (j6 _ _ _) rfl o (fun h=>by cases h) (.inr rfl) ?_))
      show 0+cap*I5 P t<=cs.size;rw[h4,h5]at g7;omega
     ·refine PY.new nx hf (.F8 (.c ((sL c+n)*I5 P t) (qC (BE N (sO c) (sL c*I5 P t)+ys*cB^ (sL c*I5 P t))))) W3 ⟨b,_,et,(0,0),rfl,J.here,U,by rw[U];exact a4m,?_⟩ (fun b' XL=>?_)
      ·rw[EK,a6A];exact A.eQ (L9 hf)
      ·cases XL;exact⟨o1,o2,o3,fun _=>⟨_,et,J.here⟩,fun C c' f D O p3=>S C c' .own f b D (by simp) O p3 rfl⟩
    ·obtain⟨K',H',hA⟩:=nQ (nx:=nx) (e:=e) (l:=sL c) (n:=n) (cap:=grownCap w (sL c+n) cap e) l9 hmd (H7 0 (by simp)) hn (V.trans d) R B G hy (grownCap_ge w _ _ _)
     exact⟨_,_,K',H',by rw[ex];exact E.grow ty _ _ _ olds L I (by omega) (by omega),hA.kill⟩
theorem Wx(l:∀x,u7 K H (ev x) (ρ x))(o:Oper){c:Call}{x y:Operand}{t u:TypeId}(Y:o.op=.call c)(Z:c.callee=.builtin .append)(ha:c.args.toList=[x,y])(ht:c.argTypes.toList=[t,u])
  (h:fK P t u (ev x) (ev y) nx (I6 m)=.ok v new set rd):B3 P F K H w m nx v new set ((execOp ρ o).run P w):=by
 obtain⟨h1,k0⟩:=c6 h;obtain⟨I,k1⟩:=c6 k0;have I:1<=I5 P t:=Nat.le_of_ble_eq_true I;obtain⟨e,i,z,he,A,hi,J,L,j,g,k⟩:=EO h1 I;obtain⟨n,ex,E⟩:=z7 k1;have M:=ex▸l x;have ea:c.args.map ρ= #[ρ x,ρ y]:=by apply Array.toList_inj.1;simp[ha]
 have et:c.argTypes= #[t,u]:=by apply Array.toList_inj.1;simp[ht]
 rw[B9 o Y Z,ea,et];simp only[builtin];have f:∀ {s:Sem Value},(∃O w' K' H',s.run P w=.ok O w'/\V4 F K H w m nx v new set O w' K' H')->B3 P F K H w m nx v new set ((do pure (Next.value (<-s)):Sem Next).run P w):=by
  intro s ⟨O,w',K',H',q1,q2⟩;rw[j1 q1];exact⟨K',H',q2⟩
 rw[j2]at E;split at E
 ·rename_i B;have B:=Nat.eq_of_beq_eq_true B;obtain⟨R,ki,G,k3⟩:=uZ (l y) E;obtain⟨r,k4⟩:=c6 k3;have r:R<=1048575:=Nat.le_of_ble_eq_true r;have p:∃S,P.underlying u=some (.int S):=by
   unfold kdT at B;split at B
   ·rename_i S A;exact⟨S,A⟩
   ·cases B
  obtain⟨ku,p⟩:=p;rw[he]at k4;have b:=OZ (P:=P) (w:=w) (kx:=ki) A p hi J L (g.trans j.symm) (by omega) (n:=R) (by omega) (row_one (k H))
  rw[<-G]at b;exact f (Pa l9 hm H7 hn (g.trans j.symm) j M b (xW (k H) R) k4)
 ·obtain⟨r,k3⟩:=c6 E;have r:t=u:=Nat.eq_of_beq_eq_true r;subst r;obtain⟨d,C,k4⟩:=z7 k3;have G:=C▸l y;rcases ES k4 with⟨rfl,T⟩|⟨hd,s,N,U,V,T⟩
  ·have C:=(G.cell (by decide)).isNil.1 rfl
   have b:=EP (P:=P) (w:=w) A hi J L (a:=none) (n:=0) (c:=0) (news:=[]) (by omega) (by simp) (by omega) (by simp)
   rw[<-C]at b;exact f (Pa l9 hm H7 hn (g.trans j.symm) j M b (ER 0 _ rfl) T)
  ·have D:j5 H d (ρ y):=G.cell (by rw[X1]at hd;omega)
   obtain⟨olds,a,cap,C,q,X⟩:=ET hm D hd U V;obtain⟨_,_,_,_,_,_,_,_,_,_,_,_,_,_,g11,_⟩:=D.uB hd;have b:=EP (P:=P) (w:=w) A hi J L (a:=some a) (n:=sL d) (c:=cap) (news:=olds) (by omega) (by rw[q.2.1,j]) (fun h0=>⟨a,rfl,X (by omega)⟩) (row_one q)
   rw[<-C]at b;exact f (Pa l9 hm H7 hn (g.trans j.symm) j M b q T)
end
end Go.Abs
end
section
namespace Go.Abs
section
variable {P:Program} {F:Nat->Prop} {K:j0} {H:Nat->Option Hd} {w:World} {m:Mm} {nx:Nat} {v:BV} {new:List HO} {set:List (Nat×HO)} {rd:List Nat} {ev:Operand->BV} {ρ:Operand->Value}
theorem Bi(l9:J0 F K w)(hm:j8 F K H w m){r s n off k y b:Nat}{hd:Hd}{cs:Array Value}{l:TypeId}{news:List Value}{w':World}{x:Value}(i:I6 m r=.c s n)(j:H r=some hd)(g2:hd.base=some b)(p:w.heap[b]? =some (.cells cs l (0,0)))
  (a:w9 H k y news)(q:off+k<=s)(d:HG w w' b (G1 cs off news) l)(t:u7 K H v x):V4 F K H w m nx v [] [(r,.c s (U9 n off k y))] x w' K H:=by
 obtain⟨u,z,e,B,q3,q4,f⟩:=cS hm i j g2;rw[p]at e;cases e;have C:=a.2.1;have g:(G1 cs off news).size=cs.size:=J7 _ _ _;have I2:w9 H s (U9 n off k y/cB) ((G1 cs off news).toList.take s):=by
  rw[EG a.1,G2 _ _ _ (by omega)]
  have:=EF q4 a q;have D:(cs.toList.take off++news++cs.toList.drop (off+news.length)).take s=(cs.toList.take s).take off++news++(cs.toList.take s).drop (off+k):=by
   have:=GZ (A:=cs.toList) (U:=news) (o:=off) (s:=s) (by omega) (by simpa using q3)
   rw[this,C]
  rw[D];exact this
 obtain⟨E,G,I,_⟩:=hm.own _ _ hd b f j g2;refine⟨.refl K,.refl H,fun _ h J=>absurd h J,t,?_,l9.S0 d G I,d.kept E,.refl F K⟩
 show j8 F K H w' (S0 m r (.F8 (.c s (U9 n off k y)),.own));exact hm.XW _ _ _ hd b f j g2 d.other (fun _=>⟨_,_,d.here⟩) ⟨b,_,_,_,g2,d.here,by rw[g];exact B,by rw[g];exact q3,I2⟩
theorem Wy{k n j:Nat}{vs:List Value}(h:w9 H k n vs)(a:j<=k):w9 H j (hZ n 0 j) (vs.take j):=by
 have:=LY (off:=0) (s:=j) h (by omega)
 simpa using this
variable (l9:J0 F K w) (hm:j8 F K H w m) (n0:∀x,u7 K H (ev x) (ρ x))
include l9 hm n0
theorem ZC(o:Oper){c:Call}{x:Operand}{t:TypeId}(V:o.op=.call c)(X:c.callee=.builtin .clear)(Y:c.args.toList=[x])(Z:c.argTypes.toList=[t])
  (h:nL P t (ev x) (I6 m)=.ok v new set rd):B3 P F K H w m nx v new set ((execOp ρ o).run P w):=by
 obtain⟨n,ex,u⟩:=z7 h;have L:=ex▸n0 x;have ea:c.args.map ρ= #[ρ x]:=by apply Array.toList_inj.1;simp[Y]
 have et:c.argTypes= #[t]:=by apply Array.toList_inj.1;simp[Z]
 rw[B9 o V X,ea,et];simp only[builtin];cases y:Ge P t with
 |none=>rw[y]at u;exact l8.noConfusion (show l8.er 145 0=_ from u)
 |some e=>
  rw[y]at u;obtain⟨h1,k2⟩:=c6 u;obtain⟨A,k3⟩:=c6 k2;have A:1<=I5 P t:=Nat.le_of_ble_eq_true A;obtain⟨e',i,z,j,M,hi,hz,hb,hs,hzs,k⟩:=EO (P:=P) (t:=t) (by rw[y];exact h1) A
  rw[y]at j;cases j;have a:∀ {p:Option Addr} {O:Nat},ρ x=.slice p 0 O->(Builtin.clear_ #[t] o.type #[ρ x]).run P w=.ok (.tuple #[]) w:=by
   intro p O e;rw[e];cases p<;>simp[Builtin.clear_,u3 M]
  rcases lV k3 with⟨e0,k4⟩|⟨l,k4⟩
  ·rw[j2,if_pos (by rfl)]at k4
   obtain⟨rfl,rfl,rfl,rfl⟩:=aO k4;subst e0;rw[j1 (a ((L.cell (by decide)).isNil.1 rfl))]
   exact s5 l9 hm (.inl ⟨rfl,rfl⟩)
  ·have B:j5 H n (ρ x):=L.cell (by rw[X1]at l;omega)
   obtain⟨hd,b,o',cap,R,g2,C,g4,g5,D,g7,g8,g9,g10,g11,g12,g13⟩:=B.uB l;rw[j2]at k4;split at k4
   ·rename_i g;have g:=Nat.eq_of_beq_eq_true g;obtain⟨rfl,rfl,rfl,rfl⟩:=aO k4;rw[g]at C;rw[j1 (a C)];exact s5 l9 hm (.inl ⟨rfl,rfl⟩)
   ·rename_i g;have g:sL n≠0:=fun hh=>g (by rw[hh];rfl)
    obtain⟨s,N,q,k5⟩:=iJ k4;obtain⟨E,k6⟩:=c6 k5;cases k6;have E:sO n+sL n*I5 P t<=s:=Nat.le_of_ble_eq_true E;have G:o'=sO n:=by rcases D with D|D<;>omega
    subst G;obtain⟨cs,I,S,q2,q3,q4,_⟩:=cS hm q R g2;have d:=xW (k H) (sL n);have f:=qJ z.cells (sL n) (by omega)
    obtain⟨w',T,r2⟩:=Abs.G9 P b (sO n) I (List.replicate (sL n) z.cells.toList).flatten w cs 0 S (by rw[d.2.1];omega) (row_one d)
    have r:(Builtin.clear_ #[t] o.type #[ρ x]).run P w=.ok (.tuple #[]) w':=by
     rw[C];obtain⟨U,J⟩:∃U,sL n=U+1:=⟨sL n- 1,by omega⟩
     rw[J]at T f ⊢;simp only[Builtin.clear_];simp[u3 M,aJ hi hz,f,T]
    rw[j1 r];exact⟨K,H,Bi l9 hm q R g2 S d E (by simpa using r2) (.inl ⟨rfl,rfl⟩)⟩
theorem a2w(o:Oper){c:Call}{x y:Operand}{t u:TypeId}(ho:o.op=.call c)(hc:c.callee=.builtin .copy)(ha:c.args.toList=[x,y])(ht:c.argTypes.toList=[t,u])
  (h:xI P t u (ev x) (ev y) (I6 m)=.ok v new set rd):B3 P F K H w m nx v new set ((execOp ρ o).run P w):=by
 obtain⟨_,k0⟩:=c6 h;obtain⟨S,k1⟩:=c6 k0;have S:1<=I5 P t:=Nat.le_of_ble_eq_true S;obtain⟨e,_,hu,he,_⟩:=EL S;obtain⟨i,hi,T⟩:=N3 (P:=P) (t:=e) (by omega)
 have U:i.size=I5 P t:=by rw[T,<-he]
 obtain⟨n,ex,k2⟩:=z7 k1;obtain⟨d,I,k3⟩:=z7 k2;have hx:=ex▸n0 x;have hy:=I▸n0 y;have ea:c.args.map ρ= #[ρ x,ρ y]:=by apply Array.toList_inj.1;simp[ha]
 have et:c.argTypes= #[t,u]:=by apply Array.toList_inj.1;simp[ht]
 rw[B9 o ho hc,ea,et];simp only[builtin];obtain⟨sl,a,cap,ys,olds,B,I,C,D,k4⟩:∃sl a cap ys olds B,ρ y=.slice a sl cap/\w9 H (sl*I5 P t) ys olds/\(sl≠0->∃b,a=some b/\∀j u,olds[j]? =some u->w.cell? (b.add j)=some u)/\
   iD n (fun l=>fN (iB (Nat.ble sl l) sl l) fun q=>iB (Nat.beq q 0) (.ok (.c (iZ 0)) [] [] B) (hC (I6 m (sR n)) fun s N=>nB (Nat.ble (Nat.add (sO n) (Nat.mul q (I5 P t))) s) 144
    (.ok (.c (iZ q)) [] [(sR n,.c s (U9 N (sO n) (Nat.mul q (I5 P t)) (hZ ys 0 (Nat.mul q (I5 P t)))))] (sR n::B))))=.ok v new set rd:=by
  rcases ES k3 with⟨rfl,k4⟩|⟨J,s,N,r,hb,k4⟩
  ·exact⟨0,none,0,0,[],[],(hy.cell (by decide)).isNil.1 rfl,ER 0 _ rfl,fun h=>absurd rfl h,k4⟩
  ·obtain⟨olds,a,cap,I,C,D⟩:=ET hm (hy.cell (by rw[X1]at J;omega)) J r hb
   exact⟨_,some a,cap,_,olds,_,I,C,fun k=>⟨a,rfl,D k⟩,k4⟩
 have z:∀l:Nat,iB (Nat.ble sl l) sl l=Nat.min sl l:=by
  intro l;rw[j2];show _=min sl l;by_cases E:sl<=l
  ·rw[if_pos (Nat.ble_eq_true_of_le E),Nat.min_eq_left E]
  ·rw[if_neg (fun hh=>E (Nat.le_of_ble_eq_true hh)),Nat.min_eq_right (by omega)]
 have f:∀ {p:Option Addr} {l V:Nat},ρ x=.slice p l V->Nat.min sl l=0->(Builtin.copy_ #[t,u] o.type #[ρ x,ρ y]).run P w=.ok (goInt 0) w:=by
  intro p l V e k;rw[e,I];have G:(Builtin.firstCells i.size 0 (.slice a sl cap)).run P w=.ok #[] w:=by
   cases a<;>simp[Builtin.firstCells,loadCells,loadCellsFrom]
  cases p<;>simp[Builtin.copy_,u3 hu,Builtin.lenOf,k,M1 hi,G,storeCells]
 have L:u7 K H (.c (iZ 0)) (goInt 0):=xV (n:=0) (by decide)
 rcases lV k4 with⟨e0,A⟩|⟨J,A⟩
 ·rw[J8,z,j2,if_pos (by rw[show Nat.min sl 0=0 from Nat.min_zero sl];rfl)]at A
  cases A;subst e0;rw[j1 (f ((hx.cell (by decide)).isNil.1 rfl) (Nat.min_zero sl))]
  exact s5 l9 hm L
 ·have X:j5 H n (ρ x):=hx.cell (by rw[X1]at J;omega)
  obtain⟨hd,b,o',V,g1,g2,g3,g4,g5,Y,g7,g8,g9,g10,g11,g12,g13⟩:=X.uB J;rw[J8,z,j2]at A;split at A
  ·rename_i k;have k:=Nat.eq_of_beq_eq_true k;cases A;rw[j1 (f g3 k)];exact s5 l9 hm L
  ·rename_i k;have k:Nat.min sl (sL n)≠0:=fun hh=>k (by rw[hh];rfl)
   obtain⟨q,O⟩:∃q,Nat.min sl (sL n)=q:=⟨_,rfl⟩;have Z:q<=sl:=by rw[<-O];exact Nat.min_le_left _ _
   have hq2:q<=sL n:=by rw[<-O];exact Nat.min_le_right _ _
   rw[O]at A k;obtain⟨s,N,r,k6⟩:=iJ A;obtain⟨h3,k7⟩:=c6 k6;cases k7;have h3:sO n+q*I5 P t<=s:=Nat.le_of_ble_eq_true h3;have ho':o'=sO n:=by rcases Y with Y|Y<;>omega
   subst ho';obtain⟨bb,rfl,Ux⟩:=D (by omega)
   obtain⟨cs,et',q1,q2,q3,q4,_⟩:=cS hm r g1 g2;have hqs:q*I5 P t<=sl*I5 P t:=Nat.mul_le_mul_right _ Z;have g:=Wy C hqs;have G:=run_firstCells_some (P:=P) w i.size q bb sl cap (olds.take (q*I5 P t)) (by rw[g.2.1,U]) (fun j u R=>by
    have AD:j<q*I5 P t:=by
     rcases Nat.lt_or_ge j (q*I5 P t)with h'|h'
     ·exact h'
     ·rw[List.getElem?_eq_none (by rw[g.2.1];exact h')]at R;cases R
    rw[List.getElem?_take_of_lt AD]at R
    exact Ux j u R)
   obtain⟨w',r1,r2⟩:=Abs.G9 P b (sO n) et' (olds.take (q*I5 P t)) w cs 0 q1 (by rw[g.2.1];omega) (row_one g)
   have M:(Builtin.copy_ #[t,u] o.type #[ρ x,ρ y]).run P w=.ok (goInt q) w':=by
    rw[g3,I];simp only[Builtin.copy_];simp[u3 hu,Builtin.lenOf,M1 hi,O,G,r1]
   rw[j1 M];exact⟨K,H,Bi l9 hm r g1 g2 q1 g h3 (by simpa using r2) (xV (by omega))⟩
end
end Go.Abs
end
section
namespace Go.Abs
section
variable {P:Program} {F:Nat->Prop} {K:j0} {H:Nat->Option Hd} {w:World} {m:Mm} {nx:Nat} {v:BV} {new:List HO} {set:List (Nat×HO)} {rd:List Nat} {ev:Operand->BV} {ρ:Operand->Value}
def ix(a:Nat):ME->Option Nat
 |[]=>none
 |p::l=>if p.2.1=a then some 0 else(ix a l).map (· +1)
def sx(s:Nat):ME->Option Nat
 |[]=>none
 |p::l=>if p.1=s then some 0 else(sx s l).map (· +1)
theorem Hc{a:Nat}:∀ {l:ME} {j:Nat},ix a l=some j->∃p,l[j]? =some p/\p.2.1=a
 |[],_,h=>by cases h
 |p::l,j,h=>by
  simp only[ix]at h;split at h
  ·rename_i e;cases h;exact⟨p,rfl,e⟩
  ·cases b:ix a l with
   |none=>rw[b]at h;cases h
   |some f=>
    rw[b]at h;cases h;obtain⟨q,c,d⟩:=Hc b;exact⟨q,by simpa using c,d⟩
theorem Wz{s:Nat}:∀ {l:ME} {j:Nat},sx s l=some j->∃p,l[j]? =some p/\p.1=s
 |[],_,h=>by cases h
 |p::l,j,h=>by
  simp only[sx]at h;split at h
  ·rename_i e;cases h;exact⟨p,rfl,e⟩
  ·cases a:sx s l with
   |none=>rw[a]at h;cases h
   |some d=>
    rw[a]at h;cases h;obtain⟨q,b,c⟩:=Wz a;exact⟨q,by simpa using b,c⟩
theorem eG{a:Nat}{k:Nat->Nat->l8}{e:l8}:∀ (l:ME),GX a l k e=match ix a l with
  |none=>e
  |some j=>match l[j]? with
   |some p=>k p.1 p.2.2
   |none=>e
 |[]=>rfl
 |p::l=>by
  show iB (Nat.beq p.2.1 a) (k p.1 p.2.2) (GX a l k e)=_;rw[j2,eG l];by_cases h:p.2.1=a
  ·rw[if_pos (by rw[Nat.beq_eq];exact h)];simp[ix,h]
  ·rw[if_neg (fun hh=>h (Nat.eq_of_beq_eq_true hh))]
   simp only[ix,if_neg h];cases ix a l<;>simp
theorem EU{a n:Nat}:∀ (l:ME) (k:ME->l8),VX a n l k=match ix a l with
  |none=>k l
  |some j=>match l[j]? with
   |some p=>k (l.set j (p.1,a,n))
   |none=>k l
 |[],k=>rfl
 |p::l,k=>by
  show iB (Nat.beq p.2.1 a) (k ((p.1,a,n)::l)) (VX a n l fun b=>k (p::b))=_
  rw[j2,EU l];by_cases h:p.2.1=a
  ·rw[if_pos (by rw[Nat.beq_eq];exact h)];simp[ix,h]
  ·rw[if_neg (fun hh=>h (Nat.eq_of_beq_eq_true hh))]
   simp only[ix,if_neg h];cases c:ix a l with
   |none=>simp
   |some j=>
    obtain⟨q,d,_⟩:=Hc c;simp[d]
theorem EV{a:Nat}:∀ (l:ME) (k:ME->l8),VY a l k=match ix a l with
  |none=>k l
  |some j=>k (l.eraseIdx j)
 |[],k=>rfl
 |p::l,k=>by
  show iB (Nat.beq p.2.1 a) (k l) (VY a l fun b=>k (p::b))=_
  rw[j2,EV l];by_cases h:p.2.1=a
  ·rw[if_pos (by rw[Nat.beq_eq];exact h)];simp[ix,h]
  ·rw[if_neg (fun hh=>h (Nat.eq_of_beq_eq_true hh))]
   simp only[ix,if_neg h];cases c:ix a l<;>simp
theorem qK{x:Nat×Nat×Nat}:∀ (l:ME) (k:ME->l8),QN x l k=k (l++ [x])
 |[],k=>rfl
 |p::l,k=>by
  show QN x l (fun a=>k (p::a))=_
  rw[qK l];rfl
theorem EW{s n:Nat}:∀ (l:ME) (k:ME->l8) (e:l8),VZ s n l k e=match sx s l with
  |none=>e
  |some j=>match l[j]? with
   |some p=>k (l.set j (p.1,p.2.1,n))
   |none=>e
 |[],k,e=>rfl
 |p::l,k,e=>by
  show iB (Nat.beq p.1 s) (k ((p.1,p.2.1,n)::l)) (VZ s n l (fun a=>k (p::a)) e)=_
  rw[j2,EW l];by_cases h:p.1=s
  ·rw[if_pos (by rw[Nat.beq_eq];exact h)];simp[sx,h]
  ·rw[if_neg (fun hh=>h (Nat.eq_of_beq_eq_true hh))]
   simp only[sx,if_neg h];cases b:sx s l with
   |none=>simp
   |some j=>
    obtain⟨q,c,_⟩:=Wz b;simp[c]
theorem M5{ks vs:Nat}:∀ (l:ME) (a:List MapEntry),I7 H ks vs l a↔a.length=l.length/\∀ (j:Nat) (p:Nat×Nat×Nat) (e:MapEntry),l[j]? =some p->a[j]? =some e->Cq H ks vs p e
 |[],a=>by
  constructor
  ·rintro rfl;exact⟨rfl,fun j p e h=>by simp at h⟩
  ·rintro⟨h,_⟩;exact List.length_eq_zero_iff.1 h
 |p::l,a=>by
  constructor
  ·rintro⟨e,g,rfl,d,f⟩;obtain⟨k,g2⟩:=(M5 l g).1 f;refine⟨by simp[k],fun j q i b c=>?_⟩
   cases j with
   |zero=>simp at b c;subst b;subst c;exact d
   |succ j=>exact g2 j q i (by simpa using b) (by simpa using c)
  ·rintro⟨d,f⟩;cases a with
   |nil=>simp at d
   |cons e a=>
    exact⟨e,a,rfl,f 0 p e rfl rfl,(M5 l a).2 ⟨by simpa using d,fun j q i b c=>f (j+1) q i (by simpa using b) (by simpa using c)⟩⟩
def aP(ks n:Nat):Value:=match ks with
 |0=>.int .i64 (((s8 n:Nat):Int) - (cZ:Int))
 |k+1=>.agg ((m7 k n).map fun n=>Value.int .i64 n).toArray
theorem ZD{s n:Nat}:(∀i,i<s->R6 n i % 128=32)->n<cB^s->∀vs,w9 H s n vs->vs=(m7 s n).map fun n=>Value.int .i64 n:=by
 intro d _ vs h;obtain⟨_,l,f⟩:=h;refine List.ext_getElem? (fun i=>?_)
 by_cases b:i<s
 ·have c:i<vs.length:=by omega
  rw[List.getElem?_eq_getElem c];have g:=f i vs[i] (List.getElem?_eq_getElem c);have o:=d i b;obtain⟨k,j,e,_⟩:=g.isInt (jS.2 (by omega))
  have a:BZ (R6 n i)=4:=by show R6 n i % 128/8=4;omega
  have:k=.i64:=lS (k':=.i64) (by rw[<-j,a];rfl)
  subst this;rw[e];simp[m7,b]
 ·rw[List.getElem?_eq_none (by omega),List.getElem?_eq_none (by simp[m7];omega)]
theorem Ch{ks n:Nat}{x:Value}(h:I1 H ks n x)(c:Cp ks n):x=aP ks n:=by
 cases ks with
 |zero=>
  have f:=(show j5 H n x from h).lt;have g:=c 0 (by decide)
  rw[Y8 f.2]at g;obtain⟨k,a,e,_⟩:=(show j5 H n x from h).isInt (jS.2 (by omega))
  have b:BZ n=4:=by show n % 128/8=4;omega
  have:k=.i64:=lS (k':=.i64) (by rw[<-a,b];rfl)
  subst this;exact e
 |succ k=>
  obtain⟨cs,rfl,d⟩:=h;have:=ZD c d.1 _ d;simp only[aP];congr 1;apply Array.toList_inj.1;exact this
theorem WA{ks n:Nat}{x:Value}(h:I1 H ks n x):n<cB^oO ks:=by
 cases ks with
 |zero=>have:=(show j5 H n x from h).lt;show n<cB^1;rw[Nat.pow_one];exact this.2
 |succ k=>obtain⟨cs,_,a⟩:=h;exact a.1
theorem Mc{s a b:Nat}(g:a<cB^s)(j:b<cB^s)(c:∀i,i<s->R6 a i % 128=32)(d:∀i,i<s->R6 b i % 128=32)(h:m7 s a=m7 s b):a=b:=by
 refine IZ s a b g j (fun i hi=>?_)
 have f:(m7 s a)[i]? =(m7 s b)[i]? :=by rw[h]
 simp only[m7,List.getElem?_map,List.getElem?_range hi,Option.map_some,Option.some.injEq]at f;have k:=c i hi;have l:=d i hi;have e:s8 (R6 a i)=s8 (R6 b i):=by generalize cZ=z at f;omega
 have n:s8 (R6 a i)=R6 a i/128:=rfl;have o:s8 (R6 b i)=R6 b i/128:=rfl;omega
def WB(P:Program)(kt:TypeId)(ks:Nat):Prop:=(∃k,ks=k+1/\aR P kt k=true)\/(ks=0/\∃k,P.underlying kt=some (.int k))
theorem SF{kt:TypeId}{ks:Nat}(a:a2g P kt=true)(g:uU P kt=ks+1):WB P kt ks:=by
 obtain⟨i,d,hi,b,l,c,f⟩:=Cd g;unfold a2g at a;rw[b]at a;split at a
 ·rename_i n e;cases e;rcases f with⟨_,h⟩|⟨k,j,_⟩
  ·simp[Q1,b]at h
  ·subst j;rw[c,Zv]at a;exact .inl ⟨k,rfl,a⟩
 ·rename_i k e;cases e;rcases f with⟨rfl,_⟩|⟨k',_,h⟩
  ·exact .inr ⟨rfl,k,b⟩
  ·simp[Q1,b]at h
 ·cases a
theorem M6{kt:TypeId}{ks:Nat}(h:WB P kt ks)(em:Bool)(n:Nat):(Instr.checkKey em 10000 kt (aP ks n)).run P w=.ok () w:=by
 rcases h with⟨k,rfl,c⟩|⟨rfl,k,a⟩
 ·obtain⟨d,a,e,g,f⟩:=fG c;rw[Instr.checkKey];simp only[Sem.run_bind,run_underlying a,Result.andThen_ok,aP];rw[<-Array.forIn_toList];have:=eM (P:=P) (w:=w) (em:=em) (n:=9998) (cs:=((m7 k n).map fun n=>Value.int .i64 n).toArray) d.toList 0 ((m7 k n).map fun n=>(.i64,n)) f (by simp[m7,e]) (by simp)
  simp at this ⊢;rw[this];rfl
 ·have:∀b:Nat,(Instr.checkKey em (b+1) kt (aP 0 n)).run P w=.ok () w:=by
   intro b;simp[Instr.checkKey,run_underlying a,aP]
  exact this 9999
theorem Pb{kt:TypeId}{ks vs a:Nat}(h:WB P kt ks)(N:Cp ks a)(t:a<cB^oO ks)(l:ME)(c:List MapEntry)(r:I7 H ks vs l c):
  (Instr.findKey kt (aP ks a) c).run P w=.ok ((ix a l).bind fun j=>(c[j]?).map fun e=>(j,e.val)) w:=by
 have d:∀ (p:Nat×Nat×Nat) (e:MapEntry),Cq H ks vs p e->e.key=aP ks p.2.1/\p.2.1<cB^oO ks/\Cp ks p.2.1:=fun p e ⟨_,g2,_,O⟩=>⟨Ch g2 O,WA g2,O⟩
 rcases h with⟨k,rfl,R⟩|⟨rfl,k,f⟩
 ·obtain⟨fs,f,S,T,U⟩:=fG R;have A:∀i,i<k->R6 a i % 128=32:=N;have B:a<cB^k:=t;rw[run_findKey_eq w (by simp[f])]
  have C:∀b:Nat,b<cB^k->Cp (k+1) b->(Op.equal kt (aP (k+1) a) (aP (k+1) b)).run P w=.ok (decide (b=a)) w:=by
   intro b g D;have x:P.fieldsOf kt=fs:=by simp[Program.fieldsOf,f]
   unfold aP Op.equal Op.maxDepth;have E:=aT (P:=P) (w:=w) 9998 ((m7 k a).map fun n=>Value.int .i64 n).toArray ((m7 k b).map fun n=>Value.int .i64 n).toArray fs.toList 0 (((m7 k a).zip (m7 k b)).map fun u=>(.i64,u.1,u.2)) U (by simp[m7,S])
    (by
     apply List.ext_getElem?;intro i;by_cases hi:i<k
     ·simp[m7,hi]
     ·rw[List.getElem?_eq_none (by simp[m7];omega),List.getElem?_eq_none (by simp[m7];omega)])
    (by
     apply List.ext_getElem?;intro i;by_cases hi:i<k
     ·simp[m7,hi]
     ·rw[List.getElem?_eq_none (by simp[m7];omega),List.getElem?_eq_none (by simp[m7];omega)])
   rw[run_equalIn_struct w 9999 kt _ _ (by rw[x];exact f) T,x,E]
   congr 1;rw[Bool.eq_iff_iff,decide_eq_true_iff,List.all_eq_true];constructor
   ·intro y;refine(Mc B g A (show ∀i,i<k->R6 b i % 128=32 from D) ?_).symm;apply List.ext_getElem?;intro i;by_cases hi:i<k
    ·have:=y (.i64,(m7 k a)[i]'(by simp[m7,hi]),(m7 k b)[i]'(by simp[m7,hi])) (by
         rw[List.mem_map];refine⟨((m7 k a)[i]'(by simp[m7,hi]),(m7 k b)[i]'(by simp[m7,hi])),?_,rfl⟩
         rw[<-List.getElem_zip (h:=by simp[m7,hi])]
         exact List.getElem_mem _)
     rw[List.getElem?_eq_getElem (by simp[m7,hi]),List.getElem?_eq_getElem (by simp[m7,hi])]
     simpa using this
    ·rw[List.getElem?_eq_none (by simp[m7];omega),List.getElem?_eq_none (by simp[m7];omega)]
   ·rintro rfl u f;obtain⟨q,V,rfl⟩:=List.mem_map.1 f;obtain⟨i,hi⟩:=List.mem_iff_getElem?.1 V;have:=List.getElem?_zip_eq_some.1 hi;have e:q.1=q.2:=Option.some.inj (this.1.symm.trans this.2);simp[e]
  have G:∀ (l:ME) (c:List MapEntry) (i:Nat),I7 H (k+1) vs l c->(Instr.findAsking kt (aP (k+1) a) c i).run P w=.ok ((ix a l).bind fun j=>(c[j]?).map fun e=>(i+j,e.val)) w:=by
   intro l
   induction l with
   |nil=>intro c i r;cases r;simp[Instr.findAsking,ix]
   |cons p l I=>
    rintro c i ⟨e,o,rfl,J,g2⟩;obtain⟨L,s,q3⟩:=d p e J;simp only[Instr.findAsking,Sem.run_bind,L,C _ s q3,Result.andThen_ok,ix];by_cases g:p.2.1=a
    ·simp[g]
    ·simp only[g,decide_false,if_false,Bool.false_eq_true,I o (i+1) g2];congr 1;cases X:ix a l with
     |none=>simp
     |some j=>simp[Nat.add_assoc,Nat.add_comm 1]
  simpa using G l c 0 r
 ·have G:∀ (l:ME) (c:List MapEntry) (i:Nat),I7 H 0 vs l c->Instr.findNow (.int k) (aP 0 a) c i=some ((ix a l).bind fun j=>(c[j]?).map fun e=>(i+j,e.val)):=by
   intro l
   induction l with
   |nil=>intro c i r;cases r;rfl
   |cons p l I=>
    rintro c i ⟨e,o,rfl,J,g2⟩;obtain⟨L,s,q3⟩:=d p e J;have M:((((s8 a:Nat):Int) - (cZ:Int))==(((s8 p.2.1:Nat):Int) - (cZ:Int)))=decide (p.2.1=a):=by
     rw[Bool.eq_iff_iff,decide_eq_true_iff,beq_iff_eq];have Y:=N 0 (by decide)
     have Z:=q3 0 (by decide)
     rw[Y8 (by have t:a<cB^1:=t;rw[Nat.pow_one]at t;exact t)]at Y
     rw[Y8 (by have s:p.2.1<cB^1:=s;rw[Nat.pow_one]at s;exact s)]at Z
     have ea:s8 a=a/128:=rfl;have eb:s8 p.2.1=p.2.1/128:=rfl;constructor
     ·intro hh;generalize cZ=z at hh;omega
     ·intro hh;rw[hh]
    simp only[Instr.findNow,L,aP,Instr.sameNow,if_true,M,ix];by_cases g:p.2.1=a
    ·simp[g]
    ·simp only[g,decide_false,if_false];have:=I o (i+1) g2;simp only[aP]at this;rw[this];congr 1;cases X:ix a l with
     |none=>simp
     |some j=>simp[Nat.add_assoc,Nat.add_comm 1]
  simp only[Instr.findKey,Sem.run_bind,run_underlying f,Result.andThen_ok,G l c 0 r];simp
end
end Go.Abs
end
section
namespace Go.Abs
section
variable {P:Program} {F:Nat->Prop} {K:j0} {H:Nat->Option Hd} {w:World} {m:Mm} {nx:Nat} {v:BV} {new:List HO} {set:List (Nat×HO)} {rd:List Nat} {ev:Operand->BV} {ρ:Operand->Value}
theorem QW(l9:J0 F K w)(hm:j8 F K H w m)(d:H nx=none)(o:Obj)(a:HO)(b:(c7.F8 a).isCells=false){x:Value}
  (e:o8 K (S0 H nx ⟨some w.heap.size,0,0,0⟩) (w.alloc o) ⟨some w.heap.size,0,0,0⟩ (.F8 a))(c:u7 K (S0 H nx ⟨some w.heap.size,0,0,0⟩) v x):∃K' H',V4 F K H w m nx v [a] [] x (w.alloc o) K' H':=by
 have:=mV l9 hm d o (.F8 a) b e c.Q2;exact⟨K,_,this.le,this.hle,this.I2,c,this.mem,this.ok,this.kept,this.fix⟩
theorem QX{t:TypeId}{ks vs:Nat}(a:ks+1=IK P t)(h:vs+1=OL P t):∃kt p i z,P.underlying t=some (.map kt p)/\WB P kt ks/\P.info? p=some i/\i.zero=some z/\∀H,I1 H vs (VR P t) z:=by
 unfold IK at a;unfold OL at h;cases c:mpK P t with
 |none=>rw[c]at a;cases a
 |some x=>
  rw[c]at a h;simp only[j2]at a h;split at a
  ·rename_i q;simp only[Bool.and_eq_true]at q;obtain⟨⟨s,u⟩,b⟩:=q;have j:P.underlying t=some (.map x.1 x.2):=by
    unfold mpK at c;split at c
    ·rename_i k v j;cases c;exact j
    ·cases c
   obtain⟨i,z,hi,r,y,g2,J,L,A,B⟩:=iK u;refine⟨x.1,x.2,i,z,j,SF s a.symm,hi,r,fun H=>?_⟩
   have l:VR P t=Gd z.cells.toList:=by unfold VR;rw[c];exact A
   have f:=lT (H:=H) z.cells.toList B;rw[l];obtain⟨M,d,g,C,D,E,_⟩:=Cd h.symm;rw[hi]at g;cases g;unfold a03 at b;rw[hi]at b;simp only[r]at b;rw[y,D]at f;split at b
   ·rename_i cs e;cases e;have n:2<=uU P x.2:=Nat.le_of_ble_eq_true b;obtain⟨k,rfl⟩:∃k,vs=k+1:=⟨vs- 1,by omega⟩
    exact⟨cs,rfl,f⟩
   ·cases b
   ·rename_i N G I e;cases e;have n:uU P x.2=1:=Nat.eq_of_beq_eq_true b;have:vs=0:=by omega
    subst this;have o:z.cells.toList=[z]:=by
     cases z<;>first|rfl|(exact absurd rfl (G _))|(exact absurd rfl (I _))
    rw[o]at f ⊢;have:=f.2.2 0 z rfl;rw[Y8 (by have:=f.1;rw[Zu,Nat.pow_one]at this;exact this)]at this
    exact this
   ·cases b
  ·cases a
theorem Pc{x:BV}{s n sh:Nat}{y:Value}(b:u7 K H x y)(d:(x=.c n/\s=1/\3<=n)\/x=.a s n)(h:tcB x=sh+1):I1 H sh n y/\s=oO sh:=by
 rcases d with⟨rfl,rfl,e⟩|rfl
 ·have:sh=0:=by have:(1:Nat)=sh+1:=h;omega
  subst this;exact⟨b.cell e,rfl⟩
 ·have:sh=s+1:=by have:s+1+1=sh+1:=h;omega
  subst this;exact⟨b,rfl⟩
theorem tU{o:HO}{k:Nat->Nat->ME->Nat->l8}(h:hM o k=.ok v new set rd):∃ks vs l clk,o=.m ks vs l clk/\k ks vs l clk=.ok v new set rd:=by
 cases o with
 |m ks vs l clk=>exact⟨ks,vs,l,clk,rfl,h⟩
 |_=>cases h
theorem Pd(hm:j8 F K H w m){c ks vs clk:Nat}{l:ME}{x:Value}(h:j5 H c x)(i:XS c=true)(hd:I6 m (mR c)=.m ks vs l clk):∃hd b e,H (mR c)=some hd/\hd.base=some b/\x=.map (some b)/\m (mR c)=some (.F8 (.m ks vs l clk),.own)/\w.heap[b]? =some (.map e clk)/\I7 H ks vs l e.toList:=by
 obtain⟨a,b,f,g2,j,_,_⟩:=h.isMap i;have d:=R0 hd (by simp)
 obtain⟨n,e,g,k,q3⟩:=hm.cont _ _ .own a d (by simp) f
 rw[g2]at g;cases g;exact⟨a,b,e,f,g2,j,d,k,q3⟩
theorem gB(l9:J0 F K w)(hm:j8 F K H w m){r ks vs clk a b:Nat}{l d:ME}{hd:Hd}{f c:Array MapEntry}(e:m r=some (.F8 (.m ks vs l clk),.own))(g:H r=some hd)(g2:hd.base=some b)(hh:w.heap[b]? =some (.map f clk))
  (i:I7 H ks vs d c.toList){x:Value}(j:u7 K H v x):V4 F K H w m nx v [] [(r,.m ks vs d a)] x (w.putObj b (.map c a)) K H:=by
 obtain⟨k,n,q3⟩:=bH (c':=.F8 (.m ks vs d a)) (o':=.map c a) l9 hm e g g2 hh (fun _ _ _ h=>by cases h) rfl ⟨b,c,g2,by rw[L5 hh,if_pos rfl],i⟩
 exact⟨.refl K,.refl H,fun _ h o=>absurd h o,j,k,n,q3,.refl F K⟩
theorem vB{a:Array MapEntry}{j:Nat}{e:MapEntry}(h:a[j]? =some e)(f:MapEntry->MapEntry):(a.modify j f).toList=a.toList.set j (f e):=by
 rw[Array.toList_modify];apply List.ext_getElem?;intro q;rw[List.getElem?_modify,List.getElem?_set];by_cases c:j=q
 ·subst c;have d:j<a.size:=by
   rcases Nat.lt_or_ge j a.size with b|b
   ·exact b
   ·rw[Array.getElem?_eq_none b]at h;cases h
  rw[Array.getElem?_eq_getElem d]at h;cases h;simp[d]
 ·simp[c]
theorem EX{ks vs j:Nat}{l:ME}{c:List MapEntry}(h:I7 H ks vs l c){p:Nat×Nat×Nat}{e:MapEntry}(g:Cq H ks vs p e):I7 H ks vs (l.set j p) (c.set j e):=by
 rw[M5]at h ⊢;refine⟨by simp[h.1],fun i q f a b=>?_⟩
 rw[List.getElem?_set]at a b;by_cases d:j=i
 ·subst d;simp only[if_true]at a b;split at a
  ·cases a;split at b
   ·cases b;exact g
   ·cases b
  ·cases a
 ·simp only[d,if_false]at a b;exact h.2 i q f a b
theorem He{ks vs:Nat}{l:ME}{c:List MapEntry}(h:I7 H ks vs l c){p:Nat×Nat×Nat}{e:MapEntry}(g:Cq H ks vs p e):I7 H ks vs (l++ [p]) (c++ [e]):=by
 rw[M5]at h ⊢;refine⟨by simp[h.1],fun i q f a b=>?_⟩
 rcases Nat.lt_or_ge i l.length with hi|hi
 ·rw[List.getElem?_append_left hi]at a;rw[List.getElem?_append_left (by omega)]at b
  exact h.2 i q f a b
 ·rw[List.getElem?_append_right hi]at a;rw[List.getElem?_append_right (by omega),h.1]at b
  obtain⟨d,hd⟩:∃d,i- l.length=d:=⟨_,rfl⟩;rw[hd]at a b;cases d with
  |zero=>simp at a b;subst a;subst b;exact g
  |succ d=>simp at a
theorem Pe{ks vs j:Nat}{l:ME}{c:List MapEntry}(h:I7 H ks vs l c):I7 H ks vs (l.eraseIdx j) (c.eraseIdx j):=by
 rw[M5]at h ⊢;refine⟨by simp[List.length_eraseIdx,h.1],fun i q f b a=>?_⟩
 rw[List.getElem?_eraseIdx]at b a;split at b
 ·rename_i hi;rw[if_pos hi]at a;exact h.2 i q f b a
 ·rename_i hi;rw[if_neg hi]at a;exact h.2 (i+1) q f b a
theorem Je(ks n:Nat):Instr.sameBits 10000 (aP ks n) (aP ks n)=true:=by
 cases ks with
 |zero=>simp[aP,Instr.sameBits]
 |succ k=>
  have:∀l:List Int,((l.map fun n=>Value.int .i64 n).zip (l.map fun n=>Value.int .i64 n)).all (fun(x,y)=>Instr.sameBits 9999 x y)=true:=by
   intro l
   induction l with
   |nil=>rfl
   |cons a l b=>
    simp only[List.map_cons,List.zip_cons_cons,List.all_cons,Bool.and_eq_true];exact⟨by simp[Instr.sameBits],b⟩
  simp only[aP,Instr.sameBits,beq_self_eq_true,Bool.true_and];exact this _
theorem qL(ks n:Nat):(Instr.keyThatStays (aP ks n) (aP ks n)).run P w=.ok (aP ks n) w:=by
 simp[Instr.keyThatStays,Je]
theorem xX(hm:j8 F K H w m){t:TypeId}{x i:BV}{y n:Value}{k:Nat->Nat->Nat->Nat->ME->Nat->l8}(B:u7 K H x y)(hi:u7 K H i n)(h:tR P t x i (I6 m) k=.ok v new set rd):
  ∃r key ks vs l clk kt f a z hd b d,k r key ks vs l clk=.ok v new set rd/\P.underlying t=some (.map kt f)/\WB P kt ks/\P.info? f=some a/\a.zero=some z/\(∀H,I1 H vs (VR P t) z)/\
   H r=some hd/\hd.base=some b/\y=.map (some b)/\m r=some (.F8 (.m ks vs l clk),.own)/\w.heap[b]? =some (.map d clk)/\I7 H ks vs l d.toList/\
   I1 H ks key n/\Cp ks key/\n=aP ks key/\(∀w,(Instr.findKey kt (aP ks key) d.toList).run P w=.ok ((ix key l).bind fun j=>(d.toList[j]?).map fun e=>(j,e.val)) w):=by
 obtain⟨c,rfl,h⟩:=z7 h;obtain⟨A,h⟩:=c6 h;obtain⟨ks,vs,l,clk,C,h⟩:=tU h;obtain⟨g,h⟩:=c6 h;obtain⟨o,h⟩:=c6 h;obtain⟨p,h⟩:=c6 h;obtain⟨s,key,D,h⟩:=jT h;obtain⟨E,h⟩:=c6 h;have g:ks+1=IK P t:=Nat.eq_of_beq_eq_true g;have o:tcB i=IK P t:=Nat.eq_of_beq_eq_true o;have p:vs+1=OL P t:=Nat.eq_of_beq_eq_true p;obtain⟨kt,f,a,z,G,g2,I,J,L⟩:=QX g p;obtain⟨hd,b,d,M,N,q3,q4,q5,q6⟩:=Pd hm (B.cell (by rw[rU]at A;omega)) A C
 obtain⟨q,O⟩:=Pc hi D (o.trans g.symm);have u:Cp ks key:=by intro j R;exact xS E j (by rw[O];exact R)
 have S:=Ch q u;exact⟨_,key,ks,vs,l,clk,kt,f,a,z,hd,b,d,h,G,g2,I,J,L,M,N,q3,q4,q5,q6,q,u,S,fun w=>Pb g2 u (WA q) l d.toList q6⟩
variable (l9:J0 F K w) (hm:j8 F K H w m) (n0:∀x,u7 K H (ev x) (ρ x))
include l9 hm in
theorem SG(b:∀i,i<new.length->H (nx+i)=none)(f:nx<1048575)(o:Oper){t:TypeId}(e:o.op=.makeMap t none)(h:Ek P t nx=.ok v new set rd):B3 P F K H w m nx v new set ((execOp ρ o).run P w):=by
 unfold Ek at h;cases c:IK P t with
 |zero=>rw[c]at h;exact l8.noConfusion (show l8.er 160 0=_ from h)
 |succ ks=>
  cases d:OL P t with
  |zero=>rw[c,d]at h;exact l8.noConfusion (show l8.er 161 0=_ from h)
  |succ vs=>
   rw[c,d]at h;cases (show Su (.m ks vs [] 0) (iQ nx)=_ from h);have a:(execOp ρ o).run P w=.ok (.value (.map (some w.heap.size))) (w.alloc (.map #[] 0)):=by
    simp only[execOp,e];refine j1 ?_;simp only[Instr.makeMap,Option.map_none,Sem.run_bind,run_newObj_alloc,Result.andThen_ok,Sem.run_pure]
   rw[a];exact QW l9 hm (b 0 (by simp)) (.map #[] 0) _ rfl ⟨_,_,rfl,L7 w _,rfl⟩ (.inr (.inr (.map nx _ w.heap.size (by omega) (j6 _ _ _) rfl)))
include l9 hm n0 in
theorem WC(o:Oper){t:TypeId}{x i:Operand}{a:Bool}(I:o.op=.lookup t x i a)(h:rO P t (ev x) (ev i) a (I6 m)=.ok v new set rd):B3 P F K H w m nx v new set ((execOp ρ o).run P w):=by
 obtain⟨r,q,ks,vs,l,clk,kt,X,J,z,hd,b,s,h,C,g2,L,M,N,Y,Z,q3,q4,q5,q6,p1,p3,D,E⟩:=xX hm (n0 x) (n0 i) h;have A:∀ (y:Value) (n:Nat) (f:Bool),I1 H vs n y->u7 K H (iB a (.t [(vs,n),(0,G8 f)]) (BF vs n)) (if a then .tuple #[y,.bool f]else y):=by
  intro y n f d;cases a with
  |true=>
   refine⟨#[y,.bool f],rfl,rfl,fun j p u c g=>?_⟩
   match j with
   |0=>simp at c g;subst c;subst g;exact d
   |1=>
    simp at c g;subst c;subst g;have:=Z0 (K:=K) (H:=H) f;exact this.cell (by cases f<;>decide)
   |j+2=>simp at c
  |false=>
   show u7 K H (BF vs n) y;cases vs with
   |zero=>exact .inr (.inr d)
   |succ k=>exact d
 have done:∀ (y:Value) (n:Nat) (f:Bool),I1 H vs n y->(Instr.lookup t (ρ x) (ρ i) a).run P w=.ok (if a then .tuple #[y,.bool f]else y) w->l8.ok (iB a (.t [(vs,n),(0,G8 f)]) (BF vs n)) [] [] [r]=.ok v new set rd->B3 P F K H w m nx v new set ((execOp ρ o).run P w):=by
  intro y n f d O R;cases R;simp only[execOp,I];rw[j1 O];exact s5 l9 hm (A y n f d)
 rw[eG]at h;cases e:ix q l with
 |none=>
  rw[e]at h;refine done z (VR P t) false (N H) ?_ ?_
  ·rw[q3,D];unfold Instr.lookup;simp only[Sem.run_bind,run_underlying C,Result.andThen_ok,C0 q5,Sem.run_pure,M6 g2,E,e];simp[aJ L M]
  ·rw[<-h];cases a<;>rfl
 |some j=>
  obtain⟨p,c,S⟩:=Hc e;rw[e]at h;simp only[c]at h;obtain⟨T,U⟩:=(M5 _ _).1 q6;have G:j<s.toList.length:=by
   rw[T];rcases Nat.lt_or_ge j l.length with B|B
   ·exact B
   ·rw[List.getElem?_eq_none B]at c;cases c
  have V:=U j p s.toList[j] c (List.getElem?_eq_getElem G);refine done s.toList[j].val p.2.2 true V.2.2.1 ?_ ?_
  ·rw[q3,D];unfold Instr.lookup;simp only[Sem.run_bind,run_underlying C,Result.andThen_ok,C0 q5,Sem.run_pure,M6 g2,E,e,Option.bind_some,List.getElem?_eq_getElem G,Option.map_some]
  ·rw[<-h];cases a<;>rfl
include l9 hm n0 in
theorem Bj(o:Oper){t:TypeId}{x i y:Operand}(k:o.op=.mapUpdate t x i y\/o.op=.insert t x i y)(h:V1 P t (ev x) (ev i) (ev y) (I6 m)=.ok v new set rd):B3 P F K H w m nx v new set ((execOp ρ o).run P w):=by
 obtain⟨r,key,ks,vs,l,clk,kt,Y,S,z,hd,b,c,h,J,g2,Z,g4,g5,L,M,q3,q4,q5,q6,N,O,q,R⟩:=xX hm (n0 x) (n0 i) h;obtain⟨T,h⟩:=c6 h;obtain⟨s,n,U,h⟩:=jT h;obtain⟨f,_⟩:=Pc (n0 y) U (Nat.eq_of_beq_eq_true T);have A:execOp ρ o=(do Instr.mapUpdate t (ρ x) (ρ i) (ρ y);pure Next.skip:Sem Next):=by
  rcases k with k|k<;>simp only[execOp,k]
 rw[A];rw[eG]at h;cases d:ix key l with
 |none=>
  rw[d]at h;simp only[qK]at h;cases h;have a:(Instr.mapUpdate t (ρ x) (ρ i) (ρ y)).run P w=.ok () (w.putObj b (.map (c.push {key:=aP ks key,val:=ρ y,born:=clk}) (clk+1))):=by
   rw[q3,q];unfold Instr.mapUpdate;simp only[Sem.run_bind,run_underlying J,Result.andThen_ok,C0 q5,M6 g2,R,d,Option.bind_none];exact E9 q5
  rw[kE a];refine⟨K,H,gB l9 hm q4 L M q5 ?_ (.inl ⟨rfl,rfl⟩)⟩;rw[Array.toList_push];exact He q6 ⟨rfl,q▸N,f,O⟩
 |some j=>
  obtain⟨p,u,B⟩:=Hc d;rw[d]at h;simp only[u,EU,d]at h;cases h;obtain⟨V,X⟩:=(M5 _ _).1 q6;have C:j<c.toList.length:=by
   rw[V];rcases Nat.lt_or_ge j l.length with D|D
   ·exact D
   ·rw[List.getElem?_eq_none D]at u;cases u
  have E:=X j p c.toList[j] u (List.getElem?_eq_getElem C);have G:j<c.size:=by simpa using C
  have g:c[j]? =some c[j]:=Array.getElem?_eq_getElem G;have I:c[j].key=aP ks key:=by
   have:=Ch E.2.1 E.2.2.2;rw[B]at this;exact this
  have a:(Instr.mapUpdate t (ρ x) (ρ i) (ρ y)).run P w=.ok () (w.putObj b (.map (c.modify j fun e=> {e with key:=aP ks key,val:=ρ y}) clk)):=by
   rw[q3,q];unfold Instr.mapUpdate;simp only[Sem.run_bind,run_underlying J,Result.andThen_ok,C0 q5,M6 g2,R,d,Option.bind_some,List.getElem?_eq_getElem C,Option.map_some,g,Option.getD_some,I,qL];exact E9 q5
  rw[kE a];refine⟨K,H,gB l9 hm q4 L M q5 ?_ (.inl ⟨rfl,rfl⟩)⟩;rw[vB g];exact EX q6 ⟨E.1,q▸N,f,O⟩
include l9 hm n0 in
theorem WD(o:Oper){c:Call}{x y:Operand}{t u:TypeId}(E:o.op=.call c)(G:c.callee=.builtin .delete)(I:c.args.toList=[x,y])(J:c.argTypes.toList=[t,u])(h:jP P t (ev x) (ev y) (I6 m)=.ok v new set rd):B3 P F K H w m nx v new set ((execOp ρ o).run P w):=by
 obtain⟨r,e,ks,vs,l,clk,kt,T,L,z,hd,b,f,h,i,g2,U,V,X,k,n,q3,q4,q5,q6,Y,Z,q,s⟩:=xX hm (n0 x) (n0 y) h;have M:c.args.map ρ= #[ρ x,ρ y]:=by apply Array.toList_inj.1;simp[I]
 have N:c.argTypes= #[t,u]:=by apply Array.toList_inj.1;simp[J]
 rw[B9 o E G,M,N];simp only[builtin];have A:(#[t,u]:Array TypeId)[0]? =some t:=rfl;have B:(#[ρ x,ρ y]:Array Value)[0]? =some (ρ x):=rfl;have C:(#[ρ x,ρ y]:Array Value)[1]? =some (ρ y):=rfl;rw[EV]at h;cases d:ix e l with
 |none=>
  rw[d]at h;cases h;have a:(Builtin.delete_ #[t,u] o.type #[ρ x,ρ y]).run P w=.ok (.tuple #[]) (w.putObj b (.map f clk)):=by
   unfold Builtin.delete_;simp only[A,B,C];rw[q3,q];simp only[Sem.run_bind,run_underlying i,Result.andThen_ok,C0 q5,M6 g2,s,d,Option.bind_none,E9 q5,Sem.run_pure]
  rw[j1 a];exact⟨K,H,gB l9 hm q4 k n q5 q6 (.inl ⟨rfl,rfl⟩)⟩
 |some j=>
  obtain⟨p,D,O⟩:=Hc d;rw[d]at h;cases h;obtain⟨R,f2⟩:=(M5 _ _).1 q6;have S:j<f.toList.length:=by
   rw[R];rcases Nat.lt_or_ge j l.length with g|g
   ·exact g
   ·rw[List.getElem?_eq_none g]at D;cases D
  have a:(Builtin.delete_ #[t,u] o.type #[ρ x,ρ y]).run P w=.ok (.tuple #[]) (w.putObj b (.map (f.eraseIdxIfInBounds j) clk)):=by
   unfold Builtin.delete_;simp only[A,B,C];rw[q3,q];simp only[Sem.run_bind,run_underlying i,Result.andThen_ok,C0 q5,M6 g2,s,d,Option.bind_some,List.getElem?_eq_getElem S,Option.map_some,E9 q5,Sem.run_pure]
  rw[j1 a];refine⟨K,H,gB l9 hm q4 k n q5 ?_ (.inl ⟨rfl,rfl⟩)⟩;rw[Array.toList_eraseIdxIfInBounds];exact Pe q6
end
end Go.Abs
end
section
namespace Go.Abs
section
variable {P:Program} {F:Nat->Prop} {K:j0} {H:Nat->Option Hd} {w:World} {m:Mm} {nx:Nat} {v:BV} {new:List HO} {set:List (Nat×HO)} {rd:List Nat} {ev:Operand->BV} {ρ:Operand->Value}
theorem Md{vs n s:Nat}{y:Value}(c:I1 H vs n y)(d:s<1048577):u7 K H (.t [(vs,n),(0,iZ s)]) (.tuple #[y,.int .i64 (s:Int)]):=by
 refine⟨_,rfl,rfl,fun j p u a b=>?_⟩
 match j with
 |0=>simp at a b;subst a;subst b;exact c
 |1=>
  simp at a b;subst a;subst b;have:=xV (K:=K) (H:=H) d;refine this.cell ?_;show 3<=128*s+1180591620717411303456;omega
 |j+2=>simp at a
theorem find_born{ks vs s:Nat}:∀ {l:ME} {a:List MapEntry} {j:Nat},I7 H ks vs l a->sx s l=some j->a.findIdx? (fun e=>(e.born:Int)==(s:Int))=some j
 |[],_,_,_,h=>by cases h
 |p::l,a,j,f,h=>by
  obtain⟨e,g,rfl,i,g2⟩:=f;simp only[sx]at h;have c:e.born=p.1:=i.1;rw[List.findIdx?_cons];split at h
  ·rename_i d;cases h;simp[c,d]
  ·rename_i d;cases b:sx s l with
   |none=>rw[b]at h;cases h
   |some k=>
    rw[b]at h;cases h;have:=find_born g2 b;rw[this];have:((e.born:Int)==(s:Int))=false:=by
     rw[c];apply Bool.eq_false_iff.2;rw[Ne,beq_iff_eq];omega
    rw[this];rfl
variable (l9:J0 F K w) (hm:j8 F K H w m) (n0:∀x,u7 K H (ev x) (ρ x))
include l9 hm n0
theorem Pf(o:Oper){t:TypeId}{x i:Operand}(T:o.op=.mapEntry t x i)(h:fZ P t (ev x) (ev i) (I6 m)=.ok v new set rd):B3 P F K H w m nx v new set ((execOp ρ o).run P w):=by
 obtain⟨r,key,ks,vs,l,clk,kt,vt,U,z,hd,b,a,h,G,g2,V,X,I,J,B,q3,q4,q5,q6,L,Y,y,M⟩:=xX hm (n0 x) (n0 i) h;obtain⟨N,h⟩:=c6 h;have N:clk<=1048576:=Nat.le_of_ble_eq_true N;simp only[execOp,T];rw[eG]at h;cases f:ix key l with
 |none=>
  rw[f]at h;simp only[qK]at h;cases h;have c:(Instr.mapEntry t (ρ x) (ρ i)).run P w=.ok (.tuple #[z,goInt clk]) (w.putObj b (.map (a.push {key:=aP ks key,val:=z,born:=clk}) (clk+1))):=by
   rw[q3,y];unfold Instr.mapEntry;simp only[Sem.run_bind,run_underlying G,Result.andThen_ok,C0 q5,M6 g2,M,f,Option.bind_none,aJ V X];rw[E9 q5];rfl
  rw[j1 c];refine⟨K,H,gB l9 hm q4 J B q5 ?_ (Md (I H) (by omega))⟩
  rw[Array.toList_push];exact He q6 ⟨rfl,y▸L,I H,Y⟩
 |some j=>
  obtain⟨p,g,k⟩:=Hc f;rw[f]at h;simp only[g]at h;obtain⟨O,h⟩:=c6 h;have O:p.1<=1048576:=Nat.le_of_ble_eq_true O;cases h;obtain⟨R,Z⟩:=(M5 _ _).1 q6;have A:j<a.toList.length:=by
   rw[R];rcases Nat.lt_or_ge j l.length with n|n
   ·exact n
   ·rw[List.getElem?_eq_none n]at g;cases g
  have d:=Z j p a.toList[j] g (List.getElem?_eq_getElem A);have C:j<a.size:=by simpa using A
  have s:a[j]? =some a[j]:=Array.getElem?_eq_getElem C;have D:a[j].key=aP ks key:=by
   have:=Ch d.2.1 d.2.2.2;rw[k]at this;exact this
  have E:a[j].born=p.1:=d.1;have c:(Instr.mapEntry t (ρ x) (ρ i)).run P w=.ok (.tuple #[a.toList[j].val,goInt p.1]) (w.putObj b (.map (a.modify j fun e=> {e with key:=aP ks key}) clk)):=by
   rw[q3,y];unfold Instr.mapEntry;simp only[Sem.run_bind,run_underlying G,Result.andThen_ok,C0 q5,M6 g2,M,f,Option.bind_some,List.getElem?_eq_getElem A,Option.map_some,s,Option.getD_some,D,qL,E];rw[E9 q5];rfl
  rw[j1 c];obtain⟨S,f2,f3⟩:=bH (c':=.F8 (.m ks vs l clk)) (o':=.map (a.modify j fun e=> {e with key:=aP ks key}) clk) l9 hm q4 J B q5 (fun _ _ _ h=>by cases h) rfl ⟨b,_,B,by rw[L5 q5,if_pos rfl],by
   rw[vB s];have:=EX (j:=j) q6 (p:=p) (e:= {a[j]with key:=aP ks key}) ⟨d.1,(by show I1 H ks p.2.1 (aP ks key);rw[k,<-y];exact L),d.2.2.1,d.2.2.2⟩
   have e3:l.set j p=l:=by
    apply List.ext_getElem?;intro q;rw[List.getElem?_set];by_cases u:j=q
    ·subst u;rw[g];have:j<l.length:=by rw[<-R];exact A
     simp[this]
    ·simp[u]
   rw[e3]at this
   exact this⟩
  have e4:S0 m r (.F8 (.m ks vs l clk),.own)=m:=by
   funext r';by_cases u:r'=r
   ·subst u;rw[j6,q4]
   ·rw[n6 _ _ _ _ u]
  rw[e4]at S;exact⟨K,H,.refl K,.refl H,fun _ h n=>absurd h n,Md d.2.2.1 (by omega),S,f2,f3,.refl F K⟩
theorem Jf(o:Oper){t:TypeId}{x i y:Operand}(E:o.op=.entryStore t x i y)(h:Y6 (ev x) (ev i) (ev y) (I6 m)=.ok v new set rd):B3 P F K H w m nx v new set ((execOp ρ o).run P w):=by
 obtain⟨c,G,h⟩:=z7 h;have I:=G▸n0 x;obtain⟨D,h⟩:=c6 h;obtain⟨s,ki,J,h⟩:=uZ (n0 i) h;obtain⟨ks,vs,l,clk,L,h⟩:=tU h;obtain⟨M,h⟩:=c6 h;obtain⟨V,n,N,h⟩:=jT h;obtain⟨q,_⟩:=Pc (n0 y) N (Nat.eq_of_beq_eq_true M);obtain⟨hd,b,a,O,R,q3,q4,q5,q6⟩:=Pd hm (I.cell (by rw[rU]at D;omega)) D L
 rw[EW]at h;cases g:sx s l with
 |none=>rw[g]at h;cases h
 |some j=>
  obtain⟨p,k,S⟩:=Wz g;rw[g]at h;simp only[k]at h;cases h;obtain⟨T,U⟩:=(M5 _ _).1 q6;have d:j<a.toList.length:=by
   rw[T];rcases Nat.lt_or_ge j l.length with r|r
   ·exact r
   ·rw[List.getElem?_eq_none r]at k;cases k
  have u:=U j p a.toList[j] k (List.getElem?_eq_getElem d);have z:j<a.size:=by simpa using d
  have A:a[j]? =some a[j]:=Array.getElem?_eq_getElem z;have B:=find_born q6 g;have f:(Instr.entryStore t (ρ x) (ρ i) (ρ y)).run P w=.ok () (w.putObj b (.map (a.modify j fun e=> {e with val:=ρ y}) clk)):=by
   rw[q3,J];unfold Instr.entryStore;have C:a.findIdx? (fun e=>(e.born:Int)==(s:Int))=some j:=by
    obtain⟨X⟩:=a;exact(List.findIdx?_toArray ..).trans B
   simp only[Sem.run_bind,Sem.run_pure,Result.andThen_ok,C0 q5,asInt,asIntOf,C];exact E9 q5
  simp only[execOp,E];rw[kE f];refine⟨K,H,gB l9 hm q4 O R q5 ?_ (.inl ⟨rfl,rfl⟩)⟩;rw[vB A];exact EX q6 ⟨u.1,u.2.1,q,u.2.2.2⟩
end
section
variable {P:Program} {F:Nat->Prop} {K:j0} {H:Nat->Option Hd} {w:World} {m:Mm} {nx:Nat} {v:BV} {new:List HO} {set:List (Nat×HO)} {rd:List Nat} {ev:Operand->BV} {ρ:Operand->Value}
theorem WE{o:HO}{k:Nat->Nat->List Nat->Nat->l8}(h:hI o k=.ok v new set rd):∃a b c d,o=.i a b c d/\k a b c d=.ok v new set rd:=by
 cases o<;>first|exact l8.noConfusion (show l8.er _ _=_ from h)|exact⟨_,_,_,_,rfl,h⟩
theorem Ci{s:Nat}:∀ {l:ME} {k:Nat×Nat×Nat->l8},Sv s l k (.er 231 0)=.ok v new set rd->∃ (j:Nat) (p:Nat×Nat×Nat),l[j]? =some p/\p.1=s/\k p=.ok v new set rd
 |[],k,h=>by cases h
 |p::l,k,h=>by
  have h:iB (Nat.beq p.1 s) (k p) (Sv s l k (.er 231 0))=.ok v new set rd:=h;rw[j2]at h;split at h
  ·rename_i e;exact⟨0,p,rfl,Nat.eq_of_beq_eq_true e,h⟩
  ·obtain⟨j,q,a,b,c⟩:=Ci h;exact⟨j+1,q,by simpa using a,b,c⟩
theorem rX:∀ {l:ME} {n:Nat},IQ l n=true->(∀p∈l,n<=p.1)/\(l.map (·.1)).Nodup
 |[],n,_=>⟨fun p h=>absurd h (by simp),List.nodup_nil⟩
 |p::l,n,h=>by
  have h:iB (Nat.ble n p.1) (IQ l (Nat.succ p.1)) false=true:=h;rw[j2]at h;split at h
  ·rename_i b;have b:=Nat.le_of_ble_eq_true b;obtain⟨c,g2⟩:=rX h;refine⟨fun q a=>?_,?_⟩
   ·rcases List.mem_cons.1 a with rfl|a
    ·exact b
    ·have:=c q a;omega
   ·rw[List.map_cons,List.nodup_cons];refine⟨fun hm=>?_,g2⟩
    obtain⟨q,a,e⟩:=List.mem_map.1 hm;have:=c q a;omega
  ·cases h
theorem Hf{ks vs:Nat}{l:ME}{c:List MapEntry}(h:I7 H ks vs l c):c.map (·.born)=l.map (·.1):=by
 obtain⟨d,e⟩:=(M5 _ _).1 h;apply List.ext_getElem?;intro j;rw[List.getElem?_map,List.getElem?_map];rcases Nat.lt_or_ge j l.length with a|a
 ·have b:j<c.length:=by rw[d];exact a
  rw[List.getElem?_eq_getElem a,List.getElem?_eq_getElem b];simp only[Option.map_some,Option.some.injEq];exact(e j _ _ (List.getElem?_eq_getElem a) (List.getElem?_eq_getElem b)).1
 ·rw[List.getElem?_eq_none a,List.getElem?_eq_none (by rw[d];exact a)];rfl
variable (l9:J0 F K w) (hm:j8 F K H w m) (n0:∀x,u7 K H (ev x) (ρ x))
include l9 hm n0
theorem ZE(d:∀i,i<new.length->H (nx+i)=none)(A:nx<1048575)(o:Oper){t:TypeId}{x:Operand}(g:o.op=.range t x)(h:zW P t (ev x) nx (I6 m)=.ok v new set rd):B3 P F K H w m nx v new set ((execOp ρ o).run P w):=by
 obtain⟨c,j,h⟩:=z7 h;have k:=j▸n0 x;obtain⟨e,h⟩:=c6 h;obtain⟨ks,vs,l,clk,n,h⟩:=tU h;obtain⟨p,h⟩:=c6 h;obtain⟨q,h⟩:=c6 h;obtain⟨kt,B,r,z,s,_⟩:=QX (P:=P) (t:=t) (Nat.eq_of_beq_eq_true p) (Nat.eq_of_beq_eq_true q);cases h;obtain⟨hd,b,C,u,y,q3,q4,q5,q6⟩:=Pd hm (k.cell (by rw[rU]at e;omega)) e n
 have a:(execOp ρ o).run P w=.ok (.value (.pointer (some ⟨w.heap.size,0,none⟩))) (w.alloc (.mapIter (some b) clk #[] clk)):=by
  simp only[execOp,g,q3];refine j1 ?_;simp only[Instr.range,Sem.run_bind,run_underlying s,Result.andThen_ok,C0 q5,run_newObj_alloc,Sem.run_pure]
 rw[a];have f:H nx=none:=d 0 (by simp)
 exact QW l9 hm f (.mapIter (some b) clk #[] clk) _ rfl ⟨_,b,hd,rfl,L7 w _,L9 f _ _ u,y⟩ (.inr (.inr (.ptr nx 0 _ w.heap.size (by omega) (by omega) (j6 _ _ _) rfl)))
omit l9 n0 in
theorem QY{c:Nat}{y:Value}(p:j5 H c y)(q:zU c=true)(r:pO c=0){g a e:Nat}{seen:List Nat}(s:I6 m (pR c)=.i g a seen e){ks vs:Nat}{l:ME}{clk:Nat}(t:I6 m g=.m ks vs l clk):
  ∃hd b mb f d,H (pR c)=some hd/\hd.base=some b/\y=.pointer (some ⟨b,0,none⟩)/\w.heap[b]? =some (.mapIter (some mb) a seen.reverse.toArray e)/\w.heap[mb]? =some (.map f clk)/\I7 H ks vs l f.toList/\H g=some d/\d.base=some mb:=by
 obtain⟨hd,b,h,g2,u,_,_,_⟩:=p.oG q;obtain⟨C,mb,d,j,z,k,n⟩:=hm.cont _ _ .own hd (R0 s (by simp)) (by simp) h
 rw[g2]at j;cases j;obtain⟨D,f,o,A,B⟩:=hm.cont _ _ .own d (R0 t (by simp)) (by simp) k
 rw[n]at o;cases o;exact⟨hd,b,mb,f,d,h,g2,by rw[u,r],z,A,B,k,n⟩
theorem ZF(o:Oper){i:Operand}(E:o.op=.entry i)(h:uW (ev i) (I6 m)=.ok v new set rd):B3 P F K H w m nx v new set ((execOp ρ o).run P w):=by
 obtain⟨c,G,h⟩:=z7 h;have I:=G▸n0 i;obtain⟨B,h⟩:=c6 h;obtain⟨J,h⟩:=c6 h;obtain⟨L,a,seen,C,M,h⟩:=WE h;obtain⟨ks,vs,l,clk,N,h⟩:=tU h;obtain⟨k,h⟩:=c6 h;obtain⟨O,h⟩:=c6 h;cases seen with
 |nil=>cases h
 |cons s seen=>
  obtain⟨j,p,n,q,h⟩:=Ci (show Sv s l (fun p=>.ok (.t [(ks,p.2.1),(vs,p.2.2)]) [] [] [pR c,L]) (.er 231 0)=_ from h)
  cases h;obtain⟨hd,b,D,d,R,V,X,q3,q4,q5,q6,q7,q8⟩:=QY hm (I.cell (by rw[X0]at B;omega)) B (Nat.eq_of_beq_eq_true J) M N
  have k:=Nat.eq_of_beq_eq_true k;subst k;obtain⟨S,T⟩:=(M5 _ _).1 q6;have r:j<d.toList.length:=by
   rw[S];rcases Nat.lt_or_ge j l.length with y|y
   ·exact y
   ·rw[List.getElem?_eq_none y]at n;cases n
  have z:=T j p d.toList[j] n (List.getElem?_eq_getElem r);have U:d.toList[j].born=s:=by rw[z.1,q]
  have A:w.heap[b]? =some (.mapIter (some D) a (seen.reverse.toArray.push d.toList[j].born) clk):=by rw[q4,U];simp
  have e:=run_entry_at (P:=P) w b D a seen.reverse.toArray d clk d.toList[j] A q5 (List.getElem_mem _) (by rw[Hf q6];exact(rX O).2)
  have:(execOp ρ o).run P w=.ok (.value (.tuple #[d.toList[j].key,d.toList[j].val])) w:=by
   simp only[execOp,E,q3];exact j1 e
  rw[this];refine s5 l9 hm ⟨#[d.toList[j].key,d.toList[j].val],rfl,rfl,fun i Y u f g=>?_⟩
  match i with
  |0=>simp at f g;subst f;subst g;exact z.2.1
  |1=>simp at f g;subst f;subst g;exact z.2.2.1
  |i+2=>simp at f
end
end Go.Abs
end
section
namespace Go.Abs
section
variable {P:Program} {F:Nat->Prop} {K:j0} {H:Nat->Option Hd} {w:World} {m:Mm} {nx:Nat} {v:BV} {new:List HO} {set:List (Nat×HO)} {rd:List Nat} {ev:Operand->BV} {ρ:Operand->Value}
theorem Me{c n i:Nat}(a:c<cB):R6 (c+cB*n) i=match i with|0=>c|j+1=>R6 n j:=by
 have h:=Ex (x:=c) (y:=n) (s:=1) (j:=i) (by rw[Nat.pow_one];exact a)
 rw[Nat.pow_one,Nat.mul_comm n]at h;rw[h];cases i with
 |zero=>simp[Y8 a]
 |succ j=>simp
theorem Jg(n0:∀x,u7 K H (ev x) (ρ x)):∀ (l:List Operand) (k:Nat->l8),El ev l k=.ok v new set rd->∃n,(∀ (i:Nat) (y:Value),(l.map ρ)[i]? =some y->j5 H (R6 n i) y)/\k n=.ok v new set rd
 |[],k,h=>⟨0,fun i y a=>by simp at a,h⟩
 |o::l,k,h=>by
  obtain⟨n,d,e⟩:=Jg n0 l (fun m=>vC (ev o) fun c=>nB (Nat.ble 3 c) 170 (k (Nat.add c (Nat.mul cB m)))) h
  obtain⟨c,f,g⟩:=z7 e;obtain⟨j,p⟩:=c6 g;have b:=(f▸n0 o).cell (Nat.le_of_ble_eq_true j);refine⟨c+cB*n,fun i y a=>?_,p⟩
  rw[Me b.lt.2];cases i with
  |zero=>simp at a;subst a;exact b
  |succ i=>exact d i y (by simpa using a)
variable (l9:J0 F K w) (hm:j8 F K H w m) (n0:∀x,u7 K H (ev x) (ρ x)) (H7:∀i,i<new.length->H (nx+i)=none) (hn:nx<1048575)
include l9 hm n0 H7 hn
theorem Pg(o:Oper){e:Fn}{first cap:Array Operand}(z:o.op=.makeFunc e first cap)(h:gA e first.toList cap.toList ev nx=.ok v new set rd):B3 P F K H w m nx v new set ((execOp ρ o).run P w):=by
 simp only[execOp,z,Instr.makeFunc];rw[j1 (x:=.func e (first.map ρ) (cap.map ρ)) (w':=w) (by simp)]
 unfold gA at h;cases d:a2j e with
 |none=>rw[d]at h;exact l8.noConfusion (show l8.er 171 0=_ from h)
 |some f=>
  rw[d]at h;have g:e=.func f:=by
   unfold a2j at d;split at d
   ·cases d;rfl
   ·cases d
  subst g;obtain⟨l,h⟩:=c6 h;have l:f<=65535:=Nat.le_of_ble_eq_true l;obtain⟨n,A,h⟩:=Jg n0 _ _ h;obtain⟨p,B,h⟩:=Jg n0 _ _ h;rw[j2]at h;split at h
  ·rename_i q;have q:first.toList.length+cap.toList.length=0:=Nat.eq_of_beq_eq_true q
   obtain⟨rfl,rfl,rfl,rfl⟩:=aO h;refine s5 l9 hm ?_;have C:first= #[]:=by
    apply Array.eq_empty_of_size_eq_zero;simpa using(by omega:first.toList.length=0)
   have D:cap= #[]:=by
    apply Array.eq_empty_of_size_eq_zero;simpa using(by omega:cap.toList.length=0)
   subst C;subst D;rw[Array.map_empty];exact .inr (.inr (.HE f (by omega)))
  ·obtain⟨j,h⟩:=c6 h;obtain⟨s,h⟩:=c6 h;have j:first.toList.length<=4095:=Nat.le_of_ble_eq_true j
   have s:cap.toList.length<=4095:=Nat.le_of_ble_eq_true s;cases h;have a:H nx=none:=H7 0 (by simp)
   let hd:Hd:=⟨none,first.toList.length+4096*cap.toList.length,n,p⟩
   have c:=L9 (hd:=hd) a;refine⟨K,S0 H nx hd,.refl K,c,fun r E t=>?_,?_,?_,l9,.refl F w,.refl F K⟩
   ·by_cases u:r=nx
    ·subst u;simp
    ·rw[n6 _ _ _ _ u]at t;exact absurd E t
   ·refine .inr (.inr (.fn f nx hd (first.map ρ) (cap.map ρ) hn (by omega) (j6 _ _ _) rfl (by simp[hd]) (by simp at j ⊢;omega) (fun i y k=>?_) (fun i y k=>?_)))
    ·exact j5.eQ c (A i y (by simpa using k))
    ·exact j5.eQ c (B i y (by simpa using k))
   ·exact hm.new nx a (.F8 (.f first.toList.length n cap.toList.length p)) hd ⟨rfl,rfl,by omega,rfl,rfl⟩ (fun b G=>by cases G)
end
end Go.Abs
end
section
namespace Go.Abs
def CR(ρ:Nat->Nat->Prop)(c c':Nat):Prop:=
 (c % 8<4/\c'=c)\/(c % 8=7/\c/524288=0/\c'=c)\/∃r j,ρ r j/\
  ((c % 8=7/\c/524288=r+1/\c'=(j+1)*524288+c % 524288)\/(c % 8=4/\c/8388608=r/\c'=j*8388608+c % 8388608)\/
   (c % 8=5/\c/4503599627370496=r/\c'=j*4503599627370496+c % 4503599627370496)\/(c % 8=6/\c/8=r/\c'=j*8+c % 8))
theorem CR.symm{ρ f:Nat->Nat->Prop}(h:∀r j,ρ r j->f j r){c c':Nat}(d:CR ρ c c'):CR f c' c:=by
 rcases d with⟨a,rfl⟩|⟨a,b,rfl⟩|⟨r,j,g,d⟩
 ·exact .inl ⟨a,rfl⟩
 ·exact .inr (.inl ⟨a,b,rfl⟩)
 ·refine .inr (.inr ⟨j,r,h r j g,?_⟩);rcases d with⟨a,b,e⟩|⟨a,b,e⟩|⟨a,b,e⟩|⟨a,b,e⟩
  ·exact .inl (by omega)
  ·exact .inr (.inl (by omega))
  ·exact .inr (.inr (.inl (by omega)))
  ·exact .inr (.inr (.inr (by omega)))
theorem CR.mono{ρ d:Nat->Nat->Prop}(h:∀r j,ρ r j->d r j){c c':Nat}(a:CR ρ c c'):CR d c c':=by
 rcases a with b|b|⟨r,j,e,a⟩
 ·exact .inl b
 ·exact .inr (.inl b)
 ·exact .inr (.inr ⟨r,j,h r j e,a⟩)
theorem CR.lt{ρ:Nat->Nat->Prop}{c c':Nat}(g:∀r j,ρ r j->j<1048575)(a:CR ρ c c')(h:c<cB):c'<cB:=by
 have e:cB=1208925819614629174706176:=rfl;rcases a with⟨_,rfl⟩|⟨_,_,rfl⟩|⟨r,j,i,a⟩
 ·exact h
 ·exact h
 ·have:=g r j i;rcases a with⟨b,d,f⟩|⟨b,d,f⟩|⟨b,d,f⟩|⟨b,d,f⟩<;>rw[e]at* <;>omega
def SH(ρ:Nat->Nat->Prop)(hd a:Hd):Prop:=(hd.base≠none/\a=hd)\/
 (hd.base=none/\a.base=none/\a.sz=hd.sz/\(∀i,i<hd.sz % 4096->CR ρ (R6 hd.len i) (R6 a.len i))/\∀i,i<hd.sz/4096->CR ρ (R6 hd.cap i) (R6 a.cap i))
section
variable {ρ:Nat->Nat->Prop} {H H':Nat->Option Hd}
theorem CR.rep(hh:∀r j hd,ρ r j->H r=some hd->∃d,H' j=some d/\SH ρ hd d/\j<1048575){c:Nat}{v:Value}(h:j5 H c v):∀c',CR ρ c c'->j5 H' c' v:=by
 induction h with
 |int k n m=>
  intro c' a;have O:=dU k;have e:P8 (F6 k) n=128*n+8*F6 k:=rfl;rcases a with⟨_,rfl⟩|⟨g,_⟩|⟨r,j,_,a⟩
  ·exact .int k n m
  ·omega
  ·omega
 |Bv=>intro c' a;rcases a with⟨_,rfl⟩|⟨g,_⟩|⟨r,j,_,a⟩<;>first|exact .Bv|omega
 |Tm=>intro c' a;rcases a with⟨_,rfl⟩|⟨g,_⟩|⟨r,j,_,a⟩<;>first|exact .Tm|omega
 |FF=>intro c' a;rcases a with⟨_,rfl⟩|⟨g,_⟩|⟨r,j,_,a⟩<;>first|exact .FF|omega
 |tX=>intro c' a;rcases a with⟨_,rfl⟩|⟨g,_⟩|⟨r,j,_,a⟩<;>first|exact .tX|omega
 |HC=>intro c' a;rcases a with⟨_,rfl⟩|⟨g,_⟩|⟨r,j,_,a⟩<;>first|exact .HC|omega
 |HD=>intro c' a;rcases a with⟨_,rfl⟩|⟨g,_⟩|⟨r,j,_,a⟩<;>first|exact .HD|omega
 |ptr r off hd b z m g u=>
  intro c' a;have e:kN r off=8*(r*1048576+off)+4:=rfl;rcases a with⟨a,_⟩|⟨a,_⟩|⟨o,j,p,a⟩
  ·omega
  ·omega
  ·have q:o=r/\c'=kN j off:=by
    rw[show kN j off=8*(j*1048576+off)+4 from rfl];omega
   obtain⟨rfl,rfl⟩:=q;obtain⟨d,s,g2,y⟩:=hh _ j hd p g;rcases g2 with⟨_,rfl⟩|⟨g2,_⟩
   ·exact .ptr j off _ b (by omega) m s u
   ·rw[u]at g2;cases g2
 |sl r off len l full hd b w cap z m g u x A B I J K C=>
  intro c' a;have e:Ar r off len l full=8*(2*(256*(1048576*(r*1048576+off)+len)+l)+full)+5:=rfl;rcases a with⟨a,_⟩|⟨a,_⟩|⟨o,j,p,a⟩
  ·omega
  ·omega
  ·have q:o=r/\c'=Ar j off len l full:=by
    rw[show Ar j off len l full=8*(2*(256*(1048576*(j*1048576+off)+len)+l)+full)+5 from rfl];omega
   obtain⟨rfl,rfl⟩:=q;obtain⟨d,s,g2,y⟩:=hh _ j hd p A;rcases g2 with⟨_,rfl⟩|⟨g2,_⟩
   ·exact .sl j off len l full _ b w cap (by omega) m g u x s B I J K C
   ·rw[B]at g2;cases g2
 |map r hd b z m g=>
  intro c' a;have e:iQ r=8*r+6:=rfl;rcases a with⟨a,_⟩|⟨a,_⟩|⟨o,j,p,a⟩
  ·omega
  ·omega
  ·have q:o=r/\c'=iQ j:=by
    rw[show iQ j=8*j+6 from rfl];omega
   obtain⟨rfl,rfl⟩:=q;obtain⟨d,s,g2,y⟩:=hh _ j hd p m;rcases g2 with⟨_,rfl⟩|⟨g2,_⟩
   ·exact .map j _ b (by omega) s g
   ·rw[g]at g2;cases g2
 |HE f m=>
  intro c' a;have e:vM f 0=8*(0*65536+f)+7:=rfl;rcases a with⟨a,_⟩|⟨_,_,rfl⟩|⟨o,j,p,a⟩
  ·omega
  ·exact .HE f m
  ·omega
 |fn f r hd D E z m g u x A B I F G=>
  intro c' a;have e:vM f (r+1)=8*((r+1)*65536+f)+7:=rfl;rcases a with⟨a,_⟩|⟨_,a,_⟩|⟨o,j,p,a⟩
  ·omega
  ·omega
  ·have q:o=r/\c'=vM f (j+1):=by
    rw[show vM f (j+1)=8*((j+1)*65536+f)+7 from rfl];omega
   obtain⟨rfl,rfl⟩:=q;obtain⟨d,s,g2,y⟩:=hh _ j hd p g;rcases g2 with⟨g2,_⟩|⟨_,g2,L,M,N⟩
   ·exact absurd u g2
   ·refine .fn f j d D E y m s g2 (L.trans x) A (fun i v t=>F i v t _ (M i ?_)) (fun i v t=>G i v t _ (N i ?_))
    ·have:i<D.size:=by
      rcases Nat.lt_or_ge i D.size with h|h
      ·exact h
      ·rw[Array.getElem?_eq_none h]at t;cases t
     rw[x];omega
    ·have:i<E.size:=by
      rcases Nat.lt_or_ge i E.size with h|h
      ·exact h
      ·rw[Array.getElem?_eq_none h]at t;cases t
     rw[x];omega
def jA(ρ:Nat->Nat->Prop)(s n a:Nat):Prop:=(∀i,i<s->CR ρ (R6 n i) (R6 a i))/\(n<cB^s->a<cB^s)
theorem jA.mono{a:Nat->Nat->Prop}(h:∀r j,ρ r j->a r j){s n n':Nat}(b:jA ρ s n n'):jA a s n n':=⟨fun i hi=>(b.1 i hi).mono h,b.2⟩
theorem jA.rep(hh:∀r j hd,ρ r j->H r=some hd->∃a,H' j=some a/\SH ρ hd a/\j<1048575){s n d:Nat}{vs:List Value}(h:w9 H s n vs)(e:jA ρ s n d):w9 H' s d vs:=by
 refine⟨e.2 h.1,h.2.1,fun i v c=>CR.rep hh (h.2.2 i v c) _ (e.1 i ?_)⟩
 rcases Nat.lt_or_ge i vs.length with b|b
 ·rw[h.2.1]at b;exact b
 ·rw[List.getElem?_eq_none b]at c;cases c
theorem a2x.rep(hh:∀r j hd,ρ r j->H r=some hd->∃a,H' j=some a/\SH ρ hd a/\j<1048575){b n e:Nat}{v:Value}(h:I1 H b n v)(f:jA ρ (oO b) n e):I1 H' b e v:=by
 cases b with
 |zero=>
  have g:j5 H n v:=h;have i:=g.lt.2;have c:=f.1 0 (by decide)
  have d:=f.2 (by show n<cB^1;rw[Nat.pow_one];exact i)
  have d:e<cB^1:=d;rw[Nat.pow_one]at d;rw[Y8 i,Y8 d]at c;exact CR.rep hh g _ c
 |succ k=>obtain⟨cs,rfl,c⟩:=h;exact⟨cs,rfl,jA.rep hh c f⟩
def Ts(ρ:Nat->Nat->Prop):BV->BV->Prop
 |.c c,.c c'=>c≠2/\CR ρ c c'
 |.a s n,.a e f=>e=s/\jA ρ s n f
 |.t l,.t d=>l≠ []/\d.length=l.length/\∀ (i:Nat) (p b:Nat×Nat),l[i]? =some p->d[i]? =some b->b.1=p.1/\jA ρ (oO p.1) p.2 b.2
 |_,_=>False
theorem Ts.mono{b:Nat->Nat->Prop}(h:∀r j,ρ r j->b r j){x x':BV}(a:Ts ρ x x'):Ts b x x':=by
 cases x<;>cases x'<;>try exact a
 ·exact⟨a.1,a.2.mono h⟩
 ·exact⟨a.1,a.2.mono h⟩
 ·exact⟨a.1,a.2.1,fun i p c d e=>⟨(a.2.2 i p c d e).1,(a.2.2 i p c d e).2.mono h⟩⟩
theorem Ts.rep(hh:∀r j hd,ρ r j->H r=some hd->∃b,H' j=some b/\SH ρ hd b/\j<1048575){K K':j0}{x c:BV}{v:Value}(h:u7 K H x v)(a:Ts ρ x c):u7 K' H' c v:=by
 cases x<;>cases c<;>try exact a.elim
 ·obtain⟨d,a⟩:=a;rcases h with⟨rfl,rfl⟩|⟨rfl,_⟩|h
  ·rcases a with⟨_,rfl⟩|⟨f,_⟩|⟨r,j,_,f⟩
   ·exact .inl ⟨rfl,rfl⟩
   ·omega
   ·omega
  ·exact absurd rfl d
  ·exact .inr (.inr (CR.rep hh h _ a))
 ·obtain⟨rfl,a⟩:=a;obtain⟨cs,rfl,h⟩:=h;exact⟨cs,rfl,jA.rep hh h a⟩
 ·obtain⟨f,d,k⟩:=a;obtain⟨vs,rfl,g2,m⟩:=h;refine⟨vs,rfl,g2.trans d.symm,fun i p x e n=>?_⟩
  ·rename_i l o;have hi:i<l.length:=by
    rcases Nat.lt_or_ge i o.length with g|g
    ·omega
    ·rw[List.getElem?_eq_none g]at e;cases e
   obtain⟨q,s⟩:=k i l[i] p (List.getElem?_eq_getElem hi) e;have:=a2x.rep hh (m i l[i] x (List.getElem?_eq_getElem hi) n) s;rw[q];exact this
def OR(ρ:Nat->Nat->Prop):HO->HO->Prop
 |.c s n,.c o q=>o=s/\jA ρ s (n/cB) (q/cB)
 |.m ks vs l clk,.m b d r a=>b=ks/\d=vs/\r=l/\a=clk/\∀p∈l,jA ρ (oO ks) p.2.1 p.2.1/\jA ρ (oO vs) p.2.2 p.2.2
 |.f j t k u,.f e g h i=>e=j/\h=k/\jA ρ j t g/\jA ρ k u i
 |_,_=>False
theorem OR.mono{b:Nat->Nat->Prop}(h:∀r j,ρ r j->b r j){x x':HO}(a:OR ρ x x'):OR b x x':=by
 cases x<;>cases x'<;>try exact a
 ·exact⟨a.1,a.2.mono h⟩
 ·exact⟨a.1,a.2.1,a.2.2.1,a.2.2.2.1,fun p c=>⟨(a.2.2.2.2 p c).1.mono h,(a.2.2.2.2 p c).2.mono h⟩⟩
 ·exact⟨a.1,a.2.1,a.2.2.1.mono h,a.2.2.2.mono h⟩
def R1(o:HO)(hd:Hd):Hd:=match o with
 |.f a b c d=>⟨none,a+4096*c,b,d⟩
 |_=>hd
theorem OR.cont(hh:∀r j hd,ρ r j->H r=some hd->∃d,H' j=some d/\SH ρ hd d/\j<1048575){K K':j0}{w:World}{hd:Hd}{o o':HO}(h:o8 K H w hd (.F8 o))(a:OR ρ o o'):o8 K' H' w (R1 o' hd) (.F8 o'):=by
 cases o<;>cases o'<;>try exact a.elim
 ·obtain⟨rfl,a⟩:=a;obtain⟨b,cs,e,m,f,g,c,i,k⟩:=h;exact⟨b,cs,e,m,f,g,c,i,jA.rep hh k a⟩
 ·obtain⟨rfl,rfl,rfl,rfl,a⟩:=a;obtain⟨b,n,f,g,c⟩:=h;refine⟨b,n,f,g,?_⟩;rw[M5]at c ⊢;refine⟨c.1,fun j p e l q=>?_⟩
  obtain⟨s,g2,t,u⟩:=c.2 j p e l q;obtain⟨v,x⟩:=a p (List.mem_iff_getElem?.2 ⟨j,l⟩);exact⟨s,a2x.rep hh g2 v,a2x.rep hh t x,u⟩
 ·obtain⟨rfl,rfl,a⟩:=a;obtain⟨f,g,c,i,k⟩:=h;exact⟨rfl,rfl,c,rfl,rfl⟩
theorem OR.head{K:j0}{w:World}{hd:Hd}{o o':HO}(h:o8 K H w hd (.F8 o))(c:OR ρ o o'):SH ρ hd (R1 o' hd):=by
 cases o<;>cases o'<;>try exact c.elim
 ·obtain⟨b,cs,e,l,a,_⟩:=h;exact .inl ⟨by rw[a];simp,rfl⟩
 ·obtain⟨b,m,a,_⟩:=h;exact .inl ⟨by rw[a];simp,rfl⟩
 ·obtain⟨rfl,rfl,d,f⟩:=c;obtain⟨a,g,n,j,k⟩:=h;refine .inr ⟨a,rfl,g.symm,fun i hi=>?_,fun i hi=>?_⟩
  ·rw[j];exact d.1 i (by omega)
  ·rw[k];exact f.1 i (by omega)
theorem SH.symm{d:Nat->Nat->Prop}(h:∀r j,ρ r j->d j r){hd a:Hd}(e:SH ρ hd a):SH d a hd:=by
 rcases e with⟨b,rfl⟩|⟨b,f,c,g,k⟩
 ·exact .inl ⟨b,rfl⟩
 ·exact .inr ⟨f,b,c.symm,fun i hi=>(g i (by rw[<-c];exact hi)).symm h,fun i hi=>(k i (by rw[<-c];exact hi)).symm h⟩
end
end Go.Abs
end
section
namespace Go.Abs
section
variable {v:BV} {new:List HO} {set:List (Nat×HO)} {rd:List Nat} {Q:Nat->Prop}
def rY(r:Nat):Lk->Option Nat
 |[]=>none
 |p::L=>if p.1=r then some p.2 else rY r L
def lk(L:Lk)(r j:Nat):Prop:=rY r L=some j
theorem Ph{r:Nat}{k:Nat->l8}{e:l8}:∀ (L:Lk),lkF r L k e=match rY r L with
  |some j=>k j
  |none=>e
 |[]=>rfl
 |p::L=>by
  show iB (Nat.beq p.1 r) (k p.2) (lkF r L k e)=_;rw[j2,Ph L];by_cases h:p.1=r
  ·rw[if_pos (by rw[Nat.beq_eq];exact h)];simp[rY,h]
  ·rw[if_neg (fun hh=>h (Nat.eq_of_beq_eq_true hh))];simp[rY,h]
def ad(m:Nat):List Nat->Lk
 |[]=>[]
 |r::t=>(r,m+t.length)::ad m t
theorem lW(m:Nat)(a b:List Nat)(L:Lk):ad (m+a.length) b++(ad m a++L)=ad m (b++a)++L:=by
 induction b with
 |nil=>rfl
 |cons r t c=>
  simp only[ad,List.cons_append,List.length_append];rw[c];congr 2;omega
theorem Pj{r m:Nat}{L:Lk}:∀ {t:List Nat},r ∉ t->rY r (ad m t++L)=rY r L
 |[],_=>rfl
 |a::t,h=>by
  simp only[List.mem_cons,not_or]at h;simp only[ad,List.cons_append,rY,if_neg (fun e:a=r=>h.1 e.symm)]
  exact Pj h.2
def Tt(L:Lk)(t:List Nat):Prop:=t.Nodup/\∀r∈t,rY r L=none
theorem Tt.nil(L:Lk):Tt L []:=⟨List.nodup_nil,fun _ h=>by cases h⟩
theorem Cj{L:Lk}{m:Nat}{t:List Nat}(h:Tt L t)(r j:Nat)(a:lk L r j):lk (ad m t++L) r j:=by
 unfold lk at*
 rw[Pj]
 ·exact a
 ·intro b;rw[h.2 r b]at a;cases a
theorem Tt.app{L:Lk}{m:Nat}{a b:List Nat}(h:Tt L a)(d:Tt (ad m a++L) b):Tt L (b++a):=by
 have hd:∀r∈b,r ∉ a:=by
  intro r g f;have:=d.2 r g;clear d
  induction a with
  |nil=>cases f
  |cons x t i=>
   simp only[ad,List.cons_append,rY]at this;split at this
   ·cases this
   ·rename_i j;rcases List.mem_cons.1 f with e|k
    ·exact j e.symm
    ·exact i ⟨(List.nodup_cons.1 h.1).2,fun r c=>h.2 r (List.mem_cons_of_mem _ c)⟩ k this
 refine⟨List.nodup_append.2 ⟨d.1,h.1,fun a f b g e=>hd a f (e▸g)⟩,fun r c=>?_⟩
 rcases List.mem_append.1 c with c|c
 ·have:=d.2 r c;rw[Pj (hd r c)]at this;exact this
 ·exact h.2 r c
theorem a1a{c:Nat}(h:Nat.land c 4=0):c % 8<4:=by
 have b:c.testBit 2=false:=by
  have a:(c &&& 4).testBit 2=false:=by rw[show c &&& 4=0 from h];simp
  rw[Nat.testBit_and,show Nat.testBit 4 2=true by decide,Bool.and_true]at a
  exact a
 have:=Nat.testBit_eq_decide_div_mod_eq (x:=c) (i:=2);rw[b]at this;have a:¬(c/2^2 % 2=1):=by simpa using this.symm
 omega
theorem a2y{c:Nat}(h:Nat.land c 4≠0):4<=c % 8:=by
 rcases Nat.lt_or_ge (c % 8) 4 with a|a
 ·exfalso;apply h;have b:c.testBit 2=false:=by
   rw[Nat.testBit_eq_decide_div_mod_eq];simp;omega
  show c &&& 4=0;apply Nat.eq_of_testBit_eq;intro i;rw[Nat.testBit_and];by_cases hi:i=2
  ·subst hi;rw[b];simp
  ·have:Nat.testBit 4 i=false:=by
    rw[show(4:Nat)=2^2 from rfl,Nat.testBit_two_pow];simp;omega
   rw[this];simp
 ·exact a
def ZG{α:Type}(Q:Nat->Prop)(L:Lk)(q:List Nat)(m:Nat)(R:(Nat->Nat->Prop)->α->Prop)(k:α->Lk->List Nat->Nat->l8)(z:l8):Prop:=
 ∃t a,Tt L t/\(∀r∈t,Q r)/\R (lk (ad m t++L)) a/\k a (ad m t++L) (t++q) (m+t.length)=z
def Ck{α:Type}(Q:Nat->Prop)(L:Lk)(q:List Nat)(m:Nat)(R:(Nat->Nat->Prop)->α->Prop)(f:(α->Lk->List Nat->Nat->l8)->l8):Prop:=
 (∃c x,∀k,f k=.er c x)\/∃t a,Tt L t/\(∀r∈t,Q r)/\R (lk (ad m t++L)) a/\∀k,f k=k a (ad m t++L) (t++q) (m+t.length)
theorem Ck.a2z{α:Type}{L:Lk}{q:List Nat}{m:Nat}{R:(Nat->Nat->Prop)->α->Prop}{f:(α->Lk->List Nat->Nat->l8)->l8}(h:Ck Q L q m R f){k:α->Lk->List Nat->Nat->l8}(b:f k=.ok v new set rd):ZG Q L q m R k (.ok v new set rd):=by
 rcases h with⟨c,x,h⟩|⟨t,a,d,e,g,i⟩
 ·rw[h k]at b;cases b
 ·exact⟨t,a,d,e,g,(i k).symm.trans b⟩
theorem Ck.here{α:Type}{L:Lk}{q:List Nat}{m:Nat}{R:(Nat->Nat->Prop)->α->Prop}{f:(α->Lk->List Nat->Nat->l8)->l8}(a:α)(b:R (lk L) a)(h:∀k,f k=k a L q m):Ck Q L q m R f:=
 .inr ⟨[],a,.nil L,(fun _ h=>by cases h),b,h⟩
theorem Ck.err{α:Type}{L:Lk}{q:List Nat}{m:Nat}{R:(Nat->Nat->Prop)->α->Prop}{f:(α->Lk->List Nat->Nat->l8)->l8}(c x:Nat)(h:∀k,f k=.er c x):Ck Q L q m R f:=.inl ⟨c,x,h⟩
theorem Ck.bind{α β:Type}{L:Lk}{q:List Nat}{m:Nat}{R:(Nat->Nat->Prop)->α->Prop}{e:(Nat->Nat->Prop)->β->Prop}{f:(α->Lk->List Nat->Nat->l8)->l8}{g:α->Lk->List Nat->Nat->(β->Lk->List Nat->Nat->l8)->l8}{f2:(β->Lk->List Nat->Nat->l8)->l8}(h:Ck Q L q m R f)
  (p:∀ρ i a,(∀r j,ρ r j->i r j)->R ρ a->R i a)(s:∀a L q m,Ck Q L q m (fun ρ b=>R ρ a->e ρ b) (g a L q m))(d:∀k,f2 k=f (fun a L q m=>g a L q m k)):Ck Q L q m e f2:=by
 rcases h with⟨c,x,h⟩|⟨t,a,u,w,y,l⟩
 ·exact .inl ⟨c,x,fun k=>by rw[d,h]⟩
 rcases s a (ad m t++L) (t++q) (m+t.length)with⟨c,x,h⟩|⟨n,b,o,z,A,B⟩
 ·exact .inl ⟨c,x,fun k=>by rw[d,l,h]⟩
 refine .inr ⟨n++t,b,u.app o,fun r C=>(List.mem_append.1 C).elim (z r) (w r),?_,fun k=>?_⟩
 ·rw[<-lW];exact A (p _ _ a (Cj o) y)
 ·rw[<-lW,List.append_assoc,List.length_append,Nat.add_comm n.length,<-Nat.add_assoc,d,l,B]
theorem Ck.map{α β:Type}{L:Lk}{q:List Nat}{m:Nat}{R:(Nat->Nat->Prop)->α->Prop}{b:(Nat->Nat->Prop)->β->Prop}{f:(α->Lk->List Nat->Nat->l8)->l8}{f2:(β->Lk->List Nat->Nat->l8)->l8}(h:Ck Q L q m R f)
  (F:α->β)(d:∀k,f2 k=f (fun a L q m=>k (F a) L q m))(e:∀ρ a,R ρ a->b ρ (F a)):Ck Q L q m b f2:=by
 rcases h with⟨c,x,h⟩|⟨t,a,g,i,j,l⟩
 ·exact .inl ⟨c,x,fun k=>by rw[d,h]⟩
 ·exact .inr ⟨t,F a,g,i,e _ _ j,fun k=>by rw[d,l]⟩
theorem Ck.nB{α:Type}{L:Lk}{q:List Nat}{m:Nat}{R:(Nat->Nat->Prop)->α->Prop}{f f2:(α->Lk->List Nat->Nat->l8)->l8}{b:Bool}{c:Nat}(h:b=true->Ck Q L q m R f)(a:∀k,f2 k=Abs.nB b c (f k)):Ck Q L q m R f2:=by
 cases b with
 |false=>exact .inl ⟨c,0,fun k=>by rw[a];rfl⟩
 |true=>
  have e:f2=f:=by funext k;rw[a];rfl
  rw[e];exact h rfl
theorem Mf{c r:Nat}{L:Lk}{q:List Nat}{m:Nat}(d:Q r):Ck Q L q m (fun ρ c'=>∃j,ρ r j/\c'=c+j*uV c- r*uV c) (IN c r L q m):=by
 cases b:rY r L with
 |some j=>
  refine .here _ ⟨j,b,rfl⟩ (fun k=>?_)
  unfold IN;rw[Ph,b];simp only[J8];rfl
 |none=>
  refine .inr ⟨[r],_,⟨by simp,fun x a=>by simp at a;subst a;exact b⟩,(fun x a=>by simp at a;subst a;exact d),⟨m,?_,rfl⟩,fun k=>?_⟩
  ·simp[lk,ad,rY]
  ·unfold IN;rw[Ph,b];simp only[J8];rfl
theorem nR(c:Nat):(c % 8=4->uV c=8388608)/\(c % 8=5->uV c=4503599627370496)/\(c % 8=6->uV c=8)/\(c % 8=7->uV c=524288):=by
 have h:uV c=Gf (c % 8- 4) 8388608 4503599627370496 8 524288:=rfl;refine⟨fun e=>?_,fun e=>?_,fun e=>?_,fun e=>?_⟩<;>rw[h,e]<;>rfl
theorem swap_eq(c j S:Nat):c+j*S- c/S*S=j*S+c % S:=by
 have h:=Nat.div_add_mod' c S;generalize c/S*S=p at*
 generalize c % S=q at*
 generalize j*S=t at*
 omega
theorem ZH(c j S r:Nat)(a:c/S=r+1):c+j*S- r*S=(j+1)*S+c % S:=by
 have h:=Nat.div_add_mod' c S;rw[a,Nat.add_mul,Nat.one_mul]at h;rw[Nat.add_mul,Nat.one_mul];generalize r*S=p at*
 generalize c % S=q at*
 generalize j*S=t at*
 omega
def Refs(c r:Nat):Prop:=(c % 8=7/\c/524288=r+1)\/(c % 8=4/\c/8388608=r)\/(c % 8=5/\c/4503599627370496=r)\/(c % 8=6/\c/8=r)
theorem Mg{c:Nat}{L:Lk}{q:List Nat}{m:Nat}(t:∀r,Refs c r->Q r):Ck Q L q m (fun ρ c'=>CR ρ c c') (IP c L q m):=by
 by_cases l:Nat.land c 4=0
 ·refine .here c (.inl ⟨a1a l,rfl⟩) (fun k=>?_)
  unfold IP;rw[j2,if_pos (by rw[l];rfl)]
 ·have w:4<=c % 8:=a2y l;have u:∀k:KL,IP c L q m k=iB (Nat.beq (zT c) 7) (@Nat.rec (fun _=>l8) (k c L q m) (fun r _=>IN c r L q m k) (fR c)) (fN (Nat.div c (uV c)) fun r=>IN c r L q m k):=by
   intro k;unfold IP;rw[j2,if_neg (fun h=>l (Nat.eq_of_beq_eq_true h))]
  by_cases i:c % 8=7
  ·have n:∀k:KL,IP c L q m k=@Nat.rec (fun _=>l8) (k c L q m) (fun r _=>IN c r L q m k) (fR c):=by
    intro k;rw[u,j2,if_pos (by show Nat.beq (c % 8) 7=true;rw[i];rfl)]
   cases o:fR c with
   |zero=>
    refine .here c (.inr (.inl ⟨i,o,rfl⟩)) (fun k=>?_)
    exact(n k).trans (by rw[o];rfl)
   |succ r=>
    have f:=(nR c).2.2.2 i;have g:c/524288=r+1:=o;refine(Mf (c:=c) (r:=r) (L:=L) (q:=q) (m:=m) (t r (.inl ⟨i,g⟩))).map id (fun k=>(n k).trans (by rw[o];rfl)) (fun ρ a ⟨j,p,e⟩=>?_)
    refine .inr (.inr ⟨r,j,p,.inl ⟨i,g,?_⟩⟩);rw[f]at e;exact e.trans (ZH _ _ _ _ g)
  ·obtain⟨r0,b⟩:∃r0,Nat.div c (uV c)=r0:=⟨_,rfl⟩;have n:∀k:KL,IP c L q m k=IN c r0 L q m k:=by
    intro k;rw[u,j2,if_neg (show ¬(Nat.beq (zT c) 7=true)from fun h=>i (Nat.eq_of_beq_eq_true h)),J8,b]
   have b:c/uV c=r0:=b;have d:c % 8=4\/c % 8=5\/c % 8=6:=by omega
   have s:Refs c r0:=by
    rcases d with d|d|d
    ·exact .inr (.inl ⟨d,by rw[(nR c).1 d]at b;exact b⟩)
    ·exact .inr (.inr (.inl ⟨d,by rw[(nR c).2.1 d]at b;exact b⟩))
    ·exact .inr (.inr (.inr ⟨d,by rw[(nR c).2.2.1 d]at b;exact b⟩))
   refine(Mf (c:=c) (r:=r0) (L:=L) (q:=q) (m:=m) (t _ s)).map id (fun k=>n k) (fun ρ a ⟨j,p,e⟩=>?_)
   refine .inr (.inr ⟨_,j,p,?_⟩);rw[<-b,swap_eq]at e;rcases d with d|d|d
   ·have f:=(nR c).1 d;rw[f]at e b;exact .inr (.inl ⟨d,b,e⟩)
   ·have f:=(nR c).2.1 d;rw[f]at e b;exact .inr (.inr (.inl ⟨d,b,e⟩))
   ·have f:=(nR c).2.2.1 d;rw[f]at e b;exact .inr (.inr (.inr ⟨d,b,e⟩))
def Pk(s n:Nat)(ρ:Nat->Nat->Prop)(a:Nat):Prop:=(∀r j,ρ r j->j<1048575)->jA ρ s n a
theorem Pk.mono{s n:Nat}(ρ b:Nat->Nat->Prop)(a:Nat)(h:∀r j,ρ r j->b r j)(c:Pk s n ρ a):Pk s n b a:=fun d=>jA.mono h (c fun r j e=>d r j (h r j e))
def Gh(Q:Nat->Prop)(s n:Nat):Prop:=∀i,i<s->∀r,Refs (R6 n i) r->Q r
theorem Mh:∀ (s:Nat) {n:Nat} {L:Lk} {q:List Nat} {m:Nat},Gh Q s n->Ck Q L q m (Pk s n) (Zi s n L q m)
 |0,n,L,q,m,_=>.here 0 (fun _=>⟨fun i hi=>by omega,fun _=>by simp⟩) (fun k=>rfl)
 |s+1,n,L,q,m,h=>by
  refine(Mg (c:=n % cB) (by
   have:=h 0 (by omega)
   rw[T8,Nat.pow_zero,Nat.div_one]at this
   exact this)).bind (g:=fun c L q m k=>Zi s (n/cB) L q m fun b L q m=>k (Nat.add c (Nat.mul cB b)) L q m) (fun ρ t a hh e=>CR.mono hh e) (fun c L q m=>?_) (fun k=>rfl)
  refine(Mh s (fun i hi=>by rw[rT];exact h (i+1) (by omega))).map (fun b=>c+cB*b) (fun k=>rfl) (fun ρ b f e j=>?_)
  have f:=f j;have l:n % cB<cB:=Nat.mod_lt _ T7;have d:c<cB:=e.lt j l;refine⟨fun i hi=>?_,fun o=>?_⟩
  ·rw[Me d];cases i with
   |zero=>
    have:R6 n 0=n % cB:=by rw[T8,Nat.pow_zero,Nat.div_one]
    rw[this];exact e
   |succ i=>
    have:=f.1 i (by omega)
    rw[rT]at this;exact this
  ·have p:n/cB<cB^s:=by
    refine Nat.div_lt_of_lt_mul ?_;rw[<-Nat.pow_succ'];exact o
   have r:=f.2 p;have:=IX (x:=c) (y:=b) (s:=1) (k:=s) (by rw[Nat.pow_one];exact d) r
   rw[Nat.pow_one,Nat.mul_comm b,Nat.add_comm 1]at this;exact this
theorem nS{s n:Nat}(h:xJ s n=true)(ρ:Nat->Nat->Prop):jA ρ s n n:=⟨fun i hi=>.inl ⟨a1a (SC h i hi),rfl⟩,fun h=>h⟩
theorem qM{s n:Nat}{L:Lk}{q:List Nat}{m:Nat}(b:Gh Q s n):Ck Q L q m (Pk s n) (Em s n L q m):=by
 cases a:xJ s n with
 |true=>
  refine .here n (fun _=>nS a _) (fun k=>?_)
  unfold Em;rw[a];rfl
 |false=>
  have e:Em s n L q m=Zi s n L q m:=by
   funext k;unfold Em;rw[a];simp only[J8];rfl
  rw[e];exact Mh s b
theorem Pm(sh:Nat):szS sh=oO sh:=by cases sh<;>rfl
def PsX(l:List (Nat×Nat))(ρ:Nat->Nat->Prop)(b:List (Nat×Nat)):Prop:=(∀r j,ρ r j->j<1048575)->b.length=l.length/\∀ (i:Nat) (p a:Nat×Nat),l[i]? =some p->b[i]? =some a->a.1=p.1/\jA ρ (oO p.1) p.2 a.2
theorem Mi:∀ (l:List (Nat×Nat)) {L:Lk} {q:List Nat} {m:Nat},(∀p∈l,Gh Q (oO p.1) p.2)->Ck Q L q m (PsX l) (Zj l L q m)
 |[],L,q,m,_=>.here [] (fun _=>⟨rfl,fun i p f d=>by simp at d⟩) (fun k=>rfl)
 |p::l,L,q,m,h=>by
  refine(qM (s:=szS p.1) (n:=p.2) (by rw[Pm];exact h p (List.mem_cons_self ..))).bind (g:=fun n L q m k=>Zj l L q m fun l L q m=>k ((p.1,n)::l) L q m) Pk.mono (fun n L q m=>?_) (fun k=>rfl)
  refine(Mi l (fun f r=>h f (List.mem_cons_of_mem _ r))).map (fun j=>(p.1,n)::j) (fun k=>rfl) (fun ρ j t u o=>?_)
  obtain⟨d,w⟩:=t o;refine⟨by simp[d],fun i a b e c=>?_⟩
  cases i with
  |zero=>
   simp at e c;subst e;subst c;have:=u o;rw[Pm]at this;exact⟨rfl,this⟩
  |succ i=>exact w i a b (by simpa using e) (by simpa using c)
def BVX(x:BV)(ρ:Nat->Nat->Prop)(a:BV):Prop:=(∀r j,ρ r j->j<1048575)->Ts ρ x a
theorem BVX.mono{x:BV}(ρ b:Nat->Nat->Prop)(a:BV)(h:∀r j,ρ r j->b r j)(c:BVX x ρ a):BVX x b a:=fun d=>Ts.mono h (c fun r j e=>d r j (h r j e))
def BVQ(Q:Nat->Prop):BV->Prop
 |.c c=>∀r,Refs c r->Q r
 |.a s n=>Gh Q s n
 |.t l=>∀p∈l,Gh Q (oO p.1) p.2
 |.u=>True
theorem EY{x:BV}{L:Lk}{q:List Nat}{m:Nat}(e:BVQ Q x):Ck Q L q m (BVX x) (LI x L q m):=by
 cases x with
 |c c=>
  refine .nB (f:=fun k=>IP c L q m fun c=>k (.c c)) (fun g=>?_) (fun k=>rfl)
  refine(Mg e).map BV.c (fun k=>rfl) (fun ρ a b d=>⟨?_,b⟩)
  rintro rfl;exact absurd g (by decide)
 |a s n=>exact(qM e).map (BV.a s) (fun k=>rfl) (fun ρ a b d=>⟨rfl,b d⟩)
 |t l=>
  refine .nB (f:=fun k=>Zj l L q m fun l=>k (.t l)) (fun g=>?_) (fun k=>rfl)
  refine(Mi l e).map BV.t (fun k=>rfl) (fun ρ a b d=>⟨?_,b d⟩)
  rintro rfl;exact absurd g (by decide)
 |u=>exact .err 181 0 (fun k=>rfl)
theorem QZ{x:BV}{L:Lk}{q:List Nat}{m:Nat}{k:BV->Lk->List Nat->Nat->l8}(a:BVQ Q x)(h:LI x L q m k=.ok v new set rd):ZG Q L q m (BVX x) k (.ok v new set rd):=(EY a).a2z h
def VsX(l:List BV)(ρ:Nat->Nat->Prop)(a:List BV):Prop:=(∀r j,ρ r j->j<1048575)->a.length=l.length/\∀ (i:Nat) (x b:BV),l[i]? =some x->a[i]? =some b->Ts ρ x b
theorem VsX.mono{l:List BV}(ρ c:Nat->Nat->Prop)(a:List BV)(h:∀r j,ρ r j->c r j)(d:VsX l ρ a):VsX l c a:=fun e=>
 ⟨(d fun r j b=>e r j (h r j b)).1,fun i p f g k=>Ts.mono h ((d fun r j b=>e r j (h r j b)).2 i p f g k)⟩
theorem Ag:∀ (l:List BV) {L:Lk} {q:List Nat} {m:Nat},(∀x∈l,BVQ Q x)->Ck Q L q m (VsX l) (QO l L q m)
 |[],L,q,m,_=>.here [] (fun _=>⟨rfl,fun i p f d=>by simp at d⟩) (fun k=>rfl)
 |p::l,L,q,m,h=>by
  refine(EY (h p (List.mem_cons_self ..))).bind (g:=fun v L q m k=>QO l L q m fun l=>k (v::l)) BVX.mono (fun n L q m=>?_) (fun k=>rfl)
  refine(Ag l (fun f r=>h f (List.mem_cons_of_mem _ r))).map (fun j=>n::j) (fun k=>rfl) (fun ρ j s t o=>?_)
  obtain⟨d,u⟩:=s o;refine⟨by simp[d],fun i a b e c=>?_⟩
  cases i with
  |zero=>
   simp at e c;subst e;subst c;exact t o
  |succ i=>exact u i a b (by simpa using e) (by simpa using c)
theorem WG(l:List BV){L:Lk}{q:List Nat}{m:Nat}{k:List BV->Lk->List Nat->Nat->l8}(a:∀x∈l,BVQ Q x)(h:QO l L q m k=.ok v new set rd):ZG Q L q m (VsX l) k (.ok v new set rd):=(Ag l a).a2z h
theorem Bk{ks vs:Nat}:∀ {l:ME},ON ks vs l=true->∀ (ρ:Nat->Nat->Prop),∀p∈l,jA ρ (oO ks) p.2.1 p.2.1/\jA ρ (oO vs) p.2.2 p.2.2
 |[],_,_,p,b=>by cases b
 |a::l,h,ρ,p,b=>by
  have h:iB (xJ (szS ks) a.2.1) (iB (xJ (szS vs) a.2.2) (ON ks vs l) false) false=true:=h;rw[j2,j2]at h;split at h
  ·rename_i c;split at h
   ·rename_i d;rw[Pm]at c d;rcases List.mem_cons.1 b with rfl|b
    ·exact⟨nS c ρ,nS d ρ⟩
    ·exact Bk h ρ p b
   ·cases h
  ·cases h
def OX(o:HO)(ρ:Nat->Nat->Prop)(o':HO):Prop:=(∀r j,ρ r j->j<1048575)->OR ρ o o'
theorem OX.mono{x:HO}(ρ b:Nat->Nat->Prop)(a:HO)(h:∀r j,ρ r j->b r j)(c:OX x ρ a):OX x b a:=fun d=>OR.mono h (c fun r j e=>d r j (h r j e))
theorem Pn{s n:Nat}(h:Nat.land n (Nat.mul cB (oF s))=0):xJ s (n/cB)=true:=by
 have a:=EC n (cB*oF s);rw[show Nat.land n (cB*oF s)=0 from h]at a;have b:cB*oF s/cB=oF s:=Nat.mul_div_cancel_left _ T7;rw[b]at a;have c:cB*Nat.land (n/cB) (oF s)=0:=by omega
 have d:Nat.land (n/cB) (oF s)=0:=by
  rcases Nat.mul_eq_zero.1 c with e|e
  ·exact absurd e (by decide)
  ·exact e
 show Nat.beq (Nat.land (n/cB) (oF s)) 0=true;rw[d];rfl
def OQ(Q:Nat->Prop):HO->Prop
 |.c s n=>Gh Q s (n/cB)
 |.f a b d e=>Gh Q a b/\Gh Q d e
 |_=>True
theorem EZ{o:HO}{L:Lk}{q:List Nat}{m:Nat}(j:OQ Q o):Ck Q L q m (OX o) (En o L q m):=by
 cases o with
 |c s n=>
  have e:∀k,En (.c s n) L q m k=iB (Nat.beq (Nat.land n (Nat.mul cB (oF s))) 0) (k (.c s n) L q m) (Em s (Nat.div n cB) L q m fun n=>fN (qC n) fun n=>k (.c s n)):=fun k=>rfl
  cases p:Nat.beq (Nat.land n (Nat.mul cB (oF s))) 0 with
  |true=>
   refine .here (.c s n) (fun _=>⟨rfl,nS (Pn (Nat.eq_of_beq_eq_true p)) _⟩) (fun k=>?_)
   rw[e,p];rfl
  |false=>
   refine(qM j).map (fun n=>HO.c s (qC n)) (fun k=>?_) (fun ρ a r h=>⟨rfl,?_⟩)
   ·rw[e,p];simp only[J8];rfl
   ·rw[EK];exact r h
 |m ks vs l clk=>
  refine .nB (f:=fun k=>k (.m ks vs l clk) L q m) (fun y=>?_) (fun k=>rfl)
  exact .here (.m ks vs l clk) (fun _=>⟨rfl,rfl,rfl,rfl,Bk y _⟩) (fun k=>rfl)
 |f w x t u=>
  refine(qM j.1).bind (g:=fun x L q m k=>Em t u L q m fun u=>k (.f w x t u)) Pk.mono (fun a L q m=>?_) (fun k=>rfl)
  exact(qM j.2).map (fun b=>HO.f w a t b) (fun k=>rfl) (fun ρ b A r h=>⟨rfl,rfl,r h,A h⟩)
 |i a b c d=>exact .err 183 0 (fun k=>rfl)
 |z=>exact .err 184 0 (fun k=>rfl)
theorem Ra{o:HO}{L:Lk}{q:List Nat}{m:Nat}{k:HO->Lk->List Nat->Nat->l8}(a:OQ Q o)(h:En o L q m k=.ok v new set rd):ZG Q L q m (OX o) k (.ok v new set rd):=(EZ a).a2z h
end
end Go.Abs
end
section
namespace Go.Abs
section
variable {v:BV} {new:List HO} {set:List (Nat×HO)} {rd:List Nat} {Q:Nat->Prop} {D:Hp}
theorem xY(l:List Nat):LJ l=l.reverse:=by
 have:∀ (l a:List Nat),(@List.rec Nat (fun _=>List Nat->List Nat) (fun a=>a) (fun x _ b a=>b (x::a)) l) a=l.reverse++a:=by
  intro l
  induction l with
  |nil=>intro a;rfl
  |cons x l b=>intro a;show(@List.rec Nat (fun _=>List Nat->List Nat) (fun a=>a) (fun x _ b a=>b (x::a)) l) (x::a)=_;rw[b];simp
 exact(this l []).trans (List.append_nil _)
theorem Rb(l:List HO):Wa l=l.reverse:=by
 have:∀ (l a:List HO),(@List.rec HO (fun _=>List HO->List HO) (fun a=>a) (fun x _ b a=>b (x::a)) l) a=l.reverse++a:=by
  intro l
  induction l with
  |nil=>intro a;rfl
  |cons x l b=>intro a;show(@List.rec HO (fun _=>List HO->List HO) (fun a=>a) (fun x _ b a=>b (x::a)) l) (x::a)=_;rw[b];simp
 exact(this l []).trans (List.append_nil _)
theorem Hg(L:Lk):V2 L=(L.map (·.1)).reverse:=by
 have:∀ (l:Lk) (a:List Nat),(@List.rec (Nat×Nat) (fun _=>List Nat->List Nat) (fun a=>a) (fun p _ b a=>b (p.1::a)) l) a=(l.map (·.1)).reverse++a:=by
  intro l
  induction l with
  |nil=>intro a;rfl
  |cons x l b=>intro a;show(@List.rec (Nat×Nat) (fun _=>List Nat->List Nat) (fun a=>a) (fun p _ b a=>b (p.1::a)) l) (x.1::a)=_;rw[b];simp
 exact(this L []).trans (List.append_nil _)
theorem xZ{α:Type}(l:List α):eP l=l.length:=by
 induction l with
 |nil=>rfl
 |cons x l a=>show Nat.succ (eP l)=_;rw[a];rfl
theorem Po(m:Nat)(t:List Nat):(ad m t).map (·.1)=t:=by
 induction t with
 |nil=>rfl
 |cons a t b=>simp[ad,b]
theorem a1c{r j m:Nat}:∀ {t:List Nat},lk (ad m t++ []) r j->∃i,j=m+i/\t.reverse[i]? =some r
 |[],h=>by simp[lk,ad,rY]at h
 |a::t,h=>by
  simp only[lk,ad,List.cons_append,rY]at h;split at h
  ·rename_i e;cases h;exact⟨t.length,rfl,by simp[e]⟩
  ·obtain⟨i,f,b⟩:=a1c (t:=t) h;refine⟨i,f,?_⟩;rw[List.reverse_cons,List.getElem?_append_left,b];rcases Nat.lt_or_ge i t.reverse.length with d|d
   ·exact d
   ·rw[List.getElem?_eq_none d]at b;cases b
theorem Bl:∀ {l:List Nat},zV l=true->∀r∈l,r<1048575
 |[],_,r,h=>by cases h
 |a::l,h,r,b=>by
  have h:iB (Nat.ble a 1048574) (zV l) false=true:=h;rw[j2]at h;split at h
  ·rename_i d;have d:a<=1048574:=Nat.le_of_ble_eq_true d;rcases List.mem_cons.1 b with rfl|b
   ·omega
   ·exact Bl h r b
  ·cases h
theorem yA(B:∀r,Q r->OQ Q (D r)):∀ (fuel:Nat) (q a:List Nat) (L:Lk) (m:Nat) (d:List HO) (k:List HO->Lk->Nat->l8),(∀r∈q,Q r)->(∀r∈a,Q r)->qG D fuel q a L m d k=.ok v new set rd->
  ∃t s,Tt L t/\(∀r∈t,Q r)/\s.length=(q++a.reverse++t.reverse).length/\(∀ (i:Nat) (r:Nat) (o:HO),(q++a.reverse++t.reverse)[i]? =some r->s.reverse[i]? =some o->OX (D r) (lk (ad m t++L)) o)/\
   k (s++d) (ad m t++L) (m+t.length)=.ok v new set rd
 |0,q,a,L,m,d,k,_,_,h=>l8.noConfusion (show l8.er 185 0=_ from h)
 |fuel+1,[],[],L,m,d,k,_,_,h=>⟨[],[],.nil L,(fun _ h=>by cases h),rfl,fun i r o g=>by simp at g,h⟩
 |fuel+1,[],b::F,L,m,d,k,p,C,h=>by
  have h:qG D fuel (LJ (b::F)) [] L m d k=.ok v new set rd:=h;rw[xY]at h;obtain⟨t,s,u,g2,E,y,z⟩:=yA B fuel (b::F).reverse [] L m d k (fun r g=>C r (List.mem_reverse.1 g)) p h
  refine⟨t,s,u,g2,?_,?_,z⟩
  ·simpa using E
  ·intro i r o g f;exact y i r o (by simpa using g) f
 |fuel+1,r::G,a,L,m,d,k,p,C,h=>by
  have h:En (D r) L a m (fun o L a m=>qG D fuel G a L m (o::d) k)=.ok v new set rd:=h
  obtain⟨j,I,M,J,N,O⟩:=Ra (B r (p r (List.mem_cons_self ..))) h;obtain⟨A,P,u,g2,E,y,z⟩:=yA B fuel G (j++a) _ _ (I::d) k (fun x e=>p x (List.mem_cons_of_mem _ e)) (fun x e=>(List.mem_append.1 e).elim (J x) (C x)) O
  have l:ad (m+j.length) A++(ad m j++L)=ad m (A++j)++L:=lW _ _ _ _;rw[l]at y z;refine⟨A++j,P++ [I],M.app u,fun x e=>(List.mem_append.1 e).elim (g2 x) (J x),?_,?_,?_⟩
  ·simp only[List.length_append,List.length_cons,List.length_reverse,List.length_nil]at E ⊢;omega
  ·intro i x o e f;rw[List.reverse_append,List.reverse_cons,List.reverse_nil,List.nil_append,List.singleton_append]at f;cases i with
   |zero=>
    simp at e f;subst e;subst f;rw[<-l];exact OX.mono _ _ _ (Cj u) N
   |succ i=>
    refine y i x o ?_ (by simpa using f)
    simp only[List.cons_append,List.getElem?_cons_succ]at e;simpa using e
  ·rw[List.append_assoc,List.length_append,Nat.add_comm A.length,<-Nat.add_assoc];exact z
theorem gC{x:Nat}:∀ (olds:List Nat) (i:Nat) (L:Lk),(∀j,i<=j->rY j L=none)->rY x (dL olds i L)=if i<=x/\x<i+olds.length then olds[x- i]? else rY x L
 |[],i,L,_=>by rw[if_neg (by simp only[List.length_nil];omega)];rfl
 |r::olds,i,L,a=>by
  show rY x (dL olds (i+1) ((i,r)::L))=_;rw[gC olds (i+1) _ (fun j d=>by simp only[rY,if_neg (show ¬i=j by omega)];exact a j (by omega))]
  simp only[List.length_cons];by_cases h:i+1<=x/\x<i+1+olds.length
  ·rw[if_pos h,if_pos (by omega),show x- i=(x- (i+1))+1 by omega];simp
  ·rw[if_neg h];by_cases b:x=i
   ·subst b;rw[if_pos (by omega)];simp[rY]
   ·rw[if_neg (by omega)];simp only[rY,if_neg (show ¬i=x by omega)]
theorem yB{x:Nat}:∀ (n i r:Nat) (L:Lk),(∀j,i<=j->rY j L=none)->rY x (lP n i r L)=if i<=x/\x<i+n then some (r+(x- i))else rY x L
 |0,i,r,L,_=>by rw[if_neg (by omega)];rfl
 |n+1,i,r,L,a=>by
  show rY x (lP n (i+1) (r+1) ((i,r)::L))=_;rw[yB n (i+1) (r+1) _ (fun j d=>by simp only[rY,if_neg (show ¬i=j by omega)];exact a j (by omega))]
  by_cases h:i+1<=x/\x<i+1+n
  ·rw[if_pos h,if_pos (by omega)];congr 1;omega
  ·rw[if_neg h];by_cases b:x=i
   ·subst b;rw[if_pos (by omega)];simp[rY]
   ·rw[if_neg (by omega)];simp only[rY,if_neg (show ¬i=x by omega)]
noncomputable def lkB(olds:List Nat)(a nx:Nat):Lk:=lP a olds.length nx (dL olds 0 [])
theorem yC{olds:List Nat}{a nx i r:Nat}(h:lk (lkB olds a nx) i r):(olds[i]? =some r)\/(olds.length<=i/\i<olds.length+a/\r=nx+(i- olds.length)):=by
 unfold lk lkB at h;rw[yB _ _ _ _ (fun j d=>by rw[gC _ _ _ (fun _ _=>rfl),if_neg (by omega)];rfl)]at h
 split at h
 ·rename_i b;cases h;exact .inr ⟨b.1,b.2,rfl⟩
 ·rw[gC _ _ _ (fun _ _=>rfl)]at h
  split at h
  ·exact .inl (by simpa using h)
  ·cases h
theorem Rc{olds:List Nat}{b nx i r:Nat}(h:olds[i]? =some r):lk (lkB olds b nx) i r:=by
 have hi:i<olds.length:=by
  rcases Nat.lt_or_ge i olds.length with a|a
  ·exact a
  ·rw[List.getElem?_eq_none a]at h;cases h
 unfold lk lkB;rw[yB _ _ _ _ (fun j d=>by rw[gC _ _ _ (fun _ _=>rfl),if_neg (by omega)];rfl),if_neg (by omega),gC _ _ _ (fun _ _=>rfl),if_pos (by omega)]
 simpa using h
noncomputable def jU(D:Hp):List Nat->List HO->List (Nat×HO)
 |r::a,o::b=>if Eo o (D r)then jU D a b else(r,o)::jU D a b
 |_,_=>[]
theorem Fa{L:Lk}:∀ (l:List HO) (d:List Nat) (k:List (Nat×HO)->List HO->l8),d.length<=l.length->(∀o∈l,OQ (fun _=>True) o)->Y7 D l d L k=.ok v new set rd->
  ∃f:List HO,f.length=l.length/\(∀ (i:Nat) (a b:HO),l[i]? =some a->f[i]? =some b->OX a (lk L) b)/\k (jU D d f) (f.drop d.length)=.ok v new set rd
 |[],[],k,_,_,h=>⟨[],rfl,fun i a b e=>by simp at e,h⟩
 |[],r::d,k,p,_,h=>by simp at p
 |o::l,d,k,p,u,h=>by
  have h:En o L [] 0 (fun o' _ q _=>nB (Nat.beq (eP q) 0) 186 (@List.rec Nat (fun _=>l8) (Y7 D l d L fun s n=>k s (o'::n)) (fun r y _=>Y7 D l y L fun s n=>iB (Eo o' (D r)) (k s n) (k ((r,o')::s) n)) d))=.ok v new set rd:=h
  obtain⟨t,o',G,I,m,F⟩:=Ra (Q:=fun _=>True) (u o (List.mem_cons_self ..)) h
  obtain⟨z,E⟩:=c6 F;have z:t=[]:=by
   have:=Nat.eq_of_beq_eq_true z;rw[xZ]at this;simpa using this
  subst z;have m:OX o (lk L) o':=m;cases d with
  |nil=>
   obtain⟨f,A,g2,j⟩:=Fa l [] _ (by simp) (fun o B=>u o (List.mem_cons_of_mem _ B)) E
   refine⟨o'::f,by simp[A],fun i a b e g=>?_,j⟩
   cases i with
   |zero=>simp at e g;subst e;subst g;exact m
   |succ i=>exact g2 i a b (by simpa using e) (by simpa using g)
  |cons r d=>
   obtain⟨f,A,g2,j⟩:=Fa l d _ (by simpa using p) (fun o B=>u o (List.mem_cons_of_mem _ B)) E
   refine⟨o'::f,by simp[A],fun i a b e g=>?_,?_⟩
   ·cases i with
    |zero=>simp at e g;subst e;subst g;exact m
    |succ i=>exact g2 i a b (by simpa using e) (by simpa using g)
   ·rw[j2]at j;simp only[jU,List.length_cons,List.drop_succ_cons];split at j
    ·rename_i C;rw[if_pos C];exact j
    ·rename_i C;rw[if_neg C];exact j
theorem SI(m:Mm)(r:Nat)(o:HO)(us:List (Nat×HO))(a:o≠ .z):bB m ((r,o)::us)=bB (S0 m r (.F8 o,.own)) us:=by
 cases o<;>first|rfl|exact absurd rfl a
theorem Ah:∀ (b:List Nat) (os:List HO) (m:Mm),b.Nodup->b.length<=os.length->(∀o∈os,o≠ .z)->∀r,(r ∉ b->bB m (jU D b os) r=m r)/\
  (∀ (i:Nat) (o:HO),b[i]? =some r->os[i]? =some o->bB m (jU D b os) r=if Eo o (D r)then m r else some (.F8 o,.own))
 |[],os,m,_,_,_,r=>by
  have:jU D [] os=[]:=by cases os<;>rfl
  rw[this];exact⟨fun _=>rfl,fun i o h=>by simp at h⟩
 |a::b,[],m,_,f,_,r=>by simp at f
 |a::b,o::os,m,A,f,u,r=>by
  obtain⟨l,y⟩:=List.nodup_cons.1 A;have f:b.length<=os.length:=by simpa using f
  have g:∀o∈os,o≠ .z:=fun o d=>u o (List.mem_cons_of_mem _ d)
  by_cases k:Eo o (D a)=true
  ·have e:jU D (a::b) (o::os)=jU D b os:=by simp[jU,k]
   rw[e];obtain⟨j,p⟩:=Ah b os m y f g r;refine⟨fun h=>j (fun q=>h (List.mem_cons_of_mem _ q)),fun i o' hi d=>?_⟩
   cases i with
   |zero=>
    simp at hi d;subst hi;subst d;rw[j l,if_pos k]
   |succ i=>exact p i o' (by simpa using hi) (by simpa using d)
  ·have e:jU D (a::b) (o::os)=(a,o)::jU D b os:=by simp[jU,k]
   rw[e,SI _ _ _ _ (u o (List.mem_cons_self ..))];obtain⟨j,p⟩:=Ah b os (S0 m a (.F8 o,.own)) y f g r;refine⟨fun h=>?_,fun i o' hi d=>?_⟩
   ·rw[j (fun q=>h (List.mem_cons_of_mem _ q)),n6 _ _ _ _ (fun t=>h (by rw[t];exact List.mem_cons_self ..))]
   ·cases i with
    |zero=>
     simp at hi d;subst hi;subst d;rw[j l,j6,if_neg k]
    |succ i=>
     rw[p i o' (by simpa using hi) (by simpa using d)]
     have:r≠a:=by
      intro t;subst t;exact l (List.mem_iff_getElem?.2 ⟨i,by simpa using hi⟩)
     rw[n6 _ _ _ _ this]
end
theorem ZI{olds:List Nat}{t:List Nat}(h:olds=t.reverse){r j:Nat}(a:lk (ad 0 t++ []) r j):olds[j]? =some r:=by
 obtain⟨i,b,d⟩:=a1c a;rw[h,b,Nat.zero_add];exact d
section
variable {H:Nat->Option Hd} {K:j0} {w:World} {c s n:Nat} {x:Value}
def Live(H:Nat->Option Hd)(r:Nat):Prop:=(∃hd b,H r=some hd/\hd.base=some b)\/∃f a d,j5 H (vM f (r+1)) (.func (.func f) a d)
theorem j5.refs(h:j5 H c x){r:Nat}(a:Refs c r):Live H r:=by
 have p:=h;cases h with
 |int k n g=>have:=dU k;rcases a with a|a|a|a<;>(have e:P8 (F6 k) n=128*n+8*F6 k:=rfl;omega)
 |ptr r' off hd b l g i m=>
  have e:kN r' off=8*(r'*1048576+off)+4:=rfl;have:r=r':=by rcases a with a|a|a|a<;>omega
  subst this;exact .inl ⟨hd,b,i,m⟩
 |sl r' off len j d hd b o cap l g i m z q t=>
  have e:Ar r' off len j d=8*(2*(256*(1048576*(r'*1048576+off)+len)+j)+d)+5:=rfl;have:r=r':=by rcases a with a|a|a|a<;>omega
  subst this;exact .inl ⟨hd,b,q,t⟩
 |map r' hd b l g i=>
  have e:iQ r'=8*r'+6:=rfl;have:r=r':=by rcases a with a|a|a|a<;>omega
  subst this;exact .inl ⟨hd,b,g,i⟩
 |HE f g=>have e:vM f 0=8*(0*65536+f)+7:=rfl;exfalso;rcases a with a|a|a|a<;>omega
 |fn f r' hd u y l g i=>
  have e:vM f (r'+1)=8*((r'+1)*65536+f)+7:=rfl;have:r=r':=by rcases a with a|a|a|a<;>omega
  subst this;exact .inr ⟨f,u,y,p⟩
 |_=>exfalso;rcases a with a|a|a|a<;>omega
theorem Live.head{r:Nat}(h:Live H r):∃hd,H r=some hd:=by
 rcases h with⟨hd,b,a,_⟩|⟨f,e,g,h⟩
 ·exact⟨hd,a⟩
 ·generalize l:vM f (r+1)=c at h;generalize i:Value.func (.func f) e g=v at h;cases h<;>cases i
  ·have j:vM f (r+1)=8*((r+1)*65536+f)+7:=rfl;have k:vM f 0=8*(0*65536+f)+7:=rfl;omega
  ·rename_i d hd m a o p q t u y;have j:vM f (r+1)=8*((r+1)*65536+f)+7:=rfl;have k:vM f (d+1)=8*((d+1)*65536+f)+7:=rfl;have:d=r:=by omega
   subst this;exact⟨hd,a⟩
theorem w9.refs{vs:List Value}(h:w9 H s n vs):Gh (Live H) s n:=by
 intro i hi r a;have b:i<vs.length:=by rw[h.2.1];exact hi
 exact(h.2.2 i vs[i] (List.getElem?_eq_getElem b)).refs a
theorem I1.refs{b:Nat}(h:I1 H b n x):Gh (Live H) (oO b) n:=by
 cases b with
 |zero=>
  have h:j5 H n x:=h;intro i hi r a;have:i=0:=by have:i<1:=hi;omega
  subst this;rw[Y8 h.lt.2]at a;exact h.refs a
 |succ k=>obtain⟨cs,_,a⟩:=h;exact a.refs
theorem u7.refs{b:BV}(h:u7 K H b x):BVQ (Live H) b:=by
 cases b with
 |c c=>
  intro r d;rcases h with⟨rfl,_⟩|⟨rfl,_⟩|h
  ·rcases d with d|d|d|d<;>omega
  ·rcases d with d|d|d|d<;>omega
  ·exact h.refs d
 |a s n=>obtain⟨cs,_,d⟩:=h;exact d.refs
 |t l=>
  obtain⟨vs,rfl,g2,f⟩:=h;intro p g;obtain⟨i,hi⟩:=List.mem_iff_getElem?.1 g;have j:i<vs.size:=by
   rw[g2];rcases Nat.lt_or_ge i l.length with e|e
   ·exact e
   ·rw[List.getElem?_eq_none e]at hi;cases hi
  exact(f i p vs[i] hi (Array.getElem?_eq_getElem j)).refs
 |u=>trivial
theorem WH{F:Nat->Prop}{m:Mm}(u:j8 F K H w m)(r:Nat)(y:Live H r):OQ (Live H) (I6 m r):=by
 obtain⟨hd,hh⟩:=y.head;cases z:I6 m r with
 |c s n=>
  obtain⟨b,cs,e,O,a,g,A,B,j⟩:=u.cont r _ .own hd (R0 z (by simp)) (by simp) hh
  exact j.refs
 |f P R S T=>
  obtain⟨C,g2,U,E,G⟩:=u.cont r _ .own hd (R0 z (by simp)) (by simp) hh
  rcases y with⟨k,b,a,g⟩|⟨f,l,o,h⟩
  ·rw[hh]at a;cases a;rw[C]at g;cases g
  ·generalize V:vM f (r+1)=c at h;generalize I:Value.func (.func f) l o=v at h;cases h<;>cases I
   ·have J:vM f (r+1)=8*((r+1)*65536+f)+7:=rfl;have L:vM f 0=8*(0*65536+f)+7:=rfl;omega
   ·rename_i p k X a g A B j M N;have J:vM f (r+1)=8*((r+1)*65536+f)+7:=rfl;have L:vM f (p+1)=8*((p+1)*65536+f)+7:=rfl;have:p=r:=by omega
    subst this;rw[hh]at a;cases a;rw[g2]at N;refine⟨fun i hi q d=>?_,fun i hi q d=>?_⟩
    ·have t:i<l.size:=by omega
     rw[<-E]at d;exact(j i l[i] (Array.getElem?_eq_getElem t)).refs d
    ·have t:i<o.size:=by omega
     rw[<-G]at d;exact(M i o[i] (Array.getElem?_eq_getElem t)).refs d
 |_=>trivial
end
end Go.Abs
end
