/- Part 1 of the road to this seat's statements: lemmas about a small interpreter over the model's code, and about the functions that it is used on. No condition of its own. -/
import Derived.Below
import Derived.Calls
import Derived.Carry
import Derived.ChangeKeysEq
import Derived.ChangeOld
import Derived.Deep.Quiet
import Derived.Deep.Slices
import Derived.IntWalk
import Derived.KernelRfl
import Derived.Laws.Append
import Derived.Laws.BitsLemmas
import Derived.Laws.Cover3
import Derived.Laws.MakeOwn
import Derived.Laws.Sem
import Derived.Laws.StructEq
import Derived.Laws.Tables
import Derived.Laws.World
import Derived.LoopNIn
import Derived.MapKept
import Derived.Maps.RangeRun
import Derived.OpenShut
import Derived.Orders
import Derived.OrdersIn
import Derived.ProofKit
import Derived.RangeFuncLeaves
import Derived.RangeFuncNested
import Derived.RangeFuncRecord
import Derived.Scope
import Derived.Shelf.SlMaps.Clone
import Derived.ShutString
import Derived.Still
import Derived.Tactics
import Derived.TacticsIn
import Derived.WalkKit
import Derived.WideKeyRuns
set_option linter.all false
section
namespace Go.Abs
def ab:=@Nat.eq_of_beq_eq_true
def ae:=@Option.some.injEq
def af:=@Nat.le_of_ble_eq_true
def ag:=@List.getElem?_eq_getElem
def ah:=@Bool.and_eq_true
def ai:=@if_neg
def aj:=@if_pos
def ak:=@Result.andThen_ok
def al:=@List.mem_cons_of_mem
def an:=@List.getElem?_eq_none
def aq:=@Prod.mk.injEq
def ar:=@List.mem_cons_self
def au:=@Sem.run_bind
def av:=@List.mem_cons
def aw:=@Nat.le_refl
def ay:=@Nat.mul_le_mul_right
def az:=@List.map_cons
def ba:=@Array.getElem?_eq_getElem
def bc:=@List.getElem?_append_left
def bd:=@List.getElem?_append_right
def bf:=@List.append_nil
def bg:=@Sem.run_pure
def bh:=@Nat.lt_or_ge
def bj:=@List.take_of_length_le
def bk:=@List.append_assoc
def bl:=@Nat.add_mul
def bn:=@List.mem_iff_getElem?
def bo:=@List.getElem?_map
def bp:=@Array.length_toList
def bq:=@List.length_cons
def bt:=@decide_eq_true_eq
def bu:=@List.length_append
def bw:=@List.eq_nil_of_length_eq_zero
def bz:=@Nat.zero_add
def cb:=@List.mem_singleton
def cc:=@Nat.lt_of_lt_of_le
def cd:=@List.mem_map
def cf:=@List.getElem_mem
def cj:=@List.mem_append
def cn:=@List.take_append_of_le_length
def cq:=@List.ext_getElem?
def cu:=@Int.toNat_natCast
def cv:=@List.length_drop
def cw:=@List.getD_eq_getElem?_getD
def cx:=@List.getElem?_cons_succ
def cy:=@List.getElem?_take_of_lt
def cz:=@Option.some.inj
def da:=@Option.map_some
def db:=@Array.toList_inj
def dc:=@run_underlying
def df:=@List.mem_of_getElem?
def dg:=@Array.getD_eq_getD_getElem?
def dh:=@List.getElem?_cons_zero
def di:=@if_true
def dk:=@Nat.ble_eq_true_of_le
def dm:=@List.drop_drop
def dn:=@List.nodup_cons
def dp:=@List.getElem?_drop
def dq:=@Bool.false_eq_true
def dt:=@List.length_replicate
def du:=@List.drop_append_of_le_length
def dv:=@Option.isSome_iff_exists
def dw:=@if_false
def dx:=@Bool.not_eq_true'
def dy:=@List.length_map
def dz:=@List.mem_append_right
def ec:=@Option.getD_some
def ed:=@Array.eq_empty_of_size_eq_zero
def eh:=@List.length_nil
def ej:=@List.mem_append_left
def eu:=@Array.getElem?_eq_some_iff
def ew:=@Nat.le_trans
def ez:=@Nat.add_comm
def fb:=@Array.getElem?_eq_none
def fc:=@Nat.div_div_eq_div_mul
def fe:=@Nat.add_assoc
def ff:=@Bool.eq_iff_iff
def fg:=@Nat.pow_one
def fh:=@Int.max_def
def fj:=@Array.toList_append
def fk:=@Nat.mod_lt
def fl:=@Nat.div_eq_of_lt
def fm:=@List.map_map
def fo:=@Nat.beq_refl
def fp:=@List.take_succ_eq_append_getElem
def fq:=@List.take_append_drop
def ft:=@List.mem_filter
def fu:=@List.all_eq_true
def fv:=@List.getElem_cons_succ
def fw:=@List.length_take
def fx:=@Nat.zero_le
def fy:=@List.getElem?_range
def gb:=@List.flatten_cons
def gd:=@Nat.add_sub_cancel_left
def gi:=@decide_eq_false_iff_not
def gj:=@Array.getElem?_setIfInBounds_ne
def gk:=@Array.toList_eraseIdxIfInBounds
def gm:=@Nat.mul_le_mul
def gn:=@List.contains_eq_mem
def gp:=@Bool.or_eq_true
def gq:=@List.nil_append
def gu:=@Oper.semAt_eq
def gv:=@Nat.mul_comm
def gw:=@Nat.le_of_lt
def gx:=@Option.bind_some
def gy:=@List.cons_append
def gz:=@wpIn_region_list
def ia:=@List.drop_eq_getElem_cons
def ib:=@List.any_eq_false
def ic:=@dif_pos
def ie:=@Int.natCast_nonneg
def ig:=@Nat.beq_eq
def ij:=@List.any_eq_true
def ik:=@Nat.exists_eq_add_of_le
def il:=@List.filter_cons
def iq:=@List.drop_left
def ir:=@List.getElem?_set
def iu:=@List.filter_congr
def iw:=@List.getElem_of_mem
def iy:=@List.filter_sublist
def iz:=@List.cons.injEq
def ja:=@List.getElem?_eq_some_iff
def jb:=@Array.getElem?_toList
def jc:=@Nat.mod_eq_of_lt
def jd:=@Nat.eq_zero_or_pos
def je:=@Nat.pow_zero
def jf:=@List.getElem_append_left
def jg:=@Nat.add_mul_div_left
def jh:=@Nat.div_one
def ji:=@List.drop_zero
def jk:=@RowKit.Below.heap_alloc
def jl:=@List.length_eq_zero_iff
def jm:=@Nat.div_add_mod
def jn:=@List.map_congr_left
def jo:=@wpIn_seq
def jq:=@List.filter_eq_self
def jr:=@Nat.add_zero
def js:=@List.getElem_cons_zero
def jt:=@Nat.pow_succ'
def ju:=@Nat.pow_add
def jv:=@List.any_cons
def jw:=@List.mem_reverse
def jx:=@wpIn_loop_rounds
def jy:=@List.zip_cons_cons
def jz:=@List.nodup_nil
def ka:=@wpIn_cond_true
def ke:=@not_or
def kf:=@wpIn_cond_false
def kg:=@Nat.mul_add
def kh:=@Nat.mul_one
def kj:=@Nat.one_mul
def kl:=@Nat.sub_zero
def km:=@Bool.true_and
def kn:=@Nat.mul_le_mul_left
def ko:=@run_firstCells_some
def kq:=@Nat.add_sub_cancel'
def kr:=@callsIn_of_wp_marks
def ky:=@List.drop_take
def kz:=@Int.mul_le_mul_of_nonneg_right
def la:=@List.take_length
def lb:=@run_newObj_alloc
def ld:=@List.mem_range
def lf:=@Nat.le_succ
def lh:=@Nat.zero_mul
def lj:=@List.map_nil
def ll:=@dif_neg
def ln:=@Array.ext'
def lr:=@Nat.lt_of_le_of_lt
def lu:=@List.drop_eq_nil_of_le
def lv:=@Nat.min_eq_left
def lz:=@List.foldl_cons
def ma:=@Int.natCast_add
def mc:=@Int.natCast_mul
def me:=@Nat.mul_assoc
def mf:=@mem_ready
def mg:=@roundsIn_succ
def mh:=@List.getElem_drop
def mj:=@List.getElem?_inj
def mn:=@List.reverse_cons
def mo:=@of_decide_eq_true
def mq:=@Prod.mk.inj
def mu:=@Nat.div_lt_of_lt_mul
def mv:=@grownCap_ge
def mw:=@Bool.or_eq_false_iff
def my:=@World.alloc_heap_new
def mz:=@Nat.pow_le_pow_right
def na:=@List.reverse_reverse
def nc:=@Option.bind_none
def nf:=@Bool.not_eq_true
def ng:=@Nat.add_mul_mod_self_left
def nh:=@List.getElem_append_right
def ni:=@Classical.byContradiction
def nj:=@List.take_succ_cons
def nk:=@List.replicate_succ
def nm:=@List.mem_map_of_mem
def np:=@List.drop_succ_cons
def nq:=@List.all_cons
def nr:=@List.eq_of_mem_replicate
def ns:=@Option.map_none
def nu:=@Nat.testBit_and
def nv:=@List.map_append
def nw:=@run_equalIn_struct
def ny:=@List.getElem?_take
def nz:=@List.filter_filter
def oa:=@Nat.pow_pos
def oc:=@getD_set_ne
def od:=@Int.eq_ofNat_of_zero_le
def oe:=@Value.slice.injEq
def og:=@Decidable.em
def oh:=@growslice_fits
def oi:=@Array.toList_push
def om:=@List.nodup_append
def oo:=@Nat.lt_trans
def oq:=@Nat.testBit_eq_decide_div_mod_eq
def ot:=@List.reverse_perm
def ou:=@List.foldl_append
def ov:=@List.getElem?_toArray
def ow:=@List.eraseIdx_sublist
def oz:=@Classical.choose_spec
def pa:=@List.foldlM_cons
def pb:=@Array.toList_map
def pc:=@Nat.ble_eq
def pd:=@IntKind.wrap_i64
def pe:=@beq_self_eq_true
def pf:=@List.eq_nil_iff_forall_not_mem
def pg:=@decide_eq_decide
def ph:=@List.getElem_map
def pj:=@wpIn_block
def pk:=@List.nodup_range
def pn:=@Nat.lt_irrefl
def po:=@List.getElem?_modify
def pr:=@Nat.eq_of_testBit_eq
def pt:=@List.drop_left'
def pv:=@List.length_set
def pw:=@Array.size_push
def px:=@Array.toList_modify
def py:=@getElem!_pos
def pz:=@Nat.sub_self
def qa:=@Nat.pow_succ
def qb:=@size_madeCells
def qc:=@List.mapM_cons
def qd:=@run_append_nil
def qe:=@List.getLast?_eq_some_iff
def qf:=@List.getElem?_zip_eq_some
def qg:=@Array.mapM_eq_mapM_toList
def qh:=@List.getElem_take
def qi:=@Bool.not_eq_false
def qj:=@List.length_range
def qk:=@Bool.false_or
def ql:=@run_equalIn_bool
def qm:=@List.zipIdx_cons
def qn:=@Nat.lt_of_not_le
def qo:=@List.take_append
def qp:=@List.mem_flatten
def qq:=@List.getElem_zip
def qs:=@List.eraseIdx_cons_succ
def qt:=@Nat.lt_succ_self
def qu:=@List.drop_length
def qv:=@wpIn_skip
def qw:=@List.filter_cons_of_neg
def qx:=@beq_iff_eq
def qy:=@Ne.symm
def qz:=@run_entry_at
def ra:=@Nat.zero_mod
def rb:=@List.getElem?_set_self
def re:=@Classical.em
def rf:=@Bool.not_not
def rh:=@Array.getElem?_push_lt
def ri:=@Nat.succ.inj
def rj:=@List.take_left'
def rk:=@run_append_grow
def rl:=@Nat.not_lt_zero
def rm:=@Oper.apart_spec
def rn:=@Nat.mul_add_div
def rp:=@Nat.mul_ne_zero
def rq:=@Array.getElem?_modify
def ru:=@List.getElem_set_self
def rv:=@List.pairwise_reverse
def ry:=@List.length_filter_le
def rz:=@run_findKey_eq
def sa:=@Array.getElem_toList
def sb:=@List.getElem?_set_ne
def sd:=@List.Pairwise.of_map
def se:=@Iff.rfl
def sf:=@List.getElem_set_ne
def sg:=@List.replicate_zero
def si:=@Nat.testBit_two_pow
def sj:=@Array.toList_filter
def sm:=@run_equal_slice_nil
def sn:=@List.filterMap_cons
def so:=@Bool.not_true
def sq:=@Calls.mono
def sr:=@List.map_set
def ss:=@run_endRound
def su:=@Bool.true_or
def sw:=@run_build
def sy:=@Int.le_refl
def ta:=@run_next_at
def tc:=@Prod.ext
abbrev cB:Nat:=1208925819614629174706176
abbrev cZ:Nat:=9223372036854775808
inductive HO where
 |c (k n:Nat)
 |m (ks vs:Nat) (l:List (Nat×Nat×Nat)) (clk:Nat)
 |f (k1 n1 k2 n2:Nat)
 |i (m since:Nat) (seen:List Nat) (last:Nat)
 |z
def P3(n i:Nat):Nat:=Nat.mod (Nat.div n (Nat.pow cB i)) cB
def G0:IntKind->Nat|.i8=>1|.i16=>2|.i32=>3|.i64=>4|.u8=>5|.u16=>6|.u32=>7|.u64=>8
def N8(k v:Nat):Nat:=Nat.add (Nat.mul 128 v) (Nat.mul 8 k)
def bO(r off:Nat):Nat:=Nat.add (Nat.mul 8 (Nat.add (Nat.mul r 1048576) off)) 4
def pJ(r off len b a:Nat):Nat:=Nat.add (Nat.mul 8 (Nat.add (Nat.mul 2 (Nat.add (Nat.mul 256 (Nat.add (Nat.mul 1048576 (Nat.add (Nat.mul r 1048576) off)) len)) b)) a)) 5
def kD(r:Nat):Nat:=Nat.add (Nat.mul 8 r) 6
def xH(f r:Nat):Nat:=Nat.add (Nat.mul 8 (Nat.add (Nat.mul r 65536) f)) 7
def nL:Nat->Nat
 |0=>1
 |k+1=>k
def gL(ks n:Nat):Prop:=∀i,i<nL ks->P3 n i % 128=32
end Go.Abs
end
section
namespace Go.Abs
inductive Ty where
 |int (k:IntKind)
 |bool
 |slice (e:Ty)
 |pair (a b:Ty)
 deriving DecidableEq
def Ty.den:Ty->Type
 |.int _=>Int
 |.bool=>Bool
 |.slice e=>List e.den
 |.pair a b=>a.den×b.den
def Ty.size:Ty->Nat
 |.int _=>1
 |.bool=>1
 |.slice _=>1
 |.pair a b=>a.size+b.size
def Ty.zero:(t:Ty)->t.den
 |.int _=>(0:Int)
 |.bool=>false
 |.slice _=>[]
 |.pair a b=>(a.zero,b.zero)
theorem Ty.size_pos(t:Ty):0<t.size:=by
 induction t<;>simp[Ty.size]<;>omega
structure b8 where
 cells:Nat->Option (Array Value)
 inv:Nat->Option (Obj->Prop)
 y:Option Nat
def b8.cG(K:b8)(y:Option Nat):b8:= {K with y:=y}
structure b8.le(K K':b8):Prop where
 cells:∀b cs,K.cells b=some cs->K'.cells b=some cs
 inv:∀b p,K.inv b=some p->K'.inv b=some p
 y:∀l,K.y=some l->K'.y=some l
structure b8.leW(K K':b8):Prop where
 cells:∀b cs,K.cells b=some cs->K'.cells b=some cs
 inv:∀b p,K.inv b=some p->K'.inv b=some p
theorem b8.le.O4{K K':b8}(h:K.le K'):K.leW K':=⟨h.cells,h.inv⟩
theorem b8.le.refl(K:b8):K.le K:=⟨fun _ _ h=>h,fun _ _ h=>h,fun _ h=>h⟩
theorem b8.le.trans{A B C:b8}(h:A.le B)(k:B.le C):A.le C:=
 ⟨fun b cs x=>k.cells b cs (h.cells b cs x),fun b p x=>k.inv b p (h.inv b p x),fun l x=>k.y l (h.y l x)⟩
theorem b8.le.cG{A B:b8}(h:A.le B)(y:Option Nat):(A.cG y).le (B.cG y):=⟨h.cells,h.inv,fun _ x=>x⟩
structure Lh where
 P:b8->Value->Prop
 mono:∀K K' v,K.leW K'->P K v->P K' v
 cell:∀K v,P K v->(∃b,v=.map b)\/v=.pointer none
inductive a7 where
 |S6
 |bool (b:Bool)
 |int (k:IntKind) (n:Int)
 |Y4
 |R2 (t:Ty)
 |imm (t:Ty) (l:List t.den) (full:Bool)
 |O1 (r:Nat) (full:Bool)
 |sub (r:Nat) (lo len:Nat) (full:Bool)
 |ptr (r off:Nat)
 |P5 (r i off:Nat)
 |P6 (r:Nat)
 |B9 (r:Nat)
 |G7 (cells:List a7)
 |agg (cells:List a7)
 |S3 (t:Ty) (l:List t.den)
 |M1 (vs:List a7)
 |fn (f:Fn) (first cap:List a7)
 |V6
 |J7
 |s6 (p:Lh)
 |Dc (sh n:Nat)
structure MK where
 agg:Bool
 kt:Ty
 kv:IntKind
 deriving DecidableEq
inductive c7 where
 |box (cells:List a7)
 |bx (pre:List a7) (t:Ty) (n:Nat) (l:List t.den) (post:List a7)
 |sl (t:Ty) (l:List t.den)
 |mp (mk:MK) (l:List (Nat×mk.kt.den×Int)) (clk:Nat)
 |it (m:Option Nat) (since:Nat) (seen:List Nat) (last:Nat)
 |z5 (o:HO)
 |any
def c7.isCells:c7->Bool
 |.z5 (.c _ _)=>true
 |.box _=>true
 |.bx _ _ _ _ _=>true
 |.sl _ _=>true
 |_=>false
def Ty.qD:(t:Ty)->t.den->List Value
 |.int k,n=>[Value.int k n]
 |.bool,b=>[Value.bool b]
 |.slice _,_=>[]
 |.pair a b,x=>a.qD x.1++b.qD x.2
def Ty.ints:Ty->Bool
 |.int _=>true
 |.pair a b=>a.ints && b.ints
 |_=>false
def MK.key(mk:MK)(x:mk.kt.den):Value:=match mk.agg with
 |true=>.agg (mk.kt.qD x).toArray
 |false=>(mk.kt.qD x).headD (.bool false)
def MK.nM(mk:MK)(e:Nat×mk.kt.den×Int):MapEntry:= {key:=mk.key e.2.1,val:=.int mk.kv e.2.2,born:=e.1}
inductive p0 where
 |own
 |X9
 |dead
 deriving DecidableEq
structure Hd where
 base:Option Nat
 sz:Nat
 len:Nat
 cap:Nat
inductive j6(H:Nat->Option Hd):Nat->Value->Prop where
 |int (k:IntKind) (n:Nat):n<73786976294838206464->j6 H (N8 (G0 k) n) (.int k ((n:Int) - (cZ:Nat)))
 |Ax:j6 H 9 (.bool false)
 |SN:j6 H 17 (.bool true)
 |Hm:j6 H 25 (.slice none 0 0)
 |gE:j6 H 33 (.pointer none)
 |Jk:j6 H 41 (.map none)
 |Jl:j6 H 49 .nilFunc
 |ptr (r off:Nat) (hd:Hd) (b:Nat):r<1048576->off<1048576->H r=some hd->hd.base=some b->j6 H (bO r off) (.pointer (some ⟨b,off+hd.len,none⟩))
 |sl (r off len Ay full:Nat) (hd:Hd) (b a57 cap:Nat):r<1048576->off<1048576->len<1048576->Ay<256->full<2->H r=some hd->hd.base=some b->len<=cap->(full=1->cap=len)->(cap=0\/a57=off+hd.len)->off+cap*Ay<=hd.sz->
  j6 H (pJ r off len Ay full) (.slice (some ⟨b,a57,none⟩) len cap)
 |map (r:Nat) (hd:Hd) (b:Nat):r<1048576->H r=some hd->hd.base=some b->j6 H (kD r) (.map (some b))
 |Jm (f:Nat):f<65536->j6 H (xH f 0) (.func (.func f) #[] #[])
 |fn (f r:Nat) (hd:Hd) (fi ca:Array Value):r<1048575->f<65536->H r=some hd->hd.base=none->hd.sz=fi.size+4096*ca.size->fi.size<4096->(∀ (i:Nat) (v:Value),fi[i]? =some v->j6 H (P3 hd.len i) v)->(∀ (i:Nat) (v:Value),ca[i]? =some v->j6 H (P3 hd.cap i) v)->
  j6 H (xH f (r+1)) (.func (.func f) fi ca)
def x7(H:Nat->Option Hd)(k n:Nat)(vs:List Value):Prop:=n<cB^k/\vs.length=k/\∀ (i:Nat) (v:Value),vs[i]? =some v->j6 H (P3 n i) v
def y9(H:Nat->Option Hd)(a n:Nat)(v:Value):Prop:=
 match a with
 |0=>j6 H n v
 |k+1=>∃cs,v=.agg cs/\x7 H k n cs.toList
abbrev Y8:Nat:=2097152
def eH(H:Nat->Option Hd)(ks vs:Nat)(x:Nat×Nat×Nat)(e:MapEntry):Prop:=(e.born=x.1\/x.1=Y8)/\y9 H ks x.2.1 e.key/\y9 H vs x.2.2 e.val/\gL ks x.2.1
def G8(H:Nat->Option Hd)(ks vs:Nat):List (Nat×Nat×Nat)->List MapEntry->Prop
 |[],es=>es=[]
 |x::l,es=>∃e a,es=e::a/\eH H ks vs x e/\G8 H ks vs l a
theorem j6.cP{H H':Nat->Option Hd}(h:∀r hd,H r=some hd->H' r=some hd){c:Nat}{v:Value}(t:j6 H c v):j6 H' c v:=by
 induction t with
 |int k n a=>exact .int k n a
 |Ax=>exact .Ax
 |SN=>exact .SN
 |Hm=>exact .Hm
 |gE=>exact .gE
 |Jk=>exact .Jk
 |Jl=>exact .Jl
 |ptr r off hd b d a e g=>exact .ptr r off hd b d a (h _ _ e) g
 |sl r off len l i hd b j cap d a e g m o u w x y p=>exact .sl r off len l i hd b j cap d a e g m (h _ _ o) u w x y p
 |map r hd b d a e=>exact .map r hd b d (h _ _ a) e
 |Jm f a=>exact .Jm f a
 |fn f r hd z A d a e g m o _ _ q s=>exact .fn f r hd z A d a (h _ _ e) g m o q s
theorem x7.cP{H H':Nat->Option Hd}(h:∀r hd,H r=some hd->H' r=some hd){k n:Nat}{vs:List Value}(a:x7 H k n vs):x7 H' k n vs:=⟨a.1,a.2.1,fun i v b=>(a.2.2 i v b).cP h⟩
theorem y9.cP{H H':Nat->Option Hd}(h:∀r hd,H r=some hd->H' r=some hd){a n:Nat}{v:Value}(b:y9 H a n v):y9 H' a n v:=by
 cases a with
 |zero=>exact j6.cP h b
 |succ k=>obtain⟨cs,e,c⟩:=b;exact⟨cs,e,c.cP h⟩
theorem G8.cP{H H':Nat->Option Hd}(h:∀r hd,H r=some hd->H' r=some hd){ks vs:Nat}:∀ {l:List (Nat×Nat×Nat)} {es:List MapEntry},G8 H ks vs l es->G8 H' ks vs l es
 |[],_,b=>b
 |_::_,_,⟨e,a,c,⟨d,g2,f,g⟩,i⟩=>⟨e,a,c,⟨d,g2.cP h,f.cP h,g⟩,i.cP h⟩
def D7(H:Nat->Option Hd)(ks vs:Nat)(l:List (Nat×Nat×Nat))(clk:Nat)(es:Array MapEntry):Prop:=
 ∃a,G8 H ks vs a es.toList/\l.Perm a/\(l.map (·.2.1)).Nodup/\(es.toList.map (·.born)).Nodup/\∀e∈es.toList,e.born<clk
theorem D7.cP{H H':Nat->Option Hd}(h:∀r hd,H r=some hd->H' r=some hd){ks vs clk:Nat}{l:List (Nat×Nat×Nat)}{es:Array MapEntry}(a:D7 H ks vs l clk es):D7 H' ks vs l clk es:=
 let⟨b,c,d⟩:=a
 ⟨b,c.cP h,d⟩
def s7(cs:Array Value)(o n:Nat):List Value:=(cs.toList.drop o).take n
def kI{α:Type}(K:b8)(a:Nat)(R:α->List Value->Prop)(l:List α)(base:Option Addr):Prop:=
 l=[]\/∃b off arr,base=some ⟨b,off,none⟩/\K.cells b=some arr/\∀i (h:i<l.length),R l[i] (s7 arr (off+i*a) a)
def r9(K:b8):(t:Ty)->t.den->List Value->Prop
 |.int k,n,cs=>cs=[Value.int k n]
 |.bool,b,cs=>cs=[Value.bool b]
 |.slice e,l,cs=>∃base cap,cs=[Value.slice base l.length cap]/\l.length<=cap/\kI K e.size (r9 K e) l base
 |.pair a b,x,cs=>∃c d,cs=c++d/\r9 K a x.1 c/\r9 K b x.2 d
def lP(K:b8)(t:Ty)(l:List t.den)(a:Bool)(v:Value):Prop:=
 ∃base cap,v=Value.slice base l.length cap/\l.length<=cap/\(a=true->cap=l.length)/\kI K t.size (r9 K t) l base
def cQ(K:b8)(t:Ty)(l:List t.den)(cs:Array Value)(off:Nat):Prop:=
 ∀i (h:i<l.length),r9 K t l[i] (s7 cs (off+i*t.size) t.size)
mutual
def b9(K:b8)(H:Nat->Option Hd):a7->Value->Prop
 |.S6,_=>True
 |.bool b,v=>v=.bool b
 |.int k n,v=>v=.int k n
 |.Y4,v=>v=.slice none 0 0
 |.R2 _,v=>v=.slice none 0 0
 |.imm t l a,v=>lP K t l a v
 |.O1 r a,v=>∃hd,H r=some hd/\v=.slice (hd.base.map fun b=>⟨b,0,none⟩) hd.len hd.cap/\(a=true->hd.cap=hd.len)
 |.sub r lo len a,v=>∃hd cap base,H r=some hd/\v=.slice base len cap/\lo+cap<=hd.cap/\len<=cap/\lo+len<=hd.len/\(a=true->cap=len)/\
  (cap=0\/∃b,hd.base=some b/\base=some ⟨b,lo*hd.sz,none⟩)
 |.ptr r off,v=>∃hd b,H r=some hd/\hd.base=some b/\v=.pointer (some ⟨b,off,none⟩)
 |.P5 r i off,v=>∃hd b,H r=some hd/\hd.base=some b/\v=.pointer (some ⟨b,i*hd.sz+off,none⟩)
 |.P6 r,v=>∃hd b,H r=some hd/\hd.base=some b/\hd.cap=hd.len/\v=.pointer (some ⟨b,0,none⟩)
 |.B9 r,v=>∃hd b,H r=some hd/\hd.base=some b/\v=.map (some b)
 |.G7 cells,v=>∃b off arr,v=.pointer (some ⟨b,off,none⟩)/\K.cells b=some arr/\c6 K H cells (s7 arr off cells.length)
 |.agg cells,v=>∃cs,v=.agg cs/\c6 K H cells cs.toList
 |.S3 t l,v=>∃cs,v=.agg cs/\cs.size=l.length*t.size/\cQ K t l cs 0
 |.M1 vs,v=>∃cs,v=.tuple cs/\c6 K H vs cs.toList
 |.fn f first cap,v=>∃c d,v=.func f c d/\c6 K H first c.toList/\c6 K H cap d.toList
 |.V6,v=>v=.nilFunc
 |.J7,v=>∃l,K.y=some l/\v=.func (.yield l) #[] #[]
 |.s6 p,v=>p.P K v
 |.Dc e n,v=>y9 H e n v
def c6(K:b8)(H:Nat->Option Hd):List a7->List Value->Prop
 |[],cs=>cs=[]
 |a::d,cs=>∃c b,cs=c::b/\b9 K H a c/\c6 K H d b
end
theorem kI.mono{α:Type}{K K':b8}{a:Nat}{R c:α->List Value->Prop}{l:List α}{base:Option Addr}
  (d:K.le K')(e:∀x cs,R x cs->c x cs)(h:kI K a R l base):kI K' a c l base:=by
 rcases h with h|⟨b,off,arr,f,g,j⟩
 .exact .inl h
 .exact .inr ⟨b,off,arr,f,d.cells _ _ g,fun i k=>e _ _ (j i k)⟩
theorem r9.mono{K K':b8}(c:K.le K'):∀ (t:Ty) (x:t.den) (cs:List Value),r9 K t x cs->r9 K' t x cs
 |.int _,_,_,h=>h
 |.bool,_,_,h=>h
 |.slice e,l,cs,h=>by
  obtain⟨base,cap,d,f,g⟩:=h;exact⟨base,cap,d,f,g.mono c (r9.mono c e)⟩
 |.pair a b,x,cs,h=>by
  obtain⟨i,j,d,f,g⟩:=h;exact⟨i,j,d,r9.mono c a _ _ f,r9.mono c b _ _ g⟩
theorem lP.mono{K K':b8}(b:K.le K'){t:Ty}{l:List t.den}{a:Bool}{v:Value}(h:lP K t l a v):lP K' t l a v:=by
 obtain⟨base,cap,c,d,e,f⟩:=h;exact⟨base,cap,c,d,e,f.mono b (r9.mono b t)⟩
theorem cQ.mono{K K':b8}(a:K.le K'){t:Ty}{l:List t.den}{cs:Array Value}{off:Nat}(h:cQ K t l cs off):cQ K' t l cs off:=
 fun i b=>r9.mono a _ _ _ (h i b)
def aY(H H':Nat->Option Hd):Prop:=∀r hd,H r=some hd->H' r=some hd
theorem aY.refl(H:Nat->Option Hd):aY H H:=fun _ _ h=>h
theorem aY.trans{A B C:Nat->Option Hd}(h:aY A B)(k:aY B C):aY A C:=fun r hd x=>k r hd (h r hd x)
mutual
theorem b9.mono{K K':b8}{H H':Nat->Option Hd}(g:K.le K')(e:aY H H'):∀ (a:a7) (v:Value),b9 K H a v->b9 K' H' a v
 |.S6,_,_=>by simp[b9]
 |.bool _,_,h=>by simpa [b9]using h
 |.int _ _,_,h=>by simpa [b9]using h
 |.Y4,_,h=>by simpa [b9]using h
 |.R2 _,_,h=>by simpa [b9]using h
 |.imm t l j,v,h=>by
  simp only[b9]at h ⊢;exact h.mono g
 |.O1 r j,v,h=>by
  simp only[b9]at h ⊢;obtain⟨hd,c,d,k⟩:=h;exact⟨hd,e _ _ c,d,k⟩
 |.sub r lo len j,v,h=>by
  simp only[b9]at h ⊢;obtain⟨hd,cap,base,c,d⟩:=h;exact⟨hd,cap,base,e _ _ c,d⟩
 |.ptr r off,v,h=>by
  simp only[b9]at h ⊢;obtain⟨hd,b,c,d⟩:=h;exact⟨hd,b,e _ _ c,d⟩
 |.P5 r i off,v,h=>by
  simp only[b9]at h ⊢;obtain⟨hd,b,c,d⟩:=h;exact⟨hd,b,e _ _ c,d⟩
 |.P6 r,v,h=>by
  simp only[b9]at h ⊢;obtain⟨hd,b,c,d⟩:=h;exact⟨hd,b,e _ _ c,d⟩
 |.B9 r,v,h=>by
  simp only[b9]at h ⊢;obtain⟨hd,b,c,d⟩:=h;exact⟨hd,b,e _ _ c,d⟩
 |.G7 cells,v,h=>by
  simp only[b9]at h ⊢;obtain⟨b,off,arr,c,d,k⟩:=h;exact⟨b,off,arr,c,g.cells _ _ d,c6.mono g e cells _ k⟩
 |.agg cells,v,h=>by
  simp only[b9]at h ⊢;obtain⟨cs,c,d⟩:=h;exact⟨cs,c,c6.mono g e cells _ d⟩
 |.S3 t l,v,h=>by
  simp only[b9]at h ⊢;obtain⟨cs,c,d,k⟩:=h;exact⟨cs,c,d,k.mono g⟩
 |.M1 vs,v,h=>by
  simp only[b9]at h ⊢;obtain⟨cs,c,d⟩:=h;exact⟨cs,c,c6.mono g e vs _ d⟩
 |.fn f first cap,v,h=>by
  simp only[b9]at h ⊢;obtain⟨m,o,c,d,k⟩:=h;exact⟨m,o,c,c6.mono g e first _ d,c6.mono g e cap _ k⟩
 |.V6,_,h=>by simpa [b9]using h
 |.J7,v,h=>by
  simp only[b9]at h ⊢;obtain⟨l,c,d⟩:=h;exact⟨l,g.y l c,d⟩
 |.s6 p,v,h=>by
  simp only[b9]at h ⊢;exact p.mono _ _ _ g.O4 h
 |.Dc q n,v,h=>by
  simp only[b9]at h ⊢;exact h.cP e
theorem c6.mono{K K':b8}{H H':Nat->Option Hd}(e:K.le K')(f:aY H H'):∀ (b:List a7) (cs:List Value),c6 K H b cs->c6 K' H' b cs
 |[],_,h=>by simpa [c6]using h
 |a::b,cs,h=>by
  simp only[c6]at h ⊢;obtain⟨c,d,g,i,j⟩:=h;exact⟨c,d,g,b9.mono e f a c i,c6.mono e f b d j⟩
end
theorem c6.nil{K:b8}{H:Nat->Option Hd}:c6 K H [] []:=by simp[c6]
theorem c6.cons{K:b8}{H:Nat->Option Hd}{a:a7}{b:List a7}{c:Value}{cs:List Value}(h:b9 K H a c)(d:c6 K H b cs):c6 K H (a::b) (c::cs):=by
 simp only[c6];exact⟨c,cs,rfl,h,d⟩
theorem c6.Vh{K:b8}{H:Nat->Option Hd}{a:a7}{b:List a7}{c:Value}{cs:List Value}:c6 K H (a::b) (c::cs)↔b9 K H a c/\c6 K H b cs:=by
 constructor
 .intro h;simp only[c6]at h;obtain⟨c',e,d,f,g⟩:=h;simp only[iz]at d;obtain⟨rfl,rfl⟩:=d;exact⟨f,g⟩
 .exact fun h=>.cons h.1 h.2
theorem c6.J8{K:b8}{H:Nat->Option Hd}{cs:List Value}:c6 K H [] cs↔cs=[]:=by simp[c6]
theorem c6.inv{K:b8}{H:Nat->Option Hd}{a:a7}{b:List a7}{cs:List Value}(h:c6 K H (a::b) cs):∃c DV,cs=c::DV/\b9 K H a c/\c6 K H b DV:=by
 simpa only[c6]using h
theorem c6.length{K:b8}{H:Nat->Option Hd}:∀ {b:List a7} {cs:List Value},c6 K H b cs->cs.length=b.length
 |[],cs,h=>by simp[c6.J8.1 h]
 |a::b,cs,h=>by
  obtain⟨c,d,rfl,_,e⟩:=h.inv;simp[c6.length e]
theorem c6.get{K:b8}{H:Nat->Option Hd}:∀ {b:List a7} {cs:List Value} (i:Nat) (a:a7),c6 K H b cs->b[i]? =some a->∃c,cs[i]? =some c/\b9 K H a c
 |[],_,i,a,_,h=>by simp at h
 |x::b,cs,i,a,h,d=>by
  obtain⟨c,e,rfl,f,g⟩:=h.inv;cases i with
  |zero=>simp only[dh,ae]at d ⊢;subst d;exact⟨c,rfl,f⟩
  |succ i=>simp only[cx]at d ⊢;exact c6.get i a g d
theorem c6.append{K:b8}{H:Nat->Option Hd}:∀ {b d:List a7} {cs e:List Value},c6 K H b cs->c6 K H d e->c6 K H (b++d) (cs++e)
 |[],_,cs,_,h,f=>by simpa [c6.J8.1 h]using f
 |a::b,d,cs,e,h,f=>by
  obtain⟨c,g,rfl,i,j⟩:=h.inv;exact .cons i (c6.append j f)
theorem c6.drop{K:b8}{H:Nat->Option Hd}:∀ {As:List a7} {cs:List Value} (n:Nat),c6 K H As cs->c6 K H (As.drop n) (cs.drop n)
 |As,cs,0,h=>by simpa using h
 |[],cs,n+1,h=>by simp[c6.J8.1 h,c6.nil]
 |a::As,cs,n+1,h=>by
  obtain⟨c,b,rfl,_,d⟩:=h.inv;simpa using c6.drop n d
theorem c6.take{K:b8}{H:Nat->Option Hd}:∀ {As:List a7} {cs:List Value} (n:Nat),c6 K H As cs->c6 K H (As.take n) (cs.take n)
 |As,cs,0,h=>by simp[c6.nil]
 |[],cs,n+1,h=>by simp[c6.J8.1 h,c6.nil]
 |a::As,cs,n+1,h=>by
  obtain⟨c,b,rfl,d,e⟩:=h.inv;simpa using c6.cons d (c6.take n e)
theorem r9.length{K:b8}:∀ (t:Ty) (x:t.den) (cs:List Value),r9 K t x cs->cs.length=t.size
 |.int _,_,_,h=>by have h:_=_:=h;simp[h,Ty.size]
 |.bool,_,_,h=>by have h:_=_:=h;simp[h,Ty.size]
 |.slice e,l,cs,h=>by obtain⟨_,_,h,_⟩:=h;simp[h,Ty.size]
 |.pair a b,x,cs,h=>by
  obtain⟨f,g,rfl,c,d⟩:=h;simp[Ty.size,r9.length a _ _ c,r9.length b _ _ d]
def Ty.cells:(t:Ty)->t.den->List a7
 |.int k,n=>[.int k n]
 |.bool,b=>[.bool b]
 |.slice e,l=>[.imm e l false]
 |.pair a b,x=>a.cells x.1++b.cells x.2
theorem Ty.R5:∀ (t:Ty) (x:t.den),(t.cells x).length=t.size
 |.int _,_=>rfl
 |.bool,_=>rfl
 |.slice _,_=>rfl
 |.pair a b,x=>by simp[Ty.cells,Ty.size,Ty.R5 a,Ty.R5 b]
theorem S4{K:b8}{H:Nat->Option Hd}:∀ (t:Ty) (x:t.den) (cs:List Value),r9 K t x cs->c6 K H (t.cells x) cs
 |.int k,n,cs,h=>by
  have h:cs=[Value.int k n]:=h;subst h;exact .cons (by simp[b9]) .nil
 |.bool,b,cs,h=>by
  have h:cs=[Value.bool b]:=h;subst h;exact .cons (by simp[b9]) .nil
 |.slice e,l,cs,h=>by
  obtain⟨base,cap,rfl,c,d⟩:=h;exact .cons (by simp only[b9];exact⟨base,cap,rfl,c,fun h=>by simp at h,d⟩) .nil
 |.pair a b,x,cs,h=>by
  obtain⟨f,g,rfl,c,d⟩:=h;exact c6.append (S4 a _ _ c) (S4 b _ _ d)
def Jn(k:IntKind):List a7->Option (Int×List a7)
 |.int k' n::r=>if k=k' then some (n,r)else none
 |_=>none
def DW:List a7->Option (Bool×List a7)
 |.bool b::r=>some (b,r)
 |_=>none
def Az(e:Ty):List a7->Option (List e.den×List a7)
 |.imm a l _::r=>if h:a=e then some (h▸l,r)else none
 |.R2 _::r=>some ([],r)
 |_=>none
def DX{α β:Type}(x:Option (α×List a7))(f:List a7->Option (β×List a7)):Option ((α×β)×List a7):=
 match x with
 |some (x,b)=>match f b with
  |some (y,a)=>some ((x,y),a)
  |none=>none
 |none=>none
def Ty.take:(t:Ty)->List a7->Option (t.den×List a7)
 |.int k,c=>Jn k c
 |.bool,c=>DW c
 |.slice e,c=>Az e c
 |.pair a b,c=>DX (a.take c) b.take
theorem DY{K:b8}{H:Nat->Option Hd}:∀ (t:Ty) (f:List a7) (x:t.den) (r:List a7) (cs:List Value),t.take f=some (x,r)->c6 K H f cs->
  ∃m o,cs=m++o/\r9 K t x m/\c6 K H r o
 |.int k,f,x,r,cs,d,h=>by
  have d:Jn k f=some (x,r):=d;unfold Jn at d;split at d
  .rename_i k' n p;split at d
   .rename_i u;obtain⟨rfl,rfl⟩:=mq (cz d);obtain⟨c,g,rfl,i,j⟩:=h.inv;simp only[b9]at i;subst i;subst u;exact⟨[_],g,rfl,rfl,j⟩
   .simp at d
  .simp at d
 |.bool,f,x,r,cs,d,h=>by
  have d:DW f=some (x,r):=d;unfold DW at d;split at d
  .obtain⟨rfl,rfl⟩:=mq (cz d);obtain⟨c,g,rfl,i,j⟩:=h.inv;simp only[b9]at i;subst i;exact⟨[_],g,rfl,rfl,j⟩
  .simp at d
 |.slice e,f,x,r,cs,d,h=>by
  have d:Az e f=some (x,r):=d;unfold Az at d;split at d
  .rename_i v l q p;split at d
   .rename_i w;subst w;obtain⟨rfl,rfl⟩:=mq (cz d);obtain⟨c,g,rfl,i,j⟩:=h.inv;simp only[b9]at i;obtain⟨base,cap,rfl,y,E,z⟩:=i;exact⟨[_],g,rfl,⟨base,cap,rfl,y,z⟩,j⟩
   .simp at d
  .rename_i v p;obtain⟨rfl,rfl⟩:=mq (cz d);obtain⟨c,g,rfl,i,j⟩:=h.inv;simp only[b9]at i;subst i;exact⟨[_],g,rfl,⟨none,0,rfl,aw _,.inl rfl⟩,j⟩
  .simp at d
 |.pair a b,f,x,r,cs,d,h=>by
  have d:DX (a.take f) b.take=some (x,r):=d;unfold DX at d;split at d
  .rename_i F G i;split at d
   .rename_i I J j;obtain⟨rfl,rfl⟩:=mq (cz d);obtain⟨m,o,rfl,A,g2⟩:=DY a _ _ _ _ i h;obtain⟨s,B,rfl,C,D⟩:=DY b _ _ _ _ j g2;exact⟨m++s,B,by simp,⟨m,s,rfl,A,C⟩,D⟩
   .simp at d
  .simp at d
def Ty.whole(t:Ty)(a:List a7):Option t.den:=
 match t.take a with
 |some (x,[])=>some x
 |_=>none
theorem lQ{K:b8}{H:Nat->Option Hd}{t:Ty}{a:List a7}{x:t.den}{cs:List Value}(b:t.whole a=some x)(h:c6 K H a cs):r9 K t x cs:=by
 unfold Ty.whole at b;split at b
 .rename_i y c;simp only[ae]at b;subst b;obtain⟨f,g,rfl,d,e⟩:=DY t _ _ _ _ c h;rw[c6.J8.1 e];simpa using d
 .simp at b
end Go.Abs
end
section
namespace Go.Abs
def xL(K:b8)(w:World):Prop:=
 (∀b cs,K.cells b=some cs->∃e a,w.heap[b]? =some (.cells cs e a))/\(∀b p,K.inv b=some p->∃o,w.heap[b]? =some o/\p o)
structure Kept(F:Nat->Prop)(w w':World):Prop where
 os:w'.os=w.os
 tape:w'.tape=w.tape
 output:w'.output=w.output
 size:w.heap.size<=w'.heap.size
 block:∀b,F b->w'.heap[b]? =w.heap[b]?
 drawn:w.drawn<=w'.drawn
theorem Kept.refl(F:Nat->Prop)(w:World):Kept F w w:=⟨rfl,rfl,rfl,aw _,fun _ _=>rfl,aw _⟩
theorem Kept.trans{F:Nat->Prop}{a b c:World}(h:Kept F a b)(k:Kept F b c):Kept F a c:=
 ⟨k.os.trans h.os,k.tape.trans h.tape,k.output.trans h.output,ew h.size k.size,fun i d=>(k.block i d).trans (h.block i d),ew h.drawn k.drawn⟩
theorem Kept.mono{F G:Nat->Prop}{a b:World}(h:Kept F a b)(c:∀b,G b->F b):Kept G a b:=
 ⟨h.os,h.tape,h.output,h.size,fun i d=>h.block i (c i d),h.drawn⟩
theorem Kept.of_heap{F:Nat->Prop}{a b c:World}(h:Kept F a b)(d:c.os=b.os)(e:c.tape=b.tape)(f:c.output=b.output)(hh:c.heap=b.heap)(hd:b.drawn<=c.drawn):Kept F a c:=
 ⟨d.trans h.os,e.trans h.tape,f.trans h.output,hh▸h.size,fun i g=>hh▸h.block i g,ew h.drawn hd⟩
def B2(K:b8)(t:Ty)(l:List t.den)(cs:List Value):Prop:=
 cs.length=l.length*t.size/\∀i (h:i<l.length),r9 K t l[i] ((cs.drop (i*t.size)).take t.size)
end Go.Abs
namespace Go
def Obj.Vi:Obj->Bool
 |.cells _ _ _=>true
 |.map _ _=>true
 |.mapIter _ _ _ _=>true
 |_=>false
end Go
namespace Go.Abs
def n9(K:b8)(H:Nat->Option Hd)(w:World)(hd:Hd):c7->Prop
 |.box cells=>∃b cs e g,hd.base=some b/\w.heap[b]? =some (.cells cs e g)/\c6 K H cells cs.toList
 |.bx q t n l h=>hd.sz=t.size/\l.length=n/\∃b cs e g s u v,hd.base=some b/\w.heap[b]? =some (.cells cs e g)/\cs.toList=s++u++v/\c6 K H q s/\B2 K t l u/\c6 K H h v
 |.sl t l=>hd.sz=t.size/\hd.len=l.length/\(hd.len<=hd.cap/\hd.cap<=9223372036854775807)/\
  ((hd.base=none/\hd.cap=0)\/∃b cs e g,hd.base=some b/\w.heap[b]? =some (.cells cs e g)/\hd.cap*t.size<=cs.size/\cQ K t l cs 0)
 |.mp mk l clk=>hd.sz=0/\hd.len=0/\hd.cap=0/\∃b,hd.base=some b/\w.heap[b]? =some (.map (l.map mk.nM).toArray clk)
 |.it m a seen d=>hd.sz=0/\hd.len=0/\hd.cap=0/\∃b j,hd.base=some b/\w.heap[b]? =some (.mapIter (some j) a seen.toArray d)/\∀r,m=some r->∃p,H r=some p/\p.base=some j
 |.z5 (.c k n)=>∃b cs e g,hd.base=some b/\w.heap[b]? =some (.cells cs e g)/\cs.size=hd.sz+hd.len/\k<=hd.sz/\x7 H k (n/cB) ((cs.toList.drop hd.len).take k)
 |.z5 (.m ks vs l clk)=>∃b es,hd.base=some b/\w.heap[b]? =some (.map es clk)/\D7 H ks vs l clk es
 |.z5 (.f x y A B)=>hd.base=none/\hd.sz=x+4096*A/\x<4096/\hd.len=y/\hd.cap=B
 |.z5 (.i m a seen d)=>∃b j p,hd.base=some b/\w.heap[b]? =some (.mapIter (some j) a seen.reverse.toArray d)/\H m=some p/\p.base=some j/\hd.len=0
 |.z5 .z=>False
 |.any=>∀b,hd.base=some b->∃o,w.heap[b]? =some o/\o.Vi=true
abbrev Mm:=Nat->Option (c7×p0)
structure l5(F:Nat->Prop)(K:b8)(H:Nat->Option Hd)(w:World)(M:Mm):Prop where
 cont:∀r c f hd,M r=some (c,f)->f≠ .dead->H r=some hd->n9 K H w hd c
 own:∀r c hd b,M r=some (c,.own)->H r=some hd->hd.base=some b->¬F b/\K.cells b=none/\K.inv b=none/\(c.isCells=true->∃cs e,w.heap[b]? =some (.cells cs e (0,0)))
 X9:∀r c hd b,M r=some (c,.X9)->H r=some hd->hd.base=some b->∃cs,K.cells b=some cs
 inj:∀r r' c c' hd S9 b,M r=some (c,.own)->M r'=some (c',.own)->H r=some hd->H r'=some S9->hd.base=some b->S9.base=some b->r=r'
structure L4(F:Nat->Prop)(K:b8)(w:World):Prop where
 w8:xL K w
 lt:∀b,F b->b<w.heap.size
 inv:∀b p,K.inv b=some p->¬F b
 apart:∀b p,K.inv b=some p->K.cells b=none
theorem s8{w:World}{b:Nat}{o:Obj}(h:w.heap[b]? =some o):b<w.heap.size:=by
 rcases bh b w.heap.size with a|a
 .exact a
 .rw[fb a]at h;cases h
theorem xL.lt{K:b8}{w:World}(h:xL K w){b:Nat}{cs:Array Value}(a:K.cells b=some cs):b<w.heap.size:=by
 obtain⟨e,d,c⟩:=h.1 b cs a;exact s8 c
theorem xL.new{K:b8}{w:World}(h:xL K w){b:Nat}(d:w.heap.size<=b):K.cells b=none/\K.inv b=none:=by
 constructor
 .cases a:K.cells b with
  |none=>rfl
  |some cs=>have:=h.lt a;omega
 .cases a:K.inv b with
  |none=>rfl
  |some p=>obtain⟨o,c,_⟩:=h.2 b p a;have:=s8 c;omega
theorem n9.mono{K K':b8}{H H':Nat->Option Hd}{w w':World}{hd:Hd}{c:c7}(y:K.le K')(s:aY H H')
  (p:∀b,hd.base=some b->w'.heap[b]? =w.heap[b]?)(h:n9 K H w hd c):n9 K' H' w' hd c:=by
 cases c with
 |box cells=>
  obtain⟨b,cs,e,u,a,d,g⟩:=h;exact⟨b,cs,e,u,a,by rw[p b a];exact d,c6.mono y s _ _ g⟩
 |bx I t n l F=>
  obtain⟨x,g2,b,cs,e,u,J,L,M,a,d,g,j,q,B⟩:=h;exact⟨x,g2,b,cs,e,u,J,L,M,a,by rw[p b a];exact d,g,c6.mono y s _ _ j,⟨q.1,fun i C=>r9.mono y _ _ _ (q.2 i C)⟩,c6.mono y s _ _ B⟩
 |sl t l=>
  obtain⟨a,d,g,j⟩:=h;refine⟨a,d,g,?_⟩;rcases j with j|⟨b,cs,e,u,x,g2,N,O⟩
  .exact .inl j
  .exact .inr ⟨b,cs,e,u,x,by rw[p b x];exact g2,N,O.mono y⟩
 |mp mk l clk=>
  obtain⟨a,d,g,b,j,q⟩:=h;exact⟨a,d,g,b,j,by rw[p b j];exact q⟩
 |it m v seen A=>
  obtain⟨a,d,g,b,D,j,q,B⟩:=h;refine⟨a,d,g,b,D,j,by rw[p b j];exact q,fun r P=>?_⟩
  obtain⟨E,x,g2⟩:=B r P;exact⟨E,s _ _ x,g2⟩
 |any=>
  intro b G;obtain⟨o,R,C⟩:=h b G;exact⟨o,(p b G).trans R,C⟩
 |z5 o=>
  cases o with
  |c k n=>
   obtain⟨b,cs,e,u,a,d,g,j,q⟩:=h;exact⟨b,cs,e,u,a,by rw[p b a];exact d,g,j,q.cP s⟩
  |m ks vs l clk=>
   obtain⟨b,es,a,d,g⟩:=h;exact⟨b,es,a,by rw[p b a];exact d,g.cP s⟩
  |f S T U V=>exact h
  |i m v seen A=>
   obtain⟨b,D,E,a,d,g,j⟩:=h;exact⟨b,D,E,a,by rw[p b a];exact d,s _ _ g,j⟩
  |z=>exact h
theorem Dr{K K':b8}{H H':Nat->Option Hd}{w:World}{hd:Hd}{o:HO}(h:n9 K H w hd (.z5 o)):n9 K' H' w hd .any:=by
 intro b d;cases o with
 |c k n=>
  obtain⟨j,cs,e,q,a,g2,_⟩:=h;rw[d]at a;cases a;exact⟨_,g2,rfl⟩
 |m ks vs l clk=>
  obtain⟨j,es,a,g2,_⟩:=h;rw[d]at a;cases a;exact⟨_,g2,rfl⟩
 |f r s t u=>rw[h.1]at d;cases d
 |i m g seen p=>
  obtain⟨j,v,x,a,g2,_⟩:=h;rw[d]at a;cases a;exact⟨_,g2,rfl⟩
 |z=>exact h.elim
theorem l5.world{F:Nat->Prop}{K:b8}{H:Nat->Option Hd}{w w':World}{M:Mm}(h:l5 F K H w M)
  (hw:∀r c f hd b,M r=some (c,f)->f≠ .dead->H r=some hd->hd.base=some b->w'.heap[b]? =w.heap[b]?):l5 F K H w' M where
 cont:=fun r c f hd h1 h2 h3=>(h.cont r c f hd h1 h2 h3).mono (b8.le.refl K) (aY.refl H) (fun b hb=>hw r c f hd b h1 h2 h3 hb)
 own:=fun r c hd b h1 h2 h3=>by
  obtain⟨g1,g2,g3,g4⟩:=h.own r c hd b h1 h2 h3;exact⟨g1,g2,g3,by rw[hw r c .own hd b h1 (by simp) h2 h3];exact g4⟩
 X9:=h.X9
 inj:=h.inj
theorem W1{F:Nat->Prop}{K:b8}{H:Nat->Option Hd}{w:World}{M:Mm}(h:l5 F K H w M){r:Nat}{c:c7}{f:p0}{hd:Hd}{b:Nat}
  (v:M r=some (c,f))(x:f≠ .dead)(y:H r=some hd)(d:hd.base=some b):b<w.heap.size:=by
 have:=h.cont r c f hd v x y;cases c with
 |box cells=>
  obtain⟨j,cs,e,s,a,g2,A⟩:=this;rw[d]at a;cases a;exact s8 g2
 |bx B t n l u=>
  obtain⟨_,_,j,cs,e,s,_,_,_,a,g2,A⟩:=this;rw[d]at a;cases a;exact s8 g2
 |sl t l=>
  obtain⟨_,_,_,g⟩:=this;rcases g with⟨g,_⟩|⟨j,cs,e,s,a,g2,_⟩
  .rw[d]at g;cases g
  .rw[d]at a;cases a;exact s8 g2
 |mp mk l clk=>
  obtain⟨_,_,_,j,a,g2⟩:=this;rw[d]at a;cases a;exact s8 g2
 |it m p seen q=>
  obtain⟨_,_,_,j,C,a,g2,_⟩:=this;rw[d]at a;cases a;exact s8 g2
 |any=>
  obtain⟨o,D,_⟩:=this b d;exact s8 D
 |z5 o=>
  cases o with
  |c k n=>
   obtain⟨j,cs,e,s,a,g2,_⟩:=this;rw[d]at a;cases a;exact s8 g2
  |m ks vs l clk=>
   obtain⟨j,es,a,g2,_⟩:=this;rw[d]at a;cases a;exact s8 g2
  |f E G I J=>rw[this.1]at d;cases d
  |i m p seen q=>
   obtain⟨j,C,L,a,g2,_⟩:=this;rw[d]at a;cases a;exact s8 g2
  |z=>exact this.elim
theorem l5.SO{F:Nat->Prop}{K K':b8}{H:Nat->Option Hd}{w:World}{M:Mm}(h:l5 F K H w M)(hK:K.le K')
  (hn:∀r c hd b,M r=some (c,.own)->H r=some hd->hd.base=some b->K'.cells b=none/\K'.inv b=none):l5 F K' H w M where
 cont:=fun r c f hd h1 h2 h3=>(h.cont r c f hd h1 h2 h3).mono hK (aY.refl H) (fun _ _=>rfl)
 own:=fun r c hd b h1 h2 h3=>by
  obtain⟨g1,g2,g3,g4⟩:=h.own r c hd b h1 h2 h3;exact⟨g1,(hn r c hd b h1 h2 h3).1,(hn r c hd b h1 h2 h3).2,g4⟩
 X9:=fun r c hd b h1 h2 h3=>by
  obtain⟨cs,g⟩:=h.X9 r c hd b h1 h2 h3;exact⟨cs,hK.cells _ _ g⟩
 inj:=h.inj
def N9{α:Type}(f:Nat->Option α)(r:Nat)(x:α):Nat->Option α:=fun a=>if a=r then some x else f a
theorem j8{α:Type}(f:Nat->Option α)(r:Nat)(x:α):N9 f r x r=some x:=by simp[N9]
theorem m7{α:Type}(f:Nat->Option α)(r r':Nat)(x:α)(h:r'≠r):N9 f r x r'=f r':=by simp[N9,h]
theorem M3{H:Nat->Option Hd}{r:Nat}{hd:Hd}(h:H r=none):aY H (N9 H r hd):=by
 intro b c a;by_cases e:b=r
 .subst e;rw[h]at a;cases a
 .rw[m7 _ _ _ _ e];exact a
theorem l5.new{F:Nat->Prop}{K:b8}{H:Nat->Option Hd}{w:World}{M:Mm}(h:l5 F K H w M)(r:Nat)(y:H r=none)(c:c7)(hd:Hd)
  (z:n9 K (N9 H r hd) w hd c)
  (p:∀b,hd.base=some b->¬F b/\K.cells b=none/\K.inv b=none/\(c.isCells=true->∃cs e,w.heap[b]? =some (.cells cs e (0,0)))/\
   ∀j c' d,M j=some (c',.own)->H j=some d->d.base≠some b):l5 F K (N9 H r hd) w (N9 M r (c,.own)):=by
 have A:aY H (N9 H r hd):=M3 y;refine⟨?_,?_,?_,?_⟩
 .intro j c' f d a g i;by_cases e:j=r
  .subst e;rw[j8]at a i;cases a;cases i;exact z
  .rw[m7 _ _ _ _ e]at a i;exact(h.cont j c' f d a g i).mono (b8.le.refl K) A (fun _ _=>rfl)
 .intro j c' d b a g i;by_cases e:j=r
  .subst e;rw[j8]at a g;cases a;cases g;obtain⟨B,g2,C,D,_⟩:=p b i;exact⟨B,g2,C,D⟩
  .rw[m7 _ _ _ _ e]at a g;exact h.own j c' d b a g i
 .intro j c' d b a g i;by_cases e:j=r
  .subst e;rw[j8]at a;cases a
  .rw[m7 _ _ _ _ e]at a g;exact h.X9 j c' d b a g i
 .intro q o v x l m b a g i k s t;by_cases u:q=r
  .by_cases n:o=r
   .rw[u,n]
   .subst u;rw[j8]at a i;cases a;cases i;rw[m7 _ _ _ _ n]at g k;exact absurd t ((p b s).2.2.2.2 o x m g k)
  .rw[m7 _ _ _ _ u]at a i;by_cases n:o=r
   .subst n;rw[j8]at g k;cases g;cases k;exact absurd s ((p b t).2.2.2.2 q v l a i)
   .rw[m7 _ _ _ _ n]at g k;exact h.inj q o v x l m b a g i k s t
theorem l5.flag{F:Nat->Prop}{K:b8}{H:Nat->Option Hd}{w:World}{M:Mm}(h:l5 F K H w M)(r:Nat)(c:c7)(g f:p0)(u:M r=some (c,g))(m:f≠ .own)
  (l:f=.X9->g≠ .dead/\∀hd b,H r=some hd->hd.base=some b->∃cs,K.cells b=some cs):
  l5 F K H w (N9 M r (c,f)):=by
 refine⟨?_,?_,?_,?_⟩
 .intro j c' v d a i k;by_cases e:j=r
  .subst e;rw[j8]at a;cases a;cases f with
   |own=>exact absurd rfl m
   |dead=>exact absurd rfl i
   |X9=>exact h.cont j c g d u (l rfl).1 k
  .rw[m7 _ _ _ _ e]at a;exact h.cont j c' v d a i k
 .intro j c' d b a i k;by_cases e:j=r
  .subst e;rw[j8]at a;cases a;exact absurd rfl m
  .rw[m7 _ _ _ _ e]at a;exact h.own j c' d b a i k
 .intro j c' d b a i k;by_cases e:j=r
  .subst e;rw[j8]at a;cases a;exact(l rfl).2 d b i k
  .rw[m7 _ _ _ _ e]at a;exact h.X9 j c' d b a i k
 .intro p q x y n o b a i k z A B;by_cases s:p=r
  .subst s;rw[j8]at a;cases a;exact absurd rfl m
  .rw[m7 _ _ _ _ s]at a;by_cases t:q=r
   .subst t;rw[j8]at i;cases i;exact absurd rfl m
   .rw[m7 _ _ _ _ t]at i;exact h.inj p q x y n o b a i k z A B
theorem l5.ZU{F:Nat->Prop}{K:b8}{H:Nat->Option Hd}{w w':World}{M:Mm}(h:l5 F K H w M)(r:Nat)(c c':c7)(hd:Hd)(b:Nat)(s:M r=some (c,.own))(p:H r=some hd)
  (t:hd.base=some b)(B:∀j,j≠b->w'.heap[j]? =w.heap[j]?)(hh:c'.isCells=true->∃cs e,w'.heap[b]? =some (.cells cs e (0,0)))
  (E:n9 K H w' hd c'):l5 F K H w' (N9 M r (c',.own)):=by
 have n:∀i a f d j,M i=some (a,f)->f≠ .dead->i≠r->H i=some d->d.base=some j->j≠b:=by
  intro i a f d j k m l u v e;subst e;cases f with
  |dead=>exact m rfl
  |own=>exact l (h.inj i r a c d hd j k s u p v t)
  |X9=>
   obtain⟨cs,g⟩:=h.X9 i a d j k u v;have:=(h.own r c hd j s p t).2.1;rw[this]at g;cases g
 refine⟨?_,?_,?_,?_⟩
 .intro i a f d k m l;by_cases e:i=r
  .subst e;rw[j8]at k;cases k;rw[p]at l;cases l;exact E
  .rw[m7 _ _ _ _ e]at k;exact(h.cont i a f d k m l).mono (b8.le.refl K) (aY.refl H) (fun j x=>B j (n i a f d j k m e l x))
 .intro i a d j k m l;by_cases e:i=r
  .subst e;rw[p]at m;cases m;rw[t]at l;cases l;rw[j8]at k;cases k;obtain⟨q,g2,y,_⟩:=h.own i c hd b s p t;exact⟨q,g2,y,hh⟩
  .rw[m7 _ _ _ _ e]at k;obtain⟨q,g2,y,G⟩:=h.own i a d j k m l;exact⟨q,g2,y,by rw[B j (n i a .own d j k (by simp) e m l)];exact G⟩
 .intro i a d j k m l;by_cases e:i=r
  .subst e;rw[j8]at k;cases k
  .rw[m7 _ _ _ _ e]at k;exact h.X9 i a d j k m l
 .intro C D I J z A j k m l u v L;have o:∀i a,N9 M r (c',p0.own) i=some (a,.own)->∃N,M i=some (N,.own):=by
   intro i a g;by_cases e:i=r
   .subst e;exact⟨c,s⟩
   .rw[m7 _ _ _ _ e]at g;exact⟨a,g⟩
  obtain⟨O,q⟩:=o C I k;obtain⟨P,g2⟩:=o D J m;exact h.inj C D O P z A j q g2 l u v L
theorem Li{cs:Array Value}{o n:Nat}(h:o+n<=cs.size):(s7 cs o n).length=n:=by
 simp[s7];omega
theorem P8{cs:Array Value}{o n j:Nat}(h:j<n):(s7 cs o n)[j]? =cs[o+j]? :=by
 simp[s7,h]
theorem sQ{cs:Array Value}{o n p m:Nat}(h:p+m<=n):((s7 cs o n).drop p).take m=s7 cs (o+p) m:=by
 apply cq;intro i;by_cases a:i<m
 .rw[cy a,dp,P8 (by omega),P8 a,fe]
 .rw[an (by simp;omega),an (by simp[s7];omega)]
theorem QZ{cs:Array Value}{o n:Nat}(h:(s7 cs o n).length=n)(a:0<n):o+n<=cs.size:=by
 simp[s7]at h;omega
theorem eI{w:World}{b:Nat}{cs:Array Value}{e:TypeId}{a:Nat×Nat}(h:w.heap[b]? =some (.cells cs e a))(o:Nat):w.cell? ⟨b,o,none⟩=cs[o]? :=by
 simp[World.cell?,h]
theorem H7(b o i:Nat):(⟨b,o,none⟩:Addr).add i=⟨b,o+i,none⟩:=by
 unfold Addr.add;split
 .rename_i h;subst h;rfl
 .rfl
theorem run_loadCells(P:Program){w:World}{b:Nat}{cs:Array Value}{e:TypeId}{c:Nat×Nat}(h:w.heap[b]? =some (.cells cs e c))(o:Nat):
  ∀ (n i:Nat) (a:Array Value),o+i+n<=cs.size->(loadCellsFrom ⟨b,o,none⟩ i n a).run P w=.ok (a++(s7 cs (o+i) n).toArray) w
 |0,i,a,_=>by simp[loadCellsFrom,s7,pure]
 |n+1,i,a,j=>by
  have d:w.cell? ((⟨b,o,none⟩:Addr).add i)=some (cs[o+i]'(by omega)):=by
   rw[H7,eI h];simp
  have f:=run_loadCells P h o n (i+1) (a.push (cs[o+i]'(by omega))) (by omega)
  simp only[loadCellsFrom,bind,Sem.bind,load,Sem.run,d];rw[f];have g:s7 cs (o+i) (n+1)=cs[o+i]'(by omega)::s7 cs (o+(i+1)) n:=by
   unfold s7;rw[ia (by simp;omega),nj]
   simp[fe]
  rw[g];simp
theorem run_load(P:Program){w:World}{b:Nat}{cs:Array Value}{e:TypeId}{a:Nat×Nat}(h:w.heap[b]? =some (.cells cs e a))(o:Nat)(v:Value)(c:cs[o]? =some v):
  (load ⟨b,o,none⟩).run P w=.ok v w:=by
 simp[load,Sem.run,eI h,c]
structure Jo(w w':World)(b:Nat)(cs:Array Value)(e:TypeId):Prop where
 os:w'.os=w.os
 tape:w'.tape=w.tape
 output:w'.output=w.output
 size:w'.heap.size=w.heap.size
 here:w'.heap[b]? =some (.cells cs e (0,0))
 other:∀b',b'≠b->w'.heap[b']? =w.heap[b']?
 drawn:w'.drawn=w.drawn
theorem Jo.kept{w w':World}{b:Nat}{cs:Array Value}{e:TypeId}(h:Jo w w' b cs e){F:Nat->Prop}(a:¬F b):Kept F w w':=
 ⟨h.os,h.tape,h.output,by rw[h.size];exact aw _,fun c d=>h.other c (fun e=>a (e▸d)),Nat.le_of_eq h.drawn.symm⟩
theorem Jo.refl{w:World}{b:Nat}{cs:Array Value}{e:TypeId}(h:w.heap[b]? =some (.cells cs e (0,0))):Jo w w b cs e:=
 ⟨rfl,rfl,rfl,rfl,h,fun _ _=>rfl,rfl⟩
theorem Jo.trans{w w' a:World}{b:Nat}{cs c:Array Value}{e:TypeId}(h:Jo w w' b cs e)(k:Jo w' a b c e):Jo w a b c e:=
 ⟨k.os.trans h.os,k.tape.trans h.tape,k.output.trans h.output,k.size.trans h.size,k.here,fun d f=>(k.other d f).trans (h.other d f),k.drawn.trans h.drawn⟩
theorem Lj{w:World}{b:Nat}{cs:Array Value}{e:TypeId}(h:w.heap[b]? =some (.cells cs e (0,0)))(o:Nat)(v:Value):
  Jo w (w.setCell ⟨b,o,none⟩ v) b (cs.setIfInBounds o v) e:=by
 refine⟨rfl,rfl,rfl,by simp,?_,?_,rfl⟩
 .simp[World.setCell,rq,h]
 .intro c a;simp only[World.setCell,rq];rw[ai (fun e=>a e.symm)]
def H8(cs:Array Value)(o:Nat):List Value->Array Value
 |[]=>cs
 |v::vs=>H8 (cs.setIfInBounds o v) (o+1) vs
theorem M7(o:Nat)(cs:Array Value)(vs:List Value):(H8 cs o vs).size=cs.size:=by
 induction vs generalizing o cs with
 |nil=>rfl
 |cons v vs a=>simp[H8,a]
theorem iJ(cs:Array Value)(o:Nat)(vs:List Value)(i:Nat)(h:o+vs.length<=cs.size):
  (H8 cs o vs)[i]? =if o<=i/\i<o+vs.length then vs[i- o]? else cs[i]? :=by
 induction vs generalizing o cs with
 |nil=>simp[H8];omega
 |cons v vs c=>
  simp only[bq]at h;rw[H8,c _ _ (by simp;omega)]
  by_cases a:o+1<=i/\i<o+1+vs.length
  .rw[aj a,aj (by simp;omega)]
   have:i- o=(i- (o+1))+1:=by omega
   rw[this,cx]
  .rw[ai a];by_cases b:i=o
   .subst b;rw[aj (by simp)]
    have d:i<cs.size:=by omega
    simp[d]
   .rw[ai (by simp;omega),gj (fun e=>b e.symm)]
def one:Value->Bool
 |.agg _=>false
 |.tuple _=>false
 |_=>true
theorem J9(P:Program)(b o:Nat)(e:TypeId):∀ (vs:List Value) (w:World) (cs:Array Value) (i:Nat),w.heap[b]? =some (.cells cs e (0,0))->
  o+i+vs.length<=cs.size->(∀v∈vs,one v=true)->∃w',(storeCells ⟨b,o,none⟩ vs i).run P w=.ok () w'/\Jo w w' b (H8 cs (o+i) vs) e
 |[],w,cs,i,h,_,_=>⟨w,by simp[storeCells,pure],by simpa [H8]using Jo.refl h⟩
 |v::vs,w,cs,i,h,k,d=>by
  simp only[bq]at k;have f:w.cell? ((⟨b,o,none⟩:Addr).add i)=some (cs[o+i]'(by omega)):=by
   rw[H7,eI h];simp
  have g:w.frozen? ((⟨b,o,none⟩:Addr).add i)=false:=by
   rw[H7];simp[World.frozen?,h]
  have j:=Lj h (o+i) v;obtain⟨w',l,m⟩:=J9 P b o e vs _ _ (i+1) j.here (by simp;omega) (fun v c=>d v (by simp[c]))
  refine⟨w',?_,?_⟩
  .have c:=d v (by simp)
   have a:(⟨b,o,none⟩:Addr).add i=⟨b,o+i,none⟩:=H7 b o i;rw[a]at f g;cases v<;>first
    |(simp[one]at c;done)
    |(simp only[storeCells,bind,Sem.bind,store,Sem.run,a,f,g];exact l)
  .have:=j.trans m;simpa [H8,fe]using this
end Go.Abs
end
section
namespace Go.Abs
def iK(f:TypeId->Option Ty):List Field->Nat->Option Ty
 |[],_=>none
 |a::r,o=>match r with
  |[]=>if a.offset=o then f a.type else none
  |_::_=>if a.offset=o then(match f a.type with
   |some x=>match iK f r (o+x.size)with
    |some y=>some (.pair x y)
    |none=>none
   |none=>none)else none
def Z5(P:Program):Nat->TypeId->Option Ty
 |0,_=>none
 |d+1,t=>
  match P.info? t,P.underlying t with
  |some i,some (.int k)=>if i.size=1 then some (.int k)else none
  |some i,some .bool=>if i.size=1 then some .bool else none
  |some i,some (.slice e)=>if i.size=1 then(match Z5 P d e with|some a=>some (.slice a)|none=>none)else none
  |some i,some (.struct b)=>match iK (Z5 P d) b.toList 0 with
   |some a=>if i.size=a.size then some a else none
   |none=>none
  |_,_=>none
abbrev Z5.fields(P:Program)(d:Nat)(a:List Field)(o:Nat):Option Ty:=iK (Z5 P d) a o
def Om(P:Program)(t:TypeId):Option Ty:=
 match P.underlying t with
 |some (.slice e)=>Z5 P 8 e
 |_=>none
def j9(P:Program)(t:TypeId):Nat:=((P.info? t).map (·.size)).getD 0
def R0(P:Program)(t:TypeId):Bool:=
 match P.underlying t with
 |some (.struct _)=>true
 |some (.array _ _)=>true
 |_=>false
def lC(P:Program)(t:TypeId)(i:Nat):Option (Nat×Nat):=
 match P.underlying t with
 |some (.struct a)=>match a[i]? with
  |some f=>if j9 P f.type=0 then none else some (f.offset,j9 P f.type)
  |none=>none
 |_=>none
def u9:List (Nat×a7)->Nat->a7
 |[],_=>.S6
 |(i,v)::r,t=>if i=t then v else u9 r t
abbrev Mem:=List (Nat×(c7×p0))
def l9:Mem->Nat->Option (c7×p0)
 |[],_=>none
 |(i,x)::r,t=>if i=t then some x else l9 r t
inductive E8 where
 |normal
 |exit (id:Nat)
 |ret
 deriving DecidableEq
structure j7 where
 n:Nat
 tmps:List (Nat×a7)
 nx:Nat
 M:Mem
 gh:List a7
 o7:Option E8
structure Q where
 val:a7
 new:List c7
 use:List (Nat×p0)
 reads:List Nat
def Q.pure(v:a7):Q:=⟨v,[],[],[]⟩
def Q.read(v:a7)(r:Nat):Q:=⟨v,[],[],[r]⟩
def dI(m:Mm)(u:Nat×p0):Mm:=
 match m u.1 with
 |some (c,_)=>N9 m u.1 (c,u.2)
 |none=>m
def y8:Mm->List (Nat×p0)->Mm
 |m,[]=>m
 |m,u::a=>y8 (dI m u) a
def G4:Mm->Nat->List c7->Mm
 |m,_,[]=>m
 |m,n,c::cs=>G4 (N9 m n (c,.own)) (n+1) cs
def Q.mm(q:Q)(n:Nat)(m:Mm):Mm:=G4 (y8 m q.use) n q.new
def Vj(M:Mem)(u:Nat×p0):Mem:=
 match l9 M u.1 with
 |some (c,_)=>(u.1,(c,u.2))::M
 |none=>M
def qE:Mem->List (Nat×p0)->Mem
 |M,[]=>M
 |M,u::a=>qE (Vj M u) a
def Vk:Mem->Nat->List c7->Mem
 |M,_,[]=>M
 |M,n,c::cs=>Vk ((n,(c,.own))::M) (n+1) cs
def Q.ml(q:Q)(n:Nat)(M:Mem):Mem:=Vk (qE M q.use) n q.new
def gE:Lh where
 P:=fun _ v=>v=.pointer none
 mono:=fun _ _ _ _ h=>h
 cell:=fun _ _ h=>.inr h
def sS:Value->a7
 |.pointer none=>.s6 gE
 |.bool b=>.bool b
 |.int k n=>.int k n
 |.slice none 0 0=>.Y4
 |.nilFunc=>.V6
 |_=>.S6
def Jp:Value->a7
 |.agg cs=>.agg (cs.toList.map sS)
 |v=>sS v
def Hg(a:List (Nat×a7)):Operand->a7
 |.tmp t=>u9 a t
 |.const v=>Jp v
 |.global _=>.S6
 |.func f=>.fn (.func f) [] []
def br(b:Bool)(p q:Prop):Prop:=
 match b with
 |true=>p
 |false=>q
theorem DZ(b:Bool)(p q:Prop):br b p q↔(b=true->p)/\(b=false->q):=by cases b<;>simp[br]
theorem P9{b:Bool}{p q:Prop}(h:b=true->p)(a:b=false->q):br b p q:=(DZ b p q).2 ⟨h,a⟩
def dedup:List Nat->List Nat
 |[]=>[]
 |a::l=>if(dedup l).contains a then dedup l else a::dedup l
def Z6(f:a7->Option (a7×List (Nat×p0))):List a7->Option (List a7×List (Nat×p0))
 |[]=>some ([],[])
 |v::vs=>match f v with
  |some (v',b)=>match Z6 f vs with
   |some (a,c)=>some (v'::a,b++c)
   |none=>none
  |none=>none
def view(M:Mm):Nat->a7->Option (a7×List (Nat×p0))
 |0,_=>none
 |d+1,v=>
  match v with
  |.S6=>some (.S6,[])
  |.bool b=>some (.bool b,[])
  |.int k n=>some (.int k n,[])
  |.R2 t=>some (.imm t [] true,[])
  |.imm t l f=>some (.imm t l f,[])
  |.S3 t l=>some (.S3 t l,[])
  |.V6=>some (.V6,[])
  |.s6 p=>some (.s6 p,[])
  |.B9 r=>some (.B9 r,[])
  |.O1 r f=>match M r with
   |some (.sl t l,g)=>if g=.dead then none else some (.imm t l f,[(r,g)])
   |_=>none
  |.sub r lo len f=>match M r with
   |some (.sl t l,g)=>if g=.dead then none else some (.imm t ((l.drop lo).take len) f,[(r,g)])
   |_=>none
  |.ptr r off=>match M r with
   |some (.box cells,g)=>if g=.dead then none else match Z6 (view M d) (cells.drop off)with
    |some (cs,c)=>some (.G7 cs,(r,g)::c)
    |none=>none
   |_=>none
  |.G7 cells=>match Z6 (view M d) cells with
   |some (cs,c)=>some (.G7 cs,c)
   |none=>none
  |.agg cells=>match Z6 (view M d) cells with
   |some (cs,c)=>some (.agg cs,c)
   |none=>none
  |.M1 cells=>match Z6 (view M d) cells with
   |some (cs,c)=>some (.M1 cs,c)
   |none=>none
  |.fn f a b=>match Z6 (view M d) a with
   |some (e,h)=>match Z6 (view M d) b with
    |some (i,j)=>some (.fn f e i,h++j)
    |none=>none
   |none=>none
  |_=>none
abbrev view.a58(M:Mm)(d:Nat)(vs:List a7):Option (List a7×List (Nat×p0)):=Z6 (view M d) vs
def Ra(M:Mm)(vs:List a7):Option (List a7×List (Nat×p0)):=view.a58 M 6 vs
def J6:List (Nat×p0)->List (Nat×p0)
 |[]=>[]
 |(r,.own)::a=>(r,.X9)::J6 a
 |_::a=>J6 a
def O5:List (Nat×p0)->List Nat
 |[]=>[]
 |(r,_)::a=>r::O5 a
def a7.parts:a7->Option (List a7)
 |.S6=>none
 |.Dc _ _=>none
 |.Y4=>none
 |.S3 _ _=>none
 |.M1 _=>none
 |.agg cells=>some cells
 |v=>some [v]
def typed(P:Program)(t:TypeId):a7->a7
 |.Y4=>match Om P t with
  |some e=>.R2 e
  |none=>(match P.underlying t with
   |some (.slice _)=>.R2 .bool
   |_=>.Y4)
 |v=>v
def a7.one:a7->Bool
 |.S6=>false
 |.Dc _ _=>false
 |.agg _=>false
 |.S3 _ _=>false
 |.M1 _=>false
 |_=>true
def iL:List a7->Bool
 |[]=>true
 |v::vs=>v.one && iL vs
def qF:Ty->List a7
 |.int k=>[.int k 0]
 |.bool=>[.bool false]
 |.slice e=>[.R2 e]
 |.pair a b=>qF a++qF b
def zeroV:Ty->List Value
 |.int k=>[.int k 0]
 |.bool=>[.bool false]
 |.slice _=>[.slice none 0 0]
 |.pair a b=>zeroV a++zeroV b
def xM:List Value->List Value->Bool
 |[],[]=>true
 |.int k n::a,.int k' c::b=>k=k' && n=c && xM a b
 |.bool x::a,.bool y::b=>x==y && xM a b
 |.slice none 0 0::a,.slice none 0 0::b=>xM a b
 |_,_=>false
def bC(P:Program)(t:TypeId)(ty:Ty):Bool:=
 match P.info? t with
 |some i=>match i.zero with
  |some v=>xM v.cells.toList (zeroV ty)
  |none=>false
 |none=>false
def Hh(P:Program)(t:TypeId)(cells:List a7):Option a7:=
 match P.underlying t with
 |none=>none
 |some (.struct _)=>if(P.info? t).isSome && j9 P t<=cells.length then some (.agg (cells.take (j9 P t)))else none
 |some (.array _ _)=>if(P.info? t).isSome && j9 P t<=cells.length then some (.agg (cells.take (j9 P t)))else none
 |some _=>match cells with
  |v::_=>some v
  |[]=>none
def aZ(op:BinOp)(k:IntKind)(x y:Int):Int:=
 match op with
 |.and=>k.wrap (BitVec.ofInt k.bits x &&& BitVec.ofInt k.bits y).toNat
 |.or=>k.wrap (BitVec.ofInt k.bits x|||BitVec.ofInt k.bits y).toNat
 |.xor=>k.wrap (BitVec.ofInt k.bits x^^^BitVec.ofInt k.bits y).toNat
 |.andNot=>k.wrap (BitVec.ofInt k.bits x &&& ~~~ BitVec.ofInt k.bits y).toNat
 |_=>0
def ZV(k:IntKind)(x y:Int):Int:=k.wrap (x*2^ (min y.toNat k.bits))
def AA(k:IntKind)(x y:Int):Int:=x.fdiv (2^ (min y.toNat k.bits))
def eX:List a7->List a7->Option Bool
 |[],[]=>some true
 |[.int k a],[.int k' b]=>if k=k' then some (a==b)else none
 |.int k a::r,.int k' b::s=>if k=k' then(match eX r s with
  |some e=>some (a==b && e)
  |none=>none)else none
 |_,_=>none
def bP(P:Program)(t:TypeId)(n:Nat):Bool:=
 match P.underlying t with
 |some (.struct fs)=>fs.size=n && !P.stoodInHeld t && !P.eqGuardType P.depth t && go fs.toList 0
 |_=>false
where
 go:List Field->Nat->Bool
  |[],_=>true
  |f::r,i=>f.offset=i && f.name≠ "_" && (match P.underlying f.type with|some (.int _)=>true|_=>false) && go r (i+1)
def Jq(P:Program)(t:TypeId)(n:Nat):Bool:=
 match P.underlying t with
 |some (.array a e)=>a=n && !P.eqGuardType P.depth t && j9 P e=1 && (match P.underlying e with|some (.int _)=>true|_=>false)
 |_=>false
def xN:(t:Ty)->List t.den->Option (List Int)
 |.int _,l=>some l
 |_,_=>none
def eY(P:Program)(t:TypeId):Nat:=
 match P.underlying t with
 |some (.array n _)=>n
 |_=>0
def dJ(k:IntKind)(n:Int):Prop:=k.wrap n=n
def V3(P:Program)(op:BinOp)(t:TypeId)(x y:a7)(k:a7->Prop):Prop:=
 match x,y with
 |.int c a,.int kb b=>
  match op with
  |.shl=>0<=b/\k (.int c (ZV c a b))
  |.shr=>0<=b/\k (.int c (AA c a b))
  |_=>if c=kb then(match op with
   |.add=>dJ c (a+b)/\k (.int c (a+b))
   |.sub=>dJ c (a- b)/\k (.int c (a- b))
   |.mul=>dJ c (a*b)/\k (.int c (a*b))
   |.quo=>(0<=a/\0<b/\dJ c (a/b))/\k (.int c (a/b))
   |.rem=>(0<=a/\0<b)/\k (.int c (a % b))
   |.and=>k (.int c (aZ .and c a b))
   |.or=>k (.int c (aZ .or c a b))
   |.xor=>k (.int c (aZ .xor c a b))
   |.andNot=>k (.int c (aZ .andNot c a b))
   |.eql=>k (.bool (a==b))
   |.neq=>k (.bool (a !=b))
   |.lss=>k (.bool (decide (a<b)))
   |.leq=>k (.bool (decide (a<=b)))
   |.gtr=>k (.bool (decide (a>b)))
   |.geq=>k (.bool (decide (a>=b)))
   |_=>False)else False
 |.bool a,.bool b=>match P.underlying t with
  |some .bool=>(match op with
   |.eql=>k (.bool (a==b))
   |.neq=>k (.bool (!(a==b)))
   |_=>False)
  |_=>False
 |.agg xs,.agg ys=>if bP P t xs.length then(match eX xs ys with
  |some e=>(match op with
   |.eql=>k (.bool e)
   |.neq=>k (.bool (!e))
   |_=>False)
  |none=>False)else False
 |.S3 f g,.S3 ty h=>if Jq P t (eY P t)/\f=ty then(match xN f g,xN ty h with
  |some l,some d=>l.length=eY P t/\d.length=eY P t/\(match op with
   |.eql=>k (.bool (l==d))
   |.neq=>k (.bool (!(l==d)))
   |_=>False)
  |_,_=>False)else False
 |_,_=>False
def Hn(M:Mm)(x:a7)(k:Q->Prop):Prop:=
 match x with
 |.Y4=>k (.pure (.int .i64 0))
 |.R2 _=>k (.pure (.int .i64 0))
 |.imm _ l _=>k (.pure (.int .i64 (l.length:Int)))
 |.O1 r _=>match M r with
  |some (.sl _ l,f)=>if f=.dead then False else k (.read (.int .i64 (l.length:Int)) r)
  |_=>False
 |.sub _ _ len _=>k (.pure (.int .i64 (len:Int)))
 |_=>False
def N6(nx:Nat)(t:Ty)(l:List t.den)(b:Bool)(a:List Nat)(use:List (Nat×p0)):Q:=
 ⟨.O1 nx b,[.sl t l],use,a⟩
def qG(M:Mm)(t:Ty):a7->Option (List t.den×List Nat)
 |.Y4=>some ([],[])
 |.R2 a=>if a=t then some ([],[])else none
 |.imm a l _=>if h:a=t then some (h▸l,[])else none
 |.O1 r _=>match M r with
  |some (.sl a l,f)=>if h:a=t then(if f=.dead then none else some (h▸l,[r]))else none
  |_=>none
 |.sub r lo len _=>match M r with
  |some (.sl a l,f)=>if h:a=t then(if f=.dead then none else some (h▸(l.drop lo).take len,[r]))else none
  |_=>none
 |_=>none
def At:Nat:=1099511627776
def Y9(P:Program)(nx:Nat)(M:Mm)(b:TypeId)(c:TypeId)(x y:a7)(k:Q->Prop):Prop:=
 match P.underlying b,P.underlying c with
 |some (.slice e),some (.slice _)=>if b=c then(match Z5 P 8 e with
  |some t=>if(((P.info? e).map (·.bytes)).getD 0)<=64/\bC P e t then(match qG M t y with
   |some (ys,d)=>(match x with
    |.Y4=>ys.length<=At/\k (N6 nx t ys false d [])
    |.R2 a=>if a=t then ys.length<=At/\k (N6 nx t ys false d [])else False
    |.imm a l true=>if h:a=t then l.length+ys.length<=At/\0<ys.length/\k (N6 nx t ((h▸l)++ys) false d [])else False
    |.O1 r _=>(match M r with
     |some (.sl a l,.own)=>if h:a=t then l.length+ys.length<=At/\k (N6 nx t ((h▸l)++ys) false (r::d) [(r,.dead)])else False
     |_=>False)
    |.sub r lo len true=>(match M r with
     |some (.sl a l,f)=>if h:a=t then(if f=.dead then False else len+ys.length<=At/\0<ys.length/\k (N6 nx t ((h▸((l.drop lo).take len))++ys) false (r::d) []))else False
     |_=>False)
    |_=>False)
   |none=>False)else False
  |none=>False)else False
 |_,_=>False
def HN(P:Program)(t:TypeId)(ty:Ty):Bool:=match P.underlying t with
 |some (.array n e)=>Nat.beq (j9 P e) ty.size && Nat.beq (j9 P t) (n*ty.size) && Nat.ble 1 n
 |_=>false
def ZW(P:Program)(t:TypeId)(ty:Ty):Option Nat:=match P.underlying t with
 |some (.array n _)=>if HN P t ty then some n else none
 |_=>none
def eJ(P:Program)(M:Mm)(t:TypeId)(x:a7)(lo d mx:Option a7)(k:Q->Prop):Prop:=
 match lo,d,mx with
 |none,none,none=>(match P.underlying t,x with
  |some (.array n e),.P6 r=>(match M r with
   |some (.sl ty l,f)=>if f=.dead\/j9 P e≠ty.size then False else l.length=n/\k (.read (.O1 r true) r)
   |_=>False)
  |some (.array n e),.P5 r i j=>(match M r with
   |some (.sl ty l,f)=>if f=.dead\/j9 P e≠ty.size then False else(j=0/\i+n<=l.length)/\k (.read (.sub r i n true) r)
   |_=>False)
  |_,_=>False)
 |some (.int .i64 a),none,none=>(match P.underlying t,x with
  |some (.slice e),.imm ty l _=>if j9 P e=ty.size then(0<=a/\a<=(l.length:Int))/\k (.pure (.imm ty (l.drop a.toNat) false))else False
  |some (.slice e),.O1 r _=>(match M r with
   |some (.sl ty l,f)=>if j9 P e=ty.size/\f≠ .dead then(0<=a/\a<=(l.length:Int))/\k (.read (.sub r a.toNat (l.length- a.toNat) false) r)else False
   |_=>False)
  |_,_=>False)
 |none,some (.int .i64 b),none=>(match P.underlying t,x with
  |some (.slice e),.imm ty l _=>if j9 P e=ty.size then(0<=b/\b<=(l.length:Int))/\k (.pure (.imm ty (l.take b.toNat) false))else False
  |some (.slice e),.O1 r _=>(match M r with
   |some (.sl ty l,f)=>if j9 P e=ty.size/\f≠ .dead then(0<=b/\b<=(l.length:Int))/\k (.read (.sub r 0 b.toNat false) r)else False
   |_=>False)
  |_,_=>False)
 |none,some (.int .i64 b),some (.int .i64 c)=>(match P.underlying t,x with
  |some (.slice e),.imm ty l _=>if j9 P e=ty.size then(0<=b/\b<=(l.length:Int)/\c=b)/\k (.pure (.imm ty (l.take b.toNat) true))else False
  |some (.slice e),.O1 r _=>(match M r with
   |some (.sl ty l,f)=>if j9 P e=ty.size/\f≠ .dead then(0<=b/\b<=(l.length:Int)/\c=b)/\k (.read (.sub r 0 b.toNat true) r)else False
   |_=>False)
  |_,_=>False)
 |some (.int .i64 a),some (.int .i64 b),none=>(match P.underlying t,x with
  |some (.slice e),.imm ty l _=>if j9 P e=ty.size then(0<=a/\a<=b/\b<=(l.length:Int))/\k (.pure (.imm ty ((l.drop a.toNat).take (b.toNat- a.toNat)) false))else False
  |some (.slice e),.O1 r _=>(match M r with
   |some (.sl ty l,f)=>if j9 P e=ty.size/\f≠ .dead then(0<=a/\a<=b/\b<=(l.length:Int))/\k (.read (.sub r a.toNat (b.toNat- a.toNat) false) r)else False
   |_=>False)
  |_,_=>False)
 |_,_,_=>False
def I6(P:Program)(M:Mm)(t:TypeId)(x i:a7)(k:Q->Prop):Prop:=
 match i with
 |.int _ a=>(match P.underlying t with
  |some (.slice e)=>(match x with
   |.imm ty l _=>if j9 P e=ty.size then ∃h:0<=a/\a.toNat<l.length,k (.pure (.G7 (ty.cells (l[a.toNat]'h.2))))else False
   |.O1 r _=>(match M r with
    |some (.sl ty l,f)=>if j9 P e=ty.size/\f≠ .dead then(0<=a/\a.toNat<l.length)/\k (.read (.P5 r a.toNat 0) r)else False
    |_=>False)
   |.sub r lo len _=>(match M r with
    |some (.sl ty _,f)=>if j9 P e=ty.size/\f≠ .dead then(0<=a/\a.toNat<len)/\k (.read (.P5 r (lo+a.toNat) 0) r)
     else(match P.underlying e with
         |some (.array n _)=>if HN P e ty/\f≠ .dead then(lo=0/\0<=a/\a.toNat<len)/\k (.read (.P5 r (a.toNat*n) 0) r)else False
         |_=>False)
    |_=>False)
   |_=>False)
  |some (.array n e)=>(match x with
   |.P5 r i j=>(match M r with
    |some (.sl ty _,f)=>if j9 P e=ty.size/\f≠ .dead/\j=0 then(0<=a/\a.toNat<n)/\k (.read (.P5 r (i+a.toNat) 0) r)else False
    |_=>False)
   |.P6 r=>(match M r with
    |some (.sl ty _,f)=>if j9 P e=ty.size/\f≠ .dead then(0<=a/\a.toNat<n)/\k (.read (.P5 r a.toNat 0) r)else False
    |_=>False)
   |.ptr r off=>(match M r with
    |some (.bx p ty b _ _,f)=>if(j9 P e=ty.size/\f≠ .dead)/\off=p.length/\b=n then(0<=a/\a.toNat<n)/\k (.read (.P5 r a.toNat off) r)else False
    |_=>False)
   |_=>False)
  |_=>False)
 |_=>False
def Vl:List a7->Bool
 |[]=>false
 |.O1 _ _::_=>true
 |.sub _ _ _ _::_=>true
 |_::l=>Vl l
def iM(M:Mm)(r:Nat)(v:a7)(k:Q->Prop):Prop:=
 match v with
 |.agg cs=>if Vl cs then(match view M 6 (.agg cs)with
  |some (v',a)=>k ⟨v',[],J6 a,r::O5 a⟩
  |none=>False)else k (.read (.agg cs) r)
 |v=>k (.read v r)
def a3p(P:Program)(T:TypeId)(p:List a7)(t:Ty)(n:Nat)(l:List t.den)(q:List a7)(off:Nat):Option a7:=
 if off<p.length then Hh P T (p.drop off)
 else if off=p.length then(match P.underlying T with
  |some (.array _ _)=>if n*t.size=j9 P T then some (.S3 t l)else none
  |_=>none)
 else if p.length+n*t.size<=off then Hh P T (q.drop (off- (p.length+n*t.size)))else none
def gM(P:Program)(M:Mm)(t:TypeId)(x:a7)(k:Q->Prop):Prop:=
 match x with
 |.ptr r off=>(match M r with
  |some (.box cells,f)=>if f=.dead then False else(match Hh P t (cells.drop off)with
   |some v=>iM M r v k
   |none=>False)
  |some (.bx p ty n l q,f)=>if f=.dead then False else(match a3p P t p ty n l q off with
   |some v=>iM M r v k
   |none=>False)
  |_=>False)
 |.G7 cells=>(match Hh P t cells with
  |some v=>k (.pure v)
  |none=>False)
 |.P5 r i j=>(match M r with
  |some (.sl ty l,f)=>if f=.dead then False else(match ZW P t ty with
   |some n=>j=0/\i+n<=l.length/\k (.read (.S3 ty ((l.drop i).take n)) r)
   |none=>∃h:i<l.length,(match Hh P t ((ty.cells l[i]).drop j)with
    |some v=>k (.read v r)
    |none=>False))
  |some (.bx p ty n l q,f)=>if f=.dead\/(j<p.length\/p.length+ty.size<j)then False else ∃h:i<l.length,(match Hh P t ((ty.cells l[i]).drop (j- p.length))with
   |some v=>k (.read v r)
   |none=>False)
  |_=>False)
 |.P6 r=>(match M r,P.underlying t with
  |some (.sl ty l,f),some (.array _ _)=>if f=.dead then False else l.length*ty.size=j9 P t/\k (.read (.S3 ty l) r)
  |_,_=>False)
 |_=>False
def AB(t:Ty):List (List a7)->Option (List t.den)
 |[]=>some []
 |As::r=>match t.whole As,AB t r with
  |some x,some xs=>some (x::xs)
  |_,_=>none
def bD(P:Program)(M:Mm)(ev:Operand->a7)(e:TypeId):Nat->List (Nat×Operand)->Option (List (List a7)×List (Nat×p0))
 |_,[]=>some ([],[])
 |i,(j,o)::r=>if i=j then(match view M 6 (typed P e (ev o))with
  |some (v,b)=>(match v.parts,bD P M ev e (i+1) r with
   |some a,some (rest,c)=>some (a::rest,b++c)
   |_,_=>none)
  |none=>none)else none
def gN(P:Program)(ev:Operand->a7)(t:TypeId):List a7->List (Nat×Operand)->Option (List a7)
 |cells,[]=>some cells
 |cells,(i,o)::r=>match lC P t i with
  |some (off,size)=>(match(typed P (HP P t i) (ev o)).parts with
   |some As=>if As.length=size/\off+size<=cells.length then gN P ev t (cells.take off++As++cells.drop (off+size)) r else none
   |none=>none)
  |none=>none
where
 HP (P:Program) (t:TypeId) (i:Nat):TypeId:=
  match P.underlying t with
  |some (.struct fs)=>match fs[i]? with
   |some f=>f.type
   |none=>0
  |_=>0
def Dt(P:Program):List Field->Bool
 |[]=>true
 |f::a=>(P.info? f.type).isSome && Dt P a
def vP(P:Program)(ev:Operand->a7)(t:TypeId)(ps:List (Nat×Operand))(k:a7->Prop):Prop:=
 match P.info? t,P.underlying t with
 |some i,some (.struct a)=>(match i.zero with
  |some v=>if Dt P a.toList then(match gN P ev t (v.cells.toList.map sS) ps with
   |some cells=>k (.agg cells)
   |none=>False)else False
  |none=>False)
 |_,_=>False
def dK(f:Int->Int->Int)(k:IntKind):Int->List a7->Option Int
 |a,[]=>some a
 |a,.int k' b::r=>if k=k' then dK f k (f a b) r else none
 |_,_=>none
def cC(c:Int->Int)(o:Obj):Prop:=
 ∃es b,o=.map es b/\∀e∈es.toList,∃a,e.key=.agg #[.int .i64 a]/\e.val=.int .i64 (c a)
def Ea(spec:Int->Int):Lh where
 P:=fun K v=>∃b,v=.map (some b)/\K.inv b=some (cC spec)
 mono:=fun _ _ _ h ⟨b,h1,h2⟩=>⟨b,h1,h.inv _ _ h2⟩
 cell:=fun _ _ ⟨b,h1,_⟩=>.inl ⟨some b,h1⟩
def Vm(P:Program):List Field->Bool
 |[f]=>decide (f.offset=0) && decide (f.name≠ "_") && (match P.underlying f.type with
  |some (.int _)=>true
  |_=>false)
 |_=>false
def uS(P:Program)(t:TypeId):Bool:=
 match P.underlying t with
 |some (.map kt a)=>bP P kt 1 && (match P.underlying kt with
  |some (.struct b)=>Vm P b.toList
  |_=>false) && (match P.info? a with
  |some i=>(match i.zero with
   |some (.int .i64 0)=>true
   |_=>false)
  |none=>false)
 |_=>false
def b3A(P:Program)(t:TypeId)(x i:a7)(d:Bool)(k:a7->Prop):Prop:=
 match x,i with
 |.s6 p,.agg [.int .i64 a]=>if uS P t && d then ∃b,p=Ea b/\∀c:Bool,k (.M1 [.int .i64 (cond c (b a) 0),.bool c])else False
 |_,_=>False
def SP(a b:Int):Bool:=a==b
def a9U(a b:Bool):Bool:=a==b
def Ty.beq:(t:Ty)->t.den->t.den->Bool
 |.int _,a,b=>SP a b
 |.bool,a,b=>a9U a b
 |.slice _,_,_=>false
 |.pair s t,a,b=>s.beq a.1 b.1 && t.beq a.2 b.2
def Vn(P:Program)(k:TypeId)(ty:Ty):Bool:=
 match P.underlying k with
 |some (.struct _)=>bP P k ty.size
 |some (.int _)=>true
 |_=>false
def pT(P:Program)(t:TypeId):Option MK:=
 match P.underlying t with
 |some (.map k v)=>(match Z5 P 8 k,P.underlying v,P.info? v with
  |some ty,some (.int a),some i=>(match i.zero with
   |some (.int b z)=>if ty.ints && decide (b=a) && decide (z=0) && Vn P k ty then some ⟨R0 P k,ty,a⟩else none
   |_=>none)
  |_,_,_=>none)
 |_=>none
def MK.ZD(mk:MK)(v:a7):Option mk.kt.den:=
 match mk.agg with
 |true=>(match v with
  |.agg cs=>mk.kt.whole cs
  |_=>none)
 |false=>mk.kt.whole [v]
def MK.I1(mk:MK)(x:mk.kt.den):a7:=
 match mk.agg with
 |true=>.agg (mk.kt.cells x)
 |false=>(mk.kt.cells x).headD .S6
abbrev I2(t:Ty):Type:=List (Nat×t.den×Int)
def qH(t:Ty)(l:I2 t)(x:t.den):Bool:=l.any fun e=>t.beq x e.2.1
def lD(t:Ty):I2 t->t.den->Int
 |[],_=>0
 |e::r,x=>if t.beq x e.2.1 then e.2.2 else lD t r x
def BY(t:Ty)(x:t.den)(v:Int):I2 t->I2 t
 |[]=>[]
 |e::r=>if t.beq x e.2.1 then(e.1,x,v)::r else e::BY t x v r
def qI(t:Ty)(l:I2 t)(clk:Nat)(x:t.den)(v:Int):I2 t:=if qH t l x then BY t x v l else l++ [(clk,x,v)]
def uG(t:Ty)(l:I2 t)(clk:Nat)(x:t.den):Nat:=if qH t l x then clk else clk+1
def BZ(mk:MK)(l:I2 mk.kt)(x:mk.kt.den)(a:Bool):a7:=
 match a with
 |true=>.M1 [.int mk.kv (lD mk.kt l x),.bool (qH mk.kt l x)]
 |false=>.int mk.kv (lD mk.kt l x)
def lR(t:Ty)(x:t.den):I2 t->I2 t
 |[]=>[]
 |e::r=>if t.beq x e.2.1 then r else e::lR t x r
def mleft(t:Ty)(l:I2 t)(seen:List Nat):I2 t:=l.filter fun e=> !seen.contains e.1
def Jr(P:Program)(t:TypeId):Bool:=
 match P.info? t with
 |some i=>(match i.zero with
  |some (.map none)=>decide (i.size=1)
  |some (.pointer none)=>decide (i.size=1)
  |some .nilFunc=>decide (i.size=1)
  |some (.slice none 0 0)=>decide (i.size=1)
  |_=>false)
 |none=>false
inductive qJ where
 |leaf (v:a7) (cs:List c7)
 |br (b:Bool) (x y:qJ)
def qJ.run:qJ->(a7->List c7->Prop)->Prop
 |.leaf v cs,k=>k v cs
 |.br b x y,k=>Abs.br b (x.run k) (y.run k)
structure X4 where
 pre:List a7->List c7->Prop
 res:List a7->List c7->qJ
 hand:List Nat
 pure:Bool
def X4.run(c:X4)(a:List a7)(cs:List c7)(k:a7->List c7->Prop):Prop:=
 c.pre a cs/\(c.res a cs).run k
theorem qJ.det(t:qJ):∃v cs,∀k:a7->List c7->Prop,t.run k↔k v cs:=by
 induction t with
 |leaf v cs=>exact⟨v,cs,fun k=>se⟩
 |br b x y a c=>
  cases b with
  |true=>exact a
  |false=>exact c
abbrev Env:=FuncId->Option X4
mutual
def a7.flat:a7->Bool
 |.bool _=>true
 |.int _ _=>true
 |.O1 _ _=>true
 |.B9 _=>true
 |.agg cs=>HQ cs
 |.M1 cs=>HQ cs
 |_=>false
def HQ:List a7->Bool
 |[]=>true
 |v::vs=>v.flat && HQ vs
end
def Ty.flat:Ty->Bool
 |.int _=>true
 |.bool=>true
 |.slice _=>false
 |.pair a b=>a.flat && b.flat
def V7:List c7->Bool
 |[]=>true
 |.sl t _::r=>t.flat && V7 r
 |.box cs::r=>HQ cs && V7 r
 |.mp _ _ _::r=>V7 r
 |.it _ _ _ _::_=>false
 |.bx _ _ _ _ _::_=>false
 |.z5 _::_=>false
 |.any::_=>false
mutual
def a7.V4(ρ:Nat->Nat):a7->a7
 |.O1 r f=>.O1 (ρ r) f
 |.sub r lo len f=>.sub (ρ r) lo len f
 |.ptr r o=>.ptr (ρ r) o
 |.P5 r i o=>.P5 (ρ r) i o
 |.P6 r=>.P6 (ρ r)
 |.B9 r=>.B9 (ρ r)
 |.G7 cs=>.G7 (fH ρ cs)
 |.agg cs=>.agg (fH ρ cs)
 |.M1 cs=>.M1 (fH ρ cs)
 |.fn f a b=>.fn f (fH ρ a) (fH ρ b)
 |.Dc _ _=>.S6
 |v=>v
def fH(ρ:Nat->Nat):List a7->List a7
 |[]=>[]
 |v::vs=>v.V4 ρ::fH ρ vs
end
def c7.V4(ρ:Nat->Nat):c7->c7
 |.box cs=>.box (fH ρ cs)
 |.bx p t n l q=>.bx (fH ρ p) t n l (fH ρ q)
 |.sl t l=>.sl t l
 |.mp mk l clk=>.mp mk l clk
 |.it m a seen b=>.it (m.map ρ) a seen b
 |.z5 _=>.any
 |.any=>.any
def cR(ρ:Nat->Nat):List c7->List c7
 |[]=>[]
 |c::cs=>c.V4 ρ::cR ρ cs
abbrev a7.shift(n:Nat)(v:a7):a7:=v.V4 (· +n)
abbrev c7.shift(n:Nat)(c:c7):c7:=c.V4 (· +n)
abbrev AD(n:Nat)(cs:List c7):List c7:=cR (· +n) cs
mutual
def a7.Rb:a7->Bool
 |.B9 _=>false
 |.O1 _ _=>false
 |.sub _ _ _ _=>false
 |.ptr _ _=>false
 |.P5 _ _ _=>false
 |.P6 _=>false
 |.G7 cs=>Js cs
 |.agg cs=>Js cs
 |.M1 cs=>Js cs
 |.fn _ a b=>Js a && Js b
 |.Dc _ _=>false
 |_=>true
def Js:List a7->Bool
 |[]=>true
 |v::vs=>v.Rb && Js vs
end
def I7(P:Program):List TypeId->List a7->List a7
 |t::a,v::vs=>typed P t v::I7 P a vs
 |_,vs=>vs
def refs:Nat->a7->List Nat
 |0,_=>[]
 |d+1,v=>match v with
  |.O1 r _=>[r]
  |.sub r _ _ _=>[r]
  |.ptr r _=>[r]
  |.P5 r _ _=>[r]
  |.P6 r=>[r]
  |.B9 r=>[r]
  |.G7 cs=>(cs.map (refs d)).flatten
  |.agg cs=>(cs.map (refs d)).flatten
  |.M1 cs=>(cs.map (refs d)).flatten
  |.fn _ a b=>(a.map (refs d)).flatten++(b.map (refs d)).flatten
  |_=>[]
def uniq:List Nat->List Nat->List Nat
 |[],b=>b
 |a::l,b=>if b.contains a then uniq l b else uniq l (b++ [a])
def Rc:List Nat->Bool
 |[n]=>Nat.beq n 9000
 |_=>false
def uT(Γ:Env)(nx:Nat)(M:Mm)(f:FuncId)(args:List a7)(k:Q->Prop):Prop:=
 match Ra M args,Γ f with
 |some (vs,a),some c=>if Js vs=true/\(c.hand=[]\/Rc c.hand=true)then c.run vs [] (fun v new=>k ⟨v.shift nx,AD nx new,if v.flat && V7 new then []else J6 a,O5 a⟩)else False
 |_,_=>False
def Vo(P:Program)(f:Field):Option (Nat×IntKind×Nat):=
 match P.underlying f.type with
 |some (.array n e)=>(match P.underlying e with
  |some (.int k)=>some (f.offset,k,n)
  |_=>none)
 |_=>none
def bxT(P:Program)(t:TypeId):Option (Nat×IntKind×Nat):=
 match P.underlying t with
 |some (.struct a)=>(match a.toList.filterMap (Vo P)with
  |[x]=>some x
  |_=>none)
 |_=>none
def Ll(k:IntKind):List a7->Option (List Int)
 |[]=>some []
 |v::vs=>match v,Ll k vs with
  |.int k' a,some l=>if k'=k then some (a::l)else none
  |_,_=>none
def xO(P:Program)(a:List Field):Nat->List a7->List a7
 |_,[]=>[]
 |o,v::vs=>(match a.find? (fun f=>Nat.beq f.offset o)with
  |some f=>typed P f.type v
  |none=>v)::xO P a (o+1) vs
def ZX(P:Program)(t:TypeId):List Field:=match P.underlying t with
 |some (.struct a)=>a.toList
 |_=>[]
def Vp(P:Program)(e:TypeId)(cells:List a7):c7:=
 match bxT P e with
 |some (p,k,n)=>(match Ll k ((cells.drop p).take n)with
  |some l=>if l.length=n then .bx (cells.take p) (.int k) n l (xO P (ZX P e) (p+n) (cells.drop (p+n)))else .box cells
  |none=>.box cells)
 |none=>.box cells
def Q0(Γ:Env)(P:Program)(o:Oper)(ev:Operand->a7)(nx:Nat)(M:Mm)(k:Q->Prop):Prop:=
 match o.op with
 |.move x=>HS x
 |.assign x=>HS x
 |.pick c a b=>(match ev c with
  |.bool t=>br t (k (.pure (ev a))) (k (.pure (ev b)))
  |_=>False)
 |.alloc e=>(match P.underlying e with
  |some (.array n a)=>(match Z5 P 8 a with
   |some t=>if aH P e t n then k ⟨.P6 nx,[.sl t (List.replicate n t.zero)],[],[]⟩else False
   |none=>False)
  |_=>(match Z5 P 8 e with
   |some t=>if bC P e t then k ⟨.ptr nx 0,[.box (qF t)],[],[]⟩else False
   |none=>if Jr P e then k ⟨.ptr nx 0,[.box [.S6]],[],[]⟩else False))
 |.box e x=>(match(typed P e (ev x)).parts with
  |some cells=>k ⟨.ptr nx 0,[Vp P e cells],[],[]⟩
  |none=>(match ev x with
   |.S3 ty l=>l.length<=16777216/\k ⟨.P6 nx,[.sl ty l],[],[]⟩
   |_=>False))
 |.build t ps=>(match P.underlying t with
  |some (.array n e)=>(match Z5 P 8 e with
   |some ty=>if aH P t ty n/\ps.toList.length=0 then k (.pure (.S3 ty (List.replicate n ty.zero)))else False
   |none=>False)
  |_=>(match Z5 P 8 t with
  |some ty=>if bC P t ty && R0 P t then(match gN P ev t (qF ty) ps.toList with
   |some cells=>k (.pure (.agg cells))
   |none=>False)else False
  |none=>vP P ev t ps.toList (fun v=>k (.pure v))))
 |.buildSlice t n ps=>(match P.underlying t with
  |some (.slice e)=>(match Z5 P 8 e with
   |some ty=>if bC P e ty/\ps.size=n/\n*ty.size<=16777216 then(match bD P M ev e 0 ps.toList with
    |some (cells,rs)=>(match AB ty cells with
     |some l=>k (N6 nx ty l true (O5 rs) (J6 rs))
     |none=>False)
    |none=>False)else False
   |none=>False)
  |_=>False)
 |.load t a=>gM P M t (ev a) k
 |.nilCheck x=>(match ev x with
  |.ptr r i=>k (.pure (.ptr r i))
  |.G7 cs=>k (.pure (.G7 cs))
  |.P6 r=>k (.pure (.P6 r))
  |.fn (.func f) a b=>k (.pure (.fn (.func f) a b))
  |_=>False)
 |.binOp op t x y _=>V3 P op t (ev x) (ev y) (fun v=>k (.pure v))
 |.unOp op _ x=>(match op,ev x with
  |.not,.bool b=>k (.pure (.bool (!b)))
  |.neg,.int kd n=>dJ kd (-n)/\k (.pure (.int kd (-n)))
  |_,_=>False)
 |.convert src dst x=>(match P.underlying src,P.underlying dst,ev x with
  |some _,some (.int kd),.int _ n=>dJ kd n/\k (.pure (.int kd n))
  |_,_,_=>False)
 |.makeMap t r=>if uS P t && r.isNone then ∃spec,k (.pure (.s6 (Ea spec)))else(match r,pT P t with
  |none,some mk=>k ⟨.B9 nx,[.mp mk [] 0],[],[]⟩
  |_,_=>False)
 |.lookup t x i ck=>(match ev x with
  |.B9 r=>(match M r with
   |some (.mp mk l _,f)=>if pT P t=some mk/\f≠ .dead then(match mk.ZD (ev i)with
    |some key=>k (.read (BZ mk l key ck) r)
    |none=>False)else False
   |_=>False)
  |_=>False)
 |.makeFunc fn first cap=>k (.pure (.fn fn (first.toList.map ev) (cap.toList.map ev)))
 |.makeSlice t l c=>(match P.underlying t,ev l,ev c with
  |some (.slice e),.int .i64 a,.int .i64 b=>(match Z5 P 8 e with
   |some ty=>if bC P e ty/\(((P.info? e).map (·.bytes)).getD 0)<=64 then(0<=a/\a=b/\a<=(At:Int))/\k (N6 nx ty (List.replicate a.toNat ty.zero) true [] [])else False
   |none=>(match P.underlying e with
    |some (.array n e')=>(match Z5 P 8 e' with
     |some ty=>if(HN P e ty/\aH P e ty n)/\(((P.info? e).map (·.bytes)).getD 0)<=65536 then(0<=a/\a=b/\a<=1048576)/\k ⟨.sub nx 0 a.toNat true,[.sl ty (List.replicate (a.toNat*n) ty.zero)],[],[]⟩else False
     |none=>False)
    |_=>False))
  |_,_,_=>False)
 |.slice t x lo hi mx=>eJ P M t (ev x) (lo.map ev) (hi.map ev) (mx.map ev) k
 |.fieldAddr s x f=>(match lC P s f,ev x with
  |some (off,_),.ptr r o=>k (.pure (.ptr r (o+off)))
  |some (off,_),.G7 cs=>k (.pure (.G7 (cs.drop off)))
  |some (off,_),.P5 r i j=>k (.pure (.P5 r i (j+off)))
  |_,_=>False)
 |.field s x f=>(match lC P s f,ev x with
  |some (off,_),.agg cs=>(match Hh P (gN.HP P s f) (cs.drop off)with
   |some v=>k (.pure v)
   |none=>False)
  |_,_=>False)
 |.indexAddr t x i=>I6 P M t (ev x) (ev i) k
 |.index t x i=>(match P.underlying t,ev x,ev i with
  |some (.array n e),.S3 ty l,.int _ a=>if j9 P e=ty.size then ∃h:0<=a/\a.toNat<l.length,a.toNat<n/\l.length=n/\(match Hh P e (ty.cells (l[a.toNat]'h.2))with
   |some v=>k (.pure v)
   |none=>False)else False
  |_,_,_=>False)
 |.extract x i=>(match ev x with
  |.M1 vs=>(match vs[i]? with
   |some v=>k (.pure v)
   |none=>False)
  |_=>False)
 |.call c=>(match c.callee with
  |.builtin .len=>(match c.args.toList,c.argTypes.toList with
   |[x],[t]=>(match P.underlying t with
    |some (.slice _)=>Hn M (ev x) k
    |_=>False)
   |_,_=>False)
  |.builtin .append=>(match c.args.toList,c.argTypes.toList with
   |[x,y],[t,u]=>Y9 P nx M t u (ev x) (ev y) k
   |_,_=>False)
  |.builtin .max=>(match c.args.toList.map ev with
   |.int kd a::r=>(match dK (fun x y=>if y>x then y else x) kd a r with
    |some b=>k (.pure (.int kd b))
    |none=>False)
   |_=>False)
  |.builtin .min=>(match c.args.toList.map ev with
   |.int kd a::r=>(match dK (fun x y=>if y<x then y else x) kd a r with
    |some b=>k (.pure (.int kd b))
    |none=>False)
   |_=>False)
  |.value g=>(match ev g with
   |.fn (.func f) first cap=>uT Γ nx M f (first++I7 P c.argTypes.toList (c.args.toList.map ev)++cap) k
   |_=>False)
  |_=>False)
 |_=>False
where
 HS (x:Operand):Prop:=match ev x with
  |.Y4=>(match Om P o.type with
   |some t=>k ⟨.O1 nx false,[.sl t []],[],[]⟩
   |none=>k (.pure .Y4))
  |v=>k (.pure v)
 aH (P:Program) (e:TypeId) (t:Ty) (n:Nat):Bool:=
  match P.info? e with
  |some i=>match i.zero with
   |some v=>Nat.ble n 16777216 && xM v.cells.toList ((List.replicate n (zeroV t)).flatten)
   |none=>false
  |none=>false
structure W where
 set:List (Nat×(c7×p0))
 reads:List Nat
 val:a7
def iN:Mm->List (Nat×(c7×p0))->Mm
 |m,[]=>m
 |m,(r,x)::a=>iN (N9 m r x) a
def SQ:Mem->List (Nat×(c7×p0))->Mem
 |m,[]=>m
 |m,u::a=>SQ (u::m) a
def Vq{α:Type}(a:α)(f:α->Prop):Prop:=∀x,x=a->f x
theorem AF{α:Type}(a:α)(f:α->Prop):Vq a f↔f a:=⟨fun h=>h a rfl,fun h x e=>e▸h⟩
def ZY(P:Program)(ev:Operand->a7)(c:Call)(k:W->Prop)(b:Builtin):Prop:=
 match b with
 |.delete=>(match c.args.toList,c.argTypes.toList with
  |[x,y],[t,_]=>(match ev x,ev y with
   |.s6 p,.agg [.int .i64 _]=>if uS P t then(∃a,p=Ea a)/\k ⟨[],[],.S6⟩else False
   |_,_=>False)
  |_,_=>False)
 |_=>False
def On(p:List a7)(ty:Ty)(n:Nat)(l:List ty.den)(q:List a7)(off:Nat)(xs:List a7)(k:c7->Prop):Prop:=
 if off+xs.length<=p.length then k (.bx (p.take off++xs++p.drop (off+xs.length)) ty n l q)
 else if p.length+n*ty.size<=off/\off- (p.length+n*ty.size)+xs.length<=q.length then k (.bx p ty n l (q.take (off- (p.length+n*ty.size))++xs++q.drop (off- (p.length+n*ty.size)+xs.length)))else False
def nN(P:Program)(o:Oper)(ev:Operand->a7)(M:Mm)(k:W->Prop):Prop:=
 match o.op with
 |.store t a x=>(match ev a with
  |.P6 r=>(match M r,ev x with
   |some (.sl f l,.own),.S3 ty g=>if h:ty=f then g.length=l.length/\g.length*ty.size=j9 P t/\0<l.length/\k ⟨[(r,(.sl f (h▸g),.own))],[r],.S6⟩else False
   |_,_=>False)
  |.ptr r off=>(match M r,(typed P t (ev x)).parts with
   |some (.box cells,.own),some xs=>if xs.length=j9 P t/\0<xs.length/\off+xs.length<=cells.length/\iL xs=true then
       k ⟨[(r,(.box (cells.take off++xs++cells.drop (off+xs.length)),.own))],[r],.S6⟩else False
   |some (.bx p ty n l q,.own),some xs=>if xs.length=j9 P t/\0<xs.length/\iL xs=true then On p ty n l q off xs (fun c=>k ⟨[(r,(c,.own))],[r],.S6⟩)else False
   |_,_=>False)
  |.P5 r i j=>(match M r,(typed P t (ev x)).parts with
   |some (.sl ty l,.own),some xs=>if xs.length=j9 P t/\0<xs.length/\j+xs.length<=ty.size/\iL xs=true then ∃h:i<l.length,
    (match ty.whole ((ty.cells l[i]).take j++xs++(ty.cells l[i]).drop (j+xs.length))with
    |some s=>k ⟨[(r,(.sl ty (l.set i s),.own))],[r],.S6⟩
    |none=>False)else False
   |some (.bx p ty n l q,.own),some xs=>if xs.length=j9 P t/\0<xs.length/\(p.length<=j/\j- p.length+xs.length<=ty.size)/\iL xs=true then ∃h:i<l.length,
    (match ty.whole ((ty.cells l[i]).take (j- p.length)++xs++(ty.cells l[i]).drop (j- p.length+xs.length))with
    |some s=>k ⟨[(r,(.bx p ty n (l.set i s) q,.own))],[r],.S6⟩
    |none=>False)else False
   |_,_=>False)
  |_=>False)
 |.call c=>(match c.callee with
  |.builtin .clear=>(match c.args.toList,c.argTypes.toList with
   |[x],[t]=>(match P.underlying t,ev x with
    |some (.slice e),.O1 r _=>(match M r with
     |some (.sl ty l,.own)=>if bC P e ty then k ⟨[(r,(.sl ty (List.replicate l.length ty.zero),.own))],[r],.S6⟩else False
     |_=>False)
    |_,_=>False)
   |_,_=>False)
  |.builtin b=>ZY P ev c k b
  |_=>False)
 |.mapUpdate t m x v=>(match ev m,ev x,ev v with
  |.s6 p,.agg [.int .i64 a],.int .i64 n=>if uS P t then(∃d,p=Ea d/\n=d a)/\k ⟨[],[],.S6⟩else False
  |.B9 r,x,.int u n=>(match M r with
   |some (.mp mk l clk,.own)=>if pT P t=some mk/\u=mk.kv then(match mk.ZD x with
    |some key=>Vq (qI mk.kt l clk key n) fun g=>Vq (uG mk.kt l clk key) fun c'=>k ⟨[(r,(.mp mk g c',.own))],[r],.S6⟩
    |none=>False)else False
   |_=>False)
  |_,_,_=>False)
 |_=>False
def isE:Op->Bool
 |.store .. =>true
 |.mapUpdate .. =>true
 |.insert .. =>true
 |.mapEntry .. =>true
 |.entryStore .. =>true
 |.call c=>(match c.callee with
  |.builtin .clear=>true
  |.builtin .delete=>true
  |.builtin .copy=>true
  |_=>false)
 |_=>false
structure XQ where
 val:a7
 set:List (Nat×c7)
 use:List (Nat×p0)
 new:List c7
def iO:List (Nat×c7)->List (Nat×(c7×p0))
 |[]=>[]
 |u::a=>(u.1,(u.2,.own))::iO a
def XQ.mm(q:XQ)(n:Nat)(m:Mm):Mm:=G4 (iN (y8 m q.use) (iO q.set)) n q.new
def XQ.ml(q:XQ)(n:Nat)(M:Mem):Mem:=Vk (SQ (qE M q.use) (iO q.set)) n q.new
def Jt(M:Mm)(j:Nat):a7->Option (a7×Nat×c7)
 |.O1 r f=>match M r with
  |some (.sl t l,.own)=>some (.O1 j f,r,.sl t l)
  |_=>none
 |.B9 r=>match M r with
  |some (.mp mk l clk,.own)=>some (.B9 j,r,.mp mk l clk)
  |_=>none
 |_=>none
def Lm(M:Mm)(b:Bool)(v:a7):Option (a7×List (Nat×p0)):=match b,v with
 |true,.R2 t=>some (.R2 t,[])
 |_,v=>view M 6 v
def dL(M:Mm)(a:List Nat):Nat->Nat->List a7->Option (List a7×List Nat×List c7×List (Nat×p0))
 |_,_,[]=>some ([],[],[],[])
 |i,j,v::vs=>if a.contains i then(match Jt M j v with
   |some (v',r,c)=>(match dL M a (i+1) (j+1) vs with
    |some (b,d,cs,e)=>some (v'::b,r::d,c::cs,e)
    |none=>none)
   |none=>none)
  else(match Lm M (a.contains (i+1000)) v with
   |some (v',f)=>if v'.Rb then(match dL M a (i+1) j vs with
    |some (b,d,cs,e)=>some (v'::b,d,cs,f++e)
    |none=>none)else none
   |none=>none)
def AG:List Nat->Bool
 |[]=>true
 |a::l=> !l.contains a && AG l
def Vr(a b:List Nat):Bool:=a.all fun x=> !b.contains x
def K7(a:List Nat)(nx:Nat)(i:Nat):Nat:=if i<a.length then a.getD i 0 else nx+(i- a.length)
def uH:List Nat->List c7->List (Nat×c7)
 |r::a,c::cs=>(r,c)::uH a cs
 |_,_=>[]
def idx:List Nat->Nat->Nat->Option Nat
 |[],_,_=>none
 |a::l,r,i=>if a=r then some i else idx l r (i+1)
mutual
def a7.eF(l:List Nat):a7->a7
 |.O1 r _=>match idx l r 0 with
  |some i=>.O1 i false
  |none=>.S6
 |.sub r lo len f=>match idx l r 0 with
  |some i=>.sub i lo len f
  |none=>.S6
 |.ptr r o=>match idx l r 0 with
  |some i=>.ptr i o
  |none=>.S6
 |.P5 r a o=>match idx l r 0 with
  |some i=>.P5 i a o
  |none=>.S6
 |.P6 r=>match idx l r 0 with
  |some i=>.P6 i
  |none=>.S6
 |.B9 r=>match idx l r 0 with
  |some i=>.B9 i
  |none=>.S6
 |.imm t x _=>.imm t x false
 |.G7 cs=>.G7 (L5 l cs)
 |.agg cs=>.agg (L5 l cs)
 |.M1 cs=>.M1 (L5 l cs)
 |.fn f a b=>.fn f (L5 l a) (L5 l b)
 |.Dc _ _=>.S6
 |v=>v
def L5(l:List Nat):List a7->List a7
 |[]=>[]
 |v::vs=>v.eF l::L5 l vs
end
def c7.eF(l:List Nat):c7->c7
 |.box cells=>.box (L5 l cells)
 |.bx p t n x q=>.bx (L5 l p) t n x (L5 l q)
 |.sl t x=>.sl t x
 |.mp mk x clk=>.mp mk x clk
 |.it m a seen b=>.it (match m with
  |some r=>idx l r 0
  |none=>none) a seen b
 |.z5 _=>.any
 |.any=>.any
def cS:c7->List Nat
 |.box cells=>(cells.map (refs 8)).flatten
 |.bx p _ _ _ q=>((p++q).map (refs 8)).flatten
 |.it (some m) _ _ _=>[m]
 |_=>[]
def nO(M:Mm)(r:Nat):List Nat:=match M r with
 |some (c,.own)=>cS c
 |_=>[]
def bE(M:Mm):Nat->List Nat->List Nat
 |0,l=>l
 |d+1,l=>bE M d (uniq (l.map (nO M)).flatten l)
def Eb(Γ:Env)(nx:Nat)(M:Mm)(f:FuncId)(args:List a7)(k:XQ->Prop):Prop:=
 match Γ f with
 |some c=>(match dL M c.hand 0 0 args with
  |some (vs,a,cs,b)=>if AG a && Vr a (O5 b)then
   c.run vs cs (fun v new=>k ⟨v.V4 (K7 a nx),uH a (cR (K7 a nx) new),if v.flat && V7 new then []else J6 b,cR (K7 a nx) (new.drop a.length)⟩)else False
  |none=>False)
 |none=>False
def Q2(M:Mm)(vs:List a7):List Nat:=bE M 6 (uniq ((vs.map (refs 8)).flatten) [])
def M8(M:Mm)(L:List Nat):List Nat->Option (List c7)
 |[]=>some []
 |r::a=>match M r with
  |some (c,.own)=>(match M8 M L a with
   |some cs=>some (c.eF L::cs)
   |none=>none)
  |_=>none
def sT(Γ:Env)(nx:Nat)(M:Mm)(f:FuncId)(args:List a7)(k:XQ->Prop):Prop:=
 match Γ f with
 |some c=>(match M8 M (Q2 M args) (Q2 M args)with
  |some cs=>c.run (L5 (Q2 M args) args) cs (fun v new=>k ⟨v.V4 (K7 (Q2 M args) nx),uH (Q2 M args) (cR (K7 (Q2 M args) nx) new),[],cR (K7 (Q2 M args) nx) (new.drop (Q2 M args).length)⟩)
  |none=>False)
 |none=>False
def a3q(Γ:Env)(f:FuncId):Bool:=match Γ f with
 |some c=>Rc c.hand
 |none=>false
def Vs(L:List Nat):a7->Bool
 |.bool _=>true
 |.int _ _=>true
 |.sub r _ _ _=>L.contains r
 |_=>false
def Ju(L:List Nat):List a7->Bool
 |[]=>true
 |v::vs=>Vs L v && Ju L vs
def Vt(L:List Nat):c7->Bool
 |.box cells=>Ju L cells
 |.sl _ _=>true
 |.mp _ _ _=>true
 |_=>false
def Jv(L:List Nat):List c7->Bool
 |[]=>true
 |c::cs=>Vt L c && Jv L cs
def T4(M:Mm):List Nat->List c7
 |[]=>[]
 |r::a=>(match M r with
  |some (c,_)=>c
  |none=>.any)::T4 M a
def Ec(Γ:Env)(nx:Nat)(M:Mm)(f:FuncId)(args:List a7)(k:a7->List Nat->Prop):Prop:=
 match Γ f with
 |some c=>(match c.pure,M8 M (Q2 M args) (Q2 M args)with
  |true,some cs=>if Jv (Q2 M args) (T4 M (Q2 M args))then c.run (L5 (Q2 M args) args) cs (fun v _=>k (v.V4 (K7 (Q2 M args) nx)) (Q2 M args))else False
  |_,_=>False)
 |none=>False
def a9V(Γ:Env)(op:Op)(ev:Operand->a7):Bool:=match op with
 |.call c=>(match c.callee with
  |.value g=>(match ev g with
   |.fn (.func f) _ _=>(match Γ f with
    |some c=>c.pure
    |none=>false)
   |_=>false)
  |_=>false)
 |_=>false
def HT(Γ:Env)(P:Program)(op:Op)(ev:Operand->a7)(nx:Nat)(M:Mm)(k:a7->List Nat->Prop):Prop:=match op with
 |.call c=>(match c.callee with
  |.value g=>(match ev g with
   |.fn (.func f) first cap=>Ec Γ nx M f (first++I7 P c.argTypes.toList (c.args.toList.map ev)++cap) k
   |_=>False)
  |_=>False)
 |_=>False
def Vu:a7->Bool
 |.B9 _=>true
 |_=>false
def a3r:a7->Bool
 |.Y4=>true
 |_=>false
def Ed(M:Mm):a7->Option Prop
 |.imm _ l _=>some (l=[])
 |.O1 r _=>(match M r with
  |some (.sl _ l,f)=>if f=.dead then none else some (l=[])
  |_=>none)
 |.sub _ _ len _=>some (len=0)
 |_=>none
def a6a:a7->Bool
 |.sub _ _ _ _=>true
 |_=>false
def Oo(P:Program)(M:Mm)(c:Call)(ev:Operand->a7)(k:XQ->Prop):Prop:=
 match c.args.toList,c.argTypes.toList with
 |[x],[t]=>(match P.underlying t,ev x with
  |some (.slice e),.sub r lo len _=>(match M r with
   |some (.sl ty l,.own)=>if bC P e ty then lo+len<=l.length/\k ⟨.M1 [],[(r,.sl ty (l.take lo++List.replicate len ty.zero++l.drop (lo+len)))],[],[]⟩else False
   |_=>False)
  |_,_=>False)
 |_,_=>False
def isX(Γ:Env)(P:Program)(X:Nat)(op:Op)(ev:Operand->a7):Bool:=
 match X with
 |0=>false
 |X+1=>(match op with
  |.makeMap t r=>(match X with
   |0=>r.isNone && (pT P t).isSome
   |_=>false)
  |.lookup _ x _ _=>Vu (ev x)
  |.range _ _=>true
  |.next _ _=>true
  |.entry _=>true
  |.binOp b _ _ y _=>(match b with
   |.eql=>a3r (ev y)
   |_=>false)
  |.call c=>(match c.callee with
   |.builtin b=>(match b with
    |.delete=>(match c.args.toList with
     |x::_=>Vu (ev x)
     |[]=>false)
    |.clear=>(match c.args.toList with
     |x::_=>a6a (ev x)
     |[]=>false)
    |_=>false)
   |.value g=>(match ev g with
    |.fn (.func f) _ _=>(match Γ f with
     |some a=> !a.hand.isEmpty
     |none=>false)
    |_=>false)
   |_=>false)
  |_=>false)
def Vv(Γ:Env)(P:Program)(o:Oper)(ev:Operand->a7)(nx:Nat)(M:Mm)(k:XQ->Prop):Prop:=
 match o.op with
 |.makeMap t r=>(match r,pT P t with
  |none,some mk=>k ⟨.B9 nx,[],[],[.mp mk [] 0]⟩
  |_,_=>False)
 |.lookup t x i j=>(match ev x with
  |.B9 r=>(match M r with
   |some (.mp mk l _,f)=>if pT P t=some mk/\f≠ .dead then(match mk.ZD (ev i)with
    |some key=>k ⟨BZ mk l key j,[],[],[]⟩
    |none=>False)else False
   |_=>False)
  |_=>False)
 |.range t x=>(match ev x with
  |.B9 r=>(match M r with
   |some (.mp mk _ clk,f)=>if pT P t=some mk/\f≠ .dead then k ⟨.ptr nx 0,[],[],[.it (some r) clk [] clk]⟩else False
   |_=>False)
  |_=>False)
 |.next i Ln=>(match ev i,Ln with
  |.ptr h 0,false=>(match M h with
   |some (.it (some r) a seen d,.own)=>(match M r with
    |some (.mp mk l clk,f)=>if f=.dead\/mk.kt.ints=false then False else((∀e∈l,e.1<a)/\a<=d)/\
     (mleft mk.kt l seen=[]->k ⟨.M1 [.bool false],[],[],[]⟩)/\
     ∀e,e∈mleft mk.kt l seen->k ⟨.M1 [.bool true,mk.I1 e.2.1,.int mk.kv e.2.2],[(h,.it (some r) a (seen++ [e.1]) clk)],[],[]⟩
    |_=>False)
   |_=>False)
  |_,_=>False)
 |.entry i=>(match ev i with
  |.ptr h 0=>(match M h with
   |some (.it (some r) _ seen d,.own)=>(match M r with
    |some (.mp mk l clk,f)=>if f=.dead\/mk.kt.ints=false then False else(clk=d/\(l.map (·.1)).Nodup)/\∃e,(e∈l/\seen.getLast?=some e.1)/\k ⟨.M1 [mk.I1 e.2.1,.int mk.kv e.2.2],[],[],[]⟩
    |_=>False)
   |_=>False)
  |_=>False)
 |.call c=>(match c.callee with
  |.builtin .delete=>(match c.args.toList,c.argTypes.toList with
   |[x,i],[t,_]=>(match ev x with
    |.B9 r=>(match M r with
     |some (.mp mk l clk,.own)=>if pT P t=some mk then(match mk.ZD (ev i)with
      |some key=>k ⟨.M1 [],[(r,.mp mk (lR mk.kt key l) clk)],[],[]⟩
      |none=>False)else False
     |_=>False)
    |_=>False)
   |_,_=>False)
  |.builtin .clear=>Oo P M c ev k
  |.value g=>(match ev g with
   |.fn (.func f) first cap=>(match a3q Γ f with
    |true=>sT Γ nx M f (first++I7 P c.argTypes.toList (c.args.toList.map ev)++cap) k
    |false=>Eb Γ nx M f (first++I7 P c.argTypes.toList (c.args.toList.map ev)++cap) k)
   |_=>False)
  |_=>False)
 |.binOp b t x y _=>(match b,P.underlying t,ev y,Ed M (ev x)with
  |.eql,some (.slice _),.Y4,some p=>∀b:Bool,(b=true->p)->k ⟨.bool b,[],[],[]⟩
  |_,_,_,_=>False)
 |_=>False
inductive L7 where
 |skip
 |quiet (nx:Nat) (q:Q)
 |write (w:W)
 |Y5 (nx:Nat) (v:a7) (new:List HO) (set:List (Nat×HO)) (rd:List Nat)
def bF:Mm->List (Nat×HO)->Mm
 |m,[]=>m
 |m,(r,.z)::a=>bF (dI m (r,.dead)) a
 |m,(r,o)::a=>bF (N9 m r (.z5 o,.own)) a
def gF(a:Option Tmp)(v:a7)(b:List (Nat×a7)):List (Nat×a7):=
 match a with
 |some d=>(d,v)::b
 |none=>b
def S7(n:Nat):Option Tmp->Bool
 |some d=>d<n
 |none=>true
abbrev Hand:=List a7->j7->(Bool->j7->Prop)->Prop
def lS(P:Program)(op:Op)(ev:Operand->a7):Option (List a7):=
 match op with
 |.call c=>(match c.callee with
  |.value g=>(match ev g with
   |.J7=>some (I7 P c.argTypes.toList (c.args.toList.map ev))
   |_=>none)
  |_=>none)
 |_=>none
def Lo(Γ:Env)(Y:Option Hand)(X:Nat)(P:Program)(o:Oper)(a:j7)(k:j7->L7->Prop):Prop:=
 if S7 a.n o.dst then
  (if a9V Γ o.op (Hg a.tmps)then HT Γ P o.op (Hg a.tmps) a.nx (l9 a.M) (fun v rd=>k {a with tmps:=gF o.dst v a.tmps} (.Y5 a.nx v [] [] rd))
  else if isX Γ P X o.op (Hg a.tmps)then Vv Γ P o (Hg a.tmps) a.nx (l9 a.M) (fun q=>k {a with tmps:=gF o.dst q.val a.tmps,nx:=a.nx+q.new.length,M:=q.ml a.nx a.M} .skip)
  else if isE o.op then nN P o (Hg a.tmps) (l9 a.M) (fun w=>k {a with tmps:=gF o.dst w.val a.tmps,M:=SQ a.M w.set} (.write w))
  else(match lS P o.op (Hg a.tmps)with
   |some args=>(match Y with
    |some h=>h args a (fun b c=>k {c with tmps:=gF o.dst (.bool b) c.tmps} .skip)
    |none=>False)
   |none=>Q0 Γ P o (Hg a.tmps) a.nx (l9 a.M) (fun q=>k {a with tmps:=gF o.dst q.val a.tmps,nx:=a.nx+q.new.length,M:=q.ml a.nx a.M} (.quiet a.nx q))))
 else False
def w7(n:Nat):List Oper->Bool
 |[]=>true
 |o::a=>S7 n o.dst && w7 n a
def dM(Γ:Env)(Y:Option Hand)(X:Nat)(P:Program)(all:Array Oper):List Oper->j7->List L7->(j7->List L7->Prop)->Prop
 |[],a,f,k=>k a f
 |o::rest,a,f,k=>
  match o.guard with
  |none=>Lo Γ Y X P o a (fun e d=>dM Γ Y X P all rest e (d::f) k)
  |some (j,c)=>match(all[j]?).bind (·.dst)with
   |some d=>match u9 a.tmps d with
    |.bool b=>
     if S7 a.n o.dst then
         br (b==c)
          (Lo Γ Y X P o {a with tmps:=(d,.bool c)::a.tmps} (fun e d=>dM Γ Y X P all rest e (d::f) k))
          (dM Γ Y X P all rest {a with tmps:=gF o.dst (.M1 []) ((d,.bool (!c))::a.tmps)} (.skip::f) k)
     else False
    |.M1 []=>if S7 a.n o.dst then dM Γ Y X P all rest {a with tmps:=gF o.dst (.M1 []) a.tmps} (.skip::f) k else False
    |_=>False
   |none=>False
def Oq{α:Type}(n:Nat)(f:Nat->α):α:=match n with
 |0=>f 0
 |k+1=>f (k+1)
theorem AH{α:Type}(n:Nat)(f:Nat->α):Oq n f=f n:=by cases n<;>rfl
def Jw(a:List Nat):List Nat->Nat->Nat
 |[],m=>m
 |j::d,m=>Oq (Nat.lor m (Nat.lor (2^j) (a.getD j 0))) fun b=>Jw a d b
def AI:List Oper->List Nat->List Nat
 |[],a=>a
 |o::r,a=>Oq (Jw a ((o.after.toList.filter (Region.binds .any)).map (·.on)) 0) fun m=>AI r (a++ [m])
def Ee(ops:List Oper):List Nat:=AI ops []
def nP:List Oper->Nat->Bool
 |[],_=>true
 |o::r,i=>(o.after.toList.all fun e=> !Region.binds .any e||decide (e.on<i)) && nP r (i+1)
def L7.rd:L7->List Nat
 |.skip=>[]
 |.quiet _ q=>q.reads
 |.write w=>w.reads
 |.Y5 _ _ _ _ rd=>rd
def qK:Nat->Nat->List Nat
 |_,0=>[]
 |n,k+1=>n::qK (n+1) k
def L7.wr:L7->List Nat
 |.skip=>[]
 |.quiet n q=>q.use.map (·.1)++qK n q.new.length
 |.write w=>w.set.map (·.1)
 |.Y5 n _ new set _=>set.map (·.1)++qK n new.length
def Dd(a b:List Nat):Bool:=a.all fun x=> !b.contains x
def pU(a b:L7):Bool:=Dd a.wr b.rd && Dd a.wr b.wr && Dd a.rd b.wr
def gG(R:Oper->L7->Oper->L7->Bool)(i:Nat)(c:Oper)(d:L7):List Oper->List L7->List Nat->Bool
 |o2::e,f::g,a::b=>(a.testBit i||R c d o2 f) && gG R i c d e g b
 |_,_,_=>true
def aI(R:Oper->L7->Oper->L7->Bool):Nat->List Oper->List L7->List Nat->Bool
 |i,o::b,d::c,_::a=>gG R i o d b c a && aI R (i+1) b c a
 |_,_,_,_=>true
def R3(ops:Array Oper):Bool:=
 nP ops.toList 0 && aI (fun a _ b _=>a.apart ops b) 0 ops.toList (ops.toList.map fun _=>.skip) (Ee ops.toList)
def cH(ops:Array Oper)(a:List L7):Bool:=
 if a.all (fun d=>d.wr.isEmpty)then true else aI (fun _ b _ c=>pU b c) 0 ops.toList a (Ee ops.toList)
def SR(o:Oper):Bool:=match o.op with
 |.call c=>(match c.callee with
  |.value (.tmp _)=>true
  |_=>false)
 |_=>false
def Lp:List Oper->Nat->Option Nat
 |[],_=>none
 |o::a,i=>if SR o then some i else Lp a (i+1)
def qL(c:Nat):List Oper->Bool
 |[]=>true
 |o::a=>(match o.guard with
  |some (j,_)=>decide (j<c)
  |none=>true) && qL c a
def lT:Nat->List Nat->Bool
 |_,[]=>true
 |i,m::a=>Nat.beq (Nat.land m (2^i- 1)) (2^i- 1) && lT (i+1) a
def a6b(ops:Array Oper):Option Nat:=match Lp ops.toList 0 with
 |some c=>if qL c (ops.toList.take c) && lT c ((Ee ops.toList).drop c)then some c else none
 |none=>none
def V8(ops:Array Oper)(c:Nat):Array Oper:=(ops.toList.take c).toArray
def a6c(ops:Array Oper):Bool:=match a6b ops with
 |some c=>R3 (V8 ops c)
 |none=>true
def Code.j5:Code->Bool
 |.region _ ops c=> !c||(R3 ops && a6c ops)
 |.seq a b=>Code.j5 a && Code.j5 b
 |.cond _ a b=>Code.j5 a && Code.j5 b
 |.block _ a=>Code.j5 a
 |.loop a=>Code.j5 a
 |.scope a=>Code.j5 a
 |.rangeFunc _ _ a b=>Code.j5 a && Code.j5 b
 |_=>true
def iP:List (Nat×a7)->Nat->Mem->List (Nat×a7)×Nat×Mem
 |[],n,M=>([],n,M)
 |(t,.R2 ty)::r,n,M=>
  let x:=iP r (n+1) ((n,(.sl ty [],.own))::M)
  ((t,.O1 n false)::x.1,x.2)
 |u::r,n,M=>
  let x:=iP r n M
  (u::x.1,x.2)
def Rd(a:List (Nat×a7))(ks:List Nat):List (Nat×a7):=ks.map fun t=>(t,u9 a t)
def O6:List a7->Nat->Mem->List a7×Nat×Mem
 |[],n,M=>([],n,M)
 |.R2 ty::r,n,M=>
  let x:=O6 r (n+1) ((n,(.sl ty [],.own))::M)
  (.O1 n false::x.1,x.2)
 |v::r,n,M=>
  let x:=O6 r n M
  (v::x.1,x.2)
def bQ:List Nat->Nat->Mem->Nat×Mem
 |[],n,M=>(n,M)
 |r::a,n,M=>match l9 M r with
  |some (.box cells,.own)=>
   if r<n then
    let x:=O6 cells n M
    bQ a x.2.1 ((r,(.box x.1,.own))::x.2.2)
   else bQ a n M
  |some (.bx p t c l q,.own)=>
   if r<n then
    let x:=O6 q n M
    bQ a x.2.1 ((r,(.bx p t c l x.1,.own))::x.2.2)
   else bQ a n M
  |_=>bQ a n M
def Vw:c7->List Nat
 |.box cells=>(cells.map (refs 3)).flatten
 |.bx p _ _ _ q=>((p++q).map (refs 3)).flatten
 |.it (some m) _ _ _=>[m]
 |_=>[]
def reach(M:Mem):Nat->List Nat->List Nat
 |0,l=>l
 |d+1,l=>reach M d (uniq ((l.map fun r=>match l9 M r with
  |some (c,_)=>Vw c
  |none=>[]).flatten) l)
def nQ(l:List Nat)(M:Mem):List Nat->Nat->Mem
 |[],_=>[]
 |r::a,i=>match l9 M r with
  |some (c,f)=>(i,(c.eF l,f))::nQ l M a (i+1)
  |none=>nQ l M a (i+1)
def canon(ks:List Nat)(a:j7):j7:=
 let x:=iP (Rd a.tmps ks) a.nx a.M
 let b:=uniq ((x.1.map fun u=>refs 3 u.2).flatten++(a.gh.map (refs 3)).flatten) []
 let y:=bQ b x.2.1 x.2.2
 let l:=reach y.2 2 b
 {n:=a.n,tmps:=x.1.map fun u=>(u.1,u.2.eF l),nx:=l.length,M:=nQ l y.2 l 0,gh:=L5 l a.gh,o7:=a.o7}
def a7.vQ:a7->Bool
 |.O1 _ _=>true
 |.sub _ _ _ _=>true
 |_=>false
def Lq(t:Nat)(a:j7):j7:=
 if(u9 a.tmps t).vQ then(match view (l9 a.M) 6 (u9 a.tmps t)with
  |some (v,b)=> {a with tmps:=(t,v)::a.tmps,M:=qE a.M (J6 b)}
  |none=>a)else a
def uI:List Nat->j7->j7
 |[],a=>a
 |k::ks,a=>if 2000000<=k then Lq (k- 2000000) (uI ks a)else uI ks a
def L8:Code->Nat
 |.region id _ _=>id
 |.seq a _=>L8 a
 |.block _ a=>L8 a
 |.loop a=>L8 a
 |.scope a=>L8 a
 |_=>0
def iter{σ:Type}(B:(σ->Prop)->σ->Prop):Nat->σ->Prop
 |0,_=>False
 |n+1,s=>B (iter B n) s
def Loop{σ:Type}(B:(σ->Prop)->σ->Prop)(s:σ):Prop:=∃n,iter B n s
inductive VS where
 |int (k:IntKind)
 |bool
 |imm (t:Ty) (f:Bool)
 |S3 (t:Ty)
 |O1 (r:Nat) (f:Bool)
 |sub (r:Nat) (f:Bool)
 |ptr (r o:Nat)
 |P5 (r o:Nat)
 |P6 (r:Nat)
 |B9 (r:Nat)
 |G7 (l:VS)
 |agg (l:VS)
 |M1 (l:VS)
 |fn (f:FuncId) (a b:VS)
 |Y4
 |R2 (t:Ty)
 |V6
 |J7
 |s6
 |S6
 |nl
 |cs (a l:VS)
def VS.den:VS->Type->Type
 |.int _,R=>Int×R
 |.bool,R=>Bool×R
 |.imm t _,R=>List t.den×R
 |.S3 t,R=>List t.den×R
 |.sub _ _,R=>Nat×Nat×R
 |.P5 _ _,R=>Nat×R
 |.s6,R=>Lh×R
 |.G7 l,R=>l.den R
 |.agg l,R=>l.den R
 |.M1 l,R=>l.den R
 |.fn _ a b,R=>a.den (b.den R)
 |.cs a l,R=>a.den (l.den R)
 |_,R=>R
mutual
def a7.shape:a7->VS
 |.S6=>.S6
 |.bool _=>.bool
 |.int k _=>.int k
 |.Y4=>.Y4
 |.R2 t=>.R2 t
 |.imm t _ f=>.imm t f
 |.O1 r f=>.O1 r f
 |.sub r _ _ f=>.sub r f
 |.ptr r o=>.ptr r o
 |.P5 r _ o=>.P5 r o
 |.P6 r=>.P6 r
 |.B9 r=>.B9 r
 |.G7 l=>.G7 (iQ l)
 |.agg l=>.agg (iQ l)
 |.S3 t _=>.S3 t
 |.M1 l=>.M1 (iQ l)
 |.fn (.func f) a b=>.fn f (iQ a) (iQ b)
 |.fn _ _ _=>.S6
 |.V6=>.V6
 |.J7=>.J7
 |.s6 _=>.s6
 |.Dc _ _=>.S6
def iQ:List a7->VS
 |[]=>.nl
 |v::vs=>.cs v.shape (iQ vs)
end
def VS.enc:(s:VS)->(R:Type)->s.den R->List a7×R
 |.int k,_,x=>([.int k x.1],x.2)
 |.bool,_,x=>([.bool x.1],x.2)
 |.imm t f,_,x=>([.imm t x.1 f],x.2)
 |.S3 t,_,x=>([.S3 t x.1],x.2)
 |.O1 r f,_,x=>([.O1 r f],x)
 |.sub r f,_,x=>([.sub r x.1 x.2.1 f],x.2.2)
 |.ptr r o,_,x=>([.ptr r o],x)
 |.P5 r o,_,x=>([.P5 r x.1 o],x.2)
 |.P6 r,_,x=>([.P6 r],x)
 |.B9 r,_,x=>([.B9 r],x)
 |.G7 l,R,x=>([.G7 (l.enc R x).1],(l.enc R x).2)
 |.agg l,R,x=>([.agg (l.enc R x).1],(l.enc R x).2)
 |.M1 l,R,x=>([.M1 (l.enc R x).1],(l.enc R x).2)
 |.fn f a b,R,x=>([.fn (.func f) (a.enc (b.den R) x).1 (b.enc R (a.enc (b.den R) x).2).1],(b.enc R (a.enc (b.den R) x).2).2)
 |.Y4,_,x=>([.Y4],x)
 |.R2 t,_,x=>([.R2 t],x)
 |.V6,_,x=>([.V6],x)
 |.J7,_,x=>([.J7],x)
 |.s6,_,x=>([.s6 x.1],x.2)
 |.S6,_,x=>([.S6],x)
 |.nl,_,x=>([],x)
 |.cs a l,R,x=>((a.enc (l.den R) x).1++(l.enc R (a.enc (l.den R) x).2).1,(l.enc R (a.enc (l.den R) x).2).2)
def Eg{t a:Ty}(h:a=t)(l:List a.den):List t.den:=h▸l
def VS.Vx{R:Type}(k:IntKind)(v:List a7)(r:R):Option (Int×R):=match v with
 |[.int k' n]=>if k'=k then some (n,r)else none
 |_=>none
def VS.Ot{R:Type}(v:List a7)(r:R):Option (Bool×R):=match v with
 |[.bool b]=>some (b,r)
 |_=>none
def VS.Ou{R:Type}(t:Ty)(v:List a7)(r:R):Option (List t.den×R):=match v with
 |[.S3 a l]=>if h:a=t then some (Eg h l,r)else none
 |_=>none
def VS.Vy{R:Type}(i:Nat)(f:Bool)(v:List a7)(r:R):Option (R):=match v with
 |[.O1 a b]=>if a=i/\b=f then some r else none
 |_=>none
def VS.Vz{R:Type}(i:Nat)(f:Bool)(v:List a7)(r:R):Option (Nat×Nat×R):=match v with
 |[.sub a lo len b]=>if a=i/\b=f then some (lo,len,r)else none
 |_=>none
def VS.VA{R:Type}(i o:Nat)(v:List a7)(r:R):Option (R):=match v with
 |[.ptr a o']=>if a=i/\o'=o then some r else none
 |_=>none
def VS.Ov{R:Type}(i o:Nat)(v:List a7)(r:R):Option (Nat×R):=match v with
 |[.P5 a n o']=>if a=i/\o'=o then some (n,r)else none
 |_=>none
def VS.Ow{R:Type}(i:Nat)(v:List a7)(r:R):Option (R):=match v with
 |[.P6 a]=>if a=i then some r else none
 |_=>none
def VS.Ox{R:Type}(i:Nat)(v:List a7)(r:R):Option (R):=match v with
 |[.B9 a]=>if a=i then some r else none
 |_=>none
def VS.Oy{R:Type}(v:List a7)(r:R):Option (R):=match v with
 |[.Y4]=>some r
 |_=>none
def VS.Oz{R:Type}(t:Ty)(v:List a7)(r:R):Option (R):=match v with
 |[.R2 a]=>if a=t then some r else none
 |_=>none
def VS.Jx{R:Type}(v:List a7)(r:R):Option (R):=match v with
 |[.V6]=>some r
 |_=>none
def VS.Eh{R:Type}(v:List a7)(r:R):Option (R):=match v with
 |[.J7]=>some r
 |_=>none
def VS.VB{R:Type}(v:List a7)(r:R):Option (Lh×R):=match v with
 |[.s6 p]=>some (p,r)
 |_=>none
def VS.VC{R:Type}(v:List a7)(r:R):Option (R):=match v with
 |[.S6]=>some r
 |_=>none
def VS.a3s{R:Type}(v:List a7)(r:R):Option (R):=match v with
 |[]=>some r
 |_=>none
def VS.VD{R:Type}(t:Ty)(f:Bool)(v:List a7)(r:R):Option (List t.den×R):=match v with
 |[.imm a l b]=>if h:a=t then(if b=f then some (Eg h l,r)else none)else none
 |_=>none
def VS.Jy:List a7->Option (List a7)
 |[.G7 l]=>some l
 |_=>none
def VS.Re:List a7->Option (List a7)
 |[.agg l]=>some l
 |_=>none
def VS.Rf:List a7->Option (List a7)
 |[.M1 l]=>some l
 |_=>none
def VS.ZZ(f:FuncId):List a7->Option (List a7×List a7)
 |[.fn (.func c) a b]=>if c=f then some (a,b)else none
 |_=>none
def VS.De{A B:Type}(x:Option A)(f:A->Option B):Option B:=match x with
 |some a=>f a
 |none=>none
def VS.Jz:List a7->Option (a7×List a7)
 |x::xs=>some (x,xs)
 |_=>none
def VS.dec:(s:VS)->List a7->(R:Type)->R->Option (s.den R)
 |.int k,v,_,r=>VS.Vx k v r
 |.bool,v,_,r=>VS.Ot v r
 |.S3 t,v,_,r=>VS.Ou t v r
 |.O1 i f,v,_,r=>VS.Vy i f v r
 |.sub i f,v,_,r=>VS.Vz i f v r
 |.ptr i o,v,_,r=>VS.VA i o v r
 |.P5 i o,v,_,r=>VS.Ov i o v r
 |.P6 i,v,_,r=>VS.Ow i v r
 |.B9 i,v,_,r=>VS.Ox i v r
 |.Y4,v,_,r=>VS.Oy v r
 |.R2 t,v,_,r=>VS.Oz t v r
 |.V6,v,_,r=>VS.Jx v r
 |.J7,v,_,r=>VS.Eh v r
 |.s6,v,_,r=>VS.VB v r
 |.S6,v,_,r=>VS.VC v r
 |.nl,v,_,r=>VS.a3s v r
 |.imm t f,v,_,r=>VS.VD t f v r
 |.G7 l,v,R,r=>VS.De (VS.Jy v) fun c=>l.dec c R r
 |.agg l,v,R,r=>VS.De (VS.Re v) fun c=>l.dec c R r
 |.M1 l,v,R,r=>VS.De (VS.Rf v) fun c=>l.dec c R r
 |.fn f a b,v,R,r=>VS.De (VS.ZZ f v) fun c=>VS.De (b.dec c.2 R r) fun y=>a.dec c.1 (b.den R) y
 |.cs a l,v,R,r=>VS.De (VS.Jz v) fun c=>VS.De (l.dec c.2 R r) fun y=>a.dec [c.1] (l.den R) y
inductive CS where
 |box (l:VS)
 |bx (p:VS) (t:Ty) (n:Nat) (q:VS)
 |sl (t:Ty)
 |mp (mk:MK)
 |it (m:Option Nat)
def CS.den:CS->Type->Type
 |.box l,R=>l.den R
 |.bx p t _ q,R=>p.den (q.den (List t.den×R))
 |.sl t,R=>List t.den×R
 |.mp mk,R=>I2 mk.kt×Nat×R
 |.it _,R=>Nat×List Nat×Nat×R
def c7.shape:c7->CS
 |.box l=>.box (iQ l)
 |.bx p t n _ q=>.bx (iQ p) t n (iQ q)
 |.sl t _=>.sl t
 |.mp mk _ _=>.mp mk
 |.it m _ _ _=>.it m
 |.z5 _=>.it none
 |.any=>.it none
def CS.enc:(c:CS)->(R:Type)->c.den R->c7×R
 |.box l,R,x=>(.box (l.enc R x).1,(l.enc R x).2)
 |.bx p t n q,R,x=>(.bx (p.enc (q.den (List t.den×R)) x).1 t n (q.enc (List t.den×R) (p.enc (q.den (List t.den×R)) x).2).2.1 (q.enc (List t.den×R) (p.enc (q.den (List t.den×R)) x).2).1,(q.enc (List t.den×R) (p.enc (q.den (List t.den×R)) x).2).2.2)
 |.sl t,_,x=>(.sl t x.1,x.2)
 |.mp mk,_,x=>(.mp mk x.1 x.2.1,x.2.2)
 |.it m,_,x=>(.it m x.1 x.2.1 x.2.2.1,x.2.2.2)
def a2f{mk a:MK}(h:a=mk)(l:I2 a.kt):I2 mk.kt:=h▸l
def CS.dec:(c:CS)->c7->(R:Type)->R->Option (c.den R)
 |.box l,c,R,r=>(match c with
  |.box f=>l.dec f R r
  |_=>none)
 |.bx p t n q,c,R,r=>(match c with
  |.bx g d i l j=>if h:d=t then(if i=n then VS.De (q.dec j (List t.den×R) (Eg h l,r)) fun y=>p.dec g (q.den (List t.den×R)) y else none)else none
  |_=>none)
 |.sl t,c,_,r=>(match c with
  |.sl d l=>if h:d=t then some (Eg h l,r)else none
  |_=>none)
 |.mp mk,c,_,r=>(match c with
  |.mp e l clk=>if h:e=mk then some (a2f h l,clk,r)else none
  |_=>none)
 |.it m,c,_,r=>(match c with
  |.it k a b c=>if k=m then some (a,b,c,r)else none
  |_=>none)
def kE:List Nat->List a7->List (Nat×a7)
 |t::a,v::vs=>(t,v)::kE a vs
 |_,_=>[]
def gT:List (Nat×(CS×p0))->Type->Type
 |[],R=>R
 |u::a,R=>u.2.1.den (gT a R)
def OA:(l:List (Nat×(CS×p0)))->(R:Type)->gT l R->Mem×R
 |[],_,x=>([],x)
 |u::a,R,x=>((u.1,((u.2.1.enc (gT a R) x).1,u.2.2))::(OA a R (u.2.1.enc (gT a R) x).2).1,(OA a R (u.2.1.enc (gT a R) x).2).2)
def u':(l:List (Nat×(CS×p0)))->Mem->(R:Type)->R->Option (gT l R)
 |[],m,_,r=>(match m with
  |[]=>some r
  |_=>none)
 |u::a,m,R,r=>(match m with
  |x::xs=>if x.1=u.1/\x.2.2=u.2.2 then(match u' a xs R r with
   |some y=>u.2.1.dec x.2.1 (gT a R) y
   |none=>none)else none
  |_=>none)
structure Shape where
 n:Nat
 ts:List Nat
 vs:VS
 nx:Nat
 M:List (Nat×(CS×p0))
 gh:VS
 o7:Option E8
def Shape.den(S:Shape):Type:=S.vs.den (S.gh.den (gT S.M Unit))
def shapeOf(a:j7):Shape:=⟨a.n,a.tmps.map (·.1),iQ (a.tmps.map (·.2)),a.nx,a.M.map fun u=>(u.1,(u.2.1.shape,u.2.2)),iQ a.gh,a.o7⟩
def Shape.enc(S:Shape)(x:S.den):j7:=
 {n:=S.n,tmps:=kE S.ts (S.vs.enc (S.gh.den (gT S.M Unit)) x).1,nx:=S.nx,M:=(OA S.M Unit (S.gh.enc (gT S.M Unit) (S.vs.enc (S.gh.den (gT S.M Unit)) x).2).2).1,gh:=(S.gh.enc (gT S.M Unit) (S.vs.enc (S.gh.den (gT S.M Unit)) x).2).1,o7:=S.o7}
def Shape.dec(S:Shape)(a:j7):Option S.den:=
 if a.n=S.n/\a.nx=S.nx/\a.tmps.map (·.1)=S.ts/\a.o7=S.o7 then(match u' S.M a.M Unit ()with
  |some y=>(match S.gh.dec a.gh (gT S.M Unit) y with
   |some z=>S.vs.dec (a.tmps.map (·.2)) (S.gh.den (gT S.M Unit)) z
   |none=>none)
  |none=>none)else none
def a2g(S:Shape)(ks:List Nat)(a:j7->(E8->j7->Prop)->Prop)(s0:j7)(k:E8->j7->Prop):Prop:=
 match S.dec s0 with
 |some x=>Loop (fun K x=>a (S.enc x) (fun e b=>match e with
  |.normal=>(match S.dec (canon ks (uI ks b))with
   |some y=>K y
   |none=>False)
  |e=>k e b)) x
 |none=>False
def AK:List a7->Nat->List (Nat×a7)
 |[],_=>[]
 |v::vs,i=>(i,v)::AK vs (i+1)
mutual
def a7.AL:a7->Bool
 |.J7=>false
 |.G7 cs=>gH cs
 |.agg cs=>gH cs
 |.M1 cs=>gH cs
 |.fn _ a b=>gH a && gH b
 |_=>true
def gH:List a7->Bool
 |[]=>true
 |v::vs=>v.AL && gH vs
end
def c7.AL:c7->Bool
 |.box cs=>gH cs
 |.bx p _ _ _ q=>gH p && gH q
 |_=>true
def Ei:List c7->Bool
 |[]=>true
 |c::cs=>c.AL && Ei cs
def Ej:Mem->Bool
 |[]=>true
 |u::a=>u.2.1.AL && Ej a
inductive Ca where
 |top
 |it (h:Hand)
 |rd
def Ca.hand:Ca->Option Hand
 |.it h=>some h
 |_=>none
def Ca.flat:Ca->Bool
 |.rd=>false
 |_=>true
def setArgs:List Nat->List a7->List (Nat×a7)->List (Nat×a7)
 |p::ps,v::vs,a=>setArgs ps vs ((p,v)::a)
 |_,_,a=>a
def E8.VE:E8->Bool
 |.normal=>true
 |_=>false
def E8.left:E8->Option E8
 |.normal=>none
 |e=>some e
def HU(n:Nat):List Nat->Bool
 |[]=>true
 |a::l=>decide (a<n) && HU n l
def Ek(f:Nat)(O5 ps:List Nat)(b c:j7->(E8->j7->Prop)->Prop):Hand:=fun args a kk=>
 if a.o7=none/\args.length=ps.length/\HU f ps=true/\gH args=true/\Ej a.M=true then
  b {n:=f,tmps:=setArgs ps args (kE O5 (a.gh.take O5.length)),nx:=a.nx,M:=a.M,gh:=(dedup (a.tmps.map (·.1))).map (u9 a.tmps)++a.gh,o7:=none}
   (fun e g=>match e with
    |.normal=>c g (fun e d=>if Ej d.M=true then kk e.VE {n:=a.n,tmps:=kE (dedup (a.tmps.map (·.1))) (d.gh.take (dedup (a.tmps.map (·.1))).length),nx:=d.nx,M:=d.M,gh:=d.gh.drop (dedup (a.tmps.map (·.1))).length,o7:=e.left} else False)
    |_=>False)
 else False
abbrev Iter:=Hand->FuncId->List a7->j7->(j7->Prop)->Prop
def El(d:Iter)(g:Operand)(ps:List Nat)(a c:j7->(E8->j7->Prop)->Prop)(s0:j7)(k:E8->j7->Prop):Prop:=
 match Hg s0.tmps g with
 |.fn (.func e) [] cap=>if gH cap=true/\Ej s0.M=true then
  d (Ek s0.n (s0.tmps.map (·.1)) ps a c) e (.J7::cap) s0 (fun b=>
   if Ej b.M=true then
     k (b.o7.getD .normal) {n:=s0.n,tmps:=kE (s0.tmps.map (·.1)) (b.gh.take (s0.tmps.map (·.1)).length),nx:=b.nx,M:=b.M,gh:=b.gh.drop (s0.tmps.map (·.1)).length,o7:=s0.o7}
   else False)else False
 |_=>False
def a6d:List Nat->Nat
 |[]=>1
 |k::_=>cond (Nat.beq k 777) 3 2
def Hi(Γ:Env)(P:Program)(d:Nat->List Nat)(l:Iter):Code->Ca->j7->(E8->j7->Prop)->Prop
 |.skip,_,f,k=>k .normal f
 |.region _ ops j,Y,f,k=>if w7 f.n ops.toList then dM Γ (if j then none else Y.hand) (if j then 0 else a6d (d 999999)) P ops ops.toList f [] (fun h p=>if j then(if cH ops p.reverse then k .normal h else False)else k .normal h)else False
 |.seq a b,Y,f,k=>Hi Γ P d l a Y f (fun e h=>match e with
  |.normal=>Hi Γ P d l b Y h k
  |e=>k e h)
 |.cond c a b,Y,f,k=>match Hg f.tmps c with
  |.bool x=>br x (Hi Γ P d l a Y f k) (Hi Γ P d l b Y f k)
  |_=>False
 |.block id c,Y,f,k=>Hi Γ P d l c Y f (fun e h=>match e with
  |.exit i=>if i=id then k .normal h else k (.exit i) h
  |e=>k e h)
 |.loop c,Y,f,k=>a2g (shapeOf (canon (d (L8 c)) (uI (d (L8 c)) f))) (d (L8 c)) (fun s k'=>Hi Γ P d l c Y s k') (canon (d (L8 c)) (uI (d (L8 c)) f)) k
 |.exit id,_,f,k=>k (.exit id) f
 |.ret,_,f,k=>k .ret f
 |.scope c,Y,f,k=>Hi Γ P d l c Y f k
 |.label _,_,f,k=>k .normal f
 |.rangeFunc g ps m o,_,f,k=>El l g ps.toList (fun s k'=>Hi Γ P d l m .rd s k') (fun s k'=>Hi Γ P d l o .rd s k') (canon (d (1000+L8 o)) f) k
 |_,_,_,_=>False
def Cb:Iter:=fun _ _ _ _ _=>False
def Rg(Γ:Env)(P:Program)(kt:FuncId->Nat->List Nat)(d:Iter):Iter:=fun h b args s0 k=>
 match P.funcs[b]? with
 |some a=>(match a.body with
  |some c=>if Code.j5 c=true/\a.results.size=0/\(a.name== "runtime.NumGoroutine")=false then Hi Γ P (kt b) d c (.it h) {n:=max args.length a.ntmps,tmps:=AK args 0,nx:=s0.nx,M:=s0.M,gh:=(s0.tmps.map (·.1)).map (u9 s0.tmps)++s0.gh,o7:=none}
   (fun e s=>match e with
    |.normal=>k s
    |.ret=>k s
    |.exit _=>False)else False
  |none=>False)
 |none=>False
def VF(a:List Nat):a7->Bool
 |.O1 r _=>a.contains r
 |.sub r _ _ _=>a.contains r
 |.B9 r=>a.contains r
 |_=>false
mutual
def a7.bG:a7->Bool
 |.bool _=>true
 |.int _ _=>true
 |.Y4=>true
 |.R2 _=>true
 |.imm _ _ _=>true
 |.S3 _ _=>true
 |.V6=>true
 |.G7 cs=>gU cs
 |.agg cs=>gU cs
 |.M1 cs=>gU cs
 |.fn _ a b=>gU a && gU b
 |_=>false
def gU:List a7->Bool
 |[]=>true
 |a::b=>a.bG && gU b
end
def OB(imm:Bool)(m:Mm)(a:List Nat)(v:a7)(n:Nat):Option (a7×List c7×List (Nat×p0)):=
 if VF a v then some (v.eF a,[],[])else
 match imm,v with
 |false,.O1 r _=>(match m r with
  |some (.sl t l,.own)=>some (.O1 n false,[.sl t l],[(r,.dead)])
  |_=>none)
 |false,.B9 r=>(match m r with
  |some (.mp mk l clk,.own)=>some (.B9 n,[.mp mk l clk],[(r,.dead)])
  |_=>none)
 |false,.R2 t=>some (.O1 n false,[.sl t []],[])
 |_,.imm t l true=>some (.imm t l true,[],[])
 |_,.agg cs=>if gU cs then some (.agg cs,[],[])else(match view m 6 (.agg cs)with
  |some (v',b)=>some (v'.eF a,[],J6 b)
  |none=>none)
 |_,v=>(match view m 6 v with
  |some (v',b)=>some (v'.eF a,[],J6 b)
  |none=>none)
def AO(imm:Bool)(b:List Nat):Mm->List a7->Nat->Option (List a7×List c7)
 |_,[],_=>some ([],[])
 |m,v::vs,n=>match OB imm m b v n with
  |some (v',c,u)=>match AO imm b (y8 m u) vs (n+c.length)with
   |some (a,cs)=>some (v'::a,c++cs)
   |none=>none
  |none=>none
def z'(P:Program)(m:Mm)(b:List (Nat×a7)):ResultVar->Option a7
 |.tmp t=>some (u9 b t)
 |.cell a t=>match u9 b a with
  |.ptr r off=>match m r with
   |some (.box cells,f)=>if f=.dead then none else Hh P t (cells.drop off)
   |_=>none
  |.P6 r=>(match m r,P.underlying t with
   |some (.sl ty l,f),some (.array _ _)=>if f=.dead then none else some (.S3 ty l)
   |_,_=>none)
  |_=>none
def kJ(P:Program)(m:Mm)(b:List (Nat×a7)):List ResultVar->Prop->Prop
 |[],q=>q
 |r::c,q=>match r with
  |.tmp _=>kJ P m b c q
  |.cell a t=>match u9 b a with
   |.P6 r=>(match m r with
    |some (.sl ty l,_)=>l.length*ty.size=j9 P t/\kJ P m b c q
    |_=>kJ P m b c q)
   |_=>kJ P m b c q
def vS(P:Program)(m:Mm)(a:List (Nat×a7)):List ResultVar->Option (List a7)
 |[]=>some []
 |r::b=>match z' P m a r,vS P m a b with
  |some v,some vs=>some (v::vs)
  |_,_=>none
def uU:a7->Option Nat
 |.O1 r _=>some r
 |.B9 r=>some r
 |_=>none
def sameKind:c7->c7->Bool
 |.sl t _,.sl b _=>decide (t=b)
 |.mp mk _ _,.mp a _ _=>decide (mk=a)
 |_,_=>false
def cI(m:Mm):List a7->List c7->Option (List Nat×List c7)
 |[],[]=>some ([],[])
 |v::vs,c::cs=>match uU v with
  |some r=>(match m r with
   |some (c',.own)=>if sameKind c c' then(match cI m vs cs with
    |some (b,a)=>some (r::b,c'::a)
    |none=>none)else none
   |_=>none)
  |none=>none
 |_,_=>none
def sU:List Nat->List (Nat×p0)
 |[]=>[]
 |r::a=>(r,.dead)::sU a
def VG(imm:Bool)(P:Program)(c:Func)(d:List c7)(a:j7)(k:a7->List c7->Prop):Prop:=
 match cI (l9 a.M) a.gh d with
 |some (e,b)=>if AG e then(match vS P (l9 a.M) a.tmps c.results.toList with
  |some vs=>kJ P (l9 a.M) a.tmps c.results.toList (match AO imm e (y8 (l9 a.M) (sU e)) (I7 P c.resultTypes.toList vs) b.length with
   |some ([v],cs)=>if v.AL && Ei cs then k v (b++cs)else False
   |some (vs,cs)=>if gH vs && Ei cs then k (.M1 vs) (b++cs)else False
   |none=>False)
  |none=>False)else False
 |none=>False
def AP:List c7->Nat->Mem
 |[],_=>[]
 |c::cs,i=>(i,(c,.own))::AP cs (i+1)
def T9:List a7->List a7
 |[]=>[]
 |v::vs=>match v with
  |.O1 r f=>.O1 r f::T9 vs
  |.B9 r=>.B9 r::T9 vs
  |_=>T9 vs
def iR:List a7->Nat->List c7->Bool
 |[],_,[]=>true
 |v::vs,i,c::cs=>(match v,c with
  |.O1 r _,.sl _ _=>decide (r=i)
  |.B9 r,.mp _ _ _=>decide (r=i)
  |_,_=>false) && iR vs (i+1) cs
 |_,_,_=>false
def awpF(Γ:Env)(P:Program)(kt:FuncId->Nat->List Nat)(f:FuncId)(imm:Bool)(b:Func)(a:List a7)(cs:List c7)(k:a7->List c7->Prop):Prop:=
 match b.body with
 |some c=>if gH a && Ei cs && iR (T9 a) 0 cs then Hi Γ P (kt f) (Rg Γ P kt Cb) c .top {n:=max a.length b.ntmps,tmps:=AK a 0,nx:=cs.length,M:=AP cs 0,gh:=T9 a,o7:=none} (fun e d=>match e with
  |.normal=>VG imm P b cs d k
  |.ret=>VG imm P b cs d k
  |.exit _=>False)else False
 |none=>False
attribute [irreducible] awpF
def VH:List c7->Nat->Option (List a7)
 |[],_=>some []
 |c::cs,i=>match c,VH cs (i+1)with
  |.sl _ _,some a=>some (.O1 i false::a)
  |.mp _ _ _,some a=>some (.B9 i::a)
  |.box _,some a=>some (.ptr i 0::a)
  |.bx _ _ _ _ _,some a=>some (.ptr i 0::a)
  |_,_=>none
def U0:a7->Option Nat
 |.O1 r _=>some r
 |.B9 r=>some r
 |.ptr r _=>some r
 |_=>none
def AQ:List a7->Option (List Nat)
 |[]=>some []
 |v::vs=>match U0 v,AQ vs with
  |some r,some a=>some (r::a)
  |_,_=>none
def graphR(M:Mm)(vs:List a7)(a:List Nat):List Nat:=bE M 6 (uniq ((vs.map (refs 8)).flatten) a)
attribute [irreducible] graphR
def VJ(P:Program)(b:Func)(a:j7)(k:a7->List c7->Prop):Prop:=
 match AQ a.gh with
 |some c=>if AG c then(match vS P (l9 a.M) a.tmps b.results.toList with
  |some vs=>kJ P (l9 a.M) a.tmps b.results.toList
   (match M8 (l9 a.M) (graphR (l9 a.M) (I7 P b.resultTypes.toList vs) c) (graphR (l9 a.M) (I7 P b.resultTypes.toList vs) c)with
   |some cs=>if Ei cs then(match L5 (graphR (l9 a.M) (I7 P b.resultTypes.toList vs) c) (I7 P b.resultTypes.toList vs)with
    |[v]=>if v.AL then k v cs else False
    |us=>if gH us then k (.M1 us) cs else False)else False
   |none=>False)
  |none=>False)else False
 |none=>False
def awpG(Γ:Env)(P:Program)(kt:FuncId->Nat->List Nat)(f:FuncId)(b:Func)(a:List a7)(cs:List c7)(k:a7->List c7->Prop):Prop:=
 match b.body,VH cs 0 with
 |some c,some g=>if gH a && Ei cs then Hi Γ P (kt f) (Rg Γ P kt Cb) c .top {n:=max a.length b.ntmps,tmps:=AK a 0,nx:=cs.length,M:=AP cs 0,gh:=g,o7:=none} (fun e d=>match e with
  |.normal=>VJ P b d k
  |.ret=>VJ P b d k
  |.exit _=>False)else False
 |_,_=>False
attribute [irreducible] awpG
end Go.Abs
end
section
namespace Go.Abs
noncomputable section
inductive BV where
 |c (n:Nat)
 |a (k n:Nat)
 |t (l:List (Nat×Nat))
 |u
inductive l6 where
 |er (c x:Nat)
 |ok (v:BV) (new:List HO) (set:List (Nat×HO)) (rd:List Nat)
def fN{α:Type}(n:Nat)(k:Nat->α):α:=@Nat.rec (fun _=>α) (k 0) (fun m _=>k (Nat.succ m)) n
def iB{α:Type}(b:Bool)(t f:α):α:=@Bool.rec (fun _=>α) f t b
def nB(b:Bool)(c:Nat)(k:l6):l6:=@Bool.rec (fun _=>l6) (.er c 0) k b
def I3(b:Bool):Nat:=@Bool.rec (fun _=>Nat) 9 17 b
def G5(n:Nat):Nat:=Nat.add (Nat.mul 128 n) 1180591620717411303456
def AR(c:Nat):Nat:=Nat.mod c 8
def iS(n i k:Nat):Nat:=Nat.mod (Nat.div n (Nat.pow cB i)) (Nat.pow cB k)
def vT(n i k x:Nat):Nat:=Nat.add (Nat.sub n (Nat.mul (iS n i k) (Nat.pow cB i))) (Nat.mul x (Nat.pow cB i))
def Df(n i k:Nat):Nat:=iS n (Nat.succ i) k
def VK(o n m:Nat):Nat:=Nat.add (Nat.sub o (Nat.mod n cB)) (Nat.mod (Nat.add (Nat.mod n cB) m) 4294967291)
def W2(n i k x:Nat):Nat:=VK (vT n (Nat.succ i) k x) n (Nat.mul x (Nat.succ (Nat.mul 2 i)))
def bH(n:Nat):Nat:=Nat.add (Nat.mul n cB) (Nat.mod n 4294967291)
def Lr(z s:Nat):Nat->Nat:=@Nat.rec (fun _=>Nat) 0 (fun _ a=>Nat.add z (Nat.mul (Nat.pow cB s) a))
def qM:Value->Nat
 |.int k (.ofNat m)=>N8 (G0 k) (Nat.add cZ m)
 |.int k (.negSucc m)=>N8 (G0 k) (Nat.sub cZ (Nat.succ m))
 |.bool b=>I3 b
 |.slice none 0 0=>25
 |.pointer none=>33
 |.map none=>41
 |.nilFunc=>49
 |_=>0
def nR:Value->Bool
 |.int _ (.ofNat m)=>Nat.ble m 18446744073709551616
 |.int _ (.negSucc m)=>Nat.ble (Nat.succ m) cZ
 |.bool _=>true
 |.slice none 0 0=>true
 |.pointer none=>true
 |.map none=>true
 |.nilFunc=>true
 |_=>false
def Ho:List Value->Nat
 |[]=>0
 |v::vs=>Nat.add (qM v) (Nat.mul cB (Ho vs))
def OC:Value->BV
 |.agg cs=>iB (cs.toList.all nR) (.a cs.toList.length (Ho cs.toList)) .u
 |v=>iB (nR v) (.c (qM v)) .u
def vU(P:Program)(t:TypeId):Nat:=match P.underlying t,P.info? t with
 |some (.struct _),some i=>i.size+2
 |some (.array _ _),some i=>i.size+2
 |some _,some i=>iB (Nat.beq i.size 1) 1 0
 |_,_=>0
def bA(a:Nat):Nat:=@Nat.rec (fun _=>Nat) 0 (fun m _=>@Nat.rec (fun _=>Nat) 1 (fun k _=>k) m) a
def Hq(P:Program)(t:TypeId):Option TypeId:=match P.underlying t with
 |some (.slice e)=>some e
 |_=>none
def arT(P:Program)(t:TypeId):Option (Nat×TypeId):=match P.underlying t with
 |some (.array n e)=>some (n,e)
 |_=>none
def J2(P:Program)(t:TypeId):Nat:=match Hq P t with
 |some e=>bA (vU P e)
 |none=>0
def Hj(P:Program)(t:TypeId):Nat:=match arT P t with
 |some x=>x.1
 |none=>0
def Cc(P:Program)(t:TypeId):Nat:=match arT P t with
 |some x=>bA (vU P x.2)
 |none=>0
def B'(P:Program)(t:TypeId):Nat:=match arT P t with
 |some x=>vU P x.2
 |none=>0
def lU(P:Program)(t:TypeId):Nat:=match P.info? t with
 |some i=>(match i.zero with
  |some v=>Ho v.cells.toList
  |none=>0)
 |none=>0
def eG(P:Program)(t:TypeId):Bool:=match P.info? t with
 |some i=>(match i.zero with
  |some v=>v.cells.toList.all nR && Nat.beq v.cells.toList.length i.size && !Nat.beq i.size 0 && Nat.ble i.size 16777216 && Nat.ble i.bytes 65536
  |none=>false)
 |none=>false
def HV(P:Program)(t:TypeId)(i:Nat):Nat:=match P.underlying t with
 |some (.struct a)=>(match a[i]? with
  |some f=>iB (Nat.beq (bA (vU P f.type)) 0) 0 (f.offset+1)
  |none=>0)
 |_=>0
def OD(P:Program)(t:TypeId)(i:Nat):Nat:=match P.underlying t with
 |some (.struct a)=>(match a[i]? with
  |some f=>vU P f.type
  |none=>0)
 |_=>0
def mpK(P:Program)(t:TypeId):Option (TypeId×TypeId):=match P.underlying t with
 |some (.map k v)=>some (k,v)
 |_=>none
def a3t(P:Program)(k:TypeId):Bool:=match P.underlying k with
 |some (.struct _)=>bP P k (j9 P k)
 |some (.int _)=>true
 |_=>false
def a2h(P:Program)(t:TypeId):Bool:=match P.info? t with
 |some i=>(match i.zero with
  |some (.agg _)=>Nat.ble 2 (vU P t)
  |some (.tuple _)=>false
  |some _=>Nat.beq (vU P t) 1
  |none=>false)
 |none=>false
def eK(P:Program)(t:TypeId):Nat:=match mpK P t with
 |some x=>iB (a3t P x.1 && eG P x.2 && a2h P x.2) (vU P x.1) 0
 |none=>0
def uJ(P:Program)(t:TypeId):Nat:=match mpK P t with
 |some x=>vU P x.2
 |none=>0
def JA(P:Program)(t:TypeId):Nat:=match mpK P t with
 |some x=>lU P x.2
 |none=>0
def kdT(P:Program)(t:TypeId):Nat:=match P.underlying t with
 |some (.int k)=>G0 k
 |_=>0
def vC(v:BV)(k:Nat->l6):l6:=@BV.rec (fun _=>l6) k (fun _ _=>.er 2 0) (fun _=>.er 3 0) (.er 4 0) v
def vR(v:BV)(k:Nat->Nat->l6):l6:=@BV.rec (fun _=>l6) (fun n=>nB (Nat.ble 3 n) 5 (k 1 n)) (fun s n=>k s n) (fun _=>.er 6 0) (.er 7 0) v
def uK(b n:Nat):BV:=@Nat.rec (fun _=>BV) (.c n) (fun k _=>.a k n) b
def Hs(v:BV):Nat:=@BV.rec (fun _=>Nat) (fun _=>1) (fun k _=>Nat.succ (Nat.succ k)) (fun _=>0) 0 v
def xI(v:BV):l6:=.ok v [] [] []
def lN(c:Nat):l6:=.ok (.c c) [] [] []
def kLo(k:Nat):Nat:=match k with|1=>cZ- 128|2=>cZ- 32768|3=>cZ- 2147483648|4=>0|_=>cZ
def kHi(k:Nat):Nat:=match k with|1=>cZ+127|2=>cZ+32767|3=>cZ+2147483647|4=>cZ+cZ- 1|5=>cZ+255|6=>cZ+65535|7=>cZ+4294967295|8=>cZ+cZ+cZ- 1|_=>0
def Em(a v:Nat):l6:=nB (Nat.ble (kLo a) v) 10 (nB (Nat.ble v (kHi a)) 11 (lN (N8 a v)))
def AT(a:Nat):Nat:=Nat.div (Nat.mod a 128) 8
def n8(a:Nat):Nat:=Nat.div a 128
def VL(a:Nat):Nat:=Nat.mod (Nat.add (n8 a) cZ) 18446744073709551616
def mulC(x y:Nat):Nat:=iB (Nat.ble cZ x) (iB (Nat.ble cZ y) (Nat.add cZ (Nat.mul (Nat.sub x cZ) (Nat.sub y cZ))) (Nat.sub cZ (Nat.mul (Nat.sub x cZ) (Nat.sub cZ y))))
 (iB (Nat.ble cZ y) (Nat.sub cZ (Nat.mul (Nat.sub cZ x) (Nat.sub y cZ))) (Nat.add cZ (Nat.mul (Nat.sub cZ x) (Nat.sub cZ y))))
def Rh(x y:Nat):Bool:=iB (Nat.ble cZ x) (iB (Nat.ble cZ y) true (Nat.ble (Nat.mul (Nat.sub x cZ) (Nat.sub cZ y)) cZ)) (iB (Nat.ble cZ y) (Nat.ble (Nat.mul (Nat.sub cZ x) (Nat.sub y cZ)) cZ) true)
def VM(f:Nat->Nat->Nat)(a b:Nat):l6:=nB (Nat.beq (AT a) 4) 12 (Em 4 (Nat.mod (Nat.add (f (VL a) (VL b)) cZ) 18446744073709551616))
def SU(b:Bool):l6:=lN (I3 b)
abbrev IOp:=Nat->Nat->l6
def SV:BinOp->IOp:=@BinOp.rec (fun _=>IOp)
 (fun a b=>nB (Nat.ble cZ (Nat.add (n8 a) (n8 b))) 13 (Em (AT a) (Nat.sub (Nat.add (n8 a) (n8 b)) cZ)))
 (fun a b=>nB (Nat.ble (n8 b) (Nat.add (n8 a) cZ)) 14 (Em (AT a) (Nat.sub (Nat.add (n8 a) cZ) (n8 b))))
 (fun a b=>nB (Rh (n8 a) (n8 b)) 15 (Em (AT a) (mulC (n8 a) (n8 b))))
 (fun a b=>nB (Nat.ble cZ (n8 a)) 16 (nB (Nat.ble (Nat.succ cZ) (n8 b)) 17 (Em (AT a) (Nat.add cZ (Nat.div (Nat.sub (n8 a) cZ) (Nat.sub (n8 b) cZ))))))
 (fun a b=>nB (Nat.ble cZ (n8 a)) 18 (nB (Nat.ble (Nat.succ cZ) (n8 b)) 19 (Em (AT a) (Nat.add cZ (Nat.mod (Nat.sub (n8 a) cZ) (Nat.sub (n8 b) cZ))))))
 (VM Nat.land) (VM Nat.lor) (VM Nat.xor) (fun _ _=>.er 20 0) (fun _ _=>.er 21 0) (fun _ _=>.er 22 0)
 (fun _ _=>.er 23 0) (fun _ _=>.er 24 0)
 (fun a b=>SU (Nat.ble (Nat.succ a) b)) (fun a b=>SU (Nat.ble a b)) (fun a b=>SU (Nat.ble (Nat.succ b) a)) (fun a b=>SU (Nat.ble b a))
def kK(l:Bool)(a b:Nat):l6:=nB (Nat.beq (AT a) 4) 46 (nB (Nat.ble cZ (n8 a)) 25 (nB (Nat.ble cZ (n8 b)) 26 (nB (Nat.ble (n8 b) (Nat.add cZ 63)) 27
 (Em 4 (Nat.add cZ (iB l (Nat.mul (Nat.sub (n8 a) cZ) (Nat.pow 2 (Nat.sub (n8 b) cZ))) (Nat.div (Nat.sub (n8 a) cZ) (Nat.pow 2 (Nat.sub (n8 b) cZ)))))))))
def Q3:BinOp->Nat:=@BinOp.rec (fun _=>Nat) 0 0 0 0 0 0 0 0 1 2 0 3 4 0 0 0 0
def pK(c:Nat):Bool:=Nat.beq (AR c) 0
def eqK(P:Program)(t:TypeId):Nat:=match P.underlying t with
 |some .bool=>1
 |some (.slice _)=>2
 |some (.map _ _)=>3
 |some (.pointer _)=>4
 |_=>0
def pV(c:Nat):Bool:=iB (Nat.beq c 9) true (Nat.beq c 17)
def Ls(d c a b:Nat)(k:Bool->l6):l6:=nB (Nat.beq b c) 28 (nB (iB (Nat.beq (AR a) d) true (Nat.beq a c)) 29 (k (Nat.beq a b)))
def eqC(P:Program)(t:TypeId)(a b:Nat)(k:Bool->l6):l6:=iB (pK a) (nB (Nat.beq (Nat.mod a 128) (Nat.mod b 128)) 30 (k (Nat.beq a b)))
 ((fun q=>iB (Nat.beq q 1) (nB (pV a) 31 (nB (pV b) 48 (k (Nat.beq a b)))) (iB (Nat.beq q 2) (Ls 5 25 a b k) (iB (Nat.beq q 3) (Ls 6 41 a b k) (iB (Nat.beq q 4) (Ls 4 33 a b k) (.er 49 0))))) (eqK P t))
def a2j(k:Nat):Nat:=Nat.div (Nat.sub (Nat.pow cB k) 1) (Nat.sub cB 1)
def lV(k n:Nat):Bool:=Nat.beq (Nat.land n (Nat.mul 127 (a2j k))) (Nat.mul 32 (a2j k))
def JB(P:Program)(t:TypeId)(k:Nat):Bool:=iB (bP P t k) true (iB (Jq P t k) (Nat.beq (eY P t) k) false)
def VN(P:Program)(op:BinOp)(t:TypeId)(x y:BV):l6:=@BV.rec (fun _=>l6)
 (fun a=>vC y fun b=>(fun m=>iB (Nat.beq m 0) (nB (pK a) 32 (nB (Nat.beq (Nat.mod a 128) (Nat.mod b 128)) 33 (SV op a b)))
  (iB (Nat.beq m 1) (nB (pK a) 34 (nB (pK b) 35 (kK true a b))) (iB (Nat.beq m 2) (nB (pK a) 36 (nB (pK b) 37 (kK false a b)))
   (eqC P t a b fun e=>lN (I3 (iB (Nat.beq m 3) e (Bool.not e))))))) (Q3 op))
 (fun s a=>@BV.rec (fun _=>l6) (fun _=>.er 38 0) (fun c b=>nB (Nat.beq s c) 39 (nB (JB P t s) 40 (nB (lV s a) 58 (nB (lV s b) 59 ((fun m=>iB (Nat.beq m 3) (lN (I3 (Nat.beq a b))) (iB (Nat.beq m 4) (lN (I3 (Bool.not (Nat.beq a b)))) (.er 41 0))) (Q3 op)))))) (fun _=>.er 42 0) (.er 43 0) y)
 (fun _=>.er 44 0) (.er 45 0) x
def pR(c:Nat):Nat:=Nat.div c 8388608
def pO(c:Nat):Nat:=Nat.mod (Nat.div c 8) 1048576
def sV(c:Nat):Bool:=Nat.beq (AR c) 4
def Ln(c:Nat):Bool:=Nat.beq (AR c) 5
def vV(c:Nat):Bool:=Nat.beq (AR c) 6
def sR(c:Nat):Nat:=Nat.div c 4503599627370496
def sO(c:Nat):Nat:=Nat.mod (Nat.div c 4294967296) 1048576
def sL(c:Nat):Nat:=Nat.mod (Nat.div c 4096) 1048576
def sE(c:Nat):Nat:=Nat.mod (Nat.div c 16) 256
def sF(c:Nat):Nat:=Nat.mod (Nat.div c 8) 2
def mR(c:Nat):Nat:=Nat.div c 8
def fF(c:Nat):Nat:=Nat.mod (Nat.div c 8) 65536
def fR(c:Nat):Nat:=Nat.div c 524288
abbrev Hp:=Nat->HO
def hC(o:HO)(k:Nat->Nat->l6):l6:=@HO.rec (fun _=>l6) k (fun _ _ _ _=>.er 50 0) (fun _ _ _ _=>.er 51 0) (fun _ _ _ _=>.er 52 0) (.er 53 0) o
abbrev ME:=List (Nat×Nat×Nat)
def hM(o:HO)(k:Nat->Nat->ME->Nat->l6):l6:=@HO.rec (fun _=>l6) (fun _ _=>.er 54 0) k (fun _ _ _ _=>.er 55 0) (fun _ _ _ _=>.er 56 0) (.er 57 0) o
def SW(o:HO)(c:Nat):l6:=.ok (.c c) [o] [] []
def Ri(c a b:BV):l6:=vC c fun n=>iB (Nat.beq n 17) (xI a) (nB (Nat.beq n 9) 60 (xI b))
def VO(P:Program)(e:TypeId)(nx:Nat):l6:=nB (eG P e) 61 (SW (.c (j9 P e) (bH (lU P e))) (bO nx 0))
def C'(x:BV)(nx:Nat):l6:=vR x fun s n=>SW (.c s (bH n)) (bO nx 0)
def dN(P:Program)(t:TypeId)(ev:Operand->BV):List (Nat×Operand)->Nat->(Nat->l6)->l6:=@List.rec (Nat×Operand) (fun _=>Nat->(Nat->l6)->l6) (fun n k=>k n)
 (fun p _ a n k=>@Nat.rec (fun _=>l6) (.er 62 0) (fun o _=>vR (ev p.2) fun s x=>nB (Nat.beq s (bA (OD P t p.1))) 63 (nB (Nat.ble (Nat.add o s) (j9 P t)) 157 (fN (vT n o s x) fun b=>a b k))) (HV P t p.1))
def JD(P:Program)(t:TypeId):Bool:=match P.underlying t with
 |some (.struct a)=>a.toList.all fun f=>(P.info? f.type).isSome
 |some (.array _ e)=>(P.info? e).isSome
 |_=>false
def En(P:Program)(t:TypeId)(ps:List (Nat×Operand))(ev:Operand->BV):l6:=nB (eG P t) 64 (nB (JD P t) 65 (dN P t ev ps (lU P t) fun n=>xI (.a (j9 P t) n)))
def nS(ev:Operand->BV)(a:Nat):List (Nat×Operand)->Nat->(Nat->l6)->l6:=@List.rec (Nat×Operand) (fun _=>Nat->(Nat->l6)->l6) (fun _ k=>k 0)
 (fun p _ b i k=>nB (Nat.beq p.1 i) 66 (vR (ev p.2) fun s x=>nB (Nat.beq s a) 67 (b (Nat.succ i) fun n=>k (Nat.add x (Nat.mul (Nat.pow cB a) n)))))
def OE(nx len a n b:Nat):l6:=nB (Nat.ble len 1048575) 68 (nB (Nat.ble a 255) 69 (nB (Nat.ble 1 a) 70 (nB (Nat.ble (Nat.mul len a) 16777216) 158 (SW (.c (Nat.mul len a) (bH n)) (pJ nx 0 len a b)))))
def qN(P:Program)(t:TypeId)(len:Nat)(ps:List (Nat×Operand))(ev:Operand->BV)(nx:Nat):l6:=
 nB (Nat.beq ps.length len) 71 (nB (@Option.rec TypeId (fun _=>Bool) false (fun e=>eG P e) (Hq P t)) 72 (nS ev (J2 P t) ps 0 fun n=>OE nx len (J2 P t) n 1))
def uV(P:Program)(t:TypeId)(x:BV)(D:Hp):l6:=vC x fun c=>nB (sV c) 73 (@Nat.rec (fun _=>l6) (.er 74 0) (fun a _=>hC (D (pR c)) fun s n=>
 nB (Nat.ble (Nat.add (pO c) (bA (Nat.succ a))) s) 75 (.ok (uK a (Df n (pO c) (bA (Nat.succ a)))) [] [] [pR c])) (vU P t))
def iT(P:Program)(t:TypeId)(a x:BV)(D:Hp):l6:=vC a fun c=>nB (sV c) 76 (hC (D (pR c)) fun s n=>vR x fun b y=>
 nB (Nat.beq b (j9 P t)) 77 (nB (Nat.ble 1 b) 78 (nB (Nat.ble (Nat.add (pO c) b) s) 79 (.ok (.c 1) [] [(pR c,.c s (W2 n (pO c) b y))] [pR c]))))
def sW(x:BV):l6:=vC x fun c=>nB (iB (sV c) true (Nat.beq (AR c) 7)) 80 (lN c)
def G'(x:BV):l6:=vC x fun c=>iB (Nat.beq c 17) (lN 9) (nB (Nat.beq c 9) 81 (lN 17))
def I'(x:BV):l6:=vC x fun c=>nB (pK c) 82 (nB (Nat.ble (n8 c) (Nat.add cZ cZ)) 83 (Em (AT c) (Nat.sub (Nat.add cZ cZ) (n8 c))))
def xUn(op:UnOp)(x:BV):l6:=@UnOp.rec (fun _=>l6) (I' x) (.er 84 0) (G' x) (.er 85 0) op
def Rj(P:Program)(s a:TypeId)(x:BV):l6:=vC x fun c=>nB (pK c) 86 (nB (Option.isSome (P.underlying s)) 87 (Em (kdT P a) (n8 c)))
def nT(P:Program)(t:TypeId)(x:BV)(f:Nat):l6:=vC x fun c=>nB (sV c) 88 (@Nat.rec (fun _=>l6) (.er 89 0) (fun o _=>nB (Nat.ble (Nat.add (pO c) o) 1048575) 90 (lN (Nat.add c (Nat.mul 8 o)))) (HV P t f))
def iU(P:Program)(t:TypeId)(x:BV)(f:Nat):l6:=@BV.rec (fun _=>l6) (fun _=>.er 91 0) (fun k n=>@Nat.rec (fun _=>l6) (.er 92 0) (fun o _=>@Nat.rec (fun _=>l6) (.er 93 0) (fun a _=>
 nB (Nat.ble (Nat.add o (bA (Nat.succ a))) k) 94 (xI (uK a (iS n o (bA (Nat.succ a)))))) (OD P t f)) (HV P t f)) (fun _=>.er 95 0) (.er 96 0) x
def vI(v:BV)(k:Nat->l6):l6:=vC v fun c=>nB (pK c) 97 (nB (Nat.ble cZ (n8 c)) 98 (k (Nat.sub (n8 c) cZ)))
def nU(P:Program)(t:TypeId)(x i:BV):l6:=vC x fun c=>vI i fun j=>
 iB (Ln c) (nB (Nat.ble 1 (J2 P t)) 99 (nB (Nat.ble (Nat.succ j) (sL c)) 100 (nB (Nat.ble (Nat.add (sO c) (Nat.mul j (J2 P t))) 1048575) 101 (lN (bO (sR c) (Nat.add (sO c) (Nat.mul j (J2 P t))))))))
  (nB (sV c) 102 (nB (Nat.ble (Nat.succ j) (Hj P t)) 103 (nB (Nat.ble 1 (Cc P t)) 104 (nB (Nat.ble (Nat.add (pO c) (Nat.mul j (Cc P t))) 1048575) 105 (lN (Nat.add c (Nat.mul 8 (Nat.mul j (Cc P t)))))))))
def qO(P:Program)(t:TypeId)(x i:BV):l6:=@BV.rec (fun _=>l6) (fun _=>.er 106 0) (fun k n=>vI i fun j=>@Nat.rec (fun _=>l6) (.er 107 0) (fun a _=>
 nB (Nat.ble (Nat.succ j) (Hj P t)) 108 (nB (Nat.ble (Nat.mul (Nat.succ j) (bA (Nat.succ a))) k) 109 (nB (Nat.ble 1 (bA (Nat.succ a))) 110 (xI (uK a (iS n (Nat.mul j (bA (Nat.succ a))) (bA (Nat.succ a)))))))) (B' P t)) (fun _=>.er 111 0) (.er 112 0) x
def a3v:List (Nat×Nat)->Nat->(Nat->Nat->l6)->l6:=@List.rec (Nat×Nat) (fun _=>Nat->(Nat->Nat->l6)->l6) (fun i _=>.er 113 i) (fun p _ a i=>@Nat.rec (fun _=>(Nat->Nat->l6)->l6) (fun k=>k p.1 p.2) (fun j _=>a j) i)
def dO(x:BV)(i:Nat):l6:=@BV.rec (fun _=>l6) (fun _=>.er 114 0) (fun _ _=>.er 115 0) (fun l=>a3v l i fun s n=>xI (uK s n)) (.er 116 0) x
def iV(c:Nat)(k:Nat->l6):l6:=iB (Nat.beq c 25) (k 0) (nB (Ln c) 117 (k (sL c)))
def oI(ev:Operand->BV)(x:Option Operand)(d:Nat)(k:Nat->l6):l6:=@Option.rec Operand (fun _=>l6) (k d) (fun o=>vI (ev o) k) x
def oN{α:Type}(x:Option Operand)(a b:α):α:=@Option.rec Operand (fun _=>α) a (fun _=>b) x
def iW(P:Program)(t:TypeId)(x:BV)(lo d mx:Option Operand)(ev:Operand->BV)(D:Hp):l6:=vC x fun c=>
 iB (sV c) (oI ev lo 0 fun a=>oI ev d (Hj P t) fun b=>oN mx (nB (Nat.ble a b) 118 (nB (Nat.ble b (Hj P t)) 119 (nB (Nat.ble 1 (Cc P t)) 120 (nB (Nat.ble (Cc P t) 255) 121 (nB (Nat.ble (Hj P t) 1048575) 122
     (nB (Nat.ble (Nat.add (pO c) (Nat.mul a (Cc P t))) 1048575) 123 (hC (D (pR c)) fun s _=>nB (Nat.ble (Nat.add (pO c) (Nat.mul (Hj P t) (Cc P t))) s) 155 (.ok (.c (pJ (pR c) (Nat.add (pO c) (Nat.mul a (Cc P t))) (Nat.sub b a) (Cc P t) (iB (Nat.beq b (Hj P t)) 1 0))) [] [] [pR c]))))))))
     (.er 124 0))
  (nB (Nat.ble 1 (J2 P t)) 125 (iV c fun l=>oI ev lo 0 fun a=>oI ev d l fun b=>oI ev mx l fun m=>
     nB (oN mx true (oN d false true)) 156 (nB (Nat.ble a b) 126 (nB (Nat.ble b m) 127 (nB (Nat.ble m l) 128 (iB (Nat.beq c 25) (lN 25)
      (nB (Nat.beq (sE c) (J2 P t)) 129 (nB (Nat.ble (Nat.add (sO c) (Nat.mul a (J2 P t))) 1048575) 130
         (lN (pJ (sR c) (Nat.add (sO c) (Nat.mul a (J2 P t))) (Nat.sub b a) (J2 P t) (iB (Nat.beq b m) (oN mx (sF c) 1) 0)))))))))))
def J'(D:Hp)(a c:Nat)(k:Nat->Nat->List Nat->l6):l6:=iB (Nat.beq c 25) (k 0 0 []) (nB (Ln c) 131 (hC (D (sR c)) fun s n=>nB (Nat.ble (Nat.add (sO c) (Nat.mul (sL c) a)) s) 132 (k (sL c) (Df n (sO c) (Nat.mul (sL c) a)) [sR c])))
def Lt(P:Program)(t:TypeId)(c nx:Nat)(D:Hp)(m ys:Nat)(rd:List Nat):l6:=iB (Nat.beq m 0) (nB (iB (Nat.beq c 25) true (Ln c)) 159 (.ok (.c c) [] [] rd))
 (J' D (J2 P t) c fun l xs b=>nB (Nat.ble (Nat.add l m) 1048575) 133 (nB (Nat.ble (J2 P t) 255) 134 (nB (Nat.ble 1 (J2 P t)) 135
  (iB (iB (Nat.beq c 25) true (Nat.beq (sF c) 1))
   (.ok (.c (pJ nx 0 (Nat.add l m) (J2 P t) 0)) [.c (Nat.mul (Nat.add l m) (J2 P t)) (bH (Nat.add xs (Nat.mul ys (Nat.pow cB (Nat.mul l (J2 P t))))))] [] (List.append b rd))
   (nB (Nat.beq (sE c) (J2 P t)) 137 (nB (iB (@List.rec Nat (fun _=>Bool) false (fun a _ _=>Nat.beq a (sR c)) rd) false true) 138
    (.ok (.c (pJ nx 0 (Nat.add l m) (J2 P t) 0)) [.c (Nat.mul (Nat.add l m) (J2 P t)) (bH (Nat.add xs (Nat.mul ys (Nat.pow cB (Nat.mul l (J2 P t))))))] [(sR c,.z)] (List.append b rd))))))))
def gV(P:Program)(t u:TypeId)(x y:BV)(nx:Nat)(D:Hp):l6:=nB (@Option.rec TypeId (fun _=>Bool) false (fun e=>eG P e) (Hq P t)) 139 (nB (Nat.ble 1 (J2 P t)) 135 (vC x fun c=>
 iB (Nat.beq (kdT P u) 4) (vI y fun n=>nB (Nat.ble n 1048575) 140 (Lt P t c nx D n (Lr (@Option.rec TypeId (fun _=>Nat) 0 (fun e=>lU P e) (Hq P t)) (J2 P t) n) []))
  (nB (Nat.beq t u) 141 (vC y fun d=>J' D (J2 P t) d fun m ys rd=>Lt P t c nx D m ys rd))))
def xP(P:Program)(t u:TypeId)(x y:BV)(D:Hp):l6:=nB (Option.isSome (Hq P u)) 142 (nB (Nat.ble 1 (J2 P t)) 143 (vC x fun c=>vC y fun d=>J' D (J2 P t) d fun m ys rd=>iV c fun l=>
 fN (iB (Nat.ble m l) m l) fun q=>iB (Nat.beq q 0) (.ok (.c (G5 0)) [] [] rd) (hC (D (sR c)) fun s n=>nB (Nat.ble (Nat.add (sO c) (Nat.mul q (J2 P t))) s) 144
  (.ok (.c (G5 q)) [] [(sR c,.c s (W2 n (sO c) (Nat.mul q (J2 P t)) (iS ys 0 (Nat.mul q (J2 P t)))))] (sR c::rd)))))
def nV(P:Program)(t:TypeId)(x:BV)(D:Hp):l6:=vC x fun c=>@Option.rec TypeId (fun _=>l6) (.er 145 0) (fun e=>nB (eG P e) 146 (nB (Nat.ble 1 (J2 P t)) 135 (iV c fun l=>iB (Nat.beq l 0) (lN 1) (hC (D (sR c)) fun s n=>
 nB (Nat.ble (Nat.add (sO c) (Nat.mul l (J2 P t))) s) 147 (.ok (.c 1) [] [(sR c,.c s (W2 n (sO c) (Nat.mul l (J2 P t)) (Lr (lU P e) (J2 P t) l)))] [sR c]))))) (Hq P t)
def L'(P:Program)(t:TypeId)(x:BV):l6:=nB (Option.isSome (Hq P t)) 148 (vC x fun c=>iV c fun l=>lN (G5 l))
def O'(P:Program)(t:TypeId)(x:BV):l6:=nB (Option.isSome (Hq P t)) 149 (vC x fun c=>iB (Nat.beq c 25) (lN (G5 0)) (nB (Ln c) 150 (nB (Nat.beq (sF c) 1) 151 (lN (G5 (sL c))))))
def iX(b:Nat->Nat->Bool)(ev:Operand->BV):List Operand->Nat->l6:=@List.rec Operand (fun _=>Nat->l6) (fun a=>lN a) (fun o _ d a=>vC (ev o) fun c=>nB (Nat.beq (Nat.mod a 128) (Nat.mod c 128)) 152 (iB (b c a) (d c) (d a)))
def Cd(a:Nat->Nat->Bool)(ev:Operand->BV)(l:List Operand):l6:=@List.rec Operand (fun _=>l6) (.er 153 0) (fun o r _=>vC (ev o) fun c=>nB (pK c) 154 (iX a ev r c)) l
end
end Go.Abs
end
section
namespace Go.Abs
noncomputable section
def qP(key:Nat):ME->(Nat->Nat->l6)->l6->l6:=@List.rec (Nat×Nat×Nat) (fun _=>(Nat->Nat->l6)->l6->l6) (fun _ e=>e) (fun p _ a k e=>iB (Nat.beq p.2.1 key) (k p.1 p.2.2) (a k e))
def VP(key v:Nat):ME->(ME->l6)->l6:=@List.rec (Nat×Nat×Nat) (fun _=>(ME->l6)->l6) (fun k=>k []) (fun p l a k=>iB (Nat.beq p.2.1 key) (k ((p.1,key,v)::l)) (a fun b=>k (p::b)))
def VQ(key:Nat):ME->(ME->l6)->l6:=@List.rec (Nat×Nat×Nat) (fun _=>(ME->l6)->l6) (fun k=>k []) (fun p l a k=>iB (Nat.beq p.2.1 key) (k l) (a fun b=>k (p::b)))
def Rk(x:Nat×Nat×Nat):ME->(ME->l6)->l6:=@List.rec (Nat×Nat×Nat) (fun _=>(ME->l6)->l6) (fun k=>k [x]) (fun p _ a k=>a fun b=>k (p::b))
def Lu(s v:Nat):ME->(ME->l6)->l6->l6:=@List.rec (Nat×Nat×Nat) (fun _=>(ME->l6)->l6->l6) (fun _ e=>e) (fun p l a k e=>iB (Nat.beq p.1 s) (k ((p.1,p.2.1,v)::l)) (a (fun b=>k (p::b)) e))
def Eo(P:Program)(t:TypeId)(nx:Nat):l6:=@Nat.rec (fun _=>l6) (.er 160 0) (fun ks _=>@Nat.rec (fun _=>l6) (.er 161 0) (fun vs _=>SW (.m ks vs [] 0) (kD nx)) (uJ P t)) (eK P t)
def qQ(P:Program)(t:TypeId)(x i:BV)(D:Hp)(k:Nat->Nat->Nat->Nat->ME->Nat->l6):l6:=vC x fun c=>nB (vV c) 162 (hM (D (mR c)) fun ks vs l clk=>
 nB (Nat.beq (Nat.succ ks) (eK P t)) 163 (nB (Nat.beq (Hs i) (eK P t)) 164 (nB (Nat.beq (Nat.succ vs) (uJ P t)) 165 (vR i fun a key=>nB (lV a key) 188 (k (mR c) key ks vs l clk)))))
def eZ(P:Program)(t:TypeId)(x i:BV)(a:Bool)(D:Hp):l6:=qQ P t x i D fun r key _ vs l _=>
 qP key l (fun _ v=>iB a (.ok (.t [(vs,v),(0,17)]) [] [] [r]) (.ok (uK vs v) [] [] [r])) (iB a (.ok (.t [(vs,JA P t),(0,9)]) [] [] [r]) (.ok (uK vs (JA P t)) [] [] [r]))
def W5(P:Program)(t:TypeId)(m x v:BV)(D:Hp):l6:=qQ P t m x D fun r key ks vs l clk=>nB (Nat.beq (Hs v) (Nat.succ vs)) 166 (vR v fun _ n=>
 qP key l (fun _ _=>VP key n l fun a=>.ok (.c 1) [] [(r,.m ks vs a clk)] [r]) (Rk (clk,key,n) l fun a=>.ok (.c 1) [] [(r,.m ks vs a (Nat.succ clk))] [r]))
def cU(P:Program)(t:TypeId)(m x:BV)(D:Hp):l6:=qQ P t m x D fun r key ks vs l clk=>
 nB (Nat.ble clk 1048576) 189 (qP key l (fun s v=>nB (Nat.ble s 1048576) 189 (.ok (.t [(vs,v),(0,G5 s)]) [] [] [r])) (Rk (clk,key,JA P t) l fun a=>.ok (.t [(vs,JA P t),(0,G5 clk)]) [] [(r,.m ks vs a (Nat.succ clk))] [r]))
def R6(m s v:BV)(D:Hp):l6:=vC m fun c=>nB (vV c) 167 (vI s fun s=>nB (Nat.ble s 1048576) 240 (hM (D (mR c)) fun ks vs l clk=>nB (Nat.beq (Hs v) (Nat.succ vs)) 168 (vR v fun _ n=>
 Lu s n l (fun a=>.ok (.c 1) [] [(mR c,.m ks vs a clk)] [mR c]) (.er 169 0))))
def kL(P:Program)(t:TypeId)(m x:BV)(D:Hp):l6:=qQ P t m x D fun r key ks vs l clk=>VQ key l fun a=>.ok (.c 1) [] [(r,.m ks vs a clk)] [r]
def a3w:Fn->Option Nat|.func f=>some f|_=>none
def Ep(ev:Operand->BV):List Operand->(Nat->l6)->l6:=@List.rec Operand (fun _=>(Nat->l6)->l6) (fun k=>k 0) (fun o _ a k=>a fun m=>vC (ev o) fun c=>nB (Nat.ble 3 c) 170 (k (Nat.add c (Nat.mul cB m))))
def iE(c:Fn)(a b:List Operand)(ev:Operand->BV)(nx:Nat):l6:=@Option.rec Nat (fun _=>l6) (.er 171 0) (fun f=>nB (Nat.ble f 65535) 172 (Ep ev a fun d=>Ep ev b fun e=>
 iB (Nat.beq (Nat.add a.length b.length) 0) (lN (xH f 0)) (nB (Nat.ble a.length 4095) 173 (nB (Nat.ble b.length 4095) 174 (SW (.f a.length d b.length e) (xH f (Nat.succ nx))))))) (a3w c)
abbrev Lk:=List (Nat×Nat)
def pL(k:Nat):Nat:=Nat.mul 4 (Nat.div (Nat.sub (Nat.pow cB k) 1) (Nat.sub cB 1))
def fJ(k n:Nat):Bool:=Nat.beq (Nat.land n (pL k)) 0
def Er{β:Type}(m:Nat)(a b c d:β):β:=@Nat.rec (fun _=>β) a (fun m _=>@Nat.rec (fun _=>β) b (fun m _=>@Nat.rec (fun _=>β) c (fun _ _=>d) m) m) m
def vW(c:Nat):Nat:=Er (Nat.sub (AR c) 4) 8388608 4503599627370496 8 524288
def lkF(r:Nat):Lk->(Nat->l6)->l6->l6:=@List.rec (Nat×Nat) (fun _=>(Nat->l6)->l6->l6) (fun _ e=>e) (fun p _ a k e=>iB (Nat.beq p.1 r) (k p.2) (a k e))
abbrev KL:=Nat->Lk->List Nat->Nat->l6
def JE(c r:Nat)(L:Lk)(q:List Nat)(m:Nat)(k:KL):l6:=
 lkF r L (fun j=>fN (Nat.sub (Nat.add c (Nat.mul j (vW c))) (Nat.mul r (vW c))) fun c'=>k c' L q m)
  (fN (Nat.sub (Nat.add c (Nat.mul m (vW c))) (Nat.mul r (vW c))) fun c'=>fN (Nat.succ m) fun a=>k c' ((r,m)::L) (r::q) a)
def JF(c:Nat)(L:Lk)(q:List Nat)(m:Nat)(k:KL):l6:=iB (Nat.beq (Nat.land c 4) 0) (k c L q m)
 (iB (Nat.beq (AR c) 7) (@Nat.rec (fun _=>l6) (k c L q m) (fun r _=>JE c r L q m k) (fR c)) (fN (Nat.div c (vW c)) fun r=>JE c r L q m k))
def P':Nat->Nat->Lk->List Nat->Nat->KL->l6:=@Nat.rec (fun _=>Nat->Lk->List Nat->Nat->KL->l6) (fun _ L q m k=>k 0 L q m)
 (fun _ a n L q m k=>JF (Nat.mod n cB) L q m fun c L q m=>a (Nat.div n cB) L q m fun b L q m=>k (Nat.add c (Nat.mul cB b)) L q m)
def Es(s n:Nat)(L:Lk)(q:List Nat)(m:Nat)(k:KL):l6:=iB (fJ s n) (k n L q m) (P' s n L q m fun a L q m=>fN a fun a=>k a L q m)
def OF(a:Nat):Nat:=@Nat.rec (fun _=>Nat) 1 (fun j _=>j) a
def R':List (Nat×Nat)->Lk->List Nat->Nat->(List (Nat×Nat)->Lk->List Nat->Nat->l6)->l6:=@List.rec (Nat×Nat) (fun _=>Lk->List Nat->Nat->(List (Nat×Nat)->Lk->List Nat->Nat->l6)->l6) (fun L q m k=>k [] L q m)
 (fun p _ a L q m k=>Es (OF p.1) p.2 L q m fun n L q m=>a L q m fun l L q m=>k ((p.1,n)::l) L q m)
def B8{α:Type}:List α->Nat:=@List.rec α (fun _=>Nat) 0 (fun _ _ a=>Nat.succ a)
def Lv(v:BV)(L:Lk)(q:List Nat)(m:Nat)(k:BV->Lk->List Nat->Nat->l6):l6:=@BV.rec (fun _=>l6) (fun c=>nB (Bool.not (Nat.beq c 2)) 180 (JF c L q m fun c=>k (.c c))) (fun s n=>Es s n L q m fun n=>k (.a s n)) (fun l=>nB (Bool.not (Nat.beq (B8 l) 0)) 199 (R' l L q m fun l=>k (.t l))) (.er 181 0) v
def Rl:List BV->Lk->List Nat->Nat->(List BV->Lk->List Nat->Nat->l6)->l6:=@List.rec BV (fun _=>Lk->List Nat->Nat->(List BV->Lk->List Nat->Nat->l6)->l6) (fun L q m k=>k [] L q m)
 (fun v _ a L q m k=>Lv v L q m fun v L q m=>a L q m fun l=>k (v::l))
def nW(ks vs:Nat):ME->Bool:=@List.rec (Nat×Nat×Nat) (fun _=>Bool) true (fun p _ a=>iB (fJ (OF ks) p.2.1) (iB (fJ (OF vs) p.2.2) a false) false)
def Et(o:HO)(L:Lk)(q:List Nat)(m:Nat)(k:HO->Lk->List Nat->Nat->l6):l6:=@HO.rec (fun _=>l6)
 (fun s n=>iB (Nat.beq (Nat.land n (Nat.mul cB (pL s))) 0) (k (.c s n) L q m) (Es s (Nat.div n cB) L q m fun n=>fN (bH n) fun n=>k (.c s n)))
 (fun a b l c=>nB (nW a b l) 182 (k (.m a b l c) L q m))
 (fun g d h e=>Es g d L q m fun d L q m=>Es h e L q m fun e=>k (.f g d h e))
 (fun _ _ _ _=>.er 183 0) (.er 184 0) o
def Lw(l:List Nat):List Nat:=@List.rec Nat (fun _=>List Nat->List Nat) (fun a=>a) (fun x _ b a=>b (x::a)) l []
def VR(l:List HO):List HO:=@List.rec HO (fun _=>List HO->List HO) (fun a=>a) (fun x _ b a=>b (x::a)) l []
def qR(D:Hp):Nat->List Nat->List Nat->Lk->Nat->List HO->(List HO->Lk->Nat->l6)->l6:=@Nat.rec (fun _=>List Nat->List Nat->Lk->Nat->List HO->(List HO->Lk->Nat->l6)->l6) (fun _ _ _ _ _ _=>.er 185 0)
 (fun _ d q a L m c k=>@List.rec Nat (fun _=>l6) (@List.rec Nat (fun _=>l6) (k c L m) (fun b e _=>d (Lw (b::e)) [] L m c k) a)
  (fun r f _=>Et (D r) L a m fun o L a m=>d f a L m (o::c) k) q)
def lW:Nat->Nat->Nat->Lk->Lk:=@Nat.rec (fun _=>Nat->Nat->Lk->Lk) (fun _ _ L=>L) (fun _ a i r L=>a (Nat.succ i) (Nat.succ r) ((i,r)::L))
def eL:List Nat->Nat->Lk->Lk:=@List.rec Nat (fun _=>Nat->Lk->Lk) (fun _ L=>L) (fun r _ a i L=>a (Nat.succ i) ((i,r)::L))
def Eu(a b:HO):Bool:=@HO.rec (fun _=>Bool) (fun s n=>@HO.rec (fun _=>Bool) (fun c d=>iB (Nat.beq s c) (Nat.beq n d) false) (fun _ _ _ _=>false) (fun _ _ _ _=>false) (fun _ _ _ _=>false) false b) (fun _ _ _ _=>false) (fun _ _ _ _=>true) (fun _ _ _ _=>false) false a
def Z7(D:Hp):List HO->List Nat->Lk->(List (Nat×HO)->List HO->l6)->l6:=@List.rec HO (fun _=>List Nat->Lk->(List (Nat×HO)->List HO->l6)->l6) (fun _ _ k=>k [] [])
 (fun o _ b c L k=>Et o L [] 0 fun o' _ q _=>nB (Nat.beq (B8 q) 0) 186 (@List.rec Nat (fun _=>l6) (b c L fun s n=>k s (o'::n)) (fun r a _=>b a L fun s n=>iB (Eu o' (D r)) (k s n) (k ((r,o')::s) n)) c))
def AU:List Nat->Bool:=@List.rec Nat (fun _=>Bool) true (fun r _ a=>iB (Nat.ble r 1048574) a false)
def W6(L:Lk):List Nat:=@List.rec (Nat×Nat) (fun _=>List Nat->List Nat) (fun a=>a) (fun p _ b a=>b (p.1::a)) L []
inductive Rn where
 |er (c x:Nat)
 |ok (v:BV) (l:List HO)
abbrev z0:=FuncId->List BV->List HO->Rn
def iY(R:z0)(D:Hp)(f:FuncId)(args:List BV)(nx:Nat):l6:=Rl args [] [] 0 fun b L q m=>qR D 2000 (Lw q) [] L m [] fun d L m=>
 @Rn.rec (fun _=>l6) (fun c x=>.er c x) (fun v a=>(fun olds=>fN (Nat.sub (B8 a) m) fun e=>nB (Nat.ble (Nat.add m (Nat.add nx e)) 1048574) 198 (nB (AU olds) 197 (Lv v (lW e m nx (eL olds 0 [])) [] 0 fun v' _ q _=>nB (Nat.beq (B8 q) 0) 187
  (Z7 D a olds (lW e m nx (eL olds 0 [])) fun s n=>.ok v' n s olds)))) (W6 L)) (R f b (VR d))
def hI(o:HO)(k:Nat->Nat->List Nat->Nat->l6):l6:=@HO.rec (fun _=>l6) (fun _ _=>.er 220 0) (fun _ _ _ _=>.er 221 0) (fun _ _ _ _=>.er 222 0) k (.er 223 0) o
def AV(P:Program)(t:TypeId)(x:BV)(nx:Nat)(D:Hp):l6:=vC x fun c=>nB (vV c) 224 (hM (D (mR c)) fun ks vs _ clk=>nB (Nat.beq (Nat.succ ks) (eK P t)) 225 (nB (Nat.beq (Nat.succ vs) (uJ P t)) 232 (.ok (.c (bO nx 0)) [.i (mR c) clk [] clk] [] [mR c])))
def VT:ME->Nat->Bool:=@List.rec (Nat×Nat×Nat) (fun _=>Nat->Bool) (fun _=>true) (fun p _ a n=>iB (Nat.ble n p.1) (a (Nat.succ p.1)) false)
def SY(s:Nat):ME->(Nat×Nat×Nat->l6)->l6->l6:=@List.rec (Nat×Nat×Nat) (fun _=>(Nat×Nat×Nat->l6)->l6->l6) (fun _ e=>e) (fun p _ a k e=>iB (Nat.beq p.1 s) (k p) (a k e))
def vX(x:BV)(D:Hp):l6:=vC x fun c=>nB (sV c) 226 (nB (Nat.beq (pO c) 0) 227 (hI (D (pR c)) fun m _ seen a=>hM (D m) fun ks vs l clk=>nB (Nat.beq clk a) 228 (nB (VT l 0) 229
 (@List.rec Nat (fun _=>l6) (.er 230 0) (fun s _ _=>nB (Nat.ble s 1048576) 241 (SY s l (fun p=>.ok (.t [(ks,p.2.1),(vs,p.2.2)]) [] [] [pR c,m]) (.er 231 0))) seen))))
def gO(ev:Operand->BV):List Operand->List BV->List BV:=@List.rec Operand (fun _=>List BV->List BV) (fun a=>a) (fun o _ b a=>ev o::b a)
def aJ:Nat->Nat->List BV->List BV:=@Nat.rec (fun _=>Nat->List BV->List BV) (fun _ a=>a) (fun _ b n a=>.c (Nat.mod n cB)::b (Nat.div n cB) a)
def Ev{β:Type}(D:Hp)(c:Nat)(args:List BV->List BV)(e:Nat->β)(k:FuncId->List BV->List Nat->β):β:=
 iB (Nat.beq (AR c) 7) (@Nat.rec (fun _=>β) (k (fF c) (args []) []) (fun r _=>@HO.rec (fun _=>β) (fun _ _=>e 190) (fun _ _ _ _=>e 191) (fun a b d f=>k (fF c) (aJ a b (args (aJ d f []))) [r]) (fun _ _ _ _=>e 192) (e 193) (D r)) (fR c)) (e 194)
def Ew(q:List Nat)(z:l6):l6:=@l6.rec (fun _=>l6) (fun c x=>.er c x) (fun v n s rd=>.ok v n s (List.append q rd)) z
def qS(R:z0)(D:Hp)(g:BV)(c:Call)(ev:Operand->BV)(nx:Nat):l6:=vC g fun a=>Ev D a (gO ev c.args.toList) (fun n=>.er n 0) fun f l q=>fN f fun f=>Ew q (iY R D f l nx)
abbrev Arm:=Program->z0->(Operand->BV)->Nat->Hp->l6
def uW(n:Nat):Arm:=fun _ _ _ _ _=>.er 200 n
def a0(c:Call):Operand:=c.args.getD 0 default
def a1(c:Call):Operand:=c.args.getD 1 default
def y0(c:Call):TypeId:=c.argTypes.getD 0 0
def y1(c:Call):TypeId:=c.argTypes.getD 1 0
def R1(c:Call)(n:Nat):Bool:=Nat.beq c.args.size n && Nat.beq c.argTypes.size n
def lX(c:Call):Builtin->Arm:=@Builtin.rec (fun _=>Arm)
 (fun P _ ev nx D=>nB (R1 c 2) 201 (gV P (y0 c) (y1 c) (ev (a0 c)) (ev (a1 c)) nx D))
 (fun P _ ev _ _=>nB (R1 c 1) 202 (O' P (y0 c) (ev (a0 c)))) (fun P _ ev _ D=>nB (R1 c 1) 203 (nV P (y0 c) (ev (a0 c)) D)) (uW 1) (uW 2)
 (fun P _ ev _ D=>nB (R1 c 2) 204 (xP P (y0 c) (y1 c) (ev (a0 c)) (ev (a1 c)) D)) (fun P _ ev _ D=>nB (R1 c 2) 205 (kL P (y0 c) (ev (a0 c)) (ev (a1 c)) D)) (uW 3)
 (fun P _ ev _ _=>nB (R1 c 1) 206 (L' P (y0 c) (ev (a0 c)))) (uW 4)
 (fun _ _ ev _ _=>Cd (fun y x=>Nat.ble (Nat.succ x) y) ev c.args.toList) (fun _ _ ev _ _=>Cd (fun y x=>Nat.ble (Nat.succ y) x) ev c.args.toList)
 (uW 5) (uW 6) (uW 7) (uW 8) (uW 9) (uW 10) (uW 11) (uW 12) (uW 13) (uW 14) (uW 15) (uW 16) (uW 17) (uW 18)
def xQ(c:Call):Arm:=@Callee.rec (fun _=>Arm) (fun g _ R ev nx D=>qS R D (ev g) c ev nx) (fun _ _=>uW 19) (lX c) c.callee
def sX(t:TypeId)(l a:Operand):Arm:=fun P _ ev nx _=>@Option.rec TypeId (fun _=>l6) (.er 207 0) (fun e=>nB (eG P e) 208 (vI (ev l) fun n=>vI (ev a) fun b=>nB (Nat.beq n b) 209 (fN n fun n=>OE nx n (J2 P t) (Lr (lU P e) (J2 P t) n) 1))) (Hq P t)
def HW:Op->Arm:=@Op.rec (fun _=>Arm)
 (fun x _ _ ev _ _=>xI (ev x)) (fun x _ _ ev _ _=>xI (ev x)) (fun c a b _ _ ev _ _=>Ri (ev c) (ev a) (ev b)) (fun e P _ _ nx _=>VO P e nx) (fun _ x _ _ ev nx _=>C' (ev x) nx)
 (fun t ps P _ ev _ _=>En P t ps.toList ev) (fun t n ps P _ ev nx _=>qN P t n ps.toList ev nx) (fun t m k v P _ ev _ D=>W5 P t (ev m) (ev k) (ev v) D)
 (fun t x P _ ev _ D=>uV P t (ev x) D) (fun t a x P _ ev _ D=>iT P t (ev a) (ev x) D) (fun _=>uW 20) (fun _=>uW 21) (fun x _ _ ev _ _=>sW (ev x)) (fun op t x y _ P _ ev _ _=>VN P op t (ev x) (ev y))
 (fun op _ x _ _ ev _ _=>xUn op (ev x)) (fun s d x P _ ev _ _=>Rj P s d (ev x)) (fun _ _=>uW 22) (fun _ _=>uW 23) (fun f a b _ _ ev nx _=>iE f a.toList b.toList ev nx) (fun t r P _ _ nx _=>oN r (Eo P t nx) (.er 210 0)) (fun _ _=>uW 24)
 sX
 (fun t x lo g mx P _ ev _ D=>iW P t (ev x) lo g mx ev D) (fun t x f P _ ev _ _=>nT P t (ev x) f) (fun t x f P _ ev _ _=>iU P t (ev x) f) (fun t x i P _ ev _ _=>nU P t (ev x) (ev i)) (fun t x i P _ ev _ _=>qO P t (ev x) (ev i))
 (fun t x i h P _ ev _ D=>eZ P t (ev x) (ev i) h D) (fun t m x v P _ ev _ D=>W5 P t (ev m) (ev x) (ev v) D) (fun t m x P _ ev _ D=>cU P t (ev m) (ev x) D) (fun _ m s v _ _ ev _ D=>R6 (ev m) (ev s) (ev v) D)
 (fun t x P _ ev nx D=>AV P t (ev x) nx D) (fun _ _=>uW 26) (fun i _ _ ev _ D=>vX (ev i) D) (fun _ _ _ _=>uW 28) (fun x i _ _ ev _ _=>dO (ev x) i) xQ
 (fun _=>uW 29) (fun _=>uW 30) (fun _=>uW 31) (fun _ _=>uW 32) (fun _ _ _=>uW 33) (fun _ _=>uW 34)
end
end Go.Abs
end
section
namespace Go.Abs
noncomputable section
inductive Tr(α:Type) where
 |e:Tr α
 |v (a:α):Tr α
 |n (a b c d:Tr α):Tr α
abbrev m8:=Tr HO
def fK(nx:Nat):Nat:=Nat.succ (Nat.div (Nat.log2 nx) 2)
def a6h(t:Tr HO):HO:=@Tr.rec HO (fun _=>HO) .z (fun a=>a) (fun _ _ _ _ _ _ _ _=>.z) t
def uL:Nat->Tr HO->Nat->HO:=@Nat.rec (fun _=>Tr HO->Nat->HO) (fun t _=>a6h t)
 (fun k e t r=>@Tr.rec HO (fun _=>HO) .z (fun _=>.z) (fun a b c d _ _ _ _=>Er (Nat.mod (Nat.div r (Nat.pow 4 k)) 4) (e a r) (e b r) (e c r) (e d r)) t)
def kids{β:Type}(t:Tr HO)(k:Tr HO->Tr HO->Tr HO->Tr HO->β):β:=@Tr.rec HO (fun _=>β) (k .e .e .e .e) (fun _=>k .e .e .e .e) (fun a b c d _ _ _ _=>k a b c d) t
def JG{β:Type}(x:HO):Nat->Tr HO->Nat->(Tr HO->β)->β:=@Nat.rec (fun _=>Tr HO->Nat->(Tr HO->β)->β) (fun _ _ k=>k (.v x))
 (fun j e t i k=>kids t fun a b c d=>Er (Nat.mod (Nat.div i (Nat.pow 4 j)) 4) (e a i fun f=>k (.n f b c d)) (e b i fun g=>k (.n a g c d)) (e c i fun c'=>k (.n a b c' d)) (e d i fun h=>k (.n a b c h)))
def m6(nx:Nat)(d:m8)(r:Nat):HO:=iB (Nat.ble (Nat.succ r) nx) (uL (fK nx) d r) .z
def aK{β:Type}(nx:Nat)(d:m8)(r:Nat)(o:HO)(k:m8->β):β:=JG o (fK nx) d r k
def K8{β:Type}(nx:Nat)(d:m8)(o:HO)(k:Nat->m8->β):β:=aK nx d nx o fun b=>fN (Nat.succ nx) fun a=>iB (Nat.beq (fK a) (fK nx)) (k a b) (k a (.n b .e .e .e))
def fO{β:Type}(o:HO)(k:HO->β):β:=@HO.rec (fun _=>β) (fun s n=>fN s fun s=>fN n fun n=>k (.c s n)) (fun a b l c=>fN a fun a=>fN b fun b=>fN c fun c=>k (.m a b l c)) (fun a b c d=>fN a fun a=>fN b fun b=>fN c fun c=>fN d fun d=>k (.f a b c d)) (fun a b c d=>k (.i a b c d)) (k .z) o
abbrev z7:=List (Nat×BV)
def vY(E t:Nat):Nat:=Nat.mod (Nat.div E (Nat.pow cB (Nat.succ t))) cB
def X5(E t n:Nat):Nat:=Nat.succ (Nat.add (Nat.sub E (Nat.mul (Nat.mod (Nat.div E (Nat.pow cB (Nat.succ t))) cB) (Nat.pow cB (Nat.succ t)))) (Nat.mul n (Nat.pow cB (Nat.succ t))))
def Ht:z7->Nat->BV:=@List.rec (Nat×BV) (fun _=>Nat->BV) (fun _=>.u) (fun p _ a t=>iB (Nat.beq p.1 t) p.2 (a t))
def AW{β:Type}(v:BV):z7->Nat->(z7->β)->β:=@List.rec (Nat×BV) (fun _=>Nat->(z7->β)->β) (fun t k=>k [(t,v)]) (fun p l a t k=>iB (Nat.beq p.1 t) (k ((t,v)::l)) (a t fun b=>k (p::b)))
def a6i(n:Nat)(a:BV):BV:=@Nat.rec (fun _=>BV) a (fun m _=>.c (Nat.succ m)) n
def o8(E:Nat)(A:z7)(t:Nat):BV:=a6i (vY E t) (Ht A t)
def J0(E:Nat)(A:z7)(x:Operand):BV:=@Operand.rec (fun _=>BV) (fun t=>o8 E A t) (fun v=>OC v) (fun _=>.u) (fun f=>iB (Nat.ble f 65535) (.c (xH f 0)) .u) x
def fP{β:Type}:List (Nat×Nat)->(List (Nat×Nat)->β)->β:=@List.rec (Nat×Nat) (fun _=>(List (Nat×Nat)->β)->β) (fun k=>k []) (fun p _ c k=>fN p.1 fun a=>fN p.2 fun b=>c fun l=>k ((a,b)::l))
def fB{β:Type}(v:BV)(k:BV->β):β:=@BV.rec (fun _=>β) (fun n=>fN n fun n=>k (.c n)) (fun s n=>fN s fun s=>fN n fun n=>k (.a s n)) (fun l=>fP l fun l=>k (.t l)) (k .u) v
def G3(t:Nat)(v:BV)(E:Nat)(A:z7)(k:Nat->z7->Rn):Rn:=iB (Nat.ble (Nat.mod E cB) 604462909807314587353088)
 (@BV.rec (fun _=>Rn) (fun n=>iB (Nat.ble 1 n) (iB (Nat.ble n 1208925819614629174706175) (fN (X5 E t n) fun b=>k b A) (.er 508 n)) (.er 509 n)) (fun s n=>fN (X5 E t 0) fun b=>fN s fun s=>fN n fun n=>AW (.a s n) A t fun c=>k b c) (fun l=>fN (X5 E t 0) fun b=>fP l fun l=>AW (.t l) A t fun c=>k b c) (fN (X5 E t 0) fun b=>AW .u A t fun c=>k b c) v) (.er 505 0)
def lY(o:Option Tmp)(v:BV)(E:Nat)(A:z7)(k:Nat->z7->Rn):Rn:=@Option.rec Tmp (fun _=>Rn) (k E A) (fun t=>G3 t v E A k) o
abbrev KS:=Nat->z7->Nat->m8->Nat->Rn
abbrev Ex:=List (List Nat×List Nat)
def news{β:Type}:List HO->Nat->m8->(Nat->m8->β)->β:=@List.rec HO (fun _=>Nat->m8->(Nat->m8->β)->β) (fun nx D k=>k nx D) (fun o _ b nx D k=>fO o fun o=>K8 nx D o fun a D'=>b a D' k)
def OG(nx:Nat):List (Nat×HO)->m8->(m8->Rn)->Rn:=@List.rec (Nat×HO) (fun _=>m8->(m8->Rn)->Rn) (fun D k=>k D) (fun p _ a D k=>fN p.1 fun r=>fO p.2 fun o=>iB (Nat.ble (Nat.succ r) nx) (aK nx D r o fun D'=>a D' k) (.er 507 r))
def iZ(o:Oper)(P:Program)(R:z0)(E:Nat)(A:z7)(nx:Nat)(D:m8)(k:Nat->z7->Nat->m8->List Nat->List (Nat×HO)->List HO->Rn):Rn:=
 @l6.rec (fun _=>Rn) (fun c x=>.er c x) (fun v new set rd=>
  @List.rec HO (fun _=>Rn) (@List.rec (Nat×HO) (fun _=>Rn) (lY o.dst v E A fun a b=>k a b nx D rd [] [])
    (fun _ _ _=>OG nx set D fun D'=>lY o.dst v E A fun a b=>k a b nx D' rd set []) set)
   (fun _ _ _=>OG nx set D fun D'=>news new nx D' fun d e=>iB (Nat.ble d 1048574) (lY o.dst v E A fun a b=>k a b d e rd set new) (.er 500 nx)) new) (HW o.op P R (J0 E A) nx (m6 nx D))
def a3x(all:Array Oper)(j:Nat):Option Nat:=(all[j]?).bind (·.dst)
def kM(all:Array Oper)(E:Nat)(o:Oper)(a b:Rn):Rn:=@Option.rec (Nat×Bool) (fun _=>Rn) a (fun g=>@Option.rec Nat (fun _=>Rn) (.er 501 0) (fun d=>
 iB (Nat.beq (vY E d) (I3 g.2)) a (iB (Nat.beq (vY E d) (I3 (Bool.not g.2))) b (iB (Nat.beq (vY E d) 1) b (.er 502 0)))) (a3x all g.1)) o.guard
abbrev YH:=List BV->Nat->m8->(Bool->Nat->Nat->m8->Rn)->Rn
def VU:Op->Option (Operand×List Operand)
 |.call c=>(match c.callee with
  |.value g=>some (g,c.args.toList)
  |_=>none)
 |_=>none
def VV(E:Nat)(A:z7)(o:Oper)(k:List BV->Rn)(e:Rn):Rn:=@Option.rec (Operand×List Operand) (fun _=>Rn) e (fun g=>@BV.rec (fun _=>Rn) (fun n=>iB (Nat.beq n 2) (k (gO (J0 E A) g.2 [])) e) (fun _ _=>e) (fun _=>e) e (J0 E A g.1)) (VU o.op)
def JH:List Oper->Program->z0->Array Oper->KS->KS:=@List.rec Oper (fun _=>Program->z0->Array Oper->KS->KS) (fun _ _ _ k=>k) (fun o _ e P R all k E A nx D p=>
 kM all E o (iZ o P R E A nx D fun a b d D' _ _ _=>e P R all k a b d D' p) (lY o.dst (.c 1) E A fun a b=>e P R all k a b nx D p))
def gW:List Oper->Program->z0->YH->Array Oper->KS->KS:=@List.rec Oper (fun _=>Program->z0->YH->Array Oper->KS->KS) (fun _ _ _ _ k=>k) (fun o _ f P R y all k E A nx D p=>
 kM all E o (VV E A o (fun args=>iB (Nat.beq p 0) (y args nx D fun b g a D'=>lY o.dst (.c (I3 b)) E A fun d e=>f P R y all k d e a D' g) (.er 503 0)) (iZ o P R E A nx D fun d e a D' _ _ _=>f P R y all k d e a D' p))
  (lY o.dst (.c 1) E A fun d e=>f P R y all k d e nx D p))
def L6(l:List Oper)(P:Program)(R:z0)(Y:Option YH)(all:Array Oper)(k:KS):KS:=@Option.rec YH (fun _=>KS) (JH l P R all k) (fun y=>gW l P R y all k) Y
abbrev KT:=Nat->z7->Nat->m8->Nat->Ex->Rn
abbrev a6j:=Program->z0->Array Oper->KT->KT
def SZ:Nat->Nat->List Nat:=@Nat.rec (fun _=>Nat->List Nat) (fun _=>[]) (fun _ a i=>i::a (Nat.succ i))
def JI:List Nat->List Nat->List Nat:=@List.rec Nat (fun _=>List Nat->List Nat) (fun l=>l) (fun a _ b l=>a::b l)
def U':List (Nat×HO)->List Nat:=@List.rec (Nat×HO) (fun _=>List Nat) [] (fun p _ a=>p.1::a)
def dP:List Oper->a6j:=@List.rec Oper (fun _=>a6j) (fun _ _ _ k=>k) (fun o _ e P R all k E A nx D p f=>
 kM all E o (iZ o P R E A nx D fun a b d D' rd set new=>e P R all k a b d D' p ((rd,JI (U' set) (SZ (B8 new) nx))::f))
  (lY o.dst (.c 1) E A fun a b=>e P R all k a b nx D p (([],[])::f)))
def Lx:Op->Bool
 |.alloc _=>true
 |.box _ _=>true
 |.buildSlice _ _ _=>true
 |.insert _ _ _ _=>true
 |.store _ _ _=>true
 |.makeFunc _ _ _=>true
 |.makeMap _ _=>true
 |.range _ _=>true
 |.makeSlice _ _ _=>true
 |.mapUpdate _ _ _ _=>true
 |.mapEntry _ _ _=>true
 |.entryStore _ _ _ _=>true
 |.call _=>true
 |_=>false
def OH:Op->Bool
 |.load _ _=>true
 |.slice _ _ _ _ _=>true
 |.lookup _ _ _ _=>true
 |.entry _=>true
 |o=>Lx o
def xR(i:Nat)(c:Oper):Nat->List Oper->List Nat->List (Nat×Nat)
 |j,d::e,a::b=>if a.testBit i|| !((Lx c.op && OH d.op)||(OH c.op && Lx d.op))then xR i c (j+1) e b else(i,j)::xR i c (j+1) e b
 |_,_,_=>[]
def xS:Nat->List Oper->List Nat->List (Nat×Nat)
 |i,o::b,_::a=>xR i o (i+1) b a++xS (i+1) b a
 |_,_,_=>[]
def O0(s:Nat):List Nat->Bool:=@List.rec Nat (fun _=>Bool) false (fun a _ b=>iB (Nat.beq a s) true b)
def Ce(b:List Nat):List Nat->Bool:=@List.rec Nat (fun _=>Bool) true (fun a _ c=>iB (O0 a b) false c)
def Dg:Ex->Nat->List Nat×List Nat:=@List.rec (List Nat×List Nat) (fun _=>Nat->List Nat×List Nat) (fun _=>([],[])) (fun p _ a i=>@Nat.rec (fun _=>List Nat×List Nat) p (fun j _=>a j) i)
def Ta(x y:List Nat×List Nat):Bool:=iB (Ce x.2 y.2) (iB (Ce x.2 y.1) (Ce x.1 y.2) false) false
def eM(a:Ex):List (Nat×Nat)->Bool:=@List.rec (Nat×Nat) (fun _=>Bool) true (fun p _ b=>iB (Ta (Dg a p.1) (Dg a p.2)) b false)
def pW(l:Ex):Ex:=@List.rec (List Nat×List Nat) (fun _=>Ex->Ex) (fun a=>a) (fun x _ b a=>b (x::a)) l []
def Y0(ops:Array Oper):List (Nat×Nat):=xS 0 ops.toList (Ee ops.toList)
def xT(ops:Array Oper)(P:Program)(R:z0)(k:KS):KS:=fun E A nx D p=>dP ops.toList P R ops (fun b c a D' d e=>iB (eM (pW e) (Y0 ops)) (k b c a D' d) (.er 504 0)) E A nx D p []
def V'(p q:Nat×Nat):Bool:=iB (Nat.beq p.1 q.1) (Nat.beq p.2 q.2) false
def Y'(p q:Nat×Nat×Nat):Bool:=iB (Nat.beq p.1 q.1) (iB (Nat.beq p.2.1 q.2.1) (Nat.beq p.2.2 q.2.2) false) false
def Rm{α:Type}(f:α->α->Bool):List α->List α->Bool:=@List.rec α (fun _=>List α->Bool) (fun l=>@List.rec α (fun _=>Bool) true (fun _ _ _=>false) l) (fun a _ c l=>@List.rec α (fun _=>Bool) false (fun b r _=>iB (f a b) (c r) false) l)
def xU(a b:BV):Bool:=@BV.rec (fun _=>Bool) (fun n=>@BV.rec (fun _=>Bool) (fun m=>Nat.beq n m) (fun _ _=>false) (fun _=>false) false b) (fun s n=>@BV.rec (fun _=>Bool) (fun _=>false) (fun t m=>iB (Nat.beq s t) (Nat.beq n m) false) (fun _=>false) false b) (fun l=>@BV.rec (fun _=>Bool) (fun _=>false) (fun _ _=>false) (fun r=>Rm V' l r) false b) false a
def ZE(a b:HO):Bool:=@HO.rec (fun _=>Bool) (fun s n=>@HO.rec (fun _=>Bool) (fun d e=>iB (Nat.beq s d) (Nat.beq n e) false) (fun _ _ _ _=>false) (fun _ _ _ _=>false) (fun _ _ _ _=>false) false b)
 (fun k v l c=>@HO.rec (fun _=>Bool) (fun _ _=>false) (fun k' v' f c'=>iB (Nat.beq k k') (iB (Nat.beq v v') (iB (Nat.beq c c') (Rm Y' l f) false) false) false) (fun _ _ _ _=>false) (fun _ _ _ _=>false) false b)
 (fun a1 g h i=>@HO.rec (fun _=>Bool) (fun _ _=>false) (fun _ _ _ _=>false) (fun j m o p=>iB (Nat.beq a1 j) (iB (Nat.beq g m) (iB (Nat.beq h o) (Nat.beq i p) false) false) false) (fun _ _ _ _=>false) false b) (fun _ _ _ _=>false) false a
def Z'(r:Rn)(v:BV)(l:List HO):Bool:=@Rn.rec (fun _=>Bool) (fun _ _=>false) (fun v' a=>iB (xU v' v) (Rm ZE a l) false) r
def x6(seen:List Nat):ME->ME:=@List.rec (Nat×Nat×Nat) (fun _=>ME) [] (fun p _ a=>iB (O0 p.1 seen) a (p::a))
def Tb(a:Nat):ME->Bool:=@List.rec (Nat×Nat×Nat) (fun _=>Bool) true (fun p _ b=>iB (Nat.ble (Nat.succ p.1) a) b false)
def OI(a b:Rn):Rn:=@Rn.rec (fun _=>Rn) (fun c x=>.er c x) (fun v l=>iB (Z' b v l) (.ok v l) (.er 541 0)) a
def Tc(k:Nat×Nat×Nat->Rn):ME->Rn:=@List.rec (Nat×Nat×Nat) (fun _=>Rn) (.er 542 0) (fun p r a=>@List.rec (Nat×Nat×Nat) (fun _=>Rn) (k p) (fun _ _ _=>OI (k p) a) r)
def Ey(ops:Array Oper):Option (Operand×Tmp):=match ops.toList with
 |o::_=>(match o.op,o.dst,o.guard with
  |.next i false,some t,none=>some (i,t)
  |_,_,_=>none)
 |[]=>none
def Ez(i:Operand)(t:Tmp)(k:KS):KS:=fun E A nx D p=>
 @BV.rec (fun _=>Rn) (fun c=>iB (sV c) (iB (Nat.beq (pO c) 0) (@HO.rec (fun _=>Rn) (fun _ _=>.er 543 0) (fun _ _ _ _=>.er 544 0) (fun _ _ _ _=>.er 545 0) (fun m a seen b=>@HO.rec (fun _=>Rn) (fun _ _=>.er 546 0) (fun ks vs l clk=>iB (Tb a l) (iB (iB (Nat.ble a 1048576) (Nat.ble a b) false)
  (@List.rec (Nat×Nat×Nat) (fun _=>Rn) (G3 t (.t [(0,9)]) E A fun d f=>k d f nx D p)
   (fun q U _=>Tc (fun e=>fN e.1 fun s=>aK nx D (pR c) (.i m a (s::seen) clk) fun D'=>G3 t (.t [(0,17),(ks,e.2.1),(vs,e.2.2)]) E A fun d f=>k d f nx D' p) (q::U)) (x6 seen l)) (.er 547 0)) (.er 548 0)) (fun _ _ _ _=>.er 549 0) (fun _ _ _ _=>.er 550 0) (.er 551 0) (m6 nx D m)) (.er 552 0) (m6 nx D (pR c))) (.er 553 0)) (.er 554 0)) (fun _ _=>.er 555 0) (fun _=>.er 556 0) (.er 557 0) (J0 E A i)
abbrev KC:=E8->KS
abbrev kF:=YH->FuncId->List BV->Nat->m8->(Nat->m8->Nat->Rn)->Rn
abbrev pX:=Program->Nat->z0->kF->Option YH->Nat->z7->Nat->m8->Nat->KC->Rn
def pM(e:E8)(a:Rn)(b:Nat->Rn)(c:Rn):Rn:=@E8.rec (fun _=>Rn) a b c e
def fL(b:Nat->z7->Nat->m8->Nat->KC->Rn)(k:KC):Nat->KS:=@Nat.rec (fun _=>KS) (fun _ _ _ _ _=>.er 510 0) (fun _ g E A nx D p=>b E A nx D p fun e c d a D' f=>pM e (g c d a D' f) (fun i=>k (.exit i) c d a D' f) (k .ret c d a D' f))
def a3y(v:BV):Bool:=@BV.rec (fun _=>Bool) (fun n=>iB (Nat.beq n 2) false true) (fun _ _=>true) (fun _=>true) true v
def Ly:List Nat->List BV->Nat->z7->(Nat->z7->Rn)->Rn:=@List.rec Nat (fun _=>List BV->Nat->z7->(Nat->z7->Rn)->Rn) (fun vs E A k=>@List.rec BV (fun _=>Rn) (k E A) (fun _ _ _=>.er 511 0) vs) (fun p _ a vs E A k=>@List.rec BV (fun _=>Rn) (.er 512 0) (fun v r _=>iB (a3y v) (G3 p v E A fun b c=>a r b c k) (.er 524 0)) vs)
def JJ(ops:Array Oper)(a:Bool):pX:=fun P _ R _ Y E A nx D p k=>iB a
 (xT ops P R (k .normal) E A nx D p)
 (@Option.rec (Operand×Tmp) (fun _=>Rn) (L6 ops.toList P R Y ops (k .normal) E A nx D p) (fun i=>Ez i.1 i.2 (L6 (List.drop 1 ops.toList) P R Y ops (k .normal)) E A nx D p) (Ey ops))
def Du(D:Hp)(c:Nat)(e:Nat->Rn)(k:FuncId->List BV->Rn):Rn:=
 iB (Nat.beq (AR c) 7) (@Nat.rec (fun _=>Rn) (k (fF c) []) (fun r _=>@HO.rec (fun _=>Rn) (fun _ _=>e 190) (fun _ _ _ _=>e 191) (fun a _ b d=>iB (Nat.beq a 0) (k (fF c) (aJ b d [])) (e 195)) (fun _ _ _ _=>e 192) (e 193) (D r)) (fR c)) (e 194)
def xV:Code->pX:=@Code.rec (fun _=>pX)
 (fun _ _ _ _ _ E A nx D p k=>k .normal E A nx D p)
 (fun _ ops o=>JJ ops o)
 (fun _ _ b q P F R I Y E A nx D p k=>b P F R I Y E A nx D p fun e d h a D' l=>pM e (q P F R I Y d h a D' l k) (fun i=>k (.exit i) d h a D' l) (k .ret d h a D' l))
 (fun g _ _ b q P F R I Y E A nx D p k=>@BV.rec (fun _=>Rn) (fun n=>iB (Nat.beq n 17) (b P F R I Y E A nx D p k) (iB (Nat.beq n 9) (q P F R I Y E A nx D p k) (.er 513 0))) (fun _ _=>.er 514 0) (fun _=>.er 515 0) (.er 516 0) (J0 E A g))
 (fun id _ b P F R I Y E A nx D p k=>b P F R I Y E A nx D p fun e d h a D' l=>pM e (k .normal d h a D' l) (fun i=>iB (Nat.beq i id) (k .normal d h a D' l) (k (.exit i) d h a D' l)) (k .ret d h a D' l))
 (fun _ b P F R I Y E A nx D p k=>fL (b P F R I Y) k F E A nx D p)
 (fun g ps _ _ b q P F R I _ E A nx D p k=>@BV.rec (fun _=>Rn) (fun s=>Du (m6 nx D) s (fun n=>.er n 0) fun f cap=>fN f fun f=>
  I (fun args nx D kk=>Ly ps.toList args E A fun d h=>b P F R I none d h nx D 0 fun e t u r v w=>pM e (q P F R I none t u r v w fun x _ _ m D2 _=>pM x (kk true 0 m D2) (fun i=>fN (Nat.succ (Nat.succ i)) fun j=>kk false j m D2) (kk false 1 m D2)) (fun _=>.er 517 0) (.er 518 0))
   f (.c 2::cap) nx D (fun a D' j=>@Nat.rec (fun _=>Rn) (k .normal E A a D' p) (fun j _=>@Nat.rec (fun _=>Rn) (k .ret E A a D' p) (fun i _=>k (.exit i) E A a D' p) j) j)) (fun _ _=>.er 519 0) (fun _=>.er 520 0) (.er 521 0) (J0 E A g))
 (fun i _ _ _ _ _ E A nx D p k=>k (.exit i) E A nx D p)
 (fun _ b=>b)
 (fun _ _ _ _ _ _ E A nx D p k=>k .normal E A nx D p)
 (fun _ _ _ _ _ _ _ _ _ _ _ _=>.er 522 0)
 (fun _ _ _ _ _ E A nx D p k=>k .ret E A nx D p)
 (fun _ _ _ _ _ _ _ _ _ _ _ _=>.er 523 0)
def kN:List BV->Nat->Nat->z7->(Nat->z7->Rn)->Rn:=@List.rec BV (fun _=>Nat->Nat->z7->(Nat->z7->Rn)->Rn) (fun _ E A k=>k E A) (fun v _ a i E A k=>G3 i v E A fun b c=>a (Nat.succ i) b c k)
def a6k(v:BV):Nat:=@BV.rec (fun _=>Nat) (fun n=>n) (fun _ n=>n) (fun _=>1) 2 v
def xW(l:List BV):Nat:=@List.rec BV (fun _=>Nat) 0 (fun v _ a=>Nat.mod (Nat.add (a6k v) (Nat.mul 3 a)) 4294967291) l
def VW(P:Program)(r:ResultVar)(E:Nat)(A:z7)(D:Hp):l6:=@ResultVar.rec (fun _=>l6) (fun t=>xI (o8 E A t)) (fun a t=>uV P t (o8 E A a) D) r
def VX{β:Type}(v:BV)(k:Nat×Nat->β)(e:β):β:=@BV.rec (fun _=>β) (fun n=>iB (Nat.ble 3 n) (k (0,n)) e) (fun s n=>k (Nat.succ s,n)) (fun _=>e) e v
def rOf(r:l6)(k:BV->Rn):Rn:=@l6.rec (fun _=>Rn) (fun c x=>.er c x) (fun v _ _ _=>k v) r
def a0a(P:Program)(E:Nat)(A:z7)(D:Hp):List ResultVar->(List (Nat×Nat)->Rn)->Rn:=@List.rec ResultVar (fun _=>(List (Nat×Nat)->Rn)->Rn) (fun k=>k []) (fun r _ a k=>rOf (VW P r E A D) fun v=>VX v (fun p=>a fun l=>k (p::l)) (.er 530 0))
def a6m(P:Program)(b:List ResultVar)(E:Nat)(A:z7)(D:Hp)(k:BV->Rn):Rn:=@List.rec ResultVar (fun _=>Rn) (k (.c 1)) (fun r a _=>@List.rec ResultVar (fun _=>Rn) (rOf (VW P r E A D) k) (fun _ _ _=>a0a P E A D b fun l=>k (.t l)) a) b
def a2l(r:l6)(k:BV->List HO->Rn):Rn:=@l6.rec (fun _=>Rn) (fun c x=>.er c x) (fun v l _ _=>k v l) r
def lE(P:Program)(f:Nat):Code:=match P.funcs[f]? with
 |some a=>(match a.body with
  |some c=>c
  |none=>.refuse "")
 |none=>.refuse ""
def AY(P:Program)(f:Nat):List ResultVar:=match P.funcs[f]? with
 |some a=>a.results.toList
 |none=>[]
def o9(n:Nat):Code->Bool
 |.region _ ops _=>w7 n ops.toList
 |.seq a b=>o9 n a && o9 n b
 |.cond _ a b=>o9 n a && o9 n b
 |.block _ a=>o9 n a
 |.loop a=>o9 n a
 |.scope a=>o9 n a
 |.rangeFunc _ ps a b=>HU n ps.toList && o9 n a && o9 n b
 |_=>true
def Lz(P:Program)(f:Nat):Bool:=match P.funcs[f]? with
 |some a=>(match a.body with
  |some c=>Code.j5 c && o9 a.ntmps c && !(a.name== "runtime.NumGoroutine")
  |none=>false)
 |none=>false
def Ro(P:Program)(f:Nat):Bool:=match P.funcs[f]? with
 |some a=>Nat.beq a.results.size 0
 |none=>false
def Td(F:Nat)(P:Program)(R:z0):kF:=fun y f args nx D k=>iB (Lz P f && Ro P f) (kN args 0 (xW args) [] fun E A=>xV (lE P f) P F R (fun _ f _ _ _ _=>.er 531 f) (some y) E A nx D 0 fun e _ _ a D' b=>pM e (k a D' b) (fun _=>.er 532 f) (k a D' b)) (.er 533 f)
def dQ:Nat->Lk->Lk:=@Nat.rec (fun _=>Lk->Lk) (fun l=>l) (fun j a l=>a ((j,j)::l))
def VY:Nat->List Nat->List Nat:=@Nat.rec (fun _=>List Nat->List Nat) (fun l=>l) (fun j a l=>a (j::l))
def eqF(o o':HO):Bool:=@HO.rec (fun _=>Bool) (fun _ _=>true) (fun _ _ _ _=>true) (fun a b c d=>@HO.rec (fun _=>Bool) (fun _ _=>false) (fun _ _ _ _=>false) (fun e f c' g=>iB (Nat.beq a e) (iB (Nat.beq b f) (iB (Nat.beq c c') (Nat.beq d g) false) false) false) (fun _ _ _ _=>false) false o') (fun _ _ _ _=>true) true o
def a3z:List HO->List HO->Bool:=@List.rec HO (fun _=>List HO->Bool) (fun _=>true) (fun o _ a l=>@List.rec HO (fun _=>Bool) false (fun o' r _=>iB (eqF o o') (a r) false) l)
def AZ(P:Program)(f m:Nat)(a:List HO)(E:Nat)(A:z7)(D:Hp):Rn:=a6m P (AY P f) E A D fun v=>a2l (Lv v (dQ m []) [] m fun v L q d=>qR D 2000 (VY m (Lw q)) [] L d [] fun b _ c=>nB (Nat.ble c 1048574) 200 (nB (a3z a (VR b)) 201 (.ok v (VR b) [] []))) fun v l=>fB v fun v=>.ok v l
end
end Go.Abs
end
section
namespace Go.Abs
section
variable {b:Nat}
theorem xX(a:0<b){lo y i j:Nat}(c:j<i):(lo+b^i*y) /b^j % b=lo/b^j % b:=by
 have e:b^i*y=b^j*(b*(b^ (i- j- 1)*y)):=by
  rw[<-me b,<-jt,<-me,<-ju];congr 2;omega
 rw[e,jg _ _ (oa a),ng]
theorem EA(a:0<b){lo y i j:Nat}(c:lo<b^i)(d:i<=j):(lo+b^i*y) /b^j=y/b^ (j- i):=by
 have e:b^j=b^i*b^ (j- i):=by rw[<-ju];congr 1;omega
 rw[e,<-fc,jg _ _ (oa a),fl c,bz]
theorem Te{n i k j:Nat}(a:j<k):(n/b^i % b^k) /b^j % b=n/b^ (i+j) % b:=by
 have e:b^k=b^j*b^ (k- j):=by rw[<-ju];congr 1;omega
 rw[e,Nat.mod_mul_right_div_self,fc,<-ju];refine Nat.mod_mod_of_dvd _ ?_;exact⟨b^ (k- j- 1),by rw[<-jt];congr 1;omega⟩
theorem xY(n i k x:Nat):n- (n/b^i % b^k)*b^i+x*b^i=n % b^i+b^i*(x+b^k*(n/b^i/b^k)):=by
 have c:=jm n (b^i);have a:=jm (n/b^i) (b^k);have d:b^i*(n/b^i)=b^i*(b^k*(n/b^i/b^k))+b^i*(n/b^i % b^k):=by rw[<-kg,a]
 rw[kg,gv (n/b^i % b^k),gv x];generalize b^i*(n/b^i % b^k)=p at*
 generalize b^i*(b^k*(n/b^i/b^k))=q at*
 generalize b^i*(n/b^i)=t at*
 generalize n % b^i=u at*
 generalize b^i*x=v at*
 clear a;omega
theorem Ba(a:0<b){n i k x j:Nat}(e:x<b^k):(n- (n/b^i % b^k)*b^i+x*b^i) /b^j % b=if i<=j/\j<i+k then x/b^ (j- i) % b else n/b^j % b:=by
 have c:n % b^i<b^i:=fk _ (oa a);rw[xY];by_cases d:j<i
 .rw[xX a d,ai (by omega)]
  conv=>rhs;rw[<-jm n (b^i),ez,xX a d]
 .rw[EA a c (by omega)]
  by_cases f:j<i+k
  .rw[aj ⟨by omega,f⟩,xX a (by omega)]
  .rw[ai (by omega),EA a e (by omega),fc,fc,<-ju,<-ju]
   congr 3;omega
theorem a3A(d:0<b){n i k x s:Nat}(j:x<b^k)(e:n<b^s)(l:i+k<=s):n- (n/b^i % b^k)*b^i+x*b^i<b^s:=by
 have f:n % b^i<b^i:=fk _ (oa d);rw[xY];have g:x+b^k*(n/b^i/b^k)<b^ (s- i):=by
  have h:n/b^i/b^k<b^ (s- i- k):=by
   rw[fc,<-ju];refine mu ?_;rw[<-ju];have:i+k+(s- i- k)=s:=by omega
   rw[this];exact e
  have a:b^ (s- i)=b^k*b^ (s- i- k):=by rw[<-ju];congr 1;omega
  rw[a];have c:b^k*(n/b^i/b^k+1)<=b^k*b^ (s- i- k):=kn _ h;rw[kg]at c;omega
 have a:b^s=b^i*b^ (s- i):=by rw[<-ju];congr 1;omega
 rw[a];have c:b^i*((x+b^k*(n/b^i/b^k))+1)<=b^i*b^ (s- i):=kn _ g;rw[kg _ _ 1]at c;omega
end
theorem R4:0<cB:=by decide
theorem U1(n i:Nat):P3 n i=n/cB^i % cB:=rfl
theorem a0b(n i k:Nat):iS n i k=n/cB^i % cB^k:=rfl
theorem JK(n i k x:Nat):vT n i k x=n- (n/cB^i % cB^k)*cB^i+x*cB^i:=rfl
theorem Rp{n i k j:Nat}(a:j<k):P3 (iS n i k) j=P3 n (i+j):=by rw[U1,a0b,Te a,U1]
theorem sub_lt(n i k:Nat):iS n i k<cB^k:=fk _ (oa R4)
theorem JL{n i k x j:Nat}(a:x<cB^k):P3 (vT n i k x) j=if i<=j/\j<i+k then P3 x (j- i)else P3 n j:=by
 rw[U1,JK,Ba R4 a,U1,U1]
theorem a0c{n i k x s:Nat}(a:x<cB^k)(c:n<cB^s)(d:i+k<=s):vT n i k x<cB^s:=a3A R4 a c d
theorem VZ(n i:Nat):P3 n i<cB:=fk _ R4
theorem X6{n:Nat}(h:n<cB):P3 n 0=n:=by rw[U1,je,jh,jc h]
theorem sY(n i:Nat):P3 (n/cB) i=P3 n (i+1):=by
 rw[U1,U1,fc,<-jt]
theorem EB{x y s j:Nat}(a:x<cB^s):P3 (x+y*cB^s) j=if j<s then P3 x j else P3 y (j- s):=by
 rw[gv y];by_cases h:j<s
 .rw[aj h,U1,xX R4 h,U1]
 .rw[ai h,U1,EA R4 a (by omega),U1]
theorem JM{x y s k:Nat}(d:x<cB^s)(a:y<cB^k):x+y*cB^s<cB^ (s+k):=by
 rw[ju];have c:cB^s*(y+1)<=cB^s*cB^k:=kn _ a;rw[kg]at c;rw[gv y];omega
end Go.Abs
end
section
namespace Go.Abs
def Fix(F:Nat->Prop)(K K':b8):Prop:=∀b,F b->K'.cells b=K.cells b/\K'.inv b=K.inv b
theorem Fix.refl(F:Nat->Prop)(K:b8):Fix F K K:=fun _ _=>⟨rfl,rfl⟩
theorem Fix.trans{F:Nat->Prop}{A B C:b8}(h:Fix F A B)(k:Fix F B C):Fix F A C:=
 fun b a=>⟨(k b a).1.trans (h b a).1,(k b a).2.trans (h b a).2⟩
structure cV(F:Nat->Prop)(K:b8)(H:Nat->Option Hd)(w:World)(m:Mm)(nx:Nat)(q:Q)(v:Value)(w':World)(K':b8)(H':Nat->Option Hd):Prop where
 le:K.le K'
 hle:aY H H'
 K8:∀r,H r=none->H' r≠none->nx<=r/\r<nx+q.new.length
 rep:b9 K' H' q.val v
 mem:l5 F K' H' w' (q.mm nx m)
 ok:L4 F K' w'
 kept:Kept F w w'
 fix:Fix F K K'
def J3(P:Program)(F:Nat->Prop)(K:b8)(H:Nat->Option Hd)(w:World)(m:Mm)(nx:Nat)(k:Q->Prop):Result Next->Prop
 |.ok (.value v) w'=>∃q K' H',k q/\cV F K H w m nx q v w' K' H'
 |.ok (.enter f args) w'=>w'=w/\Calls P f args w (fun e a=>∃v q K' H',e=.returned v/\k q/\cV F K H w m nx q v a K' H')
 |_=>False
theorem vZ{F:Nat->Prop}{K:b8}{H:Nat->Option Hd}{w:World}{m:Mm}{nx:Nat}(b:L4 F K w)(c:l5 F K H w m){a:a7}{v:Value}(d:List Nat)(e:b9 K H a v):
  cV F K H w m nx ⟨a,[],[],d⟩ v w K H:=
 ⟨.refl K,.refl H,fun _ h f=>absurd h f,e,c,b,.refl F w,.refl F K⟩
section
variable {P:Program} {F:Nat->Prop} {K:b8} {H:Nat->Option Hd} {w:World} {m:Mm} {nx:Nat} {k:Q->Prop}
theorem r7(b:L4 F K w)(c:l5 F K H w m){a:a7}{v:Value}(d:b9 K H a v)(e:k (.pure a)):J3 P F K H w m nx k (.ok (.value v) w):=
 ⟨_,K,H,e,vZ b c [] d⟩
theorem H9(b:L4 F K w)(c:l5 F K H w m){a:a7}{v:Value}(r:Nat)(d:b9 K H a v)(e:k (.read a r)):J3 P F K H w m nx k (.ok (.value v) w):=
 ⟨_,K,H,e,vZ b c [r] d⟩
theorem L4.alloc(h:L4 F K w)(o:Obj):L4 F K (w.alloc o):=by
 have old:∀b,b<w.heap.size->(w.alloc o).heap[b]? =w.heap[b]? :=fun b a=>jk w o b a
 refine⟨⟨?_,?_⟩,fun b a=>?_,h.inv,h.apart⟩
 .intro b cs c;obtain⟨e,d,g⟩:=h.w8.1 b cs c;exact⟨e,d,by rw[old b (s8 g)];exact g⟩
 .intro b p c;obtain⟨o',g,f⟩:=h.w8.2 b p c;exact⟨o',by rw[old b (s8 g)];exact g,f⟩
 .have:=h.lt b a;simp;omega
theorem wA(h:L4 F K w)(o:Obj):Kept F w (w.alloc o):=
 ⟨rfl,rfl,rfl,by simp,fun b a=>jk w o b (h.lt b a),aw _⟩
theorem L0(w:World)(o:Obj):(w.alloc o).heap[w.heap.size]? =some o:=by
 show(w.heap.push o)[w.heap.size]? =some o;simp
theorem P4(d:L4 F K w)(j:l5 F K H w m)(n:H nx=none)(cs:Array Value)(e:TypeId)(c:c7)(hd:Hd)(q:hd.base=some w.heap.size)
  (s:n9 K (N9 H nx hd) (w.alloc (.cells cs e)) hd c)(a:a7)(v:Value)(t:b9 K (N9 H nx hd) a v)(u:List Nat):
  cV F K H w m nx ⟨a,[c],[],u⟩ v (w.alloc (.cells cs e)) K (N9 H nx hd):=by
 refine⟨.refl K,M3 n,?_,t,?_,d.alloc _,wA d _,.refl F K⟩
 .intro r h g;by_cases o:r=nx
  .subst o;simp
  .rw[m7 _ _ _ _ o]at g;exact absurd h g
 .have x:l5 F K H (w.alloc (.cells cs e)) m:=j.world (fun r c f hd b h g l y=>jk w _ b (W1 j h g l y))
  refine x.new nx n c hd s (fun b i=>?_)
  rw[q]at i;cases i;have p:=d.w8.new (aw w.heap.size);refine⟨fun z=>?_,p.1,p.2,fun _=>⟨cs,e,L0 w _⟩,fun B c' A h g l=>?_⟩
  .have:=d.lt _ z;omega
  .have:=W1 j h (by simp) g l;omega
def b8.plus(K:b8)(w:World)(B:Nat->Bool):b8 where
 cells:=fun b=>match K.cells b with
  |some cs=>some cs
  |none=>if B b then(match w.heap[b]? with
   |some (.cells cs _ _)=>some cs
   |_=>none)else none
 inv:=K.inv
 y:=K.y
theorem b8.M4(K:b8)(w:World)(B:Nat->Bool):K.le (K.plus w B):=
 ⟨fun b cs h=>by simp[b8.plus,h],fun _ _ h=>h,fun _ h=>h⟩
theorem OJ{K:b8}(w:World)(B:Nat->Bool)(f:xL K w){b:Nat}{cs:Array Value}(h:(K.plus w B).cells b=some cs):∃e a,w.heap[b]? =some (.cells cs e a):=by
 simp only[b8.plus]at h;split at h
 .rename_i c d;cases h;exact f.1 _ _ d
 .split at h
  .split at h
   .rename_i c e a d;cases h;exact⟨e,a,d⟩
   .cases h
  .cases h
theorem fM{K:b8}{w:World}{B:Nat->Bool}{b:Nat}(a:B b=true)(c:xL K w){cs:Array Value}{e:TypeId}{d:Nat×Nat}(h:w.heap[b]? =some (.cells cs e d)):(K.plus w B).cells b=some cs:=by
 simp only[b8.plus];split
 .rename_i f i;obtain⟨l,j,g⟩:=c.1 _ _ i;rw[h]at g;cases g;rfl
 .rw[aj a,h]
theorem lZ{K:b8}{w:World}{B:Nat->Bool}{b:Nat}(a:B b=false):(K.plus w B).cells b=K.cells b:=by
 simp only[b8.plus];split
 .rename_i h;exact h.symm
 .rename_i h;rw[a,h];rfl
theorem L4.plus(h:L4 F K w)(B:Nat->Bool)(d:∀b,B b=true->K.inv b=none):L4 F (K.plus w B) w:=by
 refine⟨⟨fun b cs e=>OJ w B h.w8 e,h.w8.2⟩,h.lt,h.inv,fun b p a=>?_⟩
 have a:K.inv b=some p:=a;cases c:B b with
 |true=>rw[d b c]at a;cases a
 |false=>rw[lZ c];exact h.apart b p a
def Q5(H:Nat->Option Hd)(a:List (Nat×p0))(b:Nat):Bool:=
 a.any (fun u=>match H u.1 with
  |some hd=>hd.base==some b
  |none=>false)
theorem cW{a:List (Nat×p0)}{r:Nat}{f:p0}{hd:Hd}{b:Nat}(h:(r,f)∈a)(c:H r=some hd)(d:hd.base=some b):Q5 H a b=true:=by
 simp only[Q5,ij];exact⟨(r,f),h,by simp[c,d]⟩
theorem nX{c:List (Nat×p0)}{b:Nat}(h:Q5 H c b=true):∃r f hd,(r,f)∈c/\H r=some hd/\hd.base=some b:=by
 simp only[Q5,ij]at h;obtain⟨⟨r,f⟩,d,a⟩:=h;simp only at a;split at a
 .rename_i hd hh;exact⟨r,f,hd,d,hh,by simpa using a⟩
 .simp at a
theorem EC(cs:Array Value)(o:Nat):s7 cs o (cs.size- o)=cs.toList.drop o:=by
 unfold s7;apply bj;simp
theorem mA(hm:l5 F K H w m){T:b8}(u:K.le T)(H':Nat->Option Hd)(hH:aY H H'):
  ∀ (d:Nat),
   (∀ (v:a7) (x:Value) (v':a7) (z:List (Nat×p0)),view m d v=some (v',z)->
    (∀r f hd b cs e G,(r,f)∈z->H r=some hd->hd.base=some b->w.heap[b]? =some (.cells cs e G)->T.cells b=some cs)->b9 K H v x->b9 T H' v' x)/\
   (∀ (vs:List a7) (xs:List Value) (y:List a7) (z:List (Nat×p0)),Z6 (view m d) vs=some (y,z)->
    (∀r f hd b cs e G,(r,f)∈z->H r=some hd->hd.base=some b->w.heap[b]? =some (.cells cs e G)->T.cells b=some cs)->c6 K H vs xs->c6 T H' y xs/\y.length=vs.length):=by
 intro d
 induction d with
 |zero=>
  refine⟨fun v x v' z h=>by simp[view]at h,?_⟩
  intro vs;cases vs with
  |nil=>
   intro xs y z h A c;simp only[Z6,ae,aq]at h;obtain⟨rfl,rfl⟩:=h;rw[c6.J8.1 c];exact⟨.nil,rfl⟩
  |cons v vs=>intro xs y z h;simp[Z6,view]at h
 |succ d Z=>
  have J:∀ (v:a7) (x:Value) (v':a7) (z:List (Nat×p0)),view m (d+1) v=some (v',z)->
    (∀r f hd b cs e G,(r,f)∈z->H r=some hd->hd.base=some b->w.heap[b]? =some (.cells cs e G)->T.cells b=some cs)->b9 K H v x->b9 T H' v' x:=by
   intro v x v' z h A c;cases v with
   |S6=>
    simp only[view,ae,aq]at h;obtain⟨rfl,rfl⟩:=h;simp[b9]
   |Y4=>simp[view]at h
   |P5 r i j=>simp[view]at h
   |Dc sh n=>simp[view]at h
   |P6 r=>simp[view]at h
   |bool b=>
    simp only[view,ae,aq]at h;obtain⟨rfl,rfl⟩:=h;simpa [b9]using c
   |int kd n=>
    simp only[view,ae,aq]at h;obtain⟨rfl,rfl⟩:=h;simpa [b9]using c
   |R2 t=>
    simp only[view,ae,aq]at h;obtain⟨rfl,rfl⟩:=h;simp only[b9]at c ⊢;subst c;exact⟨none,0,rfl,aw _,fun _=>rfl,.inl rfl⟩
   |imm t l f=>
    simp only[view,ae,aq]at h;obtain⟨rfl,rfl⟩:=h;simp only[b9]at c ⊢;exact c.mono u
   |S3 t l=>
    simp only[view,ae,aq]at h;obtain⟨rfl,rfl⟩:=h;simp only[b9]at c ⊢;obtain⟨cs,B,R,C⟩:=c;exact⟨cs,B,R,C.mono u⟩
   |J7=>simp[view]at h
   |V6=>
    simp only[view,ae,aq]at h;obtain⟨rfl,rfl⟩:=h;simpa [b9]using c
   |s6 p=>
    simp only[view,ae,aq]at h;obtain⟨rfl,rfl⟩:=h;simp only[b9]at c ⊢;exact p.mono _ _ _ u.O4 c
   |B9 r=>
    simp only[view,ae,aq]at h;obtain⟨rfl,rfl⟩:=h;exact b9.mono u hH _ _ c
   |O1 r f=>
    simp only[view]at h;split at h
    .rename_i t l g hg;split at h
     .cases h
     .rename_i I;simp only[ae,aq]at h;obtain⟨rfl,rfl⟩:=h;simp only[b9]at c ⊢;obtain⟨hd,B,rfl,C⟩:=c;obtain⟨g1,g2,g3,D⟩:=hm.cont r _ g hd hg I B;refine⟨_,hd.cap,by rw[g2],by omega,fun hf=>by rw[C hf,g2],?_⟩
      rcases D with⟨D,g5⟩|⟨b,cs,e,G,D,g5,g6,g7⟩
      .left;exact bw (by omega)
      .right;refine⟨b,0,cs,by rw[D];rfl,A r g hd b cs e G (by simp) B D g5,fun i hi=>?_⟩
       exact r9.mono u _ _ _ (g7 i hi)
    .cases h
   |sub r lo len f=>
    simp only[view]at h;split at h
    .rename_i t l g hg;split at h
     .cases h
     .rename_i I;simp only[ae,aq]at h;obtain⟨rfl,rfl⟩:=h;simp only[b9]at c ⊢;obtain⟨hd,cap,base,B,rfl,C,h4,h5,h6,U⟩:=c;obtain⟨g1,g2,g3,D⟩:=hm.cont r _ g hd hg I B;have S:((l.drop lo).take len).length=len:=by simp;omega
      refine⟨base,cap,by rw[S],by omega,fun hf=>by rw[S];exact h6 hf,?_⟩
      rcases U with U|⟨b,U,h8⟩
      .left;exact bw (by omega)
      .rcases D with⟨D,g5⟩|⟨E,cs,e,G,D,g5,g6,g7⟩
       .rw[D]at U;cases U
       .rw[U]at D;cases D;right;refine⟨b,lo*hd.sz,cs,h8,A r g hd b cs e G (by simp) B U g5,fun i hi=>?_⟩
        have:=r9.mono u _ _ _ (g7 (lo+i) (by omega))
        rw[qh,mh];rw[g1,<-bl];simpa using this
    .cases h
   |ptr r off=>
    simp only[view]at h;split at h
    .rename_i cells g hg;split at h
     .cases h
     .rename_i I;split at h
      .rename_i o V J;simp only[ae,aq]at h;obtain⟨rfl,rfl⟩:=h;simp only[b9]at c ⊢;obtain⟨hd,b,B,R,rfl⟩:=c;obtain⟨E,cs,e,G,g1,g2,g3⟩:=hm.cont r _ g hd hg I B;rw[R]at g1;cases g1;have hl:=(Z.2 _ _ _ _ J (fun L M q E o N s O=>A L M q E o N s (by simp[O])) (c6.drop off g3))
       refine⟨b,off,cs,rfl,A r g hd b cs e G (by simp) B R g2,?_⟩
       have hsz:o.length=cs.size- off:=by
        rw[hl.2];have:=c6.length g3;simp at this ⊢;omega
       rw[hsz,EC];exact hl.1
      .cases h
    .cases h
   |G7 cells=>
    simp only[view]at h;split at h
    .rename_i o V J;simp only[ae,aq]at h;obtain⟨rfl,rfl⟩:=h;simp only[b9]at c ⊢;obtain⟨b,off,arr,rfl,R,C⟩:=c;have hl:=Z.2 _ _ _ _ J A C;exact⟨b,off,arr,rfl,u.cells _ _ R,by rw[hl.2];exact hl.1⟩
    .cases h
   |agg cells=>
    simp only[view]at h;split at h
    .rename_i o V J;simp only[ae,aq]at h;obtain⟨rfl,rfl⟩:=h;simp only[b9]at c ⊢;obtain⟨cs,rfl,C⟩:=c;exact⟨cs,rfl,(Z.2 _ _ _ _ J A C).1⟩
    .cases h
   |M1 cells=>
    simp only[view]at h;split at h
    .rename_i o V J;simp only[ae,aq]at h;obtain⟨rfl,rfl⟩:=h;simp only[b9]at c ⊢;obtain⟨cs,rfl,C⟩:=c;exact⟨cs,rfl,(Z.2 _ _ _ _ J A C).1⟩
    .cases h
   |fn f a b=>
    simp only[view]at h;split at h
    .rename_i a' r1 X;split at h
     .rename_i E r2 Y;simp only[ae,aq]at h;obtain⟨rfl,rfl⟩:=h;simp only[b9]at c ⊢;obtain⟨fi,ca,rfl,C,h4⟩:=c;exact⟨fi,ca,rfl,(Z.2 _ _ _ _ X (fun L M q E o N s O=>A L M q E o N s (by simp[O])) C).1,
       (Z.2 _ _ _ _ Y (fun L M q E o N s O=>A L M q E o N s (by simp[O])) h4).1⟩
     .cases h
    .cases h
  refine⟨J,?_⟩;intro vs
  induction vs with
  |nil=>
   intro xs y z h A c;simp only[Z6,ae,aq]at h;obtain⟨rfl,rfl⟩:=h;rw[c6.J8.1 c];exact⟨.nil,rfl⟩
  |cons v vs ihl=>
   intro xs y z h A c;simp only[Z6]at h;split at h
   .rename_i v' r1 X;split at h
    .rename_i vs1 r2 Y;simp only[ae,aq]at h;obtain⟨rfl,rfl⟩:=h;obtain⟨x,xs',rfl,B,R⟩:=c.inv;have ha:=J _ _ _ _ X (fun L M q E o N s O=>A L M q E o N s (by simp[O])) B
     have hb:=ihl _ _ _ Y (fun L M q E o N s O=>A L M q E o N s (by simp[O])) R
     exact⟨.cons ha hb.1,by simp[hb.2]⟩
    .cases h
   .cases h
theorem cJ(m:Mm):∀ (d:Nat),(∀ (v v':a7) (o:List (Nat×p0)),view m d v=some (v',o)->∀r f,(r,f)∈o->f≠ .dead/\∃c,m r=some (c,f)/\c.isCells=true)/\
  (∀ (vs s:List a7) (o:List (Nat×p0)),Z6 (view m d) vs=some (s,o)->∀r f,(r,f)∈o->f≠ .dead/\∃c,m r=some (c,f)/\c.isCells=true):=by
 have D:∀d,(∀ (v v':a7) (o:List (Nat×p0)),view m d v=some (v',o)->∀r f,(r,f)∈o->f≠ .dead/\∃c,m r=some (c,f)/\c.isCells=true)->
   (∀ (vs s:List a7) (o:List (Nat×p0)),Z6 (view m d) vs=some (s,o)->∀r f,(r,f)∈o->f≠ .dead/\∃c,m r=some (c,f)/\c.isCells=true):=by
  intro d q vs
  induction vs with
  |nil=>
   intro s o h r f e;simp only[Z6,ae,aq]at h;obtain⟨rfl,rfl⟩:=h;simp at e
  |cons v vs x=>
   intro s o h r f e;simp only[Z6]at h;split at h
   .rename_i v' G y;split at h
    .rename_i I J z;simp only[ae,aq]at h;obtain⟨rfl,rfl⟩:=h;rcases cj.1 e with h|h
     .exact q _ _ _ y r f h
     .exact x _ _ z r f h
    .cases h
   .cases h
 intro d
 induction d with
 |zero=>exact⟨fun v v' o h=>by simp[view]at h,D 0 (fun v v' o h=>by simp[view]at h)⟩
 |succ d x=>
  have q:∀ (v v':a7) (o:List (Nat×p0)),view m (d+1) v=some (v',o)->∀r f,(r,f)∈o->f≠ .dead/\∃c,m r=some (c,f)/\c.isCells=true:=by
   intro v v' o h r f e;cases v with
   |S6=>simp only[view,ae,aq]at h;obtain⟨rfl,rfl⟩:=h;simp at e
   |Y4=>simp[view]at h
   |P5 r i j=>simp[view]at h
   |Dc L n=>simp[view]at h
   |P6 r=>simp[view]at h
   |bool b=>simp only[view,ae,aq]at h;obtain⟨rfl,rfl⟩:=h;simp at e
   |int M n=>simp only[view,ae,aq]at h;obtain⟨rfl,rfl⟩:=h;simp at e
   |R2 t=>simp only[view,ae,aq]at h;obtain⟨rfl,rfl⟩:=h;simp at e
   |imm t l f=>simp only[view,ae,aq]at h;obtain⟨rfl,rfl⟩:=h;simp at e
   |S3 t l=>simp only[view,ae,aq]at h;obtain⟨rfl,rfl⟩:=h;simp at e
   |J7=>simp[view]at h
   |V6=>simp only[view,ae,aq]at h;obtain⟨rfl,rfl⟩:=h;simp at e
   |s6 p=>simp only[view,ae,aq]at h;obtain⟨rfl,rfl⟩:=h;simp at e
   |B9 r=>simp only[view,ae,aq]at h;obtain⟨rfl,rfl⟩:=h;simp at e
   |O1 r0 E=>
    simp only[view]at h;split at h
    .rename_i t l g C;split at h
     .cases h
     .rename_i u;simp only[ae,aq]at h;obtain⟨rfl,rfl⟩:=h;simp only[cb,aq]at e;obtain⟨rfl,rfl⟩:=e;exact⟨u,_,C,rfl⟩
    .cases h
   |sub r0 lo len E=>
    simp only[view]at h;split at h
    .rename_i t l g C;split at h
     .cases h
     .rename_i u;simp only[ae,aq]at h;obtain⟨rfl,rfl⟩:=h;simp only[cb,aq]at e;obtain⟨rfl,rfl⟩:=e;exact⟨u,_,C,rfl⟩
    .cases h
   |ptr r0 off=>
    simp only[view]at h;split at h
    .rename_i cells g C;split at h
     .cases h
     .rename_i u;split at h
      .rename_i A B q;simp only[ae,aq]at h;obtain⟨rfl,rfl⟩:=h;rcases av.1 e with h|h
       .simp only[aq]at h;obtain⟨rfl,rfl⟩:=h;exact⟨u,_,C,rfl⟩
       .exact x.2 _ _ _ q r f h
      .cases h
    .cases h
   |G7 cells=>
    simp only[view]at h;split at h
    .rename_i A B q;simp only[ae,aq]at h;obtain⟨rfl,rfl⟩:=h;exact x.2 _ _ _ q r f e
    .cases h
   |agg cells=>
    simp only[view]at h;split at h
    .rename_i A B q;simp only[ae,aq]at h;obtain⟨rfl,rfl⟩:=h;exact x.2 _ _ _ q r f e
    .cases h
   |M1 cells=>
    simp only[view]at h;split at h
    .rename_i A B q;simp only[ae,aq]at h;obtain⟨rfl,rfl⟩:=h;exact x.2 _ _ _ q r f e
    .cases h
   |fn E a b=>
    simp only[view]at h;split at h
    .rename_i N G y;split at h
     .rename_i O J z;simp only[ae,aq]at h;obtain⟨rfl,rfl⟩:=h;rcases cj.1 e with h|h
      .exact x.2 _ _ _ y r f h
      .exact x.2 _ _ _ z r f h
     .cases h
    .cases h
  exact⟨q,D (d+1) q⟩
theorem gX(m:Mm):∀ (a:List (Nat×p0)) (r:Nat),y8 m (J6 a) r=match m r with
  |some (c,g)=>some (c,if(r,p0.own)∈a then .X9 else g)
  |none=>none:=by
 intro a
 induction a generalizing m with
 |nil=>intro r;simp only[J6,y8];split<;>simp_all
 |cons u a d=>
  intro r;obtain⟨r0,f⟩:=u;cases f with
  |own=>
   simp only[J6,y8,d];have h:dI m (r0,p0.X9) r=match m r with
     |some (c,g)=>some (c,if r=r0 then .X9 else g)
     |none=>none:=by
    simp only[dI];by_cases e:r=r0
    .subst e;cases b:m r with
     |none=>simp[b]
     |some x=>simp[j8]
    .have i:∀y:Option (c7×p0),(match y with
       |some (c,_)=>N9 m r0 (c,p0.X9)
       |none=>m) r=m r:=by
      intro y;rcases y with _|⟨c,g⟩
      .rfl
      .exact m7 _ _ _ _ e
     refine Eq.trans (i _) ?_;split<;>simp_all
   rw[h];cases b:m r with
   |none=>simp
   |some x=>
    obtain⟨c,g⟩:=x;simp only[av,aq,and_true];by_cases e:r=r0
    .subst e;simp
    .simp[e]
  |X9=>simp only[J6,d];split<;>simp
  |dead=>simp only[J6,d];split<;>simp
theorem l5.freeze(p:l5 F K H w m)(J:xL K w)(n:List (Nat×p0))(t:∀r f,(r,f)∈n->f≠ .dead/\∃c,m r=some (c,f)/\c.isCells=true):
  l5 F (K.plus w (Q5 H n)) H w (y8 m (J6 n))/\(∀b,Q5 H n b=true->K.inv b=none\/∃cs,K.cells b=some cs):=by
 have G:∀b,Q5 H n b=true->(K.inv b=none/\¬F b/\∃r c hd,(r,p0.own)∈n/\m r=some (c,.own)/\H r=some hd/\hd.base=some b)\/∃cs,K.cells b=some cs:=by
  intro b y;obtain⟨r,f,hd,a,j,l⟩:=nX y;obtain⟨u,c,C,A⟩:=t r f a;cases f with
  |own=>
   have:=p.own r c hd b C j l;exact .inl ⟨this.2.2.1,this.1,r,c,hd,a,C,j,l⟩
  |X9=>exact .inr (p.X9 r c hd b C j l)
  |dead=>exact absurd rfl u
 refine⟨⟨?_,?_,?_,?_⟩,fun b y=>(G b y).imp (fun h=>h.1) id⟩
 .intro r c f hd a j l;rw[gX]at a;cases d:m r with
  |none=>rw[d]at a;cases a
  |some x=>
   obtain⟨c',g⟩:=x;rw[d]at a;simp only[ae,aq]at a;obtain⟨rfl,a⟩:=a;refine(p.cont r c' g hd d ?_ l).mono (K.M4 w _) (.refl H) (fun _ _=>rfl)
   intro e;subst e;by_cases i:(r,p0.own)∈n
   .obtain⟨_,z,o,_⟩:=t r _ i;rw[d]at o;cases o
   .rw[ai i]at a;exact j a.symm
 .intro r c hd b a j l;rw[gX]at a;cases d:m r with
  |none=>rw[d]at a;cases a
  |some x=>
   obtain⟨c',g⟩:=x;rw[d]at a;simp only[ae,aq]at a;obtain⟨rfl,a⟩:=a;by_cases i:(r,p0.own)∈n
   .rw[aj i]at a;cases a
   .rw[ai i]at a;subst a;obtain⟨D,g2,L,E⟩:=p.own r c' hd b d j l;refine⟨D,?_,L,E⟩;cases y:Q5 H n b with
    |false=>rw[lZ y];exact g2
    |true=>
     rcases G b y with⟨_,_,B,z,v,M,N,q3,q4⟩|⟨cs,q⟩
     .have:=p.inj r B c' z hd v b d N j q3 l q4;subst this;exact absurd M i
     .rw[g2]at q;cases q
 .intro r c hd b a j l;rw[gX]at a;cases d:m r with
  |none=>rw[d]at a;cases a
  |some x=>
   obtain⟨c',g⟩:=x;rw[d]at a;simp only[ae,aq]at a;obtain⟨rfl,a⟩:=a;by_cases i:(r,p0.own)∈n
   .obtain⟨_,z,o,A⟩:=t r _ i;obtain⟨_,_,_,O⟩:=p.own r z hd b o j l;obtain⟨cs,e,E⟩:=O A;exact⟨cs,fM (cW i j l) J E⟩
   .rw[ai i]at a;subst a;obtain⟨cs,g⟩:=p.X9 r c' hd b d j l;exact⟨cs,(K.M4 w _).cells _ _ g⟩
 .intro I B R z u v b a j l S T U;have s:∀r c,y8 m (J6 n) r=some (c,.own)->∃c',m r=some (c',.own):=by
   intro r c h;rw[gX]at h;cases d:m r with
   |none=>rw[d]at h;cases h
   |some x=>
    obtain⟨c',g⟩:=x;rw[d]at h;simp only[ae,aq]at h;obtain⟨rfl,h⟩:=h;split at h
    .cases h
    .subst h;exact⟨c',rfl⟩
  obtain⟨V,D⟩:=s I R a;obtain⟨X,g2⟩:=s B z j;exact p.inj I B V X u v b D g2 l S T U
theorem L4.frozen(a:L4 F K w)(l:l5 F K H w m)(d:List (Nat×p0))(i:∀r f,(r,f)∈d->f≠ .dead/\∃c,m r=some (c,f)/\c.isCells=true):
  L4 F (K.plus w (Q5 H d)) w/\Fix F K (K.plus w (Q5 H d)):=by
 have n:∀b,Q5 H d b=true->(K.inv b=none/\¬F b)\/∃cs,K.cells b=some cs:=by
  intro b e;obtain⟨r,f,hd,t,o,q⟩:=nX e;obtain⟨j,c,s,u⟩:=i r f t;cases f with
  |own=>
   have:=l.own r c hd b s o q;exact .inl ⟨this.2.2.1,this.1⟩
  |X9=>exact .inr (l.X9 r c hd b s o q)
  |dead=>exact absurd rfl j
 refine⟨a.plus _ (fun b e=>?_),fun b e=>⟨?_,rfl⟩⟩
 .rcases n b e with h|⟨cs,h⟩
  .exact h.1
  .cases v:K.inv b with
   |none=>rfl
   |some p=>have:=a.apart b p v;rw[h]at this;cases this
 .cases g:Q5 H d b with
  |false=>exact lZ g
  |true=>
   rcases n b g with h|⟨cs,h⟩
   .exact absurd e h.2
   .rw[h];exact(K.M4 w _).cells _ _ h
end
end Go.Abs
end
section
namespace Go.Abs
section
variable {P:Program} {F:Nat->Prop} {K:b8} {H:Nat->Option Hd} {w:World} {m:Mm} {nx:Nat} {k:Q->Prop} {ev:Operand->a7} {ρ:Operand->Value}
theorem u7{t:TypeId}{d:TypeDesc}(h:P.underlying t=some d)(w:World):(underlying t).run P w=.ok d w:=by
 simp[underlying,h]
theorem wB{t:TypeId}{i:TypeInfo}(h:P.info? t=some i)(w:World):(typeInfo t).run P w=.ok i w:=by
 simp[typeInfo,h]
theorem M9{t:TypeId}{i:TypeInfo}(h:P.info? t=some i)(w:World):(sizeOf t).run P w=.ok i.size w:=by
 simp[sizeOf,wB h]
theorem ED{t:TypeId}{d:TypeDesc}(h:P.underlying t=some d):∃i,P.info? t=some i:=by
 unfold Program.underlying at h;cases a:P.info? t with
 |none=>rw[a]at h;cases h
 |some i=>exact⟨i,rfl⟩
theorem nY{t:TypeId}{d:TypeDesc}(h:P.underlying t=some d)(w:World):(sizeOf t).run P w=.ok (j9 P t) w:=by
 obtain⟨i,a⟩:=ED h;rw[M9 a];simp[j9,a]
theorem W7{t:TypeId}{d:TypeDesc}(h:P.underlying t=some d)(w:World):(isAgg t).run P w=.ok (R0 P t) w:=by
 simp only[isAgg,au,u7 h,ak,R0,h];cases d<;>rfl
theorem OK{t:TypeId}(h:R0 P t=true):∃d,P.underlying t=some d:=by
 unfold R0 at h;split at h
 .exact⟨_,‹_›⟩
 .exact⟨_,‹_›⟩
 .cases h
theorem cX:∀ (d:Nat) (t:TypeId) (ty:Ty),Z5 P d t=some ty->∃i f,P.info? t=some i/\i.size=ty.size/\P.underlying t=some f/\j9 P t=ty.size:=by
 intro d
 induction d with
 |zero=>intro t ty h;simp[Z5]at h
 |succ d g=>
  intro t ty h;unfold Z5 at h;split at h
  .rename_i i j a c;split at h
   .rename_i b;cases h;exact⟨i,_,a,b,c,by simp[j9,a,b,Ty.size]⟩
   .cases h
  .rename_i i a c;split at h
   .rename_i b;cases h;exact⟨i,_,a,b,c,by simp[j9,a,b,Ty.size]⟩
   .cases h
  .rename_i i e a c;split at h
   .rename_i b;split at h
    .cases h;exact⟨i,_,a,b,c,by simp[j9,a,b,Ty.size]⟩
    .cases h
   .cases h
  .rename_i i l a c;split at h
   .split at h
    .rename_i b;cases h;exact⟨i,_,a,b,c,by simp[j9,a,b]⟩
    .cases h
   .cases h
  .cases h
theorem aL{t:TypeId}{v:a7}{x:Value}(h:b9 K H v x):b9 K H (typed P t v) x:=by
 unfold typed;split
 .split
  .simpa [b9]using h
  .split
   .simpa [b9]using h
   .exact h
 .exact h
theorem qT:∀ (v:Value),b9 K H (sS v) v:=by
 intro v;unfold sS;split<;>simp[b9,gE]
theorem EF:∀ (v:Value),b9 K H (Jp v) v:=by
 intro v;unfold Jp;split
 .rename_i cs;simp only[b9];refine⟨cs,rfl,?_⟩;generalize cs.toList=l
  induction l with
  |nil=>exact .nil
  |cons a l b=>exact .cons (qT a) b
 .exact qT v
theorem eN{v:a7}{x:Value}{cells:List a7}(b:v.parts=some cells)(h:b9 K H v x):c6 K H cells x.cells.toList:=by
 cases v<;>simp only[a7.parts,ae]at b<;>(try cases b)
 case agg=>
  simp only[b9]at h;obtain⟨c,rfl,d⟩:=h;exact d
 all_goals
  have a:=h;simp only[b9]at h
 case bool=>subst h;exact .cons a .nil
 case int=>subst h;exact .cons a .nil
 case R2=>subst h;exact .cons a .nil
 case imm=>obtain⟨_,_,rfl,_⟩:=h;exact .cons a .nil
 case O1=>obtain⟨_,_,rfl,_⟩:=h;exact .cons a .nil
 case sub=>obtain⟨_,_,_,_,rfl,_⟩:=h;exact .cons a .nil
 case ptr=>obtain⟨_,_,_,_,rfl⟩:=h;exact .cons a .nil
 case P5=>obtain⟨_,_,_,_,rfl⟩:=h;exact .cons a .nil
 case P6=>obtain⟨_,_,_,_,_,rfl⟩:=h;exact .cons a .nil
 case B9=>obtain⟨_,_,_,_,rfl⟩:=h;exact .cons a .nil
 case G7=>obtain⟨_,_,_,rfl,_⟩:=h;exact .cons a .nil
 case fn=>obtain⟨_,_,rfl,_⟩:=h;exact .cons a .nil
 case V6=>subst h;exact .cons a .nil
 case J7=>obtain⟨_,_,rfl⟩:=h;exact .cons a .nil
 case s6=>rcases Lh.cell _ _ _ h with⟨_,rfl⟩|rfl<;>exact .cons a .nil
theorem a0d{v:a7}{x:Value}(a:v.one=true)(h:b9 K H v x):one x=true:=by
 cases v<;>simp[a7.one]at a<;>simp only[b9]at h
 case Y4=>subst h;rfl
 case bool=>subst h;rfl
 case int=>subst h;rfl
 case R2=>subst h;rfl
 case imm=>obtain⟨_,_,rfl,_⟩:=h;rfl
 case O1=>obtain⟨_,_,rfl,_⟩:=h;rfl
 case sub=>obtain⟨_,_,_,_,rfl,_⟩:=h;rfl
 case ptr=>obtain⟨_,_,_,_,rfl⟩:=h;rfl
 case P5=>obtain⟨_,_,_,_,rfl⟩:=h;rfl
 case P6=>obtain⟨_,_,_,_,_,rfl⟩:=h;rfl
 case B9=>obtain⟨_,_,_,_,rfl⟩:=h;rfl
 case G7=>obtain⟨_,_,_,rfl,_⟩:=h;rfl
 case fn=>obtain⟨_,_,rfl,_⟩:=h;rfl
 case V6=>subst h;rfl
 case J7=>obtain⟨_,_,rfl⟩:=h;rfl
 case s6=>rcases Lh.cell _ _ _ h with⟨_,rfl⟩|rfl<;>rfl
theorem eO:∀ {vs:List a7} {xs:List Value},iL vs=true->c6 K H vs xs->∀x∈xs,one x=true
 |[],xs,_,h,x,a=>by rw[c6.J8.1 h]at a;simp at a
 |v::vs,xs,b,h,x,a=>by
  simp only[iL,ah]at b;obtain⟨c,cs,rfl,d,e⟩:=h.inv;rcases av.1 a with rfl|a
  .exact a0d b.1 d
  .exact eO b.2 e x a
theorem oA{t:TypeId}{cells:List a7}{v:a7}{b off:Nat}{cs:Array Value}{e:TypeId}{C:Nat×Nat}(u:w.heap[b]? =some (.cells cs e C))
  (q:c6 K H cells (s7 cs off cells.length))(h:Hh P t cells=some v):∃x,(loadVar t ⟨b,off,none⟩).run P w=.ok x w/\b9 K H v x:=by
 have l:∀d,P.underlying t=some d->R0 P t=true->(P.info? t).isSome=true->j9 P t<=cells.length->v=.agg (cells.take (j9 P t))->
   ∃x,(loadVar t ⟨b,off,none⟩).run P w=.ok x w/\b9 K H v x:=by
  intro d hd p I D g;have E:=c6.length q;by_cases y:j9 P t=0
  .refine⟨.agg #[],?_,?_⟩
   .simp only[loadVar,au,W7 hd,ak,p,di,nY hd,y];simp[loadCells,loadCellsFrom]
   .rw[g,y];simp only[b9];exact⟨_,rfl,.nil⟩
  .have G:off+cells.length<=cs.size:=QZ E (by omega)
   refine⟨.agg (s7 cs off (j9 P t)).toArray,?_,?_⟩
   .simp only[loadVar,au,W7 hd,ak,p,di,nY hd];have:=run_loadCells P u off (j9 P t) 0 #[] (by omega)
    simp only[loadCells,this,ak];simp
   .rw[g];simp only[b9];refine⟨_,rfl,?_⟩;have i:=c6.take (j9 P t) q;have z:(s7 cs off cells.length).take (j9 P t)=s7 cs off (j9 P t):=by
     unfold s7;rw[List.take_take,lv D]
    rw[z]at i;simpa using i
 have f:∀d,P.underlying t=some d->R0 P t=false->cells.head?=some v->∃x,(loadVar t ⟨b,off,none⟩).run P w=.ok x w/\b9 K H v x:=by
  intro d hd p g;cases cells with
  |nil=>simp at g
  |cons a r=>
   simp only[List.head?_cons,ae]at g;subst g;obtain⟨x,xs,s,i,z⟩:=q.inv;refine⟨x,?_,i⟩;have c:cs[off]? =some x:=by
    have:=P8 (cs:=cs) (o:=off) (n:=(a::r).length) (j:=0) (by simp)
    rw[s]at this;simpa using this.symm
   simp only[loadVar,au,W7 hd,ak,p];exact Abs.run_load P u off x c
 unfold Hh at h;split at h
 .cases h
 .rename_i A hd;split at h
  .rename_i c;simp only[ah,bt]at c;cases h;exact l _ hd (by simp[R0,hd]) c.1 c.2 rfl
  .cases h
 .rename_i n B hd;split at h
  .rename_i c;simp only[ah,bt]at c;cases h;exact l _ hd (by simp[R0,hd]) c.1 c.2 rfl
  .cases h
 .rename_i d s i hd;split at h
  .cases h;refine f d hd ?_ rfl;unfold R0;rw[hd];cases d with
   |struct A=>exact absurd rfl (s A)
   |array n B=>exact absurd rfl (i n B)
   |_=>rfl
  .cases h
theorem xZ{t:TypeId}{cells:List a7}{v:a7}{off:Nat}{cs:Array Value}(A:c6 K H cells cs.toList)(h:Hh P t (cells.drop off)=some v):
  ∃x,(part t cs off).run P w=.ok x w/\b9 K H v x:=by
 have b:=c6.drop off A;have r:=c6.length b;have i:∀d,P.underlying t=some d->R0 P t=true->j9 P t<=(cells.drop off).length->v=.agg ((cells.drop off).take (j9 P t))->
   ∃x,(part t cs off).run P w=.ok x w/\b9 K H v x:=by
  intro d hd l B c;refine⟨.agg (cs.extract off (off+j9 P t)),?_,?_⟩
  .simp only[part,au,W7 hd,ak,l,di,nY hd];rfl
  .rw[c];simp only[b9];refine⟨_,rfl,?_⟩;have g:=c6.take (j9 P t) b;have s:(cs.toList.drop off).take (j9 P t)=(cs.extract off (off+j9 P t)).toList:=by
    rw[Array.toList_extract];simp[List.extract]
   rw[s]at g;exact g
 have e:∀d,P.underlying t=some d->R0 P t=false->(cells.drop off).head?=some v->∃x,(part t cs off).run P w=.ok x w/\b9 K H v x:=by
  intro d hd l c;cases j:cells.drop off with
  |nil=>rw[j]at c;simp at c
  |cons a o=>
   rw[j]at c b;simp only[List.head?_cons,ae]at c;subst c;obtain⟨x,xs,p,g,s⟩:=b.inv;refine⟨x,?_,g⟩;have f:cs[off]? =some x:=by
    have u:(cs.toList.drop off)[0]? =some x:=by rw[p];rfl
    rw[dp]at u;simpa using u
   simp only[part,au,W7 hd,ak,l];simp[f]
 unfold Hh at h;split at h
 .cases h
 .rename_i y hd;split at h
  .rename_i f;simp only[ah,bt]at f;cases h;exact i _ hd (by simp[R0,hd]) f.2 rfl
  .cases h
 .rename_i n z hd;split at h
  .rename_i f;simp only[ah,bt]at f;cases h;exact i _ hd (by simp[R0,hd]) f.2 rfl
  .cases h
 .rename_i d p g hd;split at h
  .rename_i a o q;cases h;refine e d hd ?_ (by rw[q];rfl)
   unfold R0;rw[hd];cases d with
   |struct y=>exact absurd rfl (p y)
   |array n z=>exact absurd rfl (g n z)
   |_=>rfl
  .cases h
theorem c8{s:Sem Value}{x:Value}{w':World}(h:s.run P w=.ok x w'):(do pure (Next.value (<-s)):Sem Next).run P w=.ok (.value x) w':=by
 simp[h]
theorem Cf:∀ (xs ys:List a7) (e:Bool),eX xs ys=some e->∀ (cs f:List Value),c6 K H xs cs->c6 K H ys f->
  ∃ (l:List (IntKind×Int×Int)),cs=l.map (fun u=>Value.int u.1 u.2.1)/\f=l.map (fun u=>Value.int u.1 u.2.2)/\e=l.all (fun u=>u.2.1==u.2.2)
 |[],[],e,h,cs,f,g,i=>by
  simp only[eX,ae]at h;refine⟨[],by simpa using c6.J8.1 g,by simpa using c6.J8.1 i,by simp[<-h]⟩
 |[.int k a],[.int k' b],e,h,cs,f,g,i=>by
  simp only[eX]at h;split at h
  .rename_i o;subst o;cases h;obtain⟨c,p,rfl,j,g2⟩:=g.inv;obtain⟨d,q,rfl,n,t⟩:=i.inv;simp only[b9]at j n;subst j n;rw[c6.J8.1 g2,c6.J8.1 t];exact⟨[(k,a,b)],rfl,rfl,by simp⟩
  .cases h
 |.int k a::x::r,.int k' b::s,e,h,cs,f,g,i=>by
  simp only[eX]at h;split at h
  .rename_i o;subst o;split at h
   .rename_i z v;cases h;obtain⟨c,p,rfl,j,g2⟩:=g.inv;obtain⟨d,q,rfl,n,t⟩:=i.inv;simp only[b9]at j n;subst j n;obtain⟨l,rfl,rfl,rfl⟩:=Cf _ _ _ v _ _ g2 t;exact⟨(k,a,b)::l,rfl,rfl,by simp⟩
   .cases h
  .cases h
 |[.int k a],.int k' b::y::s,e,h,cs,f,g,i=>by
  simp only[eX]at h;split at h
  .cases h
  .cases h
end
end Go.Abs
end
section
namespace Go.Abs
section
variable {P:Program} {F:Nat->Prop} {K:b8} {H:Nat->Option Hd} {w:World} {m:Mm} {nx:Nat} {k:Q->Prop} {ev:Operand->a7} {ρ:Operand->Value}
theorem R7{a:IntKind}{n:Int}{x:Value}(h:b9 K H (.int a n) x):x=.int a n:=by simpa [b9]using h
theorem Z8{b:Bool}{x:Value}(h:b9 K H (.bool b) x):x=.bool b:=by simpa [b9]using h
theorem bR(d:Nat)(cs b:Array Value):∀ (e:List Field) (i:Nat) (l:List (IntKind×Int×Int)),bP.go P e i=true->e.length=l.length->
  cs.toList.drop i=l.map (fun u=>Value.int u.1 u.2.1)->b.toList.drop i=l.map (fun u=>Value.int u.1 u.2.2)->
  (Op.eqFields (d+1) cs b e).run P w=.ok (l.all (fun u=>u.2.1==u.2.2)) w
 |[],i,l,_,g,_,_=>by
  simp only[eh]at g;rw[bw g.symm];simp[Op.eqFields]
 |f::e,i,l,s,g,q,hd=>by
  cases l with
  |nil=>simp at g
  |cons u l=>
   simp only[bP.go,ah,bt]at s;obtain⟨⟨⟨t,y⟩,o⟩,p⟩:=s;cases c:P.underlying f.type with
   |none=>rw[c]at o;simp at o
   |some z=>
    rw[c]at o;cases z<;>simp at o;rename_i A;have j:R0 P f.type=false:=by simp[R0,c]
    have a:∀ (es:Array Value) (v:Value) (r:List Value),es.toList.drop i=v::r->es[i]? =some v:=by
     intro es v r h;have p:(es.toList.drop i)[0]? =some v:=by rw[h];rfl
     rw[dp]at p;simpa using p
    have n:∀ (es:Array Value) (v:Value) (r:List Value),es.toList.drop i=v::r->es.toList.drop (i+1)=r:=by
     intro es v r h;rw[<-dm,h];rfl
    simp only[az]at q hd;have B:=a cs _ _ q;have C:=a b _ _ hd;have D:=bR d cs b e (i+1) l p (by simpa using g) (n cs _ _ q) (n b _ _ hd)
    have E:(part f.type cs f.offset).run P w=.ok (.int u.1 u.2.1) w:=by
     simp only[part,au,W7 c,ak,j,t];simp[B]
    have G:(part f.type b f.offset).run P w=.ok (.int u.1 u.2.2) w:=by
     simp only[part,au,W7 c,ak,j,t];simp[C]
    simp only[Op.eqFields];rw[aj (by simpa using y)]
    simp only[au,E,G,ak,run_equalIn_int w d f.type u.1 A u.2.1 u.2.2 c,nq];cases I:(u.2.1==u.2.2)
    .simp
    .simp only[so,dq,dw,km];exact D
theorem yA(d:Nat){e:TypeId}{f p:IntKind}(q:P.underlying e=some (.int p))(t:P.cellsOf e=1)(cs r:Array Value):∀ (n i:Nat) (l c:List Int),l.length=n->c.length=n->
  (∀j (h:j<l.length),cs[i+j]? =some (.int f l[j]))->(∀j (h:j<c.length),r[i+j]? =some (.int f c[j]))->
  (Op.eqItems (d+1) e (P.cellsOf e) cs r (List.range' i n)).run P w=.ok (l==c) w
 |0,i,l,c,g,o,_,_=>by
  rw[bw g,bw o];simp[Op.eqItems]
 |n+1,i,[],c,g,o,_,_=>by simp at g
 |n+1,i,a::l,[],g,o,_,_=>by simp at o
 |n+1,i,a::l,b::c,g,o,v,y=>by
  have s:R0 P e=false:=by simp[R0,q]
  have z:cs[i]? =some (.int f a):=v 0 (by simp)
  have A:r[i]? =some (.int f b):=y 0 (by simp)
  have B:=yA d q t cs r n (i+1) l c (by simpa using g) (by simpa using o)
   (fun j h=>by have:=v (j+1) (by simpa using h);simpa [fe,ez 1 j]using this)
   (fun j h=>by have:=y (j+1) (by simpa using h);simpa [fe,ez 1 j]using this)
  have C:(part e cs (i*P.cellsOf e)).run P w=.ok (.int f a) w:=by
   simp only[part,au,W7 q,ak,s,t,kh];simp[z]
  have D:(part e r (i*P.cellsOf e)).run P w=.ok (.int f b) w:=by
   simp only[part,au,W7 q,ak,s,t,kh];simp[A]
  simp only[List.range'_succ,Op.eqItems,au,C,D,ak,run_equalIn_int w d e f p a b q];have u:((a::l)==(b::c))=(a==b && (l==c)):=rfl;rw[u];cases E:(a==b)
  .simp
  .simp only[so,dq,dw,km];exact B
theorem OL{a:IntKind}{l:List Int}{cs:Array Value}(h:cQ K (.int a) l cs 0)(j:Nat)(c:j<l.length):cs[j]? =some (.int a l[j]):=by
 have:=h j c;have d:s7 cs (0+j*1) 1=[Value.int a l[j]]:=this;have b:=P8 (cs:=cs) (o:=0+j*1) (n:=1) (j:=0) (by omega)
 rw[d]at b;simpa using b.symm
theorem dR{op:BinOp}{t:TypeId}{a b:a7}{x y:Value}{ox oy:Operand}{kk:a7->Prop}(u:b9 K H a x)(A:b9 K H b y)(h:V3 P op t a b kk):
  ∃v z,kk v/\b9 K H v z/\(do eqGuard op t ox oy x y;binOp op t x y:Sem Value).run P w=.ok z w:=by
 unfold V3 at h;split at h
 .rename_i d c kb nb;have u:=R7 u;have A:=R7 A;subst u A;have f:∀z,(binOp op t (.int d c) (.int kb nb)).run P w=.ok z w->(do eqGuard op t ox oy (.int d c) (.int kb nb);binOp op t (.int d c) (.int kb nb):Sem Value).run P w=.ok z w:=by
   intro z hz;have o:(eqGuard op t ox oy (.int d c) (.int kb nb)).run P w=.ok () w:=by
    cases op<;>simp[eqGuard]
   simp only[au,o,ak,hz]
  split at h
  .obtain⟨o,C⟩:=h;refine⟨_,.int d (ZV d c nb),C,by simp[b9],f _ ?_⟩
   simp[binOp,Op.shift,ZV,Int.not_lt.2 o]
  .obtain⟨o,C⟩:=h;refine⟨_,.int d (AA d c nb),C,by simp[b9],f _ ?_⟩
   simp[binOp,Op.shift,AA,Int.not_lt.2 o]
  .rename_i hs1 Wa;split at h
   .rename_i U;subst U;cases op<;>simp only at h<;>(try exact absurd h id)
    case add=>exact⟨_,.int d (c+nb),h.2,by simp[b9],f _ (by have e:d.wrap (c+nb)=c+nb:=h.1;simp[binOp,Op.intArith,e])⟩
    case sub=>exact⟨_,.int d (c- nb),h.2,by simp[b9],f _ (by have e:d.wrap (c- nb)=c- nb:=h.1;simp[binOp,Op.intArith,e])⟩
    case mul=>exact⟨_,.int d (c*nb),h.2,by simp[b9],f _ (by have e:d.wrap (c*nb)=c*nb:=h.1;simp[binOp,Op.intArith,e])⟩
    case quo=>
     obtain⟨⟨o,C,V⟩,X⟩:=h;have e:d.wrap (c.tdiv nb)=c/nb:=by rw[Int.tdiv_eq_ediv_of_nonneg o];exact V
     have D:nb≠0:=by omega
     exact⟨_,.int d (c/nb),X,by simp[b9],f _ (by simp[binOp,Op.intDiv,D,e])⟩
    case rem=>
     obtain⟨⟨o,C⟩,X⟩:=h;have e:c.tmod nb=c % nb:=Int.tmod_eq_emod_of_nonneg o;have D:nb≠0:=by omega
     exact⟨_,.int d (c % nb),X,by simp[b9],f _ (by simp[binOp,Op.intDiv,D,e])⟩
    case and=>exact⟨_,.int d (aZ .and d c nb),h,by simp[b9],f _ (by simp[binOp,Op.intBits,aZ])⟩
    case or=>exact⟨_,.int d (aZ .or d c nb),h,by simp[b9],f _ (by simp[binOp,Op.intBits,aZ])⟩
    case xor=>exact⟨_,.int d (aZ .xor d c nb),h,by simp[b9],f _ (by simp[binOp,Op.intBits,aZ])⟩
    case andNot=>exact⟨_,.int d (aZ .andNot d c nb),h,by simp[b9],f _ (by simp[binOp,Op.intBits,aZ])⟩
    case eql=>exact⟨_,_,h,by simp[b9];rfl,f _ (by simp[binOp,Op.intCmp])⟩
    case neq=>exact⟨_,.bool (c !=nb),h,by simp[b9],f _ (by simp[binOp,Op.intCmp])⟩
    case lss=>exact⟨_,.bool (decide (c<nb)),h,by simp[b9],f _ (by simp[binOp,Op.intCmp])⟩
    case leq=>exact⟨_,.bool (decide (c<=nb)),h,by simp[b9],f _ (by simp[binOp,Op.intCmp])⟩
    case gtr=>exact⟨_,.bool (decide (c>nb)),h,by simp[b9],f _ (by simp[binOp,Op.intCmp])⟩
    case geq=>exact⟨_,.bool (decide (c>=nb)),h,by simp[b9],f _ (by simp[binOp,Op.intCmp])⟩
   .cases h
 .rename_i p q;have u:=Z8 u;have A:=Z8 A;subst u A;split at h
  .rename_i E;cases op<;>simp only at h<;>(try exact absurd h id)
   case eql=>exact⟨_,.bool (p==q),h,by simp[b9],by simp[eqGuard,binOp,Op.equal,Op.maxDepth,ql w 9999 t p q E]⟩
   case neq=>exact⟨_,.bool (!(p==q)),h,by simp[b9],by simp[eqGuard,binOp,Op.equal,Op.maxDepth,ql w 9999 t p q E]⟩
  .cases h
 .rename_i xs ys;split at h
  .rename_i n;split at h
   .rename_i e Y;simp only[b9]at u A;obtain⟨cs,rfl,Z⟩:=u;obtain⟨r,rfl,hd⟩:=A;obtain⟨l,o,C,V⟩:=Cf _ _ _ Y _ _ Z hd;unfold bP at n;split at n
    .rename_i fs E;simp only[ah,dx,bt]at n;obtain⟨⟨⟨g1,g2⟩,g3⟩,I⟩:=n;have J:P.fieldsOf t=fs:=by simp[Program.fieldsOf,E]
     have L:fs.toList.length=l.length:=by
      have:=c6.length Z;rw[o]at this;simp at this ⊢;omega
     have G:=bR (P:=P) (w:=w) 9998 cs r fs.toList 0 l I L (by simpa using o) (by simpa using C)
     have g:(Op.equal t (.agg cs) (.agg r)).run P w=.ok e w:=by
      unfold Op.equal Op.maxDepth;rw[nw w 9999 t cs r (by rw[J];exact E) g2,J,G,V]
     have s:∀op,(eqGuard op t ox oy (.agg cs) (.agg r)).run P w=.ok () w:=fun op=>run_eqGuard_agg w op t ox oy cs r g3
     cases op<;>simp only at h<;>(try exact absurd h id)
     case eql=>exact⟨_,.bool e,h,by simp[b9],by simp[s,binOp,g]⟩
     case neq=>exact⟨_,.bool (!e),h,by simp[b9],by simp[s,binOp,g]⟩
    .cases n
   .cases h
  .cases h
 .rename_i tx lx ty ly;split at h
  .rename_i n;obtain⟨n,rfl⟩:=n;split at h
   .rename_i l M hl N;cases tx<;>simp only[xN]at hl N<;>(try cases hl)
    rename_i kd;cases N;obtain⟨O,R,h⟩:=h;simp only[b9]at u A;obtain⟨cs,rfl,Z,Wb⟩:=u;obtain⟨r,rfl,hd,kB⟩:=A;unfold Jq at n;split at n
    .rename_i n' e E;simp only[ah,dx,bt]at n;obtain⟨⟨⟨g1,g2⟩,g3⟩,I⟩:=n;cases B:P.underlying e with
     |none=>rw[B]at I;simp at I
     |some de=>
      rw[B]at I;cases de<;>simp at I;rename_i kd';obtain⟨i,hi⟩:=ED B;have hco:P.cellsOf e=1:=by simpa [Program.cellsOf,j9]using g3
      have s:∀op,(eqGuard op t ox oy (.agg cs) (.agg r)).run P w=.ok () w:=fun op=>run_eqGuard_agg w op t ox oy cs r g2
      have S:∀ (T:List Int) (es:Array Value),T.length=eY P t->cQ K (.int kd) T es 0->∀j (h:j<T.length),es[0+j]? =some (.int kd T[j]):=by
       intro T es _ Y j hj;rw[bz];exact OL Y j hj
      have G:=yA (P:=P) (w:=w) 9998 B hco cs r (eY P t) 0 l M O R (S l cs O Wb) (S M r R kB);have g:(Op.equal t (.agg cs) (.agg r)).run P w=.ok (l==M) w:=by
       unfold Op.equal Op.maxDepth;rw[run_equalIn_array w 9999 cs r E hi,List.range_eq_range',g1];exact G
      cases op<;>simp only at h<;>(try exact absurd h id)
      case eql=>exact⟨_,.bool (l==M),h,by simp[b9],by simp[s,binOp,g]⟩
      case neq=>exact⟨_,.bool (!(l==M)),h,by simp[b9],by simp[s,binOp,g]⟩
    .cases n
   .cases h
  .cases h
 .cases h
variable (l8:L4 F K w) (hm:l5 F K H w m) (n6:∀x,b9 K H (ev x) (ρ x))
include l8 hm n6
theorem a3B(o:Oper){c a b:Operand}(d:o.op=.pick c a b)(h:match ev c with
  |.bool t=>br t (k (.pure (ev a))) (k (.pure (ev b)))
  |_=>False):J3 P F K H w m nx k ((execOp ρ o).run P w):=by
 split at h
 .rename_i t e;have f:=Z8 (e▸n6 c);rw[DZ]at h;simp only[execOp,d,f,asBool,au,bg,ak];cases t with
  |true=>exact r7 l8 hm (n6 a) (h.1 rfl)
  |false=>exact r7 l8 hm (n6 b) (h.2 rfl)
 .cases h
theorem OM(o:Oper){x:Operand}(j:o.op=.nilCheck x)(h:match ev x with
  |.ptr r i=>k (.pure (.ptr r i))
  |.G7 cs=>k (.pure (.G7 cs))
  |.P6 r=>k (.pure (.P6 r))
  |.fn (.func f) a b=>k (.pure (.fn (.func f) a b))
  |_=>False):J3 P F K H w m nx k ((execOp ρ o).run P w):=by
 have c:=n6 x;split at h
 .rename_i r i g;rw[g]at c;have d:=c;simp only[b9]at c;obtain⟨hd,b,_,_,e⟩:=c;simp only[execOp,j,e,bg];exact r7 l8 hm (e▸d) h
 .rename_i cs g;rw[g]at c;have d:=c;simp only[b9]at c;obtain⟨b,off,arr,e,_⟩:=c;simp only[execOp,j,e,bg];exact r7 l8 hm (e▸d) h
 .rename_i r g;rw[g]at c;have d:=c;simp only[b9]at c;obtain⟨hd,b,_,_,_,e⟩:=c;simp only[execOp,j,e,bg];exact r7 l8 hm (e▸d) h
 .rename_i f a b g;rw[g]at c;have d:=c;simp only[b9]at c;obtain⟨l,n,e,_⟩:=c;simp only[execOp,j,e,bg];exact r7 l8 hm (e▸d) h
 .cases h
theorem a0e(o:Oper){op:BinOp}{t:TypeId}{x y:Operand}{u:TypeId}(a:o.op=.binOp op t x y u)(h:V3 P op t (ev x) (ev y) (fun v=>k (.pure v))):
  J3 P F K H w m nx k ((execOp ρ o).run P w):=by
 obtain⟨v,z,b,c,d⟩:=dR (w:=w) (ox:=x) (oy:=y) (n6 x) (n6 y) h;simp only[execOp,a];rw[c8 d];exact r7 l8 hm c b
theorem a3C(o:Oper){op:UnOp}{t:TypeId}{x:Operand}(h:match op,ev x with
  |.not,.bool b=>k (.pure (.bool (!b)))
  |.neg,.int a n=>dJ a (-n)/\k (.pure (.int a (-n)))
  |_,_=>False)(f:o.op=.unOp op t x):J3 P F K H w m nx k ((execOp ρ o).run P w):=by
 split at h
 .rename_i b c;have d:=Z8 (c▸n6 x);simp only[execOp,f,d,Op.unary];rw[c8 (x:=.bool (!b)) (w':=w) (by simp)]
  exact r7 l8 hm (by simp[b9]) h
 .rename_i a n c;have d:=R7 (c▸n6 x);simp only[execOp,f,d,Op.unary];have e:a.wrap (0- n)= -n:=by rw[Int.zero_sub];exact h.1
  rw[c8 (x:=.int a (-n)) (w':=w) (by simp only[Op.intArith,e];simp)]
  exact r7 l8 hm (by simp[b9]) h.2
 .cases h
theorem Tf(o:Oper){s a:TypeId}{x:Operand}(c:o.op=.convert s a x)(h:match P.underlying s,P.underlying a,ev x with
  |some _,some (.int b),.int _ n=>dJ b n/\k (.pure (.int b n))
  |_,_,_=>False):J3 P F K H w m nx k ((execOp ρ o).run P w):=by
 split at h
 .rename_i j b ki n d f g;have i:=R7 (g▸n6 x);simp only[execOp,c,i];have e:b.wrap n=n:=h.1;rw[c8 (x:=.int b n) (w':=w) ?_]
  .exact r7 l8 hm (by simp[b9]) h.2
  .simp only[convert,au,u7 d,u7 f,ak];simp[Conv.intToInt,e]
 .cases h
omit l8 hm in
theorem fQ(l:List Operand):c6 K H (l.map ev) (l.map ρ):=by
 induction l with
 |nil=>exact .nil
 |cons x l a=>exact .cons (n6 x) a
theorem ON(o:Oper){a:Fn}{first cap:Array Operand}(b:o.op=.makeFunc a first cap)(h:k (.pure (.fn a (first.toList.map ev) (cap.toList.map ev)))):
  J3 P F K H w m nx k ((execOp ρ o).run P w):=by
 simp only[execOp,b,Instr.makeFunc];rw[c8 (x:=.func a (first.map ρ) (cap.map ρ)) (w':=w) (by simp)]
 refine r7 l8 hm ?_ h;simp only[b9];exact⟨_,_,rfl,by simpa using fQ n6 first.toList,by simpa using fQ n6 cap.toList⟩
omit l8 hm n6 in
theorem qU{s:TypeId}{f off a:Nat}(h:lC P s f=some (off,a)):∃c b,P.underlying s=some (.struct c)/\c[f]? =some b/\b.offset=off/\j9 P b.type≠0/\a=j9 P b.type:=by
 unfold lC at h;split at h
 .rename_i c d;split at h
  .rename_i b e;split at h
   .cases h
   .rename_i g;simp only[ae,aq]at h;exact⟨c,b,d,e,h.1,g,h.2.symm⟩
  .cases h
 .cases h
omit l8 hm n6 in
theorem L9{t:TypeId}(h:j9 P t≠0):∃i,P.info? t=some i/\i.size=j9 P t:=by
 unfold j9 at*
 cases a:P.info? t with
 |none=>rw[a]at h;simp at h
 |some i=>exact⟨i,rfl,rfl⟩
omit l8 hm n6 in
theorem sZ{s:TypeId}{f off a:Nat}(h:lC P s f=some (off,a))(b o:Nat):(Instr.fieldAt s (.pointer (some ⟨b,o,none⟩)) f).run P w=.ok (.pointer (some ⟨b,o+off,none⟩)) w:=by
 obtain⟨l,n,e,g,rfl,d,_⟩:=qU h;obtain⟨i,j,c⟩:=L9 d;simp only[Instr.fieldAt,au,u7 e,ak,g,Instr.sureAddr,bg,fieldPlace,M9 j];rw[ai (by rw[c];exact d)]
 simp[H7]
theorem LA(o:Oper){s:TypeId}{x:Operand}{f:Nat}(l:o.op=.fieldAddr s x f)(h:match lC P s f,ev x with
  |some (off,_),.ptr r o=>k (.pure (.ptr r (o+off)))
  |some (off,_),.G7 cs=>k (.pure (.G7 (cs.drop off)))
  |some (off,_),.P5 r i j=>k (.pure (.P5 r i (j+off)))
  |_,_=>False):J3 P F K H w m nx k ((execOp ρ o).run P w):=by
 have a:=n6 x;split at h
 .rename_i off p r o' c d;rw[d]at a;simp only[b9]at a;obtain⟨hd,b,n,g,e⟩:=a;simp only[execOp,l,e];rw[c8 (sZ c b o')];exact r7 l8 hm (by simp only[b9];exact⟨hd,b,n,g,rfl⟩) h
 .rename_i off p cs c d;rw[d]at a;simp only[b9]at a;obtain⟨b,o',arr,e,g,t⟩:=a;simp only[execOp,l,e];rw[c8 (sZ c b o')];refine r7 l8 hm ?_ h;simp only[b9];refine⟨b,o'+off,arr,rfl,g,?_⟩;have q:=c6.drop off t;have:(s7 arr o' cs.length).drop off=s7 arr (o'+off) (cs.drop off).length:=by
   unfold s7;rw[ky,dm,cv]
  rw[this]at q;exact q
 .rename_i off p r i j c d;rw[d]at a;simp only[b9]at a;obtain⟨hd,b,n,g,e⟩:=a;simp only[execOp,l,e];rw[c8 (sZ c b _)];exact r7 l8 hm (by simp only[b9];exact⟨hd,b,n,g,by rw[fe]⟩) h
 .cases h
theorem a0f(o:Oper){s:TypeId}{x:Operand}{f:Nat}(j:o.op=.field s x f)(h:match lC P s f,ev x with
  |some (off,_),.agg cs=>(match Hh P (gN.HP P s f) (cs.drop off)with
   |some v=>k (.pure v)
   |none=>False)
  |_,_=>False):J3 P F K H w m nx k ((execOp ρ o).run P w):=by
 have b:=n6 x;split at h
 .rename_i off u cs l n;rw[n]at b;simp only[b9]at b;obtain⟨arr,e,p⟩:=b;obtain⟨y,q,g,a,c,A,_⟩:=qU l;have d:gN.HP P s f=q.type:=by simp[gN.HP,g,a]
  split at h
  .rename_i v i;rw[d]at i;obtain⟨z,r,t⟩:=xZ (P:=P) (w:=w) p i;simp only[execOp,j,e];rw[c8 (x:=z) (w':=w) ?_]
   .exact r7 l8 hm t h
   .simp only[Instr.field,au,u7 g,ak,a,asAgg,bg,c,r]
  .cases h
 .cases h
theorem Tg(o:Oper){x:Operand}{i:Nat}(b:o.op=.extract x i)(h:match ev x with
  |.M1 vs=>(match vs[i]? with
   |some v=>k (.pure v)
   |none=>False)
  |_=>False):J3 P F K H w m nx k ((execOp ρ o).run P w):=by
 have a:=n6 x;split at h
 .rename_i vs d;rw[d]at a;simp only[b9]at a;obtain⟨cs,e,f⟩:=a;split at h
  .rename_i v g;obtain⟨c,j,l⟩:=c6.get i v f g;simp only[execOp,b,e,Instr.extract];have n:cs[i]? =some c:=by simpa using j
   rw[c8 (x:=c) (w':=w) (by rw[n];rfl)]
   exact r7 l8 hm l h
  .cases h
 .cases h
end
end Go.Abs
end
section
namespace Go.Abs
section
variable {P:Program} {F:Nat->Prop} {K:b8} {H:Nat->Option Hd} {w:World} {m:Mm} {nx:Nat} {k:Q->Prop} {ev:Operand->a7} {ρ:Operand->Value}
theorem D8(o:Oper){c:Call}{b:Builtin}(a:o.op=.call c)(d:c.callee=.builtin b)(w:World):
  (execOp ρ o).run P w=(builtin b c.argTypes o.type (c.args.map fun|.const _=>true|_=>false) (c.args.map ρ)).run P w:=by
 simp only[execOp,a,resolve,d,au,bg,ak,invoke];rfl
theorem Dv{hd:Hd}{ty:Ty}{l:List ty.den}{cont:n9 K H w hd (.sl ty l)}{i:Nat}(d:i<l.length):∃b cs e c,hd.base=some b/\w.heap[b]? =some (.cells cs e c)/\hd.cap*ty.size<=cs.size/\cQ K ty l cs 0:=by
 obtain⟨f,g,h,a⟩:=cont;rcases a with⟨_,a⟩|a
 .omega
 .exact a
theorem Dh{ty:Ty}{l:List ty.den}{cs:Array Value}(b:cQ K ty l cs 0){i:Nat}(c:i<l.length)(j:Nat):
  c6 K H ((ty.cells l[i]).drop j) (s7 cs (i*ty.size+j) ((ty.cells l[i]).drop j).length):=by
 have h:=S4 (H:=H) ty _ _ (b i c);have a:=c6.drop j h;have:(s7 cs (0+i*ty.size) ty.size).drop j=s7 cs (i*ty.size+j) ((ty.cells l[i]).drop j).length:=by
  unfold s7;rw[ky,dm,cv,Ty.R5,bz]
 rw[this]at a;exact a
variable (l8:L4 F K w) (hm:l5 F K H w m) (n6:∀x,b9 K H (ev x) (ρ x))
include l8 hm n6
omit n6 in
theorem Cg{r:Nat}{v:a7}{z:Value}(j:b9 K H v z)(h:iM m r v k):J3 P F K H w m nx k (.ok (.value z) w):=by
 unfold iM at h;split at h
 .split at h
  .split at h
   .rename_i v' c n;have d:=(cJ m 6).1 _ _ _ n;obtain⟨l,_⟩:=hm.freeze l8.w8 c d;obtain⟨g,i⟩:=l8.frozen hm c d;have p:∀r f hd b cs e o,(r,f)∈c->H r=some hd->hd.base=some b->w.heap[b]? =some (.cells cs e o)->(K.plus w (Q5 H c)).cells b=some cs:=
     fun r f hd b cs e o q s t u=>fM (cW q s t) l8.w8 u
    have y:=(mA hm (K.M4 w (Q5 H c)) H (.refl H) 6).1 _ _ _ _ n p j;have a:=vZ (nx:=nx) g l (r::O5 c) y;exact⟨_,_,H,h,⟨(K.M4 w (Q5 H c)).trans a.le,a.hle,a.K8,a.rep,a.mem,a.ok,a.kept,i.trans a.fix⟩⟩
   .cases h
  .exact H9 l8 hm r j h
 .exact H9 l8 hm r j h
omit l8 hm n6 in
theorem a6o{T:TypeId}{p q:List a7}{t:Ty}{n off:Nat}{l:List t.den}{v:a7}{b:Nat}{cs:Array Value}{e:TypeId}{G:Nat×Nat}{f c2 o:List Value}(r:w.heap[b]? =some (.cells cs e G))
  (a:cs.toList=f++c2++o)(B:c6 K H p f)(g:c2.length=l.length*t.size/\∀i (h:i<l.length),r9 K t l[i] ((c2.drop (i*t.size)).take t.size))(C:c6 K H q o)(s:l.length=n)(h:a3p P T p t n l q off=some v):
  ∃x,(loadVar T ⟨b,off,none⟩).run P w=.ok x w/\b9 K H v x:=by
 have I:=c6.length B;have N:=c6.length C;have u:cs.size=f.length+c2.length+o.length:=by
  have:=congrArg List.length a;simp at this;omega
 unfold a3p at h;split at h
 .rename_i y;refine oA r ?_ h;have:s7 cs off (p.drop off).length=f.drop off:=by
   unfold s7;rw[a,bk,du (by omega),cn (by rw[cv,cv];omega),bj (by rw[cv,cv];omega)]
  rw[this];exact B.drop off
 .split at h
  .rename_i _ y;split at h
   .rename_i O R z;split at h
    .rename_i D;simp only[ae]at h;subst h;have j:s7 cs off (j9 P T)=c2:=by
      unfold s7;rw[a,bk,y,<-I,iq,<-D,<-s,<-g.1,List.take_left]
     have A:R0 P T=true:=by simp[R0,z]
     have c:=run_loadCells P r off (j9 P T) 0 #[] (by rw[<-D,<-s,<-g.1,u];omega)
     refine⟨.agg (s7 cs off (j9 P T)).toArray,?_,?_⟩
     .simp only[au,bg,ak,loadVar,W7 z,A,di,nY z,loadCells,c];simp
     .simp only[b9];refine⟨_,rfl,?_,?_⟩
      .rw[j];simp[g.1]
      .intro i J;have:=g.2 i J;rw[j];simpa [s7]using this
    .cases h
   .cases h
  .split at h
   .rename_i L M y;refine oA r ?_ h;have E:off=f.length+(c2.length+(off- (p.length+n*t.size))):=by rw[g.1,s];omega
    have:s7 cs off (q.drop (off- (p.length+n*t.size))).length=o.drop (off- (p.length+n*t.size)):=by
     generalize off- (p.length+n*t.size)=d at E;unfold s7;rw[a,E,bk,<-dm,iq,<-dm,iq,bj (by rw[cv,cv];omega)]
    rw[this];exact C.drop _
   .cases h
omit l8 hm n6 in
theorem wC{t:TypeId}{ty:Ty}(h:HN P t ty=true):∃n e,P.underlying t=some (.array n e)/\j9 P e=ty.size/\j9 P t=n*ty.size/\1<=n:=by
 unfold HN at h;split at h
 .rename_i n e a;simp only[ah]at h;exact⟨n,e,a,ab h.1.1,ab h.1.2,af h.2⟩
 .cases h
omit l8 hm n6 in
theorem Th{t:TypeId}{ty:Ty}{n:Nat}(h:ZW P t ty=some n):∃e,P.underlying t=some (.array n e)/\j9 P e=ty.size/\j9 P t=n*ty.size/\1<=n:=by
 unfold ZW at h;split at h
 .rename_i c e b;split at h
  .rename_i d;cases h;obtain⟨c,i,a,a1,f,g⟩:=wC d;rw[b]at a;cases a;exact⟨e,b,a1,f,g⟩
  .cases h
 .cases h
theorem Wc{o:Oper}{t:TypeId}{x:Operand}(G:o.op=.load t x){ty:Ty}{l:List ty.den}{hd:Hd}{b i r0 n:Nat}(c:ZW P t ty=some n)(B:n9 K H w hd (.sl ty l))(_:H r0=some hd)(j:hd.base=some b)(e:ρ x=.pointer (some ⟨b,i*hd.sz+0,none⟩))(I:i+n<=l.length)(r:Nat){k:Q->Prop}
  (h:k (.read (.S3 ty ((l.drop i).take n)) r)):J3 P F K H w m nx k ((execOp ρ o).run P w):=by
 obtain⟨T,p,J,d,U⟩:=Th c;have s:=B;obtain⟨L,V,X,g⟩:=B;obtain⟨M,cs,Y,Z,C,g2,g3,g4⟩:=Dv (cont:=s) (show i<l.length by omega)
 rw[j]at C;cases C;have f:cQ K ty l cs 0/\hd.cap*ty.size<=cs.size:=by
  rcases g with⟨g,_⟩|⟨M,N,e2,O,D,E,k3,k4⟩
  .rw[j]at g;cases g
  .rw[j]at D;cases D;rw[g2]at E;cases E;exact⟨k4,k3⟩
 have u:(i+n)*ty.size<=cs.size:=ew (ay _ (by omega)) f.2
 rw[bl]at u;have v:R0 P t=true:=by simp[R0,p]
 have a:=run_loadCells P g2 (i*ty.size) (j9 P t) 0 #[] (by omega)
 simp only[execOp,G,e,Instr.loadAt,Instr.sureAddr];rw[c8 (x:=.agg (s7 cs (i*ty.size) (j9 P t)).toArray) (w':=w) ?_]
 .refine H9 l8 hm r ?_ h;simp only[b9];refine⟨_,rfl,?_,?_⟩
  .rw[d,fw,cv,lv (by omega)]
   simp[s7];omega
  .intro q R;have y:q<n:=by
    rw[fw]at R;omega
   have:=f.1 (i+q) (by omega)
   have m6:((l.drop i).take n)[q]=l[i+q]:=by simp
   rw[m6];have z:(q+1)*ty.size<=n*ty.size:=ay _ y;rw[bl]at z;have S:s7 (s7 cs (i*ty.size) (j9 P t)).toArray (0+q*ty.size) ty.size=s7 cs (0+(i+q)*ty.size) ty.size:=by
    have:s7 (s7 cs (i*ty.size) (j9 P t)).toArray (0+q*ty.size) ty.size=((s7 cs (i*ty.size) (j9 P t)).drop (0+q*ty.size)).take ty.size:=by
     unfold s7;simp
    rw[this,sQ]
    .simp[bl]
    .rw[d];omega
   rw[S];exact this
 .have A:hd.sz=ty.size:=L;simp only[au,bg,ak,loadVar,W7 p,v,di,nY p,loadCells,A,jr,a];simp
theorem a3D(o:Oper){t:TypeId}{x:Operand}(M:o.op=.load t x)(h:gM P m t (ev x) k):J3 P F K H w m nx k ((execOp ρ o).run P w):=by
 have s:=n6 x;unfold gM at h;split at h
 .rename_i r off N;rw[N]at s;simp only[b9]at s;obtain⟨hd,b,B,u,e⟩:=s;split at h
  .rename_i cells f c;split at h
   .cases h
   .rename_i a;split at h
    .rename_i v C;obtain⟨Y,cs,D,E,d,g2,y⟩:=hm.cont r _ f hd c a B;rw[u]at d;cases d;have A:=c6.drop off y;have O:(cells.drop off).length=cs.size- off:=by
      have:=c6.length y;simp at this ⊢;omega
     obtain⟨z,G,I⟩:=oA (P:=P) g2 (off:=off) (by rw[O,EC];exact A) C
     simp only[execOp,M,e,Instr.loadAt,Instr.sureAddr];rw[c8 (x:=z) (w':=w) (by simpa using G)]
     exact Cg l8 hm I h
    .cases h
  .rename_i p ty n l q f c;split at h
   .cases h
   .rename_i a;split at h
    .rename_i v C;obtain⟨_,hn,Y,cs,D,E,c1,c2,c3,d,g2,y,A,T,g6⟩:=hm.cont r _ f hd c a B;rw[u]at d;cases d;obtain⟨z,G,I⟩:=a6o (P:=P) g2 y A T g6 hn C;simp only[execOp,M,e,Instr.loadAt,Instr.sureAddr];rw[c8 (x:=z) (w':=w) (by simpa using G)]
     exact Cg l8 hm I h
    .cases h
  .cases h
 .rename_i cells N;rw[N]at s;simp only[b9]at s;obtain⟨b,off,arr,e,u,G⟩:=s;split at h
  .rename_i v C;obtain⟨D,E,g⟩:=l8.w8.1 b arr u;obtain⟨z,I,h5⟩:=oA (P:=P) g G C;simp only[execOp,M,e,Instr.loadAt,Instr.sureAddr];rw[c8 (x:=z) (w':=w) (by simpa using I)]
   exact r7 l8 hm h5 h
  .cases h
 .rename_i r i j N;rw[N]at s;simp only[b9]at s;obtain⟨hd,b,B,u,e⟩:=s;split at h
  .rename_i ty l f c;split at h
   .cases h
   .rename_i a;split at h
    .rename_i n U;obtain⟨hj,hil,h⟩:=h;subst hj;exact Wc l8 hm n6 M U (hm.cont r _ f hd c a B) B u e hil r h
    obtain⟨J,h⟩:=h;split at h
    .rename_i v C;have Z:=hm.cont r _ f hd c a B;obtain⟨Y,cs,D,E,d,g2,y,A⟩:=Dv (cont:=Z) J;rw[u]at d;cases d;have O:hd.sz=ty.size:=Z.1;obtain⟨z,G,I⟩:=oA (P:=P) g2 (Dh (H:=H) A J j) C;simp only[execOp,M,e,Instr.loadAt,Instr.sureAddr];rw[c8 (x:=z) (w':=w) (by rw[O];simpa using G)]
     exact H9 l8 hm r I h
    .cases h
  .rename_i p ty n l q f c;split at h
   .cases h
   .rename_i a;have a:¬f=.dead/\¬(j<p.length\/p.length+ty.size<j):=ke.1 a;have hfj:=ke.1 a.2;obtain⟨J,h⟩:=h;split at h
    .rename_i v C;obtain⟨c0,hn,Y,cs,D,E,c1,c2,c3,d,g2,y,A,T,g6⟩:=hm.cont r _ f hd c a.1 B;rw[u]at d;cases d;have l1:=c6.length A;have V:(i+1)*ty.size<=l.length*ty.size:=ay _ J;rw[bl]at V;have kB:=T.2 i J;have X:c6 K H ((ty.cells l[i]).drop (j- p.length)) (s7 cs (i*hd.sz+j) ((ty.cells l[i]).drop (j- p.length)).length):=by
      have:=c6.drop (j- p.length) (S4 (H:=H) ty _ _ kB);have e1:s7 cs (i*hd.sz+j) ((ty.cells l[i]).drop (j- p.length)).length=((c2.drop (i*ty.size)).take ty.size).drop (j- p.length):=by
       unfold s7;have ee:i*hd.sz+j=c1.length+(i*ty.size+(j- p.length)):=by rw[c0,l1];omega
       rw[y,ee,bk,<-dm,iq,cv,Ty.R5,ky,du (by rw[T.1];omega),cn (by rw[cv,T.1];omega),<-dm]
      rw[e1];exact this
     obtain⟨z,G,I⟩:=oA (P:=P) g2 X C;simp only[execOp,M,e,Instr.loadAt,Instr.sureAddr];rw[c8 (x:=z) (w':=w) (by simpa using G)]
     exact H9 l8 hm r I h
    .cases h
  .cases h
 .rename_i r N;rw[N]at s;simp only[b9]at s;obtain⟨hd,b,B,u,_,e⟩:=s;split at h
  .rename_i ty l f n et c hu;split at h
   .cases h
   .rename_i a;obtain⟨L,h⟩:=h;have Z:=hm.cont r _ f hd c a B;obtain⟨c1,c2,c3,c4⟩:=Z;have R:∃cs D E,w.heap[b]? =some (.cells cs D E)/\hd.cap*ty.size<=cs.size/\cQ K ty l cs 0:=by
     rcases c4 with⟨c4,_⟩|⟨Y,cs,D,E,d,g2,y,A⟩
     .rw[u]at c4;cases c4
     .rw[u]at d;cases d;exact⟨cs,D,E,g2,y,A⟩
    obtain⟨cs,D,E,g2,y,A⟩:=R;have hle:l.length*ty.size<=cs.size:=ew (ay _ (by omega)) y
    have hag:R0 P t=true:=by simp[R0,hu]
    have S:=run_loadCells P g2 0 (j9 P t) 0 #[] (by omega)
    simp only[execOp,M,e,Instr.loadAt,Instr.sureAddr];rw[c8 (x:=.agg (s7 cs 0 (j9 P t)).toArray) (w':=w) ?_]
    .refine H9 l8 hm r ?_ h;simp only[b9];refine⟨_,rfl,?_,?_⟩
     .rw[<-L];simp[s7];omega
     .intro i J;have:=A i J;have hs:s7 (s7 cs 0 (j9 P t)).toArray (0+i*ty.size) ty.size=s7 cs (0+i*ty.size) ty.size:=by
       have:s7 (s7 cs 0 (j9 P t)).toArray (0+i*ty.size) ty.size=((s7 cs 0 (j9 P t)).drop (0+i*ty.size)).take ty.size:=by
            unfold s7;simp
       rw[this,sQ]
       .simp
       .rw[<-L];have:(i+1)*ty.size<=l.length*ty.size:=ay _ J;rw[bl]at this;omega
      rw[hs];exact this
    .simp only[au,bg,ak,loadVar,W7 hu,hag,di,nY hu,loadCells,S];simp
  .cases h
 .cases h
theorem a6p(o:Oper){c:Call}{x:Operand}{t e:TypeId}(v:o.op=.call c)(y:c.callee=.builtin .len)(z:c.args.toList=[x])(A:c.argTypes.toList=[t])
  (B:P.underlying t=some (.slice e))(h:Hn m (ev x) k):J3 P F K H w m nx k ((execOp ρ o).run P w):=by
 have b:=n6 x;have d:∀a n u,ρ x=.slice a n u->(execOp ρ o).run P w=.ok (.value (.int .i64 (n:Int))) w:=by
  intro a n u i;rw[D8 o v y];have j:c.args.map ρ= #[ρ x]:=by
   apply db.1;simp[z]
  have C:c.argTypes= #[t]:=by
   apply db.1;simp[A]
  rw[j,C];simp only[builtin];refine c8 ?_;simp only[Builtin.len_,i];simp[u7 B,goInt]
 unfold Hn at h;split at h
 .rename_i i;rw[i]at b;simp only[b9]at b;rw[d _ _ _ b];exact r7 l8 hm (by simp[b9]) h
 .rename_i D i;rw[i]at b;simp only[b9]at b;rw[d _ _ _ b];exact r7 l8 hm (by simp[b9]) h
 .rename_i D l f i;rw[i]at b;simp only[b9]at b;obtain⟨base,cap,b,_⟩:=b;rw[d _ _ _ b];exact r7 l8 hm (by simp[b9]) h
 .rename_i r f i;rw[i]at b;simp only[b9]at b;obtain⟨hd,j,b,_⟩:=b;split at h
  .rename_i ty l g p;split at h
   .cases h
   .rename_i q;have s:=hm.cont r _ g hd p q j;rw[d _ _ _ b,s.2.1];exact H9 l8 hm r (by simp[b9]) h
  .cases h
 .rename_i r lo len f i;rw[i]at b;simp only[b9]at b;obtain⟨hd,cap,base,j,b,_⟩:=b;rw[d _ _ _ b];exact r7 l8 hm (by simp[b9]) h
 .cases h
omit l8 hm n6 in
theorem Ch:∀ (l:List a7) (xs:List Value) (d:IntKind) (a b:Int),c6 K H l xs->dK (fun x y=>if y>x then y else x) d a l=some b->
  (xs.foldlM Builtin.max2 (.int d a)).run P w=.ok (.int d b) w
 |[],xs,d,a,b,h,c=>by
  rw[c6.J8.1 h];simp only[dK,ae]at c;simp[c]
 |v::l,xs,d,a,b,h,c=>by
  obtain⟨x,e,rfl,f,g⟩:=h.inv;cases v<;>simp only[dK]at c<;>(try cases c)
  rename_i k' n;split at c
  .rename_i i;subst i;have:=R7 f;subst this;simp only[pa,au,Builtin.max2,bg,ak];exact Ch l e d _ b g c
  .cases c
omit l8 hm n6 in
theorem Ci:∀ (l:List a7) (xs:List Value) (d:IntKind) (a b:Int),c6 K H l xs->dK (fun x y=>if y<x then y else x) d a l=some b->
  (xs.foldlM Builtin.min2 (.int d a)).run P w=.ok (.int d b) w
 |[],xs,d,a,b,h,c=>by
  rw[c6.J8.1 h];simp only[dK,ae]at c;simp[c]
 |v::l,xs,d,a,b,h,c=>by
  obtain⟨x,e,rfl,f,g⟩:=h.inv;cases v<;>simp only[dK]at c<;>(try cases c)
  rename_i k' n;split at c
  .rename_i i;subst i;have:=R7 f;subst this;simp only[pa,au,Builtin.min2,bg,ak];exact Ci l e d _ b g c
  .cases c
theorem a6q(o:Oper){c:Call}(g:o.op=.call c)(i:c.callee=.builtin .max)(h:match c.args.toList.map ev with
   |.int d a::r=>(match dK (fun x y=>if y>x then y else x) d a r with
    |some b=>k (.pure (.int d b))
    |none=>False)
   |_=>False):J3 P F K H w m nx k ((execOp ρ o).run P w):=by
 have f:=fQ n6 c.args.toList;split at h
 .rename_i d a r e;rw[e]at f;obtain⟨x,xs,j,l,n⟩:=f.inv;have:=R7 l;subst this;split at h
  .rename_i b p;rw[D8 o g i];simp only[builtin];rw[c8 (x:=.int d b) (w':=w) ?_]
   .exact r7 l8 hm (by simp[b9]) h
   .simp only[Builtin.max_,pb,j];exact Ch r xs d a b n p
  .cases h
 .cases h
theorem a6r(o:Oper){c:Call}(g:o.op=.call c)(i:c.callee=.builtin .min)(h:match c.args.toList.map ev with
   |.int d a::r=>(match dK (fun x y=>if y<x then y else x) d a r with
    |some b=>k (.pure (.int d b))
    |none=>False)
   |_=>False):J3 P F K H w m nx k ((execOp ρ o).run P w):=by
 have f:=fQ n6 c.args.toList;split at h
 .rename_i d a r e;rw[e]at f;obtain⟨x,xs,j,l,n⟩:=f.inv;have:=R7 l;subst this;split at h
  .rename_i b p;rw[D8 o g i];simp only[builtin];rw[c8 (x:=.int d b) (w':=w) ?_]
   .exact r7 l8 hm (by simp[b9]) h
   .simp only[Builtin.min_,pb,j];exact Ci r xs d a b n p
  .cases h
 .cases h
omit l8 hm n6 in
theorem fS{t e:TypeId}{a:Int}{ki:IntKind}{b off len cap:Nat}(d:P.underlying t=some (.slice e))(f:j9 P e≠0)(g:0<=a)(l:a.toNat<len):
  (Instr.indexAt t (.slice (some ⟨b,off,none⟩) len cap) (.int ki a)).run P w=.ok (.pointer (some ⟨b,off+a.toNat*j9 P e,none⟩)) w:=by
 obtain⟨i,h,c⟩:=L9 f;have j:a<(len:Int):=by omega
 simp only[Instr.indexAt,au,asIntOf,bg,ak,u7 d];simp[g,j,M9 h,c,H7]
theorem LB(o:Oper){t:TypeId}{x y:Operand}(O:o.op=.indexAddr t x y)(h:I6 P m t (ev x) (ev y) k):J3 P F K H w m nx k ((execOp ρ o).run P w):=by
 have v:=n6 x;have L:=n6 y;unfold I6 at h;split at h
 .rename_i ki a Z;rw[Z]at L;have L:=R7 L;split at h
  .rename_i e M;split at h
   .rename_i ty l f E;rw[E]at v;simp only[b9]at v;split at h
    .rename_i c;obtain⟨⟨B,A⟩,h⟩:=h;obtain⟨base,cap,D,R,_,S⟩:=v;rcases S with S|⟨b,off,arr,S,e4,e5⟩
     .rw[S]at A;simp at A
     .have d:=fS (P:=P) (w:=w) (ki:=ki) (b:=b) (off:=off) (cap:=cap) M (by rw[c];have:=ty.size_pos;omega) B A
      simp only[execOp,O,D,S,L];rw[c8 d];refine r7 l8 hm ?_ h;simp only[b9];refine⟨b,off+a.toNat*j9 P e,arr,rfl,e4,?_⟩;have:=e5 a.toNat A;rw[Ty.R5,c];exact S4 ty _ _ this
    .cases h
   .rename_i r f E;rw[E]at v;simp only[b9]at v;obtain⟨hd,z,D,_⟩:=v;split at h
    .rename_i ty l g u;split at h
     .rename_i G;obtain⟨c,s⟩:=G;obtain⟨⟨B,A⟩,h⟩:=h;have C:=hm.cont r _ g hd u s z;obtain⟨b,cs,e',fz,g1,g2,g3,g4⟩:=Dv (cont:=C) A;have d:=fS (P:=P) (w:=w) (ki:=ki) (b:=b) (off:=0) (len:=hd.len) (cap:=hd.cap) M (by rw[c];have:=ty.size_pos;omega) B (by rw[C.2.1];exact A)
      simp only[execOp,O,D,g1,L,da];rw[c8 d];refine H9 l8 hm r ?_ h;simp only[b9];exact⟨hd,b,z,g1,by rw[C.1,c];simp⟩
     .cases h
    .cases h
   .rename_i r lo len f E;rw[E]at v;simp only[b9]at v;obtain⟨hd,cap,base,z,D,R,S,e4,_,N⟩:=v;split at h
    .rename_i ty l g u;split at h
     .rename_i G;obtain⟨c,s⟩:=G;obtain⟨⟨B,A⟩,h⟩:=h;have C:=hm.cont r _ g hd u s z;rcases N with N|⟨b,N,e7⟩
      .omega
      .have d:=fS (P:=P) (w:=w) (ki:=ki) (b:=b) (off:=lo*hd.sz) (len:=len) (cap:=cap) M (by rw[c];have:=ty.size_pos;omega) B A
       simp only[execOp,O,D,e7,L];rw[c8 d];refine H9 l8 hm r ?_ h;simp only[b9];exact⟨hd,b,z,N,by rw[C.1,c,bl];simp⟩
     .split at h
      rotate_left
      .cases h
      rename_i n et0 hue;split at h
      .rename_i G;obtain⟨T,s⟩:=G;obtain⟨n',et,U,hs1,V,hn⟩:=wC T;rw[hue]at U;cases U;obtain⟨⟨hlo,B,A⟩,h⟩:=h;have C:=hm.cont r _ g hd u s z;subst hlo;rcases N with N|⟨b,N,e7⟩
       .omega
       .have a9Y:1*1<=n*ty.size:=gm hn ty.size_pos;have d:=fS (P:=P) (w:=w) (ki:=ki) (b:=b) (off:=0*hd.sz) (len:=len) (cap:=cap) M (by rw[V];omega) B A
        simp only[execOp,O,D,e7,L];rw[c8 d];refine H9 l8 hm r ?_ h;simp only[b9];exact⟨hd,b,z,N,by rw[C.1,V,me];simp⟩
      .cases h
    .cases h
   .cases h
  .rename_i n e M;split at h
   .rename_i r i j E;rw[E]at v;simp only[b9]at v;obtain⟨hd,b,z,D,R⟩:=v;split at h
    .rename_i ty l g u;split at h
     .rename_i G;obtain⟨c,s,hj⟩:=G;subst hj;obtain⟨⟨B,A⟩,h⟩:=h;have C:=hm.cont r _ g hd u s z;have I:j9 P e≠0:=by rw[c];have:=ty.size_pos;omega
      obtain⟨ii,X,J⟩:=L9 I;have Y:a<(n:Int):=by omega
      simp only[execOp,O,R,L];rw[c8 (x:=.pointer (some ⟨b,i*hd.sz+0+a.toNat*j9 P e,none⟩)) (w':=w) ?_]
      .refine H9 l8 hm r ?_ h;simp only[b9];exact⟨hd,b,z,D,by rw[C.1,c,bl];simp⟩
      .simp only[Instr.indexAt,au,asIntOf,bg,ak,u7 M,Instr.sureAddr];simp[B,Y,M9 X,J,H7]
     .cases h
    .cases h
   .rename_i r E;rw[E]at v;simp only[b9]at v;obtain⟨hd,b,z,D,_,R⟩:=v;split at h
    .rename_i ty l g u;split at h
     .rename_i G;obtain⟨c,s⟩:=G;obtain⟨⟨B,A⟩,h⟩:=h;have C:=hm.cont r _ g hd u s z;have I:j9 P e≠0:=by rw[c];have:=ty.size_pos;omega
      obtain⟨i,X,J⟩:=L9 I;have Y:a<(n:Int):=by omega
      simp only[execOp,O,R,L];rw[c8 (x:=.pointer (some ⟨b,a.toNat*j9 P e,none⟩)) (w':=w) ?_]
      .refine H9 l8 hm r ?_ h;simp only[b9];exact⟨hd,b,z,D,by rw[C.1,c];simp⟩
      .simp only[Instr.indexAt,au,asIntOf,bg,ak,u7 M,Instr.sureAddr];simp[B,Y,M9 X,J,H7]
     .cases h
    .cases h
   .rename_i r off E;rw[E]at v;simp only[b9]at v;obtain⟨hd,b,z,D,R⟩:=v;split at h
    .rename_i p ty n' l q g u;split at h
     .rename_i G;obtain⟨⟨c,s⟩,a9Z,hn'⟩:=G;obtain⟨⟨B,A⟩,h⟩:=h;have C:=hm.cont r _ g hd u s z;have I:j9 P e≠0:=by rw[c];have:=ty.size_pos;omega
      obtain⟨i,X,J⟩:=L9 I;have Y:a<(n:Int):=by omega
      simp only[execOp,O,R,L];rw[c8 (x:=.pointer (some ⟨b,off+a.toNat*j9 P e,none⟩)) (w':=w) ?_]
      .refine H9 l8 hm r ?_ h;simp only[b9];exact⟨hd,b,z,D,by rw[C.1,c,ez]⟩
      .simp only[Instr.indexAt,au,asIntOf,bg,ak,u7 M,Instr.sureAddr];simp[B,Y,M9 X,J,H7]
     .cases h
    .cases h
   .cases h
  .cases h
 .cases h
theorem a0g(o:Oper){t:TypeId}{x y:Operand}(N:o.op=.index t x y)(h:match P.underlying t,ev x,ev y with
  |some (.array n e),.S3 ty l,.int _ a=>if j9 P e=ty.size then ∃h:0<=a/\a.toNat<l.length,a.toNat<n/\l.length=n/\(match Hh P e (ty.cells (l[a.toNat]'h.2))with
   |some v=>k (.pure v)
   |none=>False)else False
  |_,_,_=>False):J3 P F K H w m nx k ((execOp ρ o).run P w):=by
 have d:=n6 x;have q:=n6 y;split at h
 .rename_i n e ty l ki a O R r;rw[r]at q;have q:=R7 q;rw[R]at d;simp only[b9]at d;obtain⟨cs,S,T,U⟩:=d;split at h
  .rename_i g;obtain⟨⟨V,L⟩,h2,h3,h⟩:=h;split at h
   .rename_i v b;have s:j9 P e≠0:=by rw[g];have:=ty.size_pos;omega
    obtain⟨i,X,u⟩:=L9 s;have Y:a<(n:Int):=by omega
    have A:=S4 (H:=H) ty _ _ (U a.toNat L);have c:c6 K H (List.replicate (a.toNat*ty.size) a7.S6++ty.cells l[a.toNat]++List.replicate (cs.size- (a.toNat*ty.size+ty.size)) a7.S6) cs.toList:=by
     have f:∀ (n:Nat) (xs:List Value),xs.length=n->c6 K H (List.replicate n a7.S6) xs:=by
      intro n
      induction n with
      |zero=>intro xs d;rw[bw d];exact .nil
      |succ n Z=>
       intro xs d;cases xs with
       |nil=>simp at d
       |cons x xs=>exact .cons (by simp[b9]) (Z xs (by simpa using d))
     have hb:a.toNat*ty.size+ty.size<=cs.size:=by
      rw[T];have:(a.toNat+1)*ty.size<=l.length*ty.size:=ay _ L;rw[bl]at this;omega
     have B:cs.toList=cs.toList.take (a.toNat*ty.size)++s7 cs (0+a.toNat*ty.size) ty.size++cs.toList.drop (a.toNat*ty.size+ty.size):=by
      unfold s7;rw[bz,<-dm,bk,fq,fq]
     rw[B];exact c6.append (c6.append (f _ _ (by simp;omega)) A) (f _ _ (by simp))
    have C:∃z,(part e cs (a.toNat*ty.size)).run P w=.ok z w/\b9 K H v z:=by
     cases j:P.underlying e with
     |none=>simp[Hh,j]at b
     |some de=>
      have key:(cells:List a7)->Hh P e (ty.cells l[a.toNat])=some v->Hh P e (ty.cells l[a.toNat]++cells)=some v:=by
       intro cells b;have D:j9 P e<=(ty.cells l[a.toNat]).length:=by rw[Ty.R5,g];exact aw _
       have E:(ty.cells l[a.toNat]++cells).take (j9 P e)=(ty.cells l[a.toNat]).take (j9 P e):=by
        rw[cn D]
       have G:ty.cells l[a.toNat]≠ []:=by
        intro e0;have:=Ty.R5 ty l[a.toNat];rw[e0]at this;have:=ty.size_pos;simp at*;omega
       unfold Hh at b ⊢;rw[j]at b ⊢;cases de<;>simp only at b ⊢ <;>first
        |(rw[E]
          split at b
          .rename_i M;rw[aj ?_]
           .exact b
           .simp only[ah,bt,bu]at M ⊢;exact⟨M.1,by omega⟩
          .cases b)
        |(cases p:ty.cells l[a.toNat]with
          |nil=>exact absurd p G
          |cons c0 cr=>
           rw[p]at b
           simpa using b)
      refine xZ (cells:=List.replicate (a.toNat*ty.size) a7.S6++ty.cells l[a.toNat]++List.replicate (cs.size- (a.toNat*ty.size+ty.size)) a7.S6) c ?_;rw[bk,pt (by simp)]
      exact key _ b
    obtain⟨z,I,J⟩:=C;simp only[execOp,N,S,q];rw[c8 (x:=z) (w':=w) ?_]
    .exact r7 l8 hm J h
    .simp only[Instr.index,au,asIntOf,bg,ak,u7 O];simp only[Sem.run_ite];rw[aj ⟨V,Y⟩];simp only[au,M9 X,ak,u,g];exact I
   .cases h
  .cases h
 .cases h
end
end Go.Abs
end
section
namespace Go.Abs
section
variable {P:Program} {F:Nat->Prop} {K:b8} {H:Nat->Option Hd} {w:World} {m:Mm} {nx:Nat} {k:Q->Prop} {ev:Operand->a7} {ρ:Operand->Value}
theorem Q6{a:Int}{n:Nat}{ki:IntKind}{c:BoundsCode}(b:0<=a)(d:a<=(n:Int)):(Instr.sliceBound (.int ki a) n c).run P w=.ok a.toNat w:=by
 simp[Instr.sliceBound,asIntOf,b,d]
theorem tB{t e:TypeId}(c:P.underlying t=some (.slice e)){i:TypeInfo}(d:P.info? e=some i)(base:Option Addr)(len cap:Nat)(lo a mx:Option Value)(l h b:Nat)
  (f:(Instr.sliceBounds true len cap lo a mx).run P w=.ok (l,h,b) w):
  (Instr.sliceAt t (.slice base len cap) lo a mx).run P w=.ok (.slice (if b=l then base else base.map (·.add (l*i.size))) (h- l) (b- l)) w:=by
 simp only[Instr.sliceAt,au,u7 c,ak,Instr.slice,f,M9 d];rfl
theorem Ti{ty:Ty}{l:List ty.den}{f:Bool}{base:Option Addr}{cap lo a e:Nat}(q:lP K ty l f (.slice base l.length cap))(v:lo<=a)(n:a<=l.length)(y:a<=e)(c:Bool)(r:c=true->e=a):
  lP K ty ((l.drop lo).take (a- lo)) c (.slice (if e=lo then base else base.map (·.add (lo*ty.size))) (a- lo) (e- lo)):=by
 have d:((l.drop lo).take (a- lo)).length=a- lo:=by simp;omega
 obtain⟨h,o,p,z,A,g⟩:=q;simp only[oe]at p;obtain⟨rfl,_,rfl⟩:=p;refine⟨_,e- lo,by rw[d],by omega,fun j=>by rw[d,r j],?_⟩
 by_cases B:a- lo=0
 .exact .inl (bw (by omega))
 .rcases g with g|⟨b,off,arr,g,s,t⟩
  .rw[g]at n;simp at n;omega
  .right;refine⟨b,off+lo*ty.size,arr,?_,s,?_⟩
   .rw[ai (by omega),g];simp[H7]
   .intro i u;rw[qh,mh];have:=t (lo+i) (by omega)
    rw[bl,<-fe]at this;exact this
theorem Tj{r:Nat}{f:Bool}{hd:Hd}(hh:H r=some hd){base:Option Addr}(g:base=hd.base.map fun b=>⟨b,0,none⟩)(d:hd.base=none->hd.cap=0){lo c a:Nat}(l:lo<=c)(n:c<=hd.len)(o:c<=a)(p:a<=hd.cap)(i:f=true->a=c):
  b9 K H (.sub r lo (c- lo) f) (.slice (if a=lo then base else base.map (·.add (lo*hd.sz))) (c- lo) (a- lo)):=by
 simp only[b9];refine⟨hd,a- lo,_,hh,rfl,by omega,by omega,by omega,fun h=>by rw[i h],?_⟩
 by_cases j:a=lo
 .left;omega
 .right;rw[ai j];cases e:hd.base with
  |none=>have:=d e;omega
  |some b=>exact⟨b,rfl,by rw[g,e];simp[H7]⟩
theorem We{hd:Hd}{ty:Ty}{l:List ty.den}(h:n9 K H w hd (.sl ty l)):hd.base=none->hd.cap=0:=by
 intro c;obtain⟨_,_,_,a⟩:=h;rcases a with a|⟨b,_,_,_,a,_⟩
 .exact a.2
 .rw[c]at a;cases a
theorem dS{e:TypeId}{ty:Ty}(h:j9 P e=ty.size):∃i,P.info? e=some i/\i.size=ty.size:=by
 obtain⟨i,b,a⟩:=L9 (P:=P) (t:=e) (by rw[h];have:=ty.size_pos;omega)
 exact⟨i,b,by rw[a,h]⟩
variable (l8:L4 F K w) (hm:l5 F K H w m) (n6:∀x,b9 K H (ev x) (ρ x))
include l8 hm n6
omit l8 hm in
theorem tC{lo:Option Operand}{b:IntKind}{a:Int}(h:lo.map ev=some (.int b a)):lo.map ρ=some (.int b a):=by
 cases lo with
 |none=>simp at h
 |some x=>
  simp only[da,ae]at h ⊢;exact R7 (h▸n6 x)
omit l8 hm n6 in
theorem dT{lo:Option Operand}(h:lo.map ev=none):lo.map ρ=none:=by
 cases lo with
 |none=>rfl
 |some x=>simp at h
theorem tD(o:Oper){t e:TypeId}{x:Operand}{lo v mx:Option Operand}(A:o.op=.slice t x lo v mx)(B:P.underlying t=some (.slice e)){ty:Ty}(p:j9 P e=ty.size)
  {l:List ty.den}{f:Bool}(C:ev x=.imm ty l f)(a b:Nat)(c:Bool)(q:a<=b)(D:b<=l.length)
  (d:∀cap,l.length<=cap->(Instr.sliceBounds true l.length cap (lo.map ρ) (v.map ρ) (mx.map ρ)).run P w=.ok (a,b,if c=true then b else cap) w)
  {y:List ty.den}(r:y=(l.drop a).take (b- a))(E:k (.pure (.imm ty y c))):J3 P F K H w m nx k ((execOp ρ o).run P w):=by
 subst r;have n:=n6 x;rw[C]at n;simp only[b9]at n;obtain⟨i,s,u⟩:=dS p;have g:=n;obtain⟨base,cap,z,G,I,J⟩:=n;rw[z]at g;have j:=tB (P:=P) (w:=w) B s base l.length cap _ _ _ _ _ _ (d cap G);simp only[execOp,A,z];rw[c8 j,u];refine r7 l8 hm ?_ E;simp only[b9];refine Ti g q D ?_ c (fun h=>by rw[aj h])
 split<;>omega
theorem tE(o:Oper){t e:TypeId}{x:Operand}{lo B mx:Option Operand}(D:o.op=.slice t x lo B mx)(E:P.underlying t=some (.slice e)){ty:Ty}(s:j9 P e=ty.size)
  {l:List ty.den}{r:Nat}{f:Bool}{g:p0}(G:ev x=.O1 r f)(u:m r=some (.sl ty l,g))(I:g≠ .dead)(a b:Nat)(d:Bool)(v:a<=b)(O:b<=l.length)
  (c:∀cap,l.length<=cap->(Instr.sliceBounds true l.length cap (lo.map ρ) (B.map ρ) (mx.map ρ)).run P w=.ok (a,b,if d=true then b else cap) w)
  {n:Nat}(J:n=b- a)(L:k (.read (.sub r a n d) r)):J3 P F K H w m nx k ((execOp ρ o).run P w):=by
 subst J;have y:=n6 x;rw[G]at y;simp only[b9]at y;obtain⟨hd,C,M,_⟩:=y;have q:=hm.cont r _ g hd u I C;have j:hd.len=l.length:=q.2.1;have N:hd.len<=hd.cap:=q.2.2.1.1;obtain⟨i,z,A⟩:=dS s;have p:=tB (P:=P) (w:=w) E z (hd.base.map fun b=>⟨b,0,none⟩) l.length hd.cap _ _ _ _ _ _ (c hd.cap (by omega))
 simp only[execOp,D,M,j];rw[c8 p,A,<-q.1];refine H9 l8 hm r ?_ L;refine Tj C rfl (We q) v (by omega) ?_ ?_ ?_
 .split<;>omega
 .split<;>omega
 .intro h;rw[aj h]
theorem a0h(o:Oper){t:TypeId}{x:Operand}{lo O mx:Option Operand}(I:o.op=.slice t x lo O mx)(h:eJ P m t (ev x) (lo.map ev) (O.map ev) (mx.map ev) k):
  J3 P F K H w m nx k ((execOp ρ o).run P w):=by
 unfold eJ at h;split at h
 .rename_i y z A;have s:=dT (ρ:=ρ) y;have u:=dT (ρ:=ρ) z;have v:=dT (ρ:=ρ) A;split at h
  .rename_i n e r B C;have J:=n6 x;rw[C]at J;simp only[b9]at J;obtain⟨hd,b,j,E,R,T⟩:=J;split at h
   .rename_i ty l g q;split at h
    .cases h
    .rename_i S;have L:g≠ .dead:=fun e=>S (.inl e)
     have d:j9 P e=ty.size:=by
      rcases og (j9 P e=ty.size)with M|M
      .exact M
      .exact absurd (.inr M) S
     obtain⟨V,h⟩:=h;have D:=hm.cont r _ g hd q L j;obtain⟨i,N,U⟩:=dS d;simp only[execOp,I,T,s,u,v];rw[c8 (x:=.slice (some ⟨b,0,none⟩) n n) (w':=w) ?_]
     .refine H9 l8 hm r ?_ h;simp only[b9];have X:hd.len=n:=by rw[D.2.1,V]
      exact⟨hd,j,by rw[E,R,X];rfl,fun _=>R⟩
     .simp only[Instr.sliceAt,au,u7 B,ak,Instr.sureAddr,bg,Instr.sliceBounds,M9 N];simp[H7]
   .cases h
  .rename_i n e r Y jj B C;have J:=n6 x;rw[C]at J;simp only[b9]at J;obtain⟨hd,b,j,E,T⟩:=J;split at h
   .rename_i ty l g q;split at h
    .cases h
    .rename_i S;have L:g≠ .dead:=fun e=>S (.inl e)
     have d:j9 P e=ty.size:=by
      rcases og (j9 P e=ty.size)with M|M
      .exact M
      .exact absurd (.inr M) S
     obtain⟨⟨Z,V⟩,h⟩:=h;subst Z;have D:=hm.cont r _ g hd q L j;obtain⟨i,N,U⟩:=dS d;simp only[execOp,I,T,s,u,v];rw[c8 (x:=.slice (some ⟨b,Y*hd.sz,none⟩) n n) (w':=w) ?_]
     .refine H9 l8 hm r ?_ h;simp only[b9];have X:hd.len=l.length:=D.2.1;have h4:hd.len<=hd.cap:=D.2.2.1.1;exact⟨hd,n,_,j,rfl,by omega,aw _,by omega,fun _=>rfl,.inr ⟨b,E,rfl⟩⟩
     .simp only[Instr.sliceAt,au,u7 B,ak,Instr.sureAddr,bg,Instr.sliceBounds,M9 N];simp[H7]
   .cases h
  .cases h
 .rename_i a y z A;have s:=tC n6 y;have u:=dT (ρ:=ρ) z;have v:=dT (ρ:=ρ) A;have G:∀ (n cap:Nat),0<=a->a<=(n:Int)->(Instr.sliceBounds true n cap (lo.map ρ) (O.map ρ) (mx.map ρ)).run P w=.ok (a.toNat,n,if false=true then n else cap) w:=by
   intro n cap p j;rw[s,u,v];simp[Instr.sliceBounds,Q6 p j]
  split at h
  .rename_i e ty l f B C;split at h
   .rename_i d;obtain⟨⟨p,j⟩,h⟩:=h;exact tD l8 hm n6 o I B d C a.toNat l.length false (by omega) (aw _) (fun cap _=>G _ cap p j) (bj (by simp)).symm h
   .cases h
  .rename_i e r f B C;split at h
   .rename_i ty l g q;split at h
    .rename_i d;obtain⟨⟨p,j⟩,h⟩:=h;exact tE l8 hm n6 o I B d.1 C q d.2 a.toNat l.length false (by omega) (aw _) (fun cap _=>G _ cap p j) rfl h
    .cases h
   .cases h
  .cases h
 .rename_i b y z A;have s:=dT (ρ:=ρ) y;have u:=tC n6 z;have v:=dT (ρ:=ρ) A;have G:∀ (n cap:Nat),n<=cap->0<=b->b<=(n:Int)->(Instr.sliceBounds true n cap (lo.map ρ) (O.map ρ) (mx.map ρ)).run P w=.ok (0,b.toNat,if false=true then b.toNat else cap) w:=by
   intro n cap D p j;rw[s,u,v];simp[Instr.sliceBounds,Q6 (n:=cap) p (by omega)]
  split at h
  .rename_i e ty l f B C;split at h
   .rename_i d;obtain⟨⟨p,j⟩,h⟩:=h;exact tD l8 hm n6 o I B d C 0 b.toNat false (by omega) (by omega) (fun cap D=>G _ cap D p j) (by simp) h
   .cases h
  .rename_i e r f B C;split at h
   .rename_i ty l g q;split at h
    .rename_i d;obtain⟨⟨p,j⟩,h⟩:=h;exact tE l8 hm n6 o I B d.1 C q d.2 0 b.toNat false (by omega) (by omega) (fun cap D=>G _ cap D p j) (by simp) h
    .cases h
   .cases h
  .cases h
 .rename_i b c y z A;have s:=dT (ρ:=ρ) y;have u:=tC n6 z;have v:=tC n6 A;have G:∀ (n cap:Nat),n<=cap->0<=b->b<=(n:Int)->c=b->(Instr.sliceBounds true n cap (lo.map ρ) (O.map ρ) (mx.map ρ)).run P w=.ok (0,b.toNat,if true=true then b.toNat else cap) w:=by
   intro n cap D p j E;subst E;rw[s,u,v];simp only[Instr.sliceBounds,au,Q6 (n:=cap) p (by omega),ak,Q6 (a:=c) (n:=c.toNat) p (by omega)]
   simp
  split at h
  .rename_i e ty l f B C;split at h
   .rename_i d;obtain⟨⟨p,j,E⟩,h⟩:=h;exact tD l8 hm n6 o I B d C 0 b.toNat true (by omega) (by omega) (fun cap D=>G _ cap D p j E) (by simp) h
   .cases h
  .rename_i e r f B C;split at h
   .rename_i ty l g q;split at h
    .rename_i d;obtain⟨⟨p,j,E⟩,h⟩:=h;exact tE l8 hm n6 o I B d.1 C q d.2 0 b.toNat true (by omega) (by omega) (fun cap D=>G _ cap D p j E) (by simp) h
    .cases h
   .cases h
  .cases h
 .rename_i a b y z A;have s:=tC n6 y;have u:=tC n6 z;have v:=dT (ρ:=ρ) A;have G:∀ (n cap:Nat),n<=cap->0<=a->a<=b->b<=(n:Int)->(Instr.sliceBounds true n cap (lo.map ρ) (O.map ρ) (mx.map ρ)).run P w=.ok (a.toNat,b.toNat,if false=true then b.toNat else cap) w:=by
   intro n cap D p j E;rw[s,u,v];simp only[Instr.sliceBounds,au,bg,ak,Q6 (a:=b) (n:=cap) (by omega) (by omega),Q6 (a:=a) (n:=b.toNat) p (by omega)]
   simp
  split at h
  .rename_i e ty l f B C;split at h
   .rename_i d;obtain⟨⟨p,j,E⟩,h⟩:=h;exact tD l8 hm n6 o I B d C a.toNat b.toNat false (by omega) (by omega) (fun cap D=>G _ cap D p j E) rfl h
   .cases h
  .rename_i e r f B C;split at h
   .rename_i ty l g q;split at h
    .rename_i d;obtain⟨⟨p,j,E⟩,h⟩:=h;exact tE l8 hm n6 o I B d.1 C q d.2 a.toNat b.toNat false (by omega) (by omega) (fun cap D=>G _ cap D p j E) rfl h
    .cases h
   .cases h
  .cases h
 .cases h
end
end Go.Abs
end
section
namespace Go.Abs
section
variable {P:Program} {F:Nat->Prop} {K:b8} {H:Nat->Option Hd} {w:World} {m:Mm} {nx:Nat} {k:Q->Prop} {ev:Operand->a7} {ρ:Operand->Value}
theorem B2.nil{t:Ty}:B2 K t [] []:=⟨by simp,fun i h=>by simp at h⟩
theorem B2.cons{t:Ty}{x:t.den}{l:List t.den}{c cs:List Value}(h:r9 K t x c)(b:B2 K t l cs):B2 K t (x::l) (c++cs):=by
 have a:=r9.length t _ _ h;refine⟨by simp[b.1,a,bl];omega,fun i d=>?_⟩
 cases i with
 |zero=>simp only[lh,ji,js];rw[rj a];exact h
 |succ i=>
  simp only[fv];have:=b.2 i (by simpa using d)
  rw[bl,kj,ez,<-dm,pt a];exact this
theorem B2.append{t:Ty}{l c:List t.den}{cs b:List Value}(h:B2 K t l cs)(f:B2 K t c b):B2 K t (l++c) (cs++b):=by
 refine⟨by simp[h.1,f.1,bl],fun i g=>?_⟩
 by_cases a:i<l.length
 .rw[jf a];have:=h.2 i a;have d:(i+1)*t.size<=l.length*t.size:=ay _ a;rw[bl]at d;rw[du (by rw[h.1];omega),cn (by rw[cv,h.1];omega)]
  exact this
 .rw[nh (by omega)]
  have e:i- l.length<c.length:=by simp at g;omega
  have:=f.2 (i- l.length) e;have j:i*t.size=cs.length+(i- l.length)*t.size:=by
   rw[h.1,<-bl];congr 1;omega
  rw[j,<-dm,iq];exact this
theorem B2.elems{t:Ty}{l:List t.den}{cs rest:List Value}(h:B2 K t l cs):cQ K t l (cs++rest).toArray 0:=by
 intro i b;have:=h.2 i b;have a:(i+1)*t.size<=l.length*t.size:=ay _ b;rw[bl]at a;unfold s7;rw[bz,du (by rw[h.1];omega),cn (by rw[cv,h.1];omega)]
 exact this
theorem cQ.EG{t:Ty}{l:List t.den}{cs:Array Value}{off:Nat}(h:cQ K t l cs off)(c:off+l.length*t.size<=cs.size):B2 K t l (s7 cs off (l.length*t.size)):=by
 refine⟨Li c,fun i b=>?_⟩
 have a:(i+1)*t.size<=l.length*t.size:=ay _ b;rw[bl]at a;rw[sQ (by omega)]
 exact h i b
theorem cQ.bound{t:Ty}{l:List t.den}{cs:Array Value}{off:Nat}(h:cQ K t l cs off)(c:l≠ []):off+l.length*t.size<=cs.size:=by
 have b:0<l.length:=by cases l with|nil=>exact absurd rfl c|cons a l=>simp
 have:=r9.length t _ _ (h (l.length- 1) (by omega))
 have:=QZ this t.size_pos;have d:(l.length- 1)*t.size+t.size=l.length*t.size:=by
  rw[<-Nat.succ_mul];congr 1;omega
 omega
theorem B2.replicate{t:Ty}{x:t.den}{c:List Value}(h:r9 K t x c):∀n,B2 K t (List.replicate n x) ((List.replicate n c).flatten)
 |0=>by simpa using B2.nil
 |n+1=>by
  rw[nk,nk,gb];exact .cons h (B2.replicate h n)
theorem JN:∀ (t:Ty) (x:t.den) (cs:List Value),r9 K t x cs->∀v∈cs,v.oneCell'=true
 |.int _,_,_,h,v,c=>by have h:_=_:=h;subst h;simp at c;subst c;rfl
 |.bool,_,_,h,v,c=>by have h:_=_:=h;subst h;simp at c;subst c;rfl
 |.slice _,_,_,h,v,c=>by obtain⟨_,_,rfl,_⟩:=h;simp at c;subst c;rfl
 |.pair a b,_,_,h,v,c=>by
  obtain⟨f,g,rfl,d,e⟩:=h;rcases cj.1 c with h|h
  .exact JN a _ _ d v h
  .exact JN b _ _ e v h
theorem Dw{v:Value}(h:v.oneCell'=true):one v=true:=by cases v<;>simp_all [Value.oneCell',one]
theorem jA{t:Ty}:∀ {l:List t.den} {cs:List Value},B2 K t l cs->∀v∈cs,v.oneCell'=true
 |[],cs,h,v,a=>by
  have:cs=[]:=bw (by simpa using h.1)
  subst this;simp at a
 |x::l,cs,h,v,a=>by
  have c:=h.2 0 (by simp)
  simp only[lh,ji,js]at c;have b:B2 K t l (cs.drop t.size):=by
   refine⟨by rw[cv,h.1];simp[bl],fun i d=>?_⟩
   have:=h.2 (i+1) (by simpa using d)
   simp only[fv]at this;have e:cs.drop ((i+1)*t.size)=(cs.drop t.size).drop (i*t.size):=by
    rw[dm];congr 1;rw[bl];omega
   rw[e]at this;exact this
  rw[<-fq t.size cs]at a;rcases cj.1 a with a|a
  .exact JN t _ _ c v a
  .exact jA b v a
theorem G1:∀ (t:Ty),r9 K t t.zero (zeroV t)
 |.int _=>rfl
 |.bool=>rfl
 |.slice _=>⟨none,0,rfl,aw _,.inl rfl⟩
 |.pair a b=>⟨_,_,rfl,G1 a,G1 b⟩
theorem tF:∀ (t:Ty),c6 K H (qF t) (zeroV t)
 |.int _=>.cons (by simp[b9]) .nil
 |.bool=>.cons (by simp[b9]) .nil
 |.slice _=>.cons (by simp[b9]) .nil
 |.pair a b=>c6.append (tF a) (tF b)
theorem jB(z:List Value)(s:Nat)(a:z.length=s):∀ (n j:Nat),j<n*s->(List.replicate n z).flatten[j]? =z[j % s]?
 |0,j,h=>by simp at h
 |n+1,j,h=>by
  rw[nk,gb];by_cases b:j<s
  .rw[bc (by omega),jc b]
  .rw[bd (by omega),a,jB z s a n (j- s) (by rw[bl]at h;omega)]
   congr 1;exact(Nat.mod_eq_sub_mod (by omega)).symm
theorem LC:∀ (a b:List Value),xM a b=true->a=b:=by
 intro a
 induction a with
 |nil=>intro b h;cases b<;>simp[xM]at h ⊢
 |cons x a e=>
  intro b h;cases b with
  |nil=>cases x<;>simp[xM]at h
  |cons y b=>
   unfold xM at h;split at h
   .rename_i c d;cases c
   .rename_i c d;cases c;cases d;simp only[ah,bt]at h;rw[h.1.1,h.1.2,e _ h.2]
   .rename_i c d;cases c;cases d;simp only[ah,qx]at h;rw[h.1,e _ h.2]
   .rename_i c d;cases c;cases d;rw[e _ h]
   .cases h
theorem Z9{t:TypeId}{ty:Ty}(h:bC P t ty=true):∃i v,P.info? t=some i/\i.zero=some v/\v.cells.toList=zeroV ty:=by
 unfold bC at h;split at h
 .rename_i i a;split at h
  .rename_i v b;exact⟨i,v,a,b,LC _ _ h⟩
  .cases h
 .cases h
theorem jC{t:TypeId}{ty:Ty}{n:Nat}(h:Q0.aH P t ty n=true):n<=16777216/\∃i v,P.info? t=some i/\i.zero=some v/\v.cells.toList=(List.replicate n (zeroV ty)).flatten:=by
 unfold Q0.aH at h;split at h
 .rename_i i a;split at h
  .rename_i v b;rw[ah]at h;exact⟨af h.1,i,v,a,b,LC _ _ h.2⟩
  .cases h
 .cases h
theorem jD{t:TypeId}{ty:Ty}{n:Nat}(h:Q0.aH P t ty n=true):∃i v,P.info? t=some i/\i.zero=some v/\v.cells.toList=(List.replicate n (zeroV ty)).flatten:=(jC h).2
theorem dU{t:TypeId}{i:TypeInfo}{v:Value}(a:P.info? t=some i)(b:i.zero=some v)(w:World):(zeroValue t).run P w=.ok v w:=by
 simp[zeroValue,wB a,b]
theorem mC(e:TypeId)(cs:Array Value)(w:World):(newRow e cs).run P w=.ok ⟨w.heap.size,0,none⟩ (w.alloc (.cells cs e)):=rfl
theorem tG(l8:L4 F K w)(hm:l5 F K H w m)(h:H nx=none)(e:TypeId){t:Ty}{l:List t.den}{cs rest:List Value}(j:B2 K t l cs)(cap:Nat)(c:l.length<=cap)(d:cap<=9223372036854775807)
  (f:cap*t.size<=(cs++rest).length)(a:Bool)(b:a=true->cap=l.length)(g:List Nat):
  ∃H',cV F K H w m nx (N6 nx t l a g []) (.slice (some ⟨w.heap.size,0,none⟩) l.length cap) (w.alloc (.cells (cs++rest).toArray e)) K H':=by
 let hd:Hd:=⟨some w.heap.size,t.size,l.length,cap⟩
 refine⟨N9 H nx hd,P4 l8 hm h (cs++rest).toArray e (.sl t l) hd rfl ?_ _ _ ?_ g⟩
 .exact⟨rfl,rfl,⟨c,d⟩,.inr ⟨w.heap.size,_,e,(0,0),rfl,L0 w _,by simpa using f,j.elems⟩⟩
 .simp only[b9];exact⟨hd,j8 _ _ _,rfl,b⟩
theorem L4.heap(h:L4 F K w){w':World}(hh:w'.heap=w.heap):L4 F K w':=
 ⟨⟨fun b cs a=>by rw[hh];exact h.w8.1 b cs a,fun b p c=>by rw[hh];exact h.w8.2 b p c⟩,fun b d=>by rw[hh];exact h.lt b d,h.inv,h.apart⟩
theorem l5.heap(h:l5 F K H w m){w':World}(hh:w'.heap=w.heap):l5 F K H w' m:=h.world (fun _ _ _ _ _ _ _ _ _=>by rw[hh])
theorem cV.drew{q:Q}{v:Value}{w':World}{K':b8}{H':Nat->Option Hd}(h:cV F K H w.drew m nx q v w' K' H'):cV F K H w m nx q v w' K' H':=
 ⟨h.le,h.hle,h.K8,h.rep,h.mem,h.ok,⟨h.kept.os,h.kept.tape,h.kept.output,h.kept.size,h.kept.block,ew (lf _) h.kept.drawn⟩,h.fix⟩
theorem cV.use{d:List (Nat×p0)}{a:a7}{new:List c7}{e:List Nat}{v:Value}{w':World}{K1 K':b8}{H':Nat->Option Hd}(c:K.le K1)(b:Fix F K K1)
  (h:cV F K1 H w (y8 m d) nx ⟨a,new,[],e⟩ v w' K' H'):cV F K H w m nx ⟨a,new,d,e⟩ v w' K' H':=
 ⟨c.trans h.le,h.hle,h.K8,h.rep,h.mem,h.ok,h.kept,b.trans h.fix⟩
variable (l8:L4 F K w) (hm:l5 F K H w m) (n6:∀x,b9 K H (ev x) (ρ x)) (G2:∀q,k q->∀i,i<q.new.length->H (nx+i)=none)
include l8 hm n6 G2
omit l8 hm n6 in
theorem y7{q:Q}(a:k q){v:Value}{w':World}(h:(H nx=none)->∃K' H',cV F K H w m nx q v w' K' H')(b:0<q.new.length):J3 P F K H w m nx k (.ok (.value v) w'):=by
 obtain⟨K',H',h⟩:=h (by simpa using G2 q a 0 b)
 exact⟨q,K',H',a,h⟩
theorem Wf(o:Oper){x:Operand}(d:o.op=.move x\/o.op=.assign x)(h:match ev x with
  |.Y4=>(match Om P o.type with
   |some t=>k ⟨.O1 nx false,[.sl t []],[],[]⟩
   |none=>k (.pure .Y4))
  |v=>k (.pure v)):J3 P F K H w m nx k ((execOp ρ o).run P w):=by
 have a:(execOp ρ o).run P w=.ok (.value (ρ x)) w:=by
  rcases d with d|d<;>simp[execOp,d]
 rw[a];have c:=n6 x;split at h
 .rename_i l;rw[l]at c;have e:=c;simp only[b9]at c;split at h
  .rename_i t s;refine y7 G2 h (fun f=>?_) (by simp)
   let hd:Hd:=⟨none,t.size,0,0⟩
   refine⟨K,N9 H nx hd,.refl K,M3 f,?_,?_,?_,l8,.refl F w,.refl F K⟩
   .intro r n g;by_cases j:r=nx
    .subst j;simp
    .rw[m7 _ _ _ _ j]at g;exact absurd n g
   .simp only[b9];exact⟨hd,j8 _ _ _,by rw[c];rfl,by simp[hd]⟩
   .exact hm.new nx f (.sl t []) hd ⟨rfl,rfl,⟨aw _,fx _⟩,.inl ⟨rfl,rfl⟩⟩ (fun b p=>by cases p)
  .exact r7 l8 hm e h
 .exact r7 l8 hm c h
omit n6 in
theorem a0i(o:Oper){e:TypeId}(s:o.op=.alloc e)(h:match P.underlying e with
  |some (.array n a)=>(match Z5 P 8 a with
   |some t=>if Q0.aH P e t n then k ⟨.P6 nx,[.sl t (List.replicate n t.zero)],[],[]⟩else False
   |none=>False)
  |_=>(match Z5 P 8 e with
   |some t=>if bC P e t then k ⟨.ptr nx 0,[.box (qF t)],[],[]⟩else False
   |none=>if Jr P e then k ⟨.ptr nx 0,[.box [.S6]],[],[]⟩else False)):J3 P F K H w m nx k ((execOp ρ o).run P w):=by
 have b:∀i v,P.info? e=some i->i.zero=some v->(execOp ρ o).run P w=.ok (.value (.pointer (some ⟨w.heap.size,0,none⟩))) (w.alloc (.cells v.cells e)):=by
  intro i v g d;simp only[execOp,s];refine c8 ?_;simp only[Instr.alloc,au,dU g d,ak,newVar,mC];rfl
 have p:∀t,(if bC P e t=true then k ⟨.ptr nx 0,[.box (qF t)],[],[]⟩else False)->J3 P F K H w m nx k ((execOp ρ o).run P w):=by
  intro t h;split at h
  .rename_i d;obtain⟨i,v,g,r,l⟩:=Z9 d;rw[b i v g r];refine y7 G2 h (fun f=>?_) (by simp)
   let hd:Hd:=⟨some w.heap.size,0,0,0⟩
   refine⟨K,_,P4 l8 hm f v.cells e (.box (qF t)) hd rfl ?_ _ _ ?_ []⟩
   .exact⟨w.heap.size,v.cells,e,(0,0),rfl,L0 w _,by rw[l];exact tF t⟩
   .simp only[b9];exact⟨hd,w.heap.size,j8 _ _ _,rfl,rfl⟩
  .cases h
 split at h
 .rename_i n a y;split at h
  .rename_i t z;split at h
   .rename_i d;have u:=(jC d).1;obtain⟨i,v,g,r,l⟩:=jD d;rw[b i v g r];refine y7 G2 h (fun f=>?_) (by simp)
    let hd:Hd:=⟨some w.heap.size,t.size,n,n⟩
    have j:=B2.replicate (G1 (K:=K) t) n;refine⟨K,_,P4 l8 hm f v.cells e (.sl t (List.replicate n t.zero)) hd rfl ?_ _ _ ?_ []⟩
    .refine⟨rfl,by simp[hd],⟨aw _,by show n<=_;omega⟩,.inr ⟨w.heap.size,v.cells,e,(0,0),rfl,L0 w _,?_,?_⟩⟩
     .have:=j.1;rw[<-l]at this;simp at this;simp[hd,this]
     .have:=j.elems (rest:=[]);rw[<-l]at this;simpa using this
    .simp only[b9];exact⟨hd,w.heap.size,j8 _ _ _,rfl,rfl,rfl⟩
   .cases h
  .cases h
 .split at h
  .exact p _ h
  .split at h
   .rename_i d;unfold Jr at d;split at d
    .rename_i i g;split at d
     .rename_i c;rw[b i _ g c];refine y7 G2 h (fun f=>?_) (by simp)
      let hd:Hd:=⟨some w.heap.size,0,0,0⟩
      refine⟨K,_,P4 l8 hm f (Value.map none).cells e (.box [.S6]) hd rfl ?_ _ _ ?_ []⟩
      .exact⟨w.heap.size,(Value.map none).cells,e,(0,0),rfl,L0 w _,.cons (by simp[b9]) .nil⟩
      .simp only[b9];exact⟨hd,w.heap.size,j8 _ _ _,rfl,rfl⟩
     .rename_i c;rw[b i _ g c];refine y7 G2 h (fun f=>?_) (by simp)
      let hd:Hd:=⟨some w.heap.size,0,0,0⟩
      refine⟨K,_,P4 l8 hm f (Value.pointer none).cells e (.box [.S6]) hd rfl ?_ _ _ ?_ []⟩
      .exact⟨w.heap.size,(Value.pointer none).cells,e,(0,0),rfl,L0 w _,.cons (by simp[b9]) .nil⟩
      .simp only[b9];exact⟨hd,w.heap.size,j8 _ _ _,rfl,rfl⟩
     .rename_i c;rw[b i _ g c];refine y7 G2 h (fun f=>?_) (by simp)
      let hd:Hd:=⟨some w.heap.size,0,0,0⟩
      refine⟨K,_,P4 l8 hm f Value.nilFunc.cells e (.box [.S6]) hd rfl ?_ _ _ ?_ []⟩
      .exact⟨w.heap.size,Value.nilFunc.cells,e,(0,0),rfl,L0 w _,.cons (by simp[b9]) .nil⟩
      .simp only[b9];exact⟨hd,w.heap.size,j8 _ _ _,rfl,rfl⟩
     .rename_i c;rw[b i _ g c];refine y7 G2 h (fun f=>?_) (by simp)
      let hd:Hd:=⟨some w.heap.size,0,0,0⟩
      refine⟨K,_,P4 l8 hm f (Value.slice none 0 0).cells e (.box [.S6]) hd rfl ?_ _ _ ?_ []⟩
      .exact⟨w.heap.size,(Value.slice none 0 0).cells,e,(0,0),rfl,L0 w _,.cons (by simp[b9]) .nil⟩
      .simp only[b9];exact⟨hd,w.heap.size,j8 _ _ _,rfl,rfl⟩
     .cases d
    .cases d
   .cases h
omit l8 hm n6 G2 in
theorem HX{d:IntKind}:∀ {b:List a7} {cs:List Value} {l:List Int},Ll d b=some l->c6 K H b cs->B2 K (.int d) (show List (Ty.int d).den from l) cs
 |[],cs,l,h,e=>by
  simp only[Ll,ae]at h;subst h;rw[c6.J8.1 e];exact B2.nil
 |v::vs,cs,l,h,e=>by
  obtain⟨c,g,rfl,f,j⟩:=e.inv;simp only[Ll]at h;split at h
  .rename_i k' a p n;split at h
   .rename_i o;subst o;simp only[ae]at h;subst h;simp only[b9]at f;have:=B2.cons (K:=K) (t:=.int k') (x:=a) (c:=[c]) (by show [c]=[Value.int k' a];rw[f]) (HX n j)
    exact this
   .cases h
  .cases h
omit l8 hm n6 G2 in
theorem yB(a:List Field):∀ (o:Nat) (l:List a7) (vs:List Value),c6 K H l vs->c6 K H (xO P a o l) vs
 |_,[],vs,h=>h
 |o,v::l,vs,h=>by
  obtain⟨c,cs,rfl,b,d⟩:=c6.inv h;simp only[xO];refine .cons ?_ (yB a (o+1) l cs d);split
  .exact aL b
  .exact b
omit l8 hm n6 G2 in
theorem Wg{e:TypeId}{cells:List a7}{cs:Array Value}{b:Nat}{d:TypeId}{f:Nat×Nat}(g:w.heap[b]? =some (.cells cs d f))(c:c6 K H cells cs.toList):n9 K H w ⟨some b,1,0,0⟩ (Vp P e cells):=by
 have a:n9 K H w ⟨some b,1,0,0⟩ (.box cells):=⟨b,cs,d,f,rfl,g,c⟩;unfold Vp;split
 .rename_i p o n r;split
  .rename_i l h;split
   .rename_i j;refine⟨rfl,j,b,cs,d,f,cs.toList.take p,(cs.toList.drop p).take n,cs.toList.drop (p+n),rfl,g,?_,c.take p,HX h ((c.drop p).take n),yB _ _ _ _ (c.drop (p+n))⟩;rw[bk,<-dm,fq,fq]
   .exact a
  .exact a
 .exact a
theorem a6s(o:Oper){e:TypeId}{x:Operand}(c:o.op=.box e x)(h:match(typed P e (ev x)).parts with
  |some cells=>k ⟨.ptr nx 0,[Vp P e cells],[],[]⟩
  |none=>(match ev x with
   |.S3 ty l=>l.length<=16777216/\k ⟨.P6 nx,[.sl ty l],[],[]⟩
   |_=>False)):J3 P F K H w m nx k ((execOp ρ o).run P w):=by
 split at h
 .rename_i cells d;have a:=eN d (aL (P:=P) (t:=e) (n6 x));simp only[execOp,c];rw[c8 (x:=.pointer (some ⟨w.heap.size,0,none⟩)) (w':=w.alloc (.cells (ρ x).cells e)) rfl];refine y7 G2 h (fun b=>?_) (by simp)
  let hd:Hd:=⟨some w.heap.size,1,0,0⟩
  refine⟨K,_,P4 l8 hm b (ρ x).cells e (Vp P e cells) hd rfl ?_ _ _ ?_ []⟩
  .exact Wg (L0 w _) (c6.mono (.refl K) (M3 b) _ _ a)
  .simp only[b9];exact⟨hd,w.heap.size,j8 _ _ _,rfl,rfl⟩
 .split at h
  .rename_i ty l f;obtain⟨p,h⟩:=h;have a:=n6 x;rw[f]at a;simp only[b9]at a;obtain⟨cs,g,r,j⟩:=a;simp only[execOp,c];rw[c8 (x:=.pointer (some ⟨w.heap.size,0,none⟩)) (w':=w.alloc (.cells (ρ x).cells e)) rfl];refine y7 G2 h (fun b=>?_) (by simp)
   let hd:Hd:=⟨some w.heap.size,ty.size,l.length,l.length⟩
   refine⟨K,_,P4 l8 hm b (ρ x).cells e (.sl ty l) hd rfl ?_ _ _ ?_ []⟩
   .have n:(ρ x).cells=cs:=by rw[g];rfl
    rw[n];exact⟨rfl,rfl,⟨aw _,by show l.length<=_;omega⟩,.inr ⟨w.heap.size,cs,e,(0,0),rfl,L0 w _,by show l.length*ty.size<=_;omega,j⟩⟩
   .simp only[b9];exact⟨hd,w.heap.size,j8 _ _ _,rfl,rfl,rfl⟩
  .cases h
theorem LD(o:Oper){t:TypeId}{l c:Operand}(ho:o.op=.makeSlice t l c)(h:match P.underlying t,ev l,ev c with
  |some (.slice e),.int .i64 a,.int .i64 b=>(match Z5 P 8 e with
   |some ty=>if bC P e ty/\(((P.info? e).map (·.bytes)).getD 0)<=64 then(0<=a/\a=b/\a<=(At:Int))/\k (N6 nx ty (List.replicate a.toNat ty.zero) true [] [])else False
   |none=>(match P.underlying e with
    |some (.array n e')=>(match Z5 P 8 e' with
     |some ty=>if(HN P e ty/\Q0.aH P e ty n)/\(((P.info? e).map (·.bytes)).getD 0)<=65536 then(0<=a/\a=b/\a<=1048576)/\k ⟨.sub nx 0 a.toNat true,[.sl ty (List.replicate (a.toNat*n) ty.zero)],[],[]⟩else False
     |none=>False)
    |_=>False))
  |_,_,_=>False):J3 P F K H w m nx k ((execOp ρ o).run P w):=by
 split at h
 .rename_i e a b hu hl hc;have r1:=R7 (hl▸n6 l);have r2:=R7 (hc▸n6 c);split at h
  .rename_i ty N;split at h
   .rename_i D;obtain⟨⟨O,rfl,hb⟩,h⟩:=h;obtain⟨i,v,E,X,s⟩:=Z9 D.1;obtain⟨i',de,R,G,_,_⟩:=cX 8 e ty N;rw[E]at R;cases R;have Y:i.bytes<=64:=by have:=D.2;rw[E]at this;simpa using this
    have a3G:(At:Int)=1099511627776:=rfl;have u:(i.bytes:Int)*a<=281474976710656:=by
     have A:(i.bytes:Int)*a<=64*a:=kz (by omega) O
     omega
    have y:=run_make (P:=P) w t e i v hu E X .i64 .i64 a a O (sy _) u (by omega)
    simp only[execOp,ho,r1,r2];rw[c8 y];refine y7 G2 h (fun Z=>?_) (by simp[N6])
    have p:=B2.replicate (G1 (K:=K) ty) a.toNat;have d:madeCells v.cells (a.toNat*i.size)=((List.replicate a.toNat (zeroV ty)).flatten++ []).toArray:=by
     have z:v.cells.size=ty.size:=by
      have:=r9.length ty _ _ (G1 (K:=K) ty);rw[<-s]at this;simpa using this
     apply Array.ext_getElem?;intro j;rw[G];by_cases L:j<a.toNat*ty.size
     .have r:=ty.size_pos;have hdiv:j/ty.size<a.toNat:=mu (by rw[gv];exact L)
      have B:j % ty.size<ty.size:=fk _ r;have f:((List.replicate a.toNat (zeroV ty)).flatten++ []).toArray[j]? =v.cells[j % ty.size]? :=by
       rw[bf];have A:(List.replicate a.toNat (zeroV ty)).flatten.toArray[j]? =(List.replicate a.toNat (zeroV ty)).flatten[j]? :=by simp
       rw[A,jB (zeroV ty) ty.size (r9.length ty _ _ (G1 (K:=K) ty)) a.toNat j L,<-s];simp
      rw[f];have I:j % ty.size<v.cells.size:=by rw[z];exact B
      simp[madeCells,L,z,py v.cells (j % ty.size) I]
     .rw[fb (by rw[qb];omega),fb (by
       have:=p.1;simp only[dt]at this
       simp only[bf,List.size_toArray,this];omega)]
    rw[d];have g:(List.replicate a.toNat ty.zero).length=a.toNat:=by simp
    have:=tG (nx:=nx) l8 hm Z e p (rest:=[]) a.toNat (by simp) (by omega) (by rw[bf,p.1,g];exact aw _) true (fun _=>by simp) []
    obtain⟨H',M⟩:=this;rw[g]at M;exact⟨K,H',M⟩
   .cases h
  .split at h
   .rename_i n e' hue;split at h
    .rename_i ty N;split at h
     .rename_i D;obtain⟨⟨O,rfl,hb⟩,h⟩:=h;obtain⟨n',e2,S,hs1,Wa,hn⟩:=wC D.1.1;rw[hue]at S;cases S;obtain⟨i,v,E,X,s⟩:=jD D.1.2;have G:i.size=n*ty.size:=by rw[<-Wa];simp[j9,E]
      have Y:i.bytes<=65536:=by have:=D.2;rw[E]at this;simpa using this
      have u:(i.bytes:Int)*a<=281474976710656:=by
       have A:(i.bytes:Int)*a<=65536*a:=kz (by omega) O
       omega
      have y:=run_make (P:=P) w t e i v hu E X .i64 .i64 a a O (sy _) u (by omega)
      simp only[execOp,ho,r1,r2];rw[c8 y];refine y7 G2 h (fun Z=>?_) (by simp)
      have p:=B2.replicate (G1 (K:=K) ty) (a.toNat*n);have r:=ty.size_pos;have z:v.cells.size=n*ty.size:=by
       have A:v.cells.toList.length=((List.replicate n (zeroV ty)).flatten).length:=by rw[s]
       have h2:=(B2.replicate (G1 (K:=K) ty) n).1;rw[dt]at h2;rw[h2]at A;simpa using A
      have d:madeCells v.cells (a.toNat*i.size)=((List.replicate (a.toNat*n) (zeroV ty)).flatten++ []).toArray:=by
       apply Array.ext_getElem?;intro j;rw[G,<-me];by_cases L:j<a.toNat*n*ty.size
       .have B:j % ty.size<ty.size:=fk _ r;have hnp:0<n*ty.size:=Nat.mul_pos hn r;have T:j % (n*ty.size)<n*ty.size:=fk _ hnp;have f:((List.replicate (a.toNat*n) (zeroV ty)).flatten++ []).toArray[j]? =(zeroV ty)[j % ty.size]? :=by
         rw[bf];have A:(List.replicate (a.toNat*n) (zeroV ty)).flatten.toArray[j]? =(List.replicate (a.toNat*n) (zeroV ty)).flatten[j]? :=by simp
         rw[A,jB (zeroV ty) ty.size (r9.length ty _ _ (G1 (K:=K) ty)) (a.toNat*n) j L]
        have J:v.cells[j % (n*ty.size)]? =(zeroV ty)[j % ty.size]? :=by
         have A:v.cells[j % (n*ty.size)]? =v.cells.toList[j % (n*ty.size)]? :=by simp
         rw[A,s,jB (zeroV ty) ty.size (r9.length ty _ _ (G1 (K:=K) ty)) n _ T,Nat.mod_mul_left_mod]
        rw[f,<-J];have I:j % (n*ty.size)<v.cells.size:=by rw[z];exact T
        simp[madeCells,L,z,py v.cells (j % (n*ty.size)) I]
       .rw[fb (by rw[qb];omega),fb (by
         have:=p.1;simp only[dt]at this
         simp only[bf,List.size_toArray,this];omega)]
      rw[d];have g:(List.replicate (a.toNat*n) ty.zero).length=a.toNat*n:=by simp
      have han:a.toNat*1<=a.toNat*n:=kn _ hn;have U:a.toNat*n<=9223372036854775807:=ew (gm (show a.toNat<=1048576 by omega) (jC D.1.2).1) (by decide)
      have:=tG (nx:=nx) l8 hm Z e p (rest:=[]) (a.toNat*n) (by simp) U (by rw[bf,p.1,g];exact aw _) true (fun _=>by simp) []
      obtain⟨H',M⟩:=this;rw[g]at M;refine⟨K,H',?_⟩;have C:=M.rep;simp only[N6,b9]at C;obtain⟨hd,g1,g2,_⟩:=C;injection g2 with g2 g3 g4;refine {M with rep:= ?_};simp only[b9];refine⟨hd,a.toNat,_,g1,rfl,by omega,aw _,by omega,fun _=>rfl,?_⟩
      cases V:hd.base with
      |none=>rw[V]at g2;cases g2
      |some b=>
       rw[V]at g2;refine .inr ⟨b,rfl,?_⟩;rw[lh];exact g2
     .cases h
    .cases h
   .cases h
 .cases h
end
end Go.Abs
end
section
namespace Go.Abs
section
variable {P:Program} {F:Nat->Prop} {K:b8} {H:Nat->Option Hd} {w:World} {m:Mm} {nx:Nat} {k:Q->Prop} {ev:Operand->a7} {ρ:Operand->Value}
theorem yC(off:Nat):∀ (l:List Value) (i:Nat) (cs:Array Value),(l.zipIdx i).foldl (fun cs (c,j)=>cs.setIfInBounds (off+j) c) cs=H8 cs (off+i) l
 |[],_,_=>rfl
 |c::l,i,cs=>by
  rw[qm,lz,yC off l (i+1),H8,fe]
theorem gY(off:Nat)(v:Value)(cs:Array Value):v.cells.zipIdx.foldl (fun cs (c,j)=>cs.setIfInBounds (off+j) c) cs=H8 cs off v.cells.toList:=by
 rw[<-Array.foldl_toList,Array.toList_zipIdx,yC,jr]
theorem I9(cs:Array Value)(o:Nat)(vs:List Value)(h:o+vs.length<=cs.size):(H8 cs o vs).toList=cs.toList.take o++vs++cs.toList.drop (o+vs.length):=by
 apply cq;intro i;rw[jb,iJ cs o vs i h];by_cases a:i<o
 .rw[ai (by omega),bc (by simp;omega),bc (by simp;omega),cy a]
  simp
 .by_cases b:i<o+vs.length
  .rw[aj (by omega),bc (by simp;omega),bd (by simp;omega)]
   congr 1;simp;omega
  .rw[ai (by omega),bd (by simp;omega),dp]
   simp only[bu,fw,bp];rw[jb];congr 1;omega
theorem kO:∀ (a:List Field),(∀f∈a,∃i,P.info? f.type=some i)->a.mapM (fun f=>(P.info? f.type).map fun i=>(f.offset,i.size))=some (a.map fun f=>(f.offset,j9 P f.type))
 |[],_=>rfl
 |f::a,h=>by
  obtain⟨i,b⟩:=h f (by simp)
  have c:=kO a (fun g d=>h g (by simp[d]))
  rw[qc,c,b];simp[j9,b]
theorem Cj{d:Nat}:∀ (e:List Field) (o:Nat) (ty:Ty),Z5.fields P d e o=some ty->∀f∈e,∃i,P.info? f.type=some i
 |[],_,_,h,f,c=>by simp at c
 |[g],o,ty,h,f,c=>by
  simp only[cb]at c;subst c;have h:(if f.offset=o then Z5 P d f.type else none)=some ty:=h
  split at h
  .obtain⟨i,_,j,_⟩:=cX d _ _ h;exact⟨i,j⟩
  .cases h
 |g::l::e,o,ty,h,f,c=>by
  have h:(if g.offset=o then(match Z5 P d g.type with
   |some x=>match iK (Z5 P d) (l::e) (o+x.size)with
    |some y=>some (.pair x y)
    |none=>none
   |none=>none)else none)=some ty:=h
  split at h
  .split at h
   .rename_i a n;split at h
    .rename_i b p;rcases av.1 c with rfl|c
     .obtain⟨i,_,j,_⟩:=cX d _ _ n;exact⟨i,j⟩
     .exact Cj (l::e) _ _ p f c
    .cases h
   .cases h
  .cases h
variable (l8:L4 F K w) (hm:l5 F K H w m) (n6:∀x,b9 K H (ev x) (ρ x)) (G2:∀q,k q->∀i,i<q.new.length->H (nx+i)=none)
include n6
theorem qV{t:TypeId}{p:Array Field}(A:P.underlying t=some (.struct p)):∀ (ps:List (Nat×Operand)) (cells:List a7) (cs:Array Value) (b:List a7),c6 K H cells cs.toList->gN P ev t cells ps=some b->
  ∃c,Instr.fill (((p.toList.map fun f=>(f.offset,j9 P f.type)).toArray)[·]?) cs (ps.map fun u=>(u.1,ρ u.2))=some c/\c6 K H b c.toList
 |[],cells,cs,b,l,h=>by
  simp only[gN,ae]at h;subst h;exact⟨cs,rfl,l⟩
 |(i,x)::ps,cells,cs,b,l,h=>by
  simp only[gN]at h;split at h
  .rename_i off size C;split at h
   .rename_i r s;split at h
    .rename_i o;obtain⟨D,j,n,v,rfl,J,E⟩:=qU C;rw[A]at n;cases n;have B:=eN s (aL (P:=P) (t:=gN.HP P t i) (n6 x));have a:=c6.length B;have y:=c6.length l;simp only[bp]at a y;have d:j.offset+(ρ x).cells.toList.length<=cs.size:=by
      rw[bp,a,o.1];omega
     have z:c6 K H (cells.take j.offset++r++cells.drop (j.offset+size)) (H8 cs j.offset (ρ x).cells.toList).toList:=by
      rw[I9 cs _ _ d];have e:j.offset+(ρ x).cells.toList.length=j.offset+size:=by rw[bp,a,o.1]
      rw[e];exact c6.append (c6.append (c6.take _ l) B) (c6.drop _ l)
     obtain⟨c,G,I⟩:=qV A ps _ _ b z h;refine⟨c,?_,I⟩;have g:((p.toList.map fun f=>(f.offset,j9 P f.type)).toArray)[i]? =some (j.offset,j9 P j.type):=by
      simp[v]
     simp only[az,Instr.fill,g];rw[ai ?_]
     .rw[gY];exact G
     .simp only[gp,bt,ke];refine⟨by rw[a,o.1,E];simp,by rw[a,o.1];omega⟩
    .cases h
   .cases h
  .cases h
include l8 hm in
theorem a0j(o:Oper){t:TypeId}{ps:Array (Nat×Operand)}(C:o.op=.build t ps)(h:match P.underlying t with
  |some (.array n e)=>(match Z5 P 8 e with
   |some ty=>if Q0.aH P t ty n/\ps.toList.length=0 then k (.pure (.S3 ty (List.replicate n ty.zero)))else False
   |none=>False)
  |_=>(match Z5 P 8 t with
  |some ty=>if bC P t ty && R0 P t then(match gN P ev t (qF ty) ps.toList with
   |some cells=>k (.pure (.agg cells))
   |none=>False)else False
  |none=>vP P ev t ps.toList (fun v=>k (.pure v)))):J3 P F K H w m nx k ((execOp ρ o).run P w):=by
 have D:(match Z5 P 8 t with
  |some ty=>if(bC P t ty && R0 P t)=true then(match gN P ev t (qF ty) ps.toList with
   |some cells=>k (.pure (.agg cells))
   |none=>False)else False
  |none=>vP P ev t ps.toList (fun v=>k (.pure v)))->(∀n e,P.underlying t≠some (.array n e))->J3 P F K H w m nx k ((execOp ρ o).run P w):=by
  intro h E;split at h
  .rename_i ty r;split at h
   .rename_i j;simp only[ah]at j;split at h
    .rename_i cells G;obtain⟨i,v,u,z,p⟩:=Z9 j.1;obtain⟨d,hd⟩:=OK j.2;cases d<;>simp[R0,hd]at j
     case array n e=>exact absurd hd (E n e)
     case struct y=>
      obtain⟨DV,I,J⟩:=qV n6 hd ps.toList (qF ty) v.cells cells (by rw[p];exact tF ty) G
      have g:∀f∈y.toList,∃i,P.info? f.type=some i:=by
         have b:=r;unfold Z5 at b;rw[u,hd]at b;simp only at b;split at b
         .rename_i a O;exact Cj y.toList 0 a O
         .cases b
      have A:P.built t (ps.map fun(i,x)=>(i,ρ x)).toList=some DV:=by
         unfold Program.built;rw[u,hd];simp only[z,kO y.toList g];rw[<-I];congr 1;simp
      have c:=sw w t (ps.map fun(i,x)=>(i,ρ x)) DV A
      simp only[execOp,C];rw[c8 c];exact r7 l8 hm (by simp only[b9];exact⟨_,rfl,J⟩) h
     all_goals simp_all
    .cases h
   .cases h
  .unfold vP at h;split at h
   .rename_i i y u hd;split at h
    .rename_i v z;split at h
     .rename_i s;split at h
      .rename_i cells G;have j:c6 K H (v.cells.toList.map sS) v.cells.toList:=by
        generalize v.cells.toList=l
        induction l with
        |nil=>exact .nil
        |cons a l L=>exact .cons (qT a) L
       obtain⟨DV,I,J⟩:=qV n6 hd ps.toList _ v.cells cells j G;have g:∀f∈y.toList,∃i,P.info? f.type=some i:=by
        have R:∀ (l:List Field),Dt P l=true->∀f∈l,∃i,P.info? f.type=some i:=by
         intro l
         induction l with
         |nil=>intro _ f s;simp at s
         |cons a l L=>
          intro h f s;simp only[Dt,ah]at h;rcases av.1 s with rfl|s
          .exact dv.1 h.1
          .exact L h.2 f s
        exact R _ s
       have A:P.built t (ps.map fun(i,x)=>(i,ρ x)).toList=some DV:=by
        unfold Program.built;rw[u,hd];simp only[z,kO y.toList g];rw[<-I];congr 1;simp
       have c:=sw w t (ps.map fun(i,x)=>(i,ρ x)) DV A
       simp only[execOp,C];rw[c8 c];exact r7 l8 hm (by simp only[b9];exact⟨_,rfl,J⟩) h
      .cases h
     .cases h
    .cases h
   .cases h
 split at h
 .rename_i n e S;split at h
  .rename_i ty r;split at h
   .rename_i j;obtain⟨i,v,u,z,p⟩:=jD j.1;obtain⟨V,_,M,_⟩:=cX 8 e ty r;have N:ps.toList=[]:=bw j.2;have A:P.built t (ps.map fun(i,x)=>(i,ρ x)).toList=some v.cells:=by
     unfold Program.built;rw[u,S];simp only[z,M];simp[N,Instr.fill]
    have c:=sw w t (ps.map fun(i,x)=>(i,ρ x)) v.cells A
    simp only[execOp,C];rw[c8 c];refine r7 l8 hm ?_ h;have B:=B2.replicate (G1 (K:=K) ty) n;simp only[b9];refine⟨v.cells,rfl,?_,?_⟩
    .have:=B.1;rw[<-p]at this;simpa using this
    .have:=B.elems (rest:=[]);rw[<-p]at this;simpa using this
   .cases h
  .cases h
 .rename_i T;exact D h (fun n e U=>T n e U)
end
end Go.Abs
end
