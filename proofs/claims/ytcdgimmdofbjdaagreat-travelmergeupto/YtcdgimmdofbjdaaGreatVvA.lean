/- The abstract domain of this proof: values that hold the contents of unchanging memory, a small heap of boxed variables, and how they stand to the model's values. -/
import Derived.WalkKit
import Derived.RangeFuncLeaves
set_option linter.all false
open Option renaming some→aa
open Option renaming none→ac
namespace Go.Vv
def tb:=@Option.bind_some
def tu:=@List.getElem?_eq_some_iff
def tx:=@Bool.and_eq_true
def so:=@decide_eq_true_eq
def s5:=@Bool.false_eq_true
def rk:=@List.getElem?_eq_getElem
def pa:=@List.getElem?_append_right
def p5:=@Option.some.injEq
def oa:=@List.length_map
def ob:=@Nat.le_refl
def ol:=@List.getElem?_append_left
def oA:=@List.length_append
def oB:=@List.all_eq_true
def oS:=@if_true
def o4:=@Nat.lt_of_lt_of_le
def o5:=@Int.toNat_natCast
def nr:=@List.length_cons
def nv:=@Nat.le_add_right
def nK:=@if_pos
def n4:=@if_neg
def ma:=@List.mem_append
def mb:=@if_false
def ml:=@List.getElem?_take
def m3:=@Nat.add_sub_cancel_left
def m4:=@List.map_cons
def la:=@List.mem_singleton
def lc:=@List.mem_of_getElem?
def ld:=@List.pairwise_cons
def lf:=@List.append_assoc
def lg:=@Nat.le_trans
def lh:=@List.take_of_length_le
def li:=@List.getElem?_set_self
def lj:=@List.getElem?_drop
def ll:=@List.nil_append
def lm:=@List.length_set
def lq:=@Bool.true_and
def lr:=@Array.getElem?_toList
def lu:=@List.getD_eq_getElem?_getD
def lx:=@List.mem_cons
def ly:=@Bool.not_true
def lz:=@List.mem_iff_getElem?
def lA:=@List.eq_nil_of_length_eq_zero
def lB:=@Bool.and_self
def lC:=@List.length_nil
def lD:=@List.takeWhile_append_dropWhile
def lE:=@Array.getElem?_eq_getElem
def lF:=@List.pairwise_iff_getElem
def lG:=@beq_self_eq_true
def lH:=@List.mem_map
def lI:=@Bool.eq_iff_iff
def lJ:=@decide_eq_true
def lK:=@Option.map_some
def lL:=@decide_eq_false
def lM:=@Bool.false_or
def lN:=@Bool.or_eq_true
def lO:=@List.flatten_cons
def lP:=@Array.getD_eq_getD_getElem?
def lQ:=@List.mem_filter
def lR:=@List.getElem?_set_ne
def lT:=@List.ext_getElem?
def lU:=@List.take_append_of_le_length
def lV:=@Nat.zero_le
def lW:=@List.drop_of_length_le
def lX:=@of_decide_eq_true
def lY:=@Nat.mul_le_mul_right
def lZ:=@List.map_append
def l4:=@Nat.le_of_ble_eq_true
def l5:=@Array.getElem?_eq_some_iff
def l6:=@List.take_add_one
def l7:=@List.all_cons
def l8:=@Nat.zero_add
def l9:=@List.map_nil
def ka:=@Nat.add_mul
def kb:=@Bool.not_eq_true'
def kc:=@List.cons_append
def ke:=@List.length_take
def kf:=@List.drop_drop
def kg:=@List.pairwise_append
def kh:=@Option.bind_eq_some_iff
def ki:=@List.any_eq_false
def kj:=@List.set_cons_succ
def ko:=@List.append_nil
def kp:=@Int.le_refl
def kq:=@List.filter_eq_self
def ku:=@List.takeWhile_cons
def kw:=@Bool.or_eq_false_iff
def kx:=@List.take_append
def ky:=@Option.some.inj
def kz:=@List.pairwise_map
def kA:=@and_true
def kE:=@List.nodup_iff_pairwise_ne
def kF:=@List.takeWhile_prefix
def kG:=@Prod.mk.injEq
def kH:=@List.filter_eq_nil_iff
def kI:=@bne_self_eq_false
def kJ:=@List.set_cons_zero
def kK:=@List.filter_append
def kL:=@List.getElem?_eq_none
def kM:=@List.length_singleton
def kN:=@Bool.or_self
def kO:=@Eq.symm
def kP:=@decide_eq_decide
def kQ:=@List.mem_cons_of_mem
def kR:=@Nat.lt_or_ge
def kS:=@List.foldl_cons
def kT:=@List.filter_cons
def kU:=@Array.toList_append
def kV:=@Classical.choose_spec
def kW:=@List.take_append_drop
def kX:=@Array.all_eq_true_iff_forall_mem
def kY:=@List.map_map
def kZ:=@List.drop_zero
def k8:=@List.mem_cons_self
def k9:=@Bool.and_true
def ja:=@Nat.add_zero
def jc:=@decide_false
def jd:=@List.mem_of_find?_eq_some
def je:=@List.getElem_of_mem
def jf:=@List.flatMap_cons
def jg:=@List.set_append_right
def jh:=@List.length_filter_le
def ji:=@Nat.lt_irrefl
def jk:=@Bool.not_false
def jl:=@List.flatten_append
def jm:=@List.nodup_cons
def jn:=@List.mem_or_eq_of_mem_set
def jo:=@beq_iff_eq
def jp:=@Bool.not_eq_true
def jq:=@Option.getD_some
def js:=@List.find?_eq_none
def jt:=@List.any_eq_true
def ju:=@Nat.succ_mul
def jv:=@List.drop_append_of_le_length
def jw:=@List.filter_congr
def jx:=@List.prefix_iff_eq_take
def jy:=@List.mem_zipIdx_iff_getElem?
def jz:=@Array.length_toList
def jA:=@Nat.add_assoc
def jB:=@decide_true
def jC:=@List.length_drop
def jD:=@List.drop_append
def jE:=@Nat.lt_succ_self
def jF:=@List.getElem_mem
def jG:=@List.filter_filter
def jH:=@List.getElem?_toArray
def jI:=@Nat.ble_eq_true_of_le
def jJ:=@BEq.rfl
def jK:=@List.findIdx?_eq_some_iff_getElem
def jL:=@Classical.byContradiction
def jM:=@List.all_append
def jN:=@and_assoc
def jO:=@Nat.le_succ_of_le
def jP:=@Nat.lt_trichotomy
def jQ:=@List.sum_cons
def jR:=@List.take_succ_cons
def jS:=@List.take_set_of_le
def jT:=@List.drop_set_of_lt
def jU:=@List.replicate_succ
def jV:=@List.map_congr_left
def jW:=@Option.bind_eq_bind
def jX:=@List.length_pos_iff
def jY:=@List.flatMap_append
def jZ:=@List.drop_left
def j0:=@Nat.mul_le_mul
def j3:=@Bool.false_and
def j4:=@List.mapM_cons
def j5:=@and_self
def j6:=@List.take_length
def j7:=@Option.map_eq_some_iff
def j8:=@List.getElem_cons_drop
def j9:=@Nat.min_eq_left
def ia:=@Bool.or_false
def ib:=@Array.getElem?_modify
def ic:=@List.singleton_append
def ie:=@List.getElem?_map
def ig:=@Function.comp_def
def ii:=@Array.toList_setIfInBounds
def ij:=@List.set_append_left
def ik:=@Array.toList_map
def im:=@Bool.or_true
def io:=@Int.natCast_zero
def ip:=@List.mem_flatMap
def iq:=@List.flatMap_nil
def ir:=@List.extract_eq_take_drop
def iu:=@List.drop_eq_getElem_cons
def iv:=@List.map_eq_nil_iff
def iw:=@List.filter_sublist
def iy:=@Option.isSome_iff_exists
def iA:=@List.eq_of_mem_replicate
def iB:=@Option.pure_def
def iC:=@Array.foldl_toList
def iD:=@Nat.eq_zero_or_pos
def iE:=@Array.toList_range
def iF:=@Array.ext_getElem?
def iG:=@Nat.add_sub_cancel
def iH:=@Nat.le_mul_of_pos_right
def iI:=@decide_eq_false_iff_not
def iJ:=@List.getElem?_cons_succ
def iK:=@List.filter_append_perm
def iL:=@Array.size_append
def iM:=@List.size_toArray
def iN:=@Array.getElem?_eq_none
def iO:=@Option.some_or
def iP:=@not_false_eq_true
def iQ:=@Int.toNat_le
def iS:=@UInt8.lt_iff_toNat_lt
def iT:=@List.flatten_nil
def iU:=@List.zipIdx_cons
def iV:=@List.any_cons
def iW:=@Nat.mul_pos
def iX:=@List.contains_eq_mem
def iY:=@true_and
def iZ:=@List.drop_left'
def i3:=@Array.getElem?_setIfInBounds
def i5:=@Except.ok.injEq
def i6:=@Array.getElem?_push
def i7:=@List.getElem?_range
def i8:=@List.drop_succ_cons
def hJ:=@List.mergeSort_perm
def hM:=@List.mem_map_of_mem
def hP:=@Nat.sub_self
def hU:=@implies_true
def hY:=@List.take_left
def hZ:=@List.drop_take
def ga:=@List.zip_cons_cons
def gh:=@List.Perm.refl
def gi:=@Array.getElem?_append_left
def gj:=@List.append_of_mem
def gl:=@Int.toNat_zero
def gm:=@List.getLast?_eq_none_iff
def gn:=@Bool.not_eq_false
def gp:=@Bool.eq_false_iff
def gq:=@List.map_take
def gt:=@List.Pairwise.imp_of_mem
def gu:=@Nat.mod_eq_of_lt
def gw:=@List.mem_flatten
def gy:=@List.getElem?_cons_zero
def gA:=@List.filter_cons_of_pos
def gB:=@Nat.succ_le_succ
def gC:=@List.getLast?_singleton
def gD:=@List.pairwise_mergeSort
def gE:=@Array.ext'
def gF:=@dif_pos
def gG:=@Bool.true_or
def gH:=@List.dropWhile_sublist
def gI:=@List.all_nil
def gJ:=@List.take_left'
def gK:=@List.filter_map
def gL:=@List.find?_cons
def gM:=@List.take_zero
def gN:=@Nat.le_succ
def gO:=@Nat.add_comm
def gP:=@ne_eq
def gQ:=@Nat.le_of_eq
def gR:=@List.any_nil
def gS:=@List.set_set
def gT:=@Int.le_of_lt
def gU:=@gt_iff_lt
open Go
variable{vs:List Value}

inductive AV where
 |bool (b:Bool)
 |int (k:IntKind) (n:Int)
 |str (s:List UInt8)
 |er|ef|fC|eX|fT
 |ptr (id off:Nat)
 |fK (cs:List AV)
 |sl (k:Nat) (es:List (List AV))
 |gW (o:Option Nat) (k:Nat) (es:List (List AV))
 |cu (k id off len:Nat)
 |fo (id t k n:Nat)
 |fW (id t k n p:Nat)
 |ep (id t k n i:Nat)
 |map (id:Nat)
 |fn (f:Fn) (first caps:List AV)
 |iface (t:TypeId) (v:AV)
 |agg (cs:List AV)
 |fl (vs:List AV)
 |de (g:Nat)
 |ca (id:Nat)
 |any
 |ct
 deriving Inhabited

def wb:AV:=.fl []

def AV.one:AV->Bool
 |.agg _|.fl _|.any=>false
 |_=>true

def AV.pure:AV->Bool
 |.bool _|.int _ _|.str _|.er|.ef|.fC|.eX|.sl _ _|.fn _ [] []=>true
 |_=>false
theorem AV.dK{a:AV}(h:a.pure=true):a.one=true:=by
 unfold AV.pure at h;split at h<;>first|rfl|cases h

def AV.cells?:AV->Option (List AV)
 |.agg cs=>aa cs
 |.fl _|.any=>ac
 |v=>aa [v]

inductive q6 where
 |cells (cs:List AV)
 |ec (s:List UInt8) (pos:Nat)
 |loop (st:LoopState) (pe:Option Code) (env:List AV) (ps:Array Tmp) (assign body:Code)
 |q7 (es:List (AV×AV)) (clock:Nat)
 |fF (id n:Nat) (seen:List Nat)
 |eQ
 |row (t k:Nat) (es:List (List AV))
 |other
 |dead
 deriving Inhabited

structure AH where
 zh:List q6
 zs:List Nat
 deriving Inhabited

structure TI where
 n:Nat
 loc:Option (Nat×Nat×Nat)
 row:Bool:=false

structure Gh where
 Φ:Nat->Nat->Option Value
 σ:List (Option Nat)
 τ:List TI
 δ:List Nat

def dv(t:TI)(a:Option Addr)(n c k:Nat):Prop :=
 t.row=false/\n<=t.n/\(n=t.n->c=n \/ ∃b o,a=aa ⟨b,o,ac⟩/\t.loc=aa (b,o+n*k,o+c*k))

def cr(t:TI)(a:Option Addr)(n c k:Nat):Prop :=
 t.row=true/\n<=t.n/\((n=0/\c=0) \/ ∃b o,a=aa ⟨b,o,ac⟩/\(n=t.n->t.loc=aa (b,o+n*k,o+c*k)))
def dJ(t:TI)(b q n k p:Nat):Prop :=
 t.row=true/\n<=t.n/\(n=t.n->∃o e,q=o+p/\t.loc=aa (b,o+n*k,e))

mutual
def V(g:Gh):AV->Value->Prop
 |.bool b,v=>v=.bool b
 |.int k n,v=>v=.int k n
 |.str s,v=>v=.string ⟨s.toArray⟩/\s.length<=maxLen
 |.er,v=>v=.pointer ac
 |.ef,v=>v=.map ac
 |.fC,v=>v=.nilFunc
 |.eX,v=>v=.nilIface
 |.fT,v=>v=.slice ac 0 0
 |.ptr id off,v=>∃c,g.σ[id]?=aa (aa c)/\v=.pointer (aa ⟨c,off,ac⟩)
 |.fK cs,v=>∃b o,v=.pointer (aa ⟨b,o,ac⟩)/\VC g b o cs
 |.sl k es,v=>∃a c,v=.slice a es.length c/\es.length<=c/\c<=maxLen/\(es=[] \/ ∃b o,a=aa ⟨b,o,ac⟩/\VE g b k o es)
 |.gW q k es,v=>∃a c,v=.slice a es.length c/\es.length<=c/\c<=maxLen/\(es=[] \/ ∃b o,a=aa ⟨b,o,ac⟩/\VE g b k o es) /\
   (match q with
       |none=>c=es.length
       |some id=>∃t,g.τ[id]?=aa t/\dv t a es.length c k)
 |.cu _ id off len,v=>∃c cap,g.σ[id]?=aa (aa c)/\v=.slice (aa ⟨c,off,ac⟩) len cap/\len<=cap/\cap<=maxLen
 |.fo _ i k n,v=>∃a c,v=.slice a n c/\n<=c/\c<=maxLen/\∃t,g.τ[i]?=aa t/\cr t a n c k
 |.fW _ i k n p,v=>∃b q,v=.pointer (aa ⟨b,q,ac⟩)/\∃t,g.τ[i]?=aa t/\dJ t b q n k p
 |.ep _ i k n p,v=>∃a c,v=.slice a (n-p) c/\(p<=n/\n<=maxLen)/\∃t,g.τ[i]?=aa t/\(n-p=0 \/ ∃b q,a=aa ⟨b,q,ac⟩/\dJ t b q n k (p*k))
 |.map id,v=>∃c,g.σ[id]?=aa (aa c)/\v=.map (aa c)
 |.fn f first caps,v=>∃fs cs,v=.func f fs cs/\VL g first fs.toList/\VL g caps cs.toList
 |.iface t x,v=>∃u,v=.iface t u/\V g x u
 |.agg cs,v=>∃vs,v=.agg vs/\VA g cs vs.toList
 |.fl xs,v=>∃vs,v=.tuple vs/\VL g xs vs.toList
 |.de n,v=>v=.pointer (aa ⟨n,0,ac⟩)
 |.ca id,v=>∃c,g.σ[id]?=aa (aa c)/\v=.func (.yield c) #[] #[]
 |.any,_=>True
 |.ct,v=>v.oneCell'=true
def VL(g:Gh):List AV->List Value->Prop
 |[],vs=>vs=[]
 |a::r,vs=>∃v s,vs=v::s/\V g a v/\VL g r s
def VA(g:Gh):List AV->List Value->Prop
 |[],vs=>vs=[]
 |a::r,vs=>∃v s,vs=v::s/\(a.one=true/\V g a v)/\VA g r s
def VC(g:Gh)(b:Nat):Nat->List AV->Prop
 |_,[]=>True
 |o,a::r=>(∃v,g.Φ b o=aa v/\a.pure=true/\V g a v)/\VC g b (o+1) r
def VE(g:Gh)(b k:Nat):Nat->List (List AV)->Prop
 |_,[]=>True
 |o,e::r=>(e.length=k/\VC g b o e)/\VE g b k (o+k) r
end


structure Gh.lv(g g':Gh):Prop where
 eK:∀b j v,g.Φ b j=aa v->g'.Φ b j=aa v
 sig:∀(i:Nat)(c:Option Nat),g.σ[i]?=aa c->g'.σ[i]?=aa c
 au:∀(i:Nat)(t:TI),g.τ[i]?=aa t->∃t',g'.τ[i]?=aa t'/\t.n<=t'.n/\(t.n=t'.n->t'=t)/\t'.row=t.row
structure Gh.le(g g':Gh):Prop where
 eK:∀b j v,g.Φ b j=aa v->g'.Φ b j=aa v
 sig:∀(i:Nat)(c:Option Nat),g.σ[i]?=aa c->g'.σ[i]?=aa c
 au:∀(i:Nat)(t:TI),g.τ[i]?=aa t->∃t',g'.τ[i]?=aa t'/\t.n<=t'.n/\(t.n=t'.n->t'=t)/\t'.row=t.row
 del:∀c,c∈g.δ->c∈g'.δ
theorem Gh.le.lv{g g':Gh}(h:g.le g'):g.lv g':=⟨h.eK,h.sig,h.au⟩

theorem Gh.le.refl(g:Gh):g.le g:=⟨λ_ _ _ h=>h,λ_ _ h=>h,λ_ t h=>⟨t,h,ob _,λ_=>rfl,rfl⟩,λ_ h=>h⟩
theorem Gh.le.trans{a b c:Gh}(h:a.le b)(k:b.le c):a.le c :=
 ⟨λx y v e=>k.eK _ _ _ (h.eK x y v e),λi x e=>k.sig _ _ (h.sig i x e),λi t e=>by
  obtain⟨d,p,r,l,o⟩:=h.au i t e;obtain⟨f,m,s,w,s2⟩:=k.au i d p;refine⟨f,m,lg r s,λq=>?_,s2.trans o⟩;have j:t.n=d.n:=by omega
  have:=l j;subst this;exact w q,λc u=>k.del c (h.del c u)⟩

theorem dv.fm{g g':Gh}(h:g.lv g'){id:Nat}{a:Option Addr}{n c k:Nat}(i:∃t,g.τ[id]?=aa t/\dv t a n c k) :
  ∃t,g'.τ[id]?=aa t/\dv t a n c k:=by
 obtain⟨t,d,h0,e,j⟩:=i;obtain⟨t',b,f,l,hs⟩:=h.au _ _ d;refine⟨t',b,hs.trans h0,lg e f,λm=>?_⟩
 grind

theorem cr.fm{g g':Gh}(h:g.lv g'){id:Nat}{a:Option Addr}{n c k:Nat}(m:∃t,g.τ[id]?=aa t/\cr t a n c k) :
  ∃t,g'.τ[id]?=aa t/\cr t a n c k:=by
 obtain⟨t,f,h0,i,e⟩:=m;obtain⟨t',d,j,p,hs⟩:=h.au _ _ f;refine⟨t',d,hs.trans h0,lg i j,e.imp (λh=>h) λ⟨b,o,l,q⟩=>⟨b,o,l,λr=>?_⟩⟩
 grind
theorem dJ.fm{g g':Gh}(h:g.lv g'){id:Nat}{b q n k p:Nat}(f:∃t,g.τ[id]?=aa t/\dJ t b q n k p) :
  ∃t,g'.τ[id]?=aa t/\dJ t b q n k p:=by
 obtain⟨t,c,h0,d,i⟩:=f;obtain⟨t',a,e,j,hs⟩:=h.au _ _ c;refine⟨t',a,hs.trans h0,lg d e,λl=>?_⟩
 grind

mutual
theorem V.fm{g g':Gh}(h:g.lv g'):∀(a:AV)(v:Value),V g a v->V g' a v
 |.bool _,_,hv=>by simpa only[V]using hv
 |.int _ _,_,hv=>by simpa only[V]using hv
 |.str _,_,hv=>by simpa only[V]using hv
 |.er,_,hv=>by simpa only[V]using hv
 |.ef,_,hv=>by simpa only[V]using hv
 |.fC,_,hv=>by simpa only[V]using hv
 |.eX,_,hv=>by simpa only[V]using hv
 |.fT,_,hv=>by simpa only[V]using hv
 |.ptr _ _,_,hv=>by
  simp only[V]at hv ⊢;obtain⟨c,m,e⟩:=hv;exact⟨c,h.sig _ _ m,e⟩
 |.fK cs,_,hv=>by
  simp only[V]at hv ⊢;obtain⟨b,o,e,m⟩:=hv;exact⟨b,o,e,VC.fm h b o cs m⟩
 |.sl k es,_,hv=>by
  simp only[V]at hv ⊢;obtain⟨a,c,e,d,j,l⟩:=hv;exact⟨a,c,e,d,j,l.imp id λ⟨b,o,e,hh⟩=>⟨b,o,e,VE.fm h b k o es hh⟩⟩
 |.gW q k es,_,hv=>by
  simp only[V]at hv ⊢;obtain⟨a,c,e,d,j,l,w⟩:=hv;refine⟨a,c,e,d,j,l.imp id λ⟨b,o,e,hh⟩=>⟨b,o,e,VE.fm h b k o es hh⟩,?_⟩;cases q with
  |none=>exact w
  |some id=>exact dv.fm h w
 |.cu _ _ _ _,_,hv=>by
  simp only[V]at hv ⊢;obtain⟨c,cap,m,e⟩:=hv;exact⟨c,cap,h.sig _ _ m,e⟩
 |.fo _ _ _ _,_,hv=>by
  simp only[V]at hv ⊢;obtain⟨a,c,e,d,j,l⟩:=hv;exact⟨a,c,e,d,j,cr.fm h l⟩
 |.ep _ i k n p,_,hv=>by
  simp only[V]at hv ⊢;obtain⟨a,c,e,d,t,z,l⟩:=hv;rcases l with l|⟨b,q,A,l⟩
  ·obtain⟨t',y,_⟩:=h.au _ _ z
   simp_all
  ·obtain⟨t',y,w⟩:=dJ.fm h ⟨t,z,l⟩
   grind
 |.fW _ _ _ _ _,_,hv=>by
  simp only[V]at hv ⊢;obtain⟨b,q,e,l⟩:=hv;exact⟨b,q,e,dJ.fm h l⟩
 |.map _,_,hv=>by
  simp only[V]at hv ⊢;obtain⟨c,m,e⟩:=hv;exact⟨c,h.sig _ _ m,e⟩
 |.fn f a5 bs,_,hv=>by
  simp only[V]at hv ⊢;obtain⟨fs,cs,e,d,j⟩:=hv;exact⟨fs,cs,e,VL.fm h a5 _ d,VL.fm h bs _ j⟩
 |.iface t x,_,hv=>by
  simp only[V]at hv ⊢;obtain⟨u,e,d⟩:=hv;exact⟨u,e,V.fm h x u d⟩
 |.agg cs,_,hv=>by
  simp only[V]at hv ⊢;obtain⟨vs,e,d⟩:=hv;exact⟨vs,e,VA.fm h cs _ d⟩
 |.fl xs,_,hv=>by
  simp only[V]at hv ⊢;obtain⟨vs,e,d⟩:=hv;exact⟨vs,e,VL.fm h xs _ d⟩
 |.de _,_,hv=>by simpa only[V]using hv
 |.ca _,_,hv=>by
  simp only[V]at hv ⊢;obtain⟨c,m,e⟩:=hv;exact⟨c,h.sig _ _ m,e⟩
 |.any,_,_=>by simp only[V]
 |.ct,_,hv=>by simpa only[V]using hv
theorem VL.fm{g g':Gh}(h:g.lv g'):∀(a5:List AV)(vs:List Value),VL g a5 vs->VL g' a5 vs
 |[],_,hv=>by simpa only[VL]using hv
 |a::r,_,hv=>by
  simp only[VL]at hv ⊢;obtain⟨v,s,e,d,j⟩:=hv;exact⟨v,s,e,V.fm h a v d,VL.fm h r s j⟩
theorem VA.fm{g g':Gh}(h:g.lv g'):∀(a5:List AV)(vs:List Value),VA g a5 vs->VA g' a5 vs
 |[],_,hv=>by simpa only[VA]using hv
 |a::r,_,hv=>by
  simp only[VA]at hv ⊢;obtain⟨v,s,e,⟨h0,d⟩,j⟩:=hv;exact⟨v,s,e,⟨h0,V.fm h a v d⟩,VA.fm h r s j⟩
theorem VC.fm{g g':Gh}(h:g.lv g')(b:Nat):∀(o:Nat)(a5:List AV),VC g b o a5->VC g' b o a5
 |_,[],_=>by simp only[VC]
 |o,a::r,hv=>by
  simp only[VC]at hv ⊢;obtain⟨⟨v,h0,d,j⟩,l⟩:=hv;exact⟨⟨v,h.eK _ _ _ h0,d,V.fm h a v j⟩,VC.fm h b (o+1) r l⟩
theorem VE.fm{g g':Gh}(h:g.lv g')(b k:Nat):∀(o:Nat)(a5:List (List AV)),VE g b k o a5->VE g' b k o a5
 |_,[],_=>by simp only[VE]
 |o,e::r,hv=>by
  simp only[VE]at hv ⊢;obtain⟨⟨h0,d⟩,j⟩:=hv;exact⟨⟨h0,VC.fm h b o e d⟩,VE.fm h b k (o+k) r j⟩
end

theorem dv.mono{g g':Gh}(h:g.le g'){id:Nat}{a:Option Addr}{n c k:Nat}(b:∃t,g.τ[id]?=aa t/\dv t a n c k):∃t,g'.τ[id]?=aa t/\dv t a n c k:=dv.fm h.lv b
theorem V.mono{g g':Gh}(h:g.le g')(a:AV)(v:Value)(b:V g a v):V g' a v:=V.fm h.lv a v b
theorem VL.mono{g g':Gh}(h:g.le g')(a5:List AV)(vs:List Value)(a:VL g a5 vs):VL g' a5 vs:=VL.fm h.lv a5 vs a
theorem VA.mono{g g':Gh}(h:g.le g')(a5:List AV)(vs:List Value)(a:VA g a5 vs):VA g' a5 vs:=VA.fm h.lv a5 vs a
theorem VC.mono{g g':Gh}(h:g.le g')(b:Nat)(o:Nat)(a5:List AV)(a:VC g b o a5):VC g' b o a5:=VC.fm h.lv b o a5 a
theorem VE.mono{g g':Gh}(h:g.le g')(b k:Nat)(o:Nat)(es:List (List AV))(a:VE g b k o es):VE g' b k o es:=VE.fm h.lv b k o es a
theorem Gh.bI(g:Gh)(d:List Nat):g.lv { g with δ:=d }:=⟨λ_ _ _ e=>e,λ_ _ e=>e,λ_ t e=>⟨t,e,ob _,λ_=>rfl,rfl⟩⟩
theorem VL.dd{g:Gh}{d:List Nat}{a5:List AV}(h:VL g a5 vs):VL { g with δ:=d } a5 vs:=VL.fm (g.bI d) _ _ h

section
variable{g:Gh}
theorem VL.length:∀{a5:List AV}{vs:List Value},VL g a5 vs->a5.length=vs.length
 |[],_,h=>by simp only[VL]at h;subst h;rfl
 |_::r,_,h=>by
  simp only[VL]at h;obtain⟨v,s,rfl,_,a⟩:=h;simp[VL.length a]
theorem VA.f8:∀{a5:List AV}{vs:List Value},VA g a5 vs->VL g a5 vs
 |[],_,h=>by simp only[VA]at h;simp only[VL];exact h
 |_::r,_,h=>by
  simp only[VA]at h;obtain⟨v,s,rfl,⟨_,b⟩,a⟩:=h;simp only[VL];exact⟨v,s,rfl,b,VA.f8 a⟩
theorem VA.dj:∀{a5:List AV}{vs:List Value},VA g a5 vs->a5.all AV.one=true
 |[],_,_=>rfl
 |_::r,_,h=>by
  simp only[VA]at h;obtain⟨v,s,rfl,⟨h0,_⟩,a⟩:=h;simp[h0,VA.dj a]
theorem VA.mk:∀{a5:List AV}{vs:List Value},VL g a5 vs->a5.all AV.one=true->VA g a5 vs
 |[],_,h,_=>by simp only[VL]at h;simp only[VA];exact h
 |_::r,_,h,ho=>by
  simp only[VL]at h;obtain⟨v,s,rfl,b,a⟩:=h;simp only[l7,tx]at ho;simp only[VA];exact⟨v,s,rfl,⟨ho.1,b⟩,VA.mk a ho.2⟩
theorem VL.get:∀{a5:List AV}{vs:List Value},VL g a5 vs->∀(i:Nat)(a:AV),a5[i]?=aa a->∃v,vs[i]?=aa v/\V g a v
 |[],_,_,i,a,hi=>by simp at hi
 |_::r,_,h,i,a,hi=>by
  simp only[VL]at h;obtain⟨v,s,rfl,c,b⟩:=h;cases i with
  |zero=>simp at hi;subst hi;exact⟨v,rfl,c⟩
  |succ i=>simpa using VL.get b i a (by simp_all)
theorem VL.zzC:∀{a5:List AV}{vs:List Value},VL g a5 vs->∀(i:Nat)(v:Value),vs[i]?=aa v->∃a,a5[i]?=aa a/\V g a v
 |[],_,h,i,v,hi=>by simp only[VL]at h;subst h;simp at hi
 |a::r,_,h,i,v,hi=>by
  simp only[VL]at h;obtain⟨d,s,rfl,c,b⟩:=h;cases i with
  |zero=>simp at hi;subst hi;exact⟨a,rfl,c⟩
  |succ i=>simpa using VL.zzC b i v (by simp_all)
theorem VL.set:∀{a5:List AV}{vs:List Value},VL g a5 vs->∀(i:Nat)(a:AV) (v:Value),V g a v->VL g (a5.set i a) (vs.set i v)
 |[],_,h,i,a,v,_=>by simp only[VL]at h;subst h;simp[VL]
 |_::r,_,h,i,a,v,hv=>by
  simp only[VL]at h;obtain⟨c,s,rfl,d,b⟩:=h;cases i with
  |zero=>simp only[kJ,VL];exact⟨v,s,rfl,hv,b⟩
  |succ i=>simp only[kj,VL];exact⟨c,_,rfl,d,VL.set b i a v hv⟩
theorem VL.append:∀{a5 bs:List AV}{vs ws:List Value},VL g a5 vs->VL g bs ws->VL g (a5++bs) (vs++ws)
 |[],_,_,_,h,k=>by simp only[VL]at h;subst h;simpa using k
 |_::r,_,_,_,h,k=>by
  simp only[VL]at h;obtain⟨a,s,rfl,c,b⟩:=h;simp only[kc,VL];exact⟨a,_,rfl,c,VL.append b k⟩
theorem VL.take:∀{a5:List AV}{vs:List Value} (n:Nat),VL g a5 vs->VL g (a5.take n) (vs.take n)
 |[],_,n,h=>by simp only[VL]at h;subst h;simp[VL]
 |_::r,_,n,h=>by
  simp only[VL]at h;obtain⟨a,s,rfl,c,b⟩:=h;cases n with
  |zero=>simp[VL]
  |succ n=>simp only[jR,VL];exact⟨a,_,rfl,c,VL.take n b⟩
theorem VL.drop:∀{a5:List AV}{vs:List Value} (n:Nat),VL g a5 vs->VL g (a5.drop n) (vs.drop n)
 |[],_,n,h=>by simp only[VL]at h;subst h;simp[VL]
 |_::r,_,n,h=>by
  have a:=h;simp only[VL]at h;obtain⟨c,s,rfl,d,b⟩:=h;cases n with
  |zero=>simpa using a
  |succ n=>simpa using VL.drop n b
theorem VL.cons{a:AV}{v:Value}{a5:List AV}(h:V g a v)(k:VL g a5 vs):VL g (a::a5) (v::vs):=by
 simp only[VL];exact⟨v,vs,rfl,h,k⟩
theorem zkB{α:Type}{p:α->Bool}{l:List α}(n:Nat)(h:l.all p=true):(l.take n).all p=true:=by
 grind
theorem zkC{α:Type}{p:α->Bool}{l:List α}(n:Nat)(h:l.all p=true):(l.drop n).all p=true:=by
 grind
theorem VA.append{a5 bs:List AV}{vs ws:List Value}(h:VA g a5 vs)(k:VA g bs ws):VA g (a5++bs) (vs++ws) :=
 VA.mk (VL.append h.f8 k.f8) (by rw[jM,h.dj,k.dj];rfl)
theorem VA.take{a5:List AV}{vs:List Value}(n:Nat)(h:VA g a5 vs):VA g (a5.take n) (vs.take n):=VA.mk (VL.take n h.f8) (zkB n h.dj)
theorem VA.drop{a5:List AV}{vs:List Value}(n:Nat)(h:VA g a5 vs):VA g (a5.drop n) (vs.drop n):=VA.mk (VL.drop n h.f8) (zkC n h.dj)

theorem VC.get{b:Nat}:∀{o:Nat}{a5:List AV},VC g b o a5->∀(i:Nat)(a:AV),a5[i]?=aa a->∃v,g.Φ b (o+i)=aa v/\a.pure=true/\V g a v
 |_,[],_,i,a,hi=>by simp at hi
 |o,_::r,h,i,a,hi=>by
  simp only[VC]at h;obtain⟨⟨v,h0,d,c⟩,e⟩:=h;cases i with
  |zero=>simp at hi;subst hi;exact⟨v,h0,d,c⟩
  |succ i =>
   obtain⟨k,f,l,j⟩:=VC.get e i a (by simp_all)
   grind
theorem VC.mk{b:Nat}:∀{o:Nat}{a5:List AV},(∀(i:Nat)(a:AV),a5[i]?=aa a->∃v,g.Φ b (o+i)=aa v/\a.pure=true/\V g a v)->VC g b o a5
 |_,[],_=>by simp only[VC]
 |o,a::r,h=>by
  simp only[VC];refine⟨by simpa using h 0 a rfl,VC.mk (o:=o+1) λi x f=>?_⟩;obtain⟨v,c,e,d⟩:=h (i+1) x (by simp_all)
  grind
theorem VC.drop{b o:Nat}{a5:List AV}(n:Nat)(h:VC g b o a5):VC g b (o+n) (a5.drop n):=VC.mk λi a c=>by
 rw[lj]at c;obtain⟨v,d,e⟩:=h.get _ _ c
 grind
theorem VC.take{b o:Nat}{a5:List AV}(n:Nat)(h:VC g b o a5):VC g b o (a5.take n):=VC.mk λi a c=>by
 rw[ml]at c;split at c
 ·exact h.get _ _ c
 ·cases c
theorem VC.append{b o:Nat}{a5 bs:List AV}(h:VC g b o a5)(k:VC g b (o+a5.length) bs):VC g b o (a5++bs):=VC.mk λi a c=>by
 by_cases hi:i<a5.length
 ·rw[ol hi]at c;exact h.get _ _ c
 ·rw[pa (by omega)]at c;obtain⟨v,d,e⟩:=k.get _ _ c
  grind
theorem VE.get{b k:Nat}:∀{o:Nat}{es:List (List AV)},VE g b k o es->∀(i:Nat)(e:List AV),es[i]?=aa e->e.length=k/\VC g b (o+i*k) e
 |_,[],_,i,e,hi=>by simp at hi
 |o,_::r,h,i,e,hi=>by
  simp only[VE]at h;obtain⟨⟨h0,d⟩,a⟩:=h;cases i with
  |zero=>simp at hi;subst hi;exact⟨h0,by simp_all⟩
  |succ i =>
   obtain⟨c,f⟩:=VE.get a i e (by simp_all)
   grind
theorem VE.mk{b k:Nat}:∀{o:Nat}{es:List (List AV)},(∀(i:Nat)(e:List AV),es[i]?=aa e->e.length=k/\VC g b (o+i*k) e)->VE g b k o es
 |_,[],_=>by simp only[VE]
 |o,e::r,h=>by
  simp only[VE];refine⟨by simpa using h 0 e rfl,VE.mk (o:=o+k) λi x d=>?_⟩;obtain⟨a,c⟩:=h (i+1) x (by simp_all)
  grind
theorem VE.drop{b k o:Nat}{es:List (List AV)}(n:Nat)(h:VE g b k o es):VE g b k (o+n*k) (es.drop n):=VE.mk λi a c=>by
 rw[lj]at c;obtain⟨d,e⟩:=h.get _ _ c
 grind
theorem VE.take{b k o:Nat}{es:List (List AV)}(n:Nat)(h:VE g b k o es):VE g b k o (es.take n):=VE.mk λi a c=>by
 rw[ml]at c;split at c
 ·exact h.get _ _ c
 ·cases c
theorem VE.append{b k o:Nat}{es fs:List (List AV)}(h:VE g b k o es)(d:VE g b k (o+es.length*k) fs):VE g b k o (es++fs):=VE.mk λi a c=>by
 by_cases hi:i<es.length
 ·rw[ol hi]at c;exact h.get _ _ c
 ·rw[pa (by omega)]at c;obtain⟨e,f⟩:=d.get _ _ c;refine⟨e,?_⟩;have:o+i*k=o+es.length*k+(i-es.length)*k:=by
   rw[jA,<- ka];congr 2;omega
  simp_all
end
end Go.Vv
namespace Go.Vv
open Go

def b6:Value->AV
 |.bool b=>.bool b
 |.int k n=>.int k n
 |.string s=>.str s.data.toList
 |.pointer ac=>.er
 |.slice ac 0 0=>.fT
 |.map ac=>.ef
 |.nilFunc=>.fC
 |.nilIface=>.eX
 |_=>wb
def zoM:Value->Bool
 |.bool _|.int _ _|.pointer ac|.slice ac 0 0|.map ac|.nilFunc|.nilIface=>true
 |.string s=>decide (s.size<=maxLen)
 |_=>false
def cv:Value->AV
 |.agg cs=>.agg (cs.toList.map b6)
 |.tuple _=>wb
 |v=>b6 v
def okc:Value->Bool
 |.agg cs=>cs.toList.all zoM
 |.tuple vs=>vs.isEmpty
 |v=>zoM v

def ev(env:List AV):Operand->AV
 |.tmp t=>env.getD t wb
 |.const v=>cv v
 |.global g=>.de g
 |.func f=>.fn (.func f) [] []
def yo:Operand->Bool
 |.const v=>okc v
 |_=>true

def yd:TypeDesc->Bool
 |.struct _|.array _ _=>true
 |_=>false
def w5(P:Program)(t:TypeId):AV->AV
 |.fT=>match P.underlying t with
  |some (.slice e)=>.gW ac (P.cellsOf e) []
  |_=>.fT
 |v=>v
def fw(env:List AV):Option Tmp->AV->List AV
 |some d,v=>env.set d v
 |none,_=>env

inductive Res where
 |ok (v:AV) (h:AH)
 |len (n:Nat) (v:AV) (h:AH)
 |call (f:FuncId) (args:List AV)
 |round (id:Nat) (args:List AV)
 |any (S:AV->AH->Prop)
 |fail

def oo(h:AH):Option AV->Res
 |some v=>.ok v h
 |none=>.fail
def oh(h:Option AH):Res :=
 match h with
 |some h=>.ok wb h
 |none=>.fail
def ovh:Option (AV×AH)->Res
 |some (v,h)=>.ok v h
 |none=>.fail

def AH.g7(h:AH)(id:Nat):Option q6:=h.zh[id]?
def AH.new(h:AH)(b:q6):AH:={ h with zh:=h.zh++[b] }
def AH.put(h:AH)(id:Nat)(b:q6):AH:={ h with zh:=h.zh.set id b }

def sJ(h:AH)(ag:Bool)(n:Nat):AV->Option AV
 |.ptr id off=>match h.g7 id with
  |some (.cells cs)=>if ag then(if off+n<=cs.length then aa (.agg ((cs.drop off).take n))else ac)else cs[off]?
  |_=>ac
 |.fK cs=>if ag then(if n<=cs.length then aa (.agg (cs.take n))else ac)else cs[0]?
 |.fW id t k m p=>match h.g7 id with
  |some (.row t' k' es)=>if t'=t/\k'=k/\es.length=m then(if ag then(if p+n<=es.flatten.length then aa (.agg ((es.flatten.drop p).take n))else ac)else es.flatten[p]?)else ac
  |_=>ac
 |_=>ac
def yX(cs:List AV)(off:Nat)(vs:List AV):List AV:=cs.take off++vs++cs.drop (off+vs.length)
def znX:AV->Option AV
 |.gW _ k es=>aa (.sl k es)
 |.fT=>ac
 |v=>if v.pure then aa v else ac
def xO:List AV->Option (List AV)
 |[]=>aa []
 |a::r=>match znX a,xO r with
  |some a,aa r=>aa (a::r)
  |_,_=>ac
def rows(k:Nat):Nat->List AV->List (List AV)
 |0,_=>[]
 |n+1,cs=>cs.take k::rows k n (cs.drop k)
def mI(h:AH)(n:Nat)(p v:AV):Option AH :=
 match p,v.cells? with
 |.ptr id off,aa vs=>match h.g7 id with
  |some (.cells cs)=>if vs.length=n/\off+n<=cs.length then aa (h.put id (.cells (yX cs off vs)))else ac
  |_=>ac
 |.fW id t k m p,aa vs=>match h.g7 id with
  |some (.row t' k' es)=>if t'=t/\k'=k/\es.length=m/\vs.length=n/\p+n<=es.flatten.length then(match xO vs with
   |some vs=>aa (h.put id (.row t k (rows k m (yX es.flatten p vs))))
   |none=>ac)else ac
  |_=>ac
 |_,_=>ac
def tB(off:Nat):AV->Option AV
 |.ptr id o=>aa (.ptr id (o+off))
 |.fK cs=>aa (.fK (cs.drop off))
 |.fW id t k n p=>aa (.fW id t k n (p+off))
 |_=>ac
def zje(ag:Bool)(off n:Nat):AV->Option AV
 |.agg cs=>if ag then aa (.agg ((cs.drop off).take n))else cs[off]?
 |_=>ac
def qJ(place:Nat->Option (Nat×Nat)):List AV->List (Nat×AV)->Option (List AV)
 |cs,[]=>aa cs
 |cs,(i,v)::r =>
  match place i,v.cells? with
  |some (off,size),aa vs=>if vs.length=size/\off+size<=cs.length then qJ place (yX cs off vs) r else ac
  |_,_=>ac
def zpM:AV->Option Nat
 |.sl _ es|.gW _ _ es=>aa es.length
 |.cu _ _ _ n|.fo _ _ _ n=>aa n
 |.ep _ _ _ n p=>aa (n-p)
 |.fT=>aa 0
 |_=>ac
def tA(k:Nat)(x i:AV):Option AV :=
 match x,i with
 |.sl k' es,.int _ n|.gW _ k' es,.int _ n=>if k'=k/\0<=n then(es[n.toNat]?).map .fK else ac
 |.cu k' id off len,.int _ n=>if k'=k/\0<=n/\n<len then aa (.ptr id (off+n.toNat*k))else ac
 |.fo id t k' m,.int _ n=>if k'=k/\0<=n/\n<m then aa (.fW id t k m (n.toNat*k))else ac
 |.ep id t k' m p,.int _ n=>if k'=k/\0<=n/\n<(m-p:Nat)then aa (.fW id t k m ((p+n.toNat)*k))else ac
 |_,_=>ac
def za8(len k:Nat)(x i:AV):Option AV :=
 match x,i with
 |.ptr id off,.int _ n=>if 0<=n/\n<len then aa (.ptr id (off+n.toNat*k))else ac
 |.fK cs,.int _ n=>if 0<=n/\n<len then aa (.fK (cs.drop (n.toNat*k)))else ac
 |_,_=>ac
def nY(x i:AV):Option AV :=
 match x,i with
 |.str s,.int _ n=>if 0<=n then(s[n.toNat]?).map λb=>.int .u8 b.toNat else ac
 |_,_=>ac
def nZ(ag:Bool)(len k:Nat)(x i:AV):Option AV :=
 match i with
 |.int _ n=>if 0<=n/\n<len then zje ag (n.toNat*k) k x else ac
 |_=>ac
def oD(d:Nat):Option AV->Option Nat
 |none=>aa d
 |some (.int _ n)=>if 0<=n then aa n.toNat else ac
 |_=>ac
def zhU(s:List UInt8)(lo hi:Option AV):Option AV :=
 match oD 0 lo,oD s.length hi with
 |some l,aa h=>if l<=h/\h<=s.length then aa (.str ((s.take h).drop l))else ac
 |_,_=>ac
def nX(full:Bool)(k:Nat)(es:List (List AV))(lo hi mx:Option AV):Option AV :=
 match oD 0 lo,oD es.length hi with
 |some l,aa h =>
  if l<=h/\h<=es.length then
   match mx with
   |none=>aa (if full&&hi.isNone then .gW ac k (es.drop l)else .sl k ((es.take h).drop l))
   |some (.int _ m)=>if m=h/\hi.isSome then aa (.gW ac k ((es.take h).drop l))else ac
   |_=>ac
  else ac
 |_,_=>ac
def zdP(x:AV)(lo hi mx:Option AV):Option AV :=
 match x with
 |.str s=>if mx.isNone then zhU s lo hi else ac
 |.sl k es=>nX false k es lo hi mx
 |.gW o k es=>nX o.isNone k es lo hi mx
 |_=>ac

def xC(op:BinOp)(k:IntKind)(a b:Int):Option AV :=
 match op with
 |.add=>aa (.int k (k.wrap (a+b)))
 |.sub=>aa (.int k (k.wrap (a-b)))
 |.mul=>aa (.int k (k.wrap (a*b)))
 |.quo=>if b=0 then ac else aa (.int k (k.wrap (a.tdiv b)))
 |.rem=>if b=0 then ac else aa (.int k (a.tmod b))
 |.and=>aa (.int k (k.wrap ((BitVec.ofInt k.bits a &&& BitVec.ofInt k.bits b).toNat)))
 |.or=>aa (.int k (k.wrap ((BitVec.ofInt k.bits a ||| BitVec.ofInt k.bits b).toNat)))
 |.xor=>aa (.int k (k.wrap ((BitVec.ofInt k.bits a ^^^ BitVec.ofInt k.bits b).toNat)))
 |.andNot=>aa (.int k (k.wrap ((BitVec.ofInt k.bits a &&& ~~~(BitVec.ofInt k.bits b)).toNat)))
 |.eql=>aa (.bool (a==b))
 |.neq=>aa (.bool (a != b))
 |.lss=>aa (.bool (decide (a<b)))
 |.leq=>aa (.bool (decide (a<=b)))
 |.gtr=>aa (.bool (decide (a > b)))
 |.geq=>aa (.bool (decide (a >= b)))
 |.shl=>if b<0 then ac else aa (.int k (k.wrap (a*2 ^ min b.toNat k.bits)))
 |.shr=>if b<0 then ac else aa (.int k (a.fdiv (2 ^ min b.toNat k.bits)))
def zuM(op:BinOp)(x y:List UInt8):Option AV :=
 match op with
 |.add=>if x.length+y.length<=maxLen then aa (.str (x++y))else ac
 |.eql=>aa (.bool (x==y))
 |.neq=>aa (.bool !(x==y))
 |.lss=>aa (.bool (Op.bytesLess x y))
 |.leq=>aa (.bool (Op.bytesLess x y || x==y))
 |.gtr=>aa (.bool !(Op.bytesLess x y || x==y))
 |.geq=>aa (.bool !(Op.bytesLess x y))
 |_=>ac
inductive Kd where
 |b|i|s
 deriving DecidableEq
def m5:Kd->AV->AV->Option Bool
 |.b,.bool a,.bool b=>aa (a==b)
 |.i,.int k a,.int k' b=>if k=k' then aa (a==b)else ac
 |.s,.str a,.str b=>aa (a==b)
 |_,_,_=>ac
def sN:List Kd->List AV->List AV->Option Bool
 |[],[],[]=>aa true
 |k::ks,a::r,b::s=>match m5 k a b,sN ks r s with
  |some x,aa y=>aa (x&&y)
  |_,_=>ac
 |_,_,_=>ac
def aP:TypeDesc->AV->AV->Option Bool
 |.pointer _,.er,.er|.func _ _ _,.fC,.fC|.map _ _,.ef,.ef=>aa true
 |.pointer _,.er,.ptr _ _|.pointer _,.er,.fK _|.pointer _,.ptr _ _,.er|.pointer _,.fK _,.er=>aa false
 |.func _ _ _,.fC,.fn _ _ _|.func _ _ _,.fn _ _ _,.fC=>aa false
 |.map _ _,.ef,.map _|.map _ _,.map _,.ef=>aa false
 |.slice _,.cu _ _ _ _,.fT=>aa false
 |_,_,_=>ac
def py(P:Program)(f:TypeId->Option (List Kd)):List Field->Nat->Option (List Kd)
 |[],_=>aa []
 |x :: fs, acc => if x.name≠ "_"∧x.offset = acc then(match f x.type, P.info? x.type with
   |some ks,aa i=>if i.size=ks.length then(match py P f fs (acc+i.size)with
    |some r=>aa (ks++r)
    |none=>ac)else ac
   |_,_=>ac)else ac
def wP(P:Program):Nat->TypeId->Option (List Kd)
 |0,_=>ac
 |d+1,t=>match P.underlying t with
  |some .bool=>aa [.b]
  |some (.int _)=>aa [.i]
  |some .string=>aa [.s]
  |some (.struct fs)=>if P.stoodInHeld t then ac else py P (wP P d) fs.toList 0
  |_=>ac
abbrev zcU(P:Program)(d:Nat)(fs:List Field)(acc:Nat):Option (List Kd):=py P (wP P d) fs acc
def zpF(P:Program)(t:TypeId):Option (List Kd) :=
 match P.underlying t with
 |some (.array n e)=>match P.underlying e,P.info? e with
  |some (.int _),aa i=>if i.size=1 then aa (List.replicate n .i)else ac
  |_,_=>ac
 |_=>ac
def c8(P:Program)(t:TypeId)(x y:AV):Option Bool :=
 match x,y with
 |.agg cs,.agg ds=>if P.eqGuardType P.depth t=false/\(P.underlying t).any yd then(match (wP P 6 t).or (zpF P t)with
  |some ks=>sN ks cs ds
  |none=>ac)else ac
 |.bool a,.bool b=>match P.underlying t with
  |some .bool=>aa (a==b)
  |_=>ac
 |x,y=>match P.underlying t with
  |some d=>aP d x y
  |none=>ac
def yL(P:Program)(op:BinOp)(t:TypeId)(x y:AV):Option AV :=
 match x,y with
 |.int k a,.int k' b=>if k=k' \/ op=.shl \/ op=.shr then xC op k a b else ac
 |.str a,.str b=>zuM op a b
 |x,y=>match op with
  |.eql=>(c8 P t x y).map .bool
  |.neq=>(c8 P t x y).map λb=>.bool !b
  |_=>ac
def mU(P:Program)(op:BinOp)(t:TypeId)(h:AH):AV->AV->Option (AV->AH->Prop)
 |.sl _ es,.fT|.gW _ _ es,.fT=>match P.underlying t,op with
  |some (.slice _),.eql=>aa λv h'=>h'=h/\∃b,v=.bool b/\(b=true->es=[])
  |some (.slice _),.neq=>aa λv h'=>h'=h/\∃b,v=.bool (!b)/\(b=true->es=[])
  |_,_=>ac
 |_,_=>ac
theorem zlr{P:Program}{op:BinOp}{t:TypeId}{h:AH}{x y v:AV}(b:yL P op t x y=aa v):mU P op t h x y=ac:=by
 unfold mU;split
 ·rename_i k es;split
  ·rename_i a;simp[yL,c8,a,aP]at b
  ·rename_i a;simp[yL,c8,a,aP]at b
  ·rfl
 ·rename_i q k es;split
  ·rename_i a;simp[yL,c8,a,aP]at b
  ·rename_i a;simp[yL,c8,a,aP]at b
  ·rfl
 ·rfl
def zxl(P:Program)(op:BinOp)(t:TypeId)(oy:Operand)(a b:AV):Option AV :=
 match P.underlying t,oy,a,b with
 |some (.interface _),.const .nilIface,.eX,.eX=>(match op with
  |.eql=>aa (.bool true)
  |.neq=>aa (.bool false)
  |_=>ac)
 |some (.interface _),.const .nilIface,.iface _ _,.eX=>(match op with
  |.eql=>aa (.bool false)
  |.neq=>aa (.bool true)
  |_=>ac)
 |_,_,_,_=>ac
def aUn(op:UnOp):AV->Option AV
 |.int k n=>match op with
  |.neg=>aa (.int k (k.wrap (0-n)))
  |.xor=>aa (.int k (k.wrap ((BitVec.ofInt k.bits (if k.signed then -1 else k.max) ^^^ BitVec.ofInt k.bits n).toNat)))
  |_=>ac
 |.bool b=>match op with
  |.not=>aa (.bool !b)
  |_=>ac
 |_=>ac
def zcz(d:TypeDesc):AV->Option AV
 |.int _ n=>match d with
  |.int k=>aa (.int k (k.wrap n))
  |_=>ac
 |.str s=>match d with
  |.string=>aa (.str s)
  |_=>ac
 |_=>ac

def lim:Nat:=2147483648
def AH.grow(h:AH)(o:Option Nat)(n m:Nat):Option (Nat×AH) :=
 match o with
 |none=>aa (h.zs.length,{ h with zs:=h.zs++[n+m] })
 |some id=>if h.zs[id]?=aa n then aa (id,{ h with zs:=h.zs.set id (n+m) })else ac
def pq(h:AH)(k:Nat)(s:AV)(ys:List (List AV)):Option (AV×AH) :=
 match s with
 |.gW o k' es =>
  if ys.length=0 then(match o with
   |none=>aa (.gW (aa h.zs.length) k' es,{ h with zs:=h.zs++[es.length] })
   |some id=>aa (.gW (aa id) k' es,h))else
  if k'=k/\es.length+ys.length<=lim then
   match h.grow o es.length ys.length with
   |some (id,h')=>aa (.gW (aa id) k (es++ys),h')
   |none=>ac
  else ac
 |.fo id t k' n=>if ys.length=0 then aa (.fo id t k' n,h)else(match h.g7 id with
  |some (.row t' k'' es)=>if(t'=t/\k'=k/\k''=k)/\es.length=n/\h.zs[t]?=aa n/\n+ys.length<=lim then
    aa (.fo id t k (n+ys.length),{ h.put id (.row t k (es++ys))with zs:=h.zs.set t (n+ys.length) })else ac
  |_=>ac)
 |_=>ac
def oU(k:Nat):AV->Option (List (List AV))
 |.sl k' es|.gW _ k' es=>if k'=k then aa es else ac
 |.str s=>if k=1 then aa (s.map λb=>[.int .u8 b.toNat])else ac
 |_=>ac
def aMM(mx:Bool):AV->List AV->Option AV
 |v,[]=>aa v
 |.int k a,.int k' b::r=>if k=k' then aMM mx (.int k (if mx then(if b > a then b else a)else(if b<a then b else a))) r else ac
 |_,_=>ac

def uu(P:Program)(h:AH)(b:Builtin)(ts:List TypeId)(args:List AV):Res :=
 match b,ts,args with
 |.len,[t],[x]=>match P.underlying t with
  |some .string=>match x with
   |.str s=>.len s.length (.int .i64 s.length) h
   |_=>.fail
  |some (.slice _)=>match zpM x with
   |some n=>.len n (.int .i64 n) h
   |none=>.fail
  |some (.map _ _)=>match x with
   |.map id=>match h.g7 id with
    |some (.q7 es _)=>.any λv h'=>h'=h/\v=.int .i64 es.length
    |_=>.fail
   |_=>.fail
  |_=>.fail
 |.append,[t,u],[s,x]=>match P.underlying t,P.underlying u with
  |some (.slice e),aa (.slice _)|some (.slice e),aa .string=>match P.info? e with
   |some i=>if i.bytes<=65536/\0<i.size/\(i.zero.map (·.cells.size))=aa i.size then(match oU i.size (w5 P u x)with
    |some ys=>ovh (pq h i.size (w5 P t s) ys)
    |none=>.fail)else .fail
   |none=>.fail
  |_,_=>.fail
 |.min,_,x::r=>oo h (aMM false x r)
 |.max,_,x::r=>oo h (aMM true x r)
 |_,_,_=>.fail

def rX(P:Program)(t:TypeId)(f:Nat):Option (Nat×TypeId) :=
 match P.underlying t with
 |some (.struct fs)=>(fs[f]?).map λx=>(x.offset,x.type)
 |_=>ac
def zfP(P:Program):Nat->TypeId->List TypeId
 |0,_=>[]
 |d+1,t=>match P.underlying t with
  |some (.struct fs)=>fs.toList.flatMap λf=>zfP P d f.type
  |some (.array n e)=>(List.replicate n (zfP P d e)).flatten
  |_=>[t]
def oc(P:Program):List TypeId->List AV->List AV
 |t::ts,a::a5=>w5 P t a::oc P ts a5
 |_,a5=>a5
def yY(P:Program)(t:TypeId):Option (List AV) :=
 match P.info? t with
 |some i=>match i.zero with
  |some z=>if okc z then(match (cv z).cells? with
   |some cs=>aa (oc P (zfP P 6 t) cs)
   |none=>ac)else ac
  |none=>ac
 |none=>ac
def zbm(P:Program)(fs:Array Field):Option (List (Nat×Nat)):=fs.toList.mapM λf=>(P.info? f.type).map λi=>(f.offset,i.size)
def zjL(d:TypeDesc)(i:Nat):TypeId :=
 match d with
 |.struct fs=>((fs[i]?).map (·.type)).getD 0
 |.array _ e|.slice e=>e
 |_=>0
def xS(P:Program)(d:TypeDesc)(env:List AV)(parts:Array (Nat×Operand)):List (Nat×AV):=parts.toList.map λp=>(p.1,w5 P (zjL d p.1) (ev env p.2))

def dec(s:List UInt8)(pos:Nat):Nat×Nat:=Utf8.decode ⟨s.toArray⟩ pos
def zpL(h:AH):AV->Res
 |.ptr id 0=>match h.g7 id with
  |some (.ec s pos)=>if pos<s.length then .ok (.fl [.bool true,.int .i64 pos,.int .i32 (dec s pos).1]) (h.put id (.ec s (pos+(dec s pos).2)))else .ok (.fl [.bool false]) h
  |_=>.fail
 |_=>.fail

def xp(P:Program)(kt:TypeId)(a b:AV):Option Bool :=
 match P.underlying kt with
 |some .bool=>m5 .b a b
 |some (.int _)=>m5 .i a b
 |some .string=>m5 .s a b
 |some (.struct _)=>match a,b with
  |.agg cs,.agg ds=>(match wP P 6 kt with
   |some ks=>sN ks cs ds
   |none=>ac)
  |_,_=>ac
 |_=>ac
def sK(P:Program)(kt:TypeId)(k:AV):List (AV×AV)->Nat->Option (Option (Nat×AV))
 |[],_=>aa ac
 |e::r,i=>match xp P kt k e.1 with
  |some true=>aa (aa (i,e.2))
  |some false=>sK P kt k r (i+1)
  |none=>ac
def zpJ(P:Program)(t:TypeId):Option AV :=
 match P.info? t with
 |some i=>match i.zero with
  |some z=>if okc z then(match cv z with
   |.agg cs=>aa (.agg (oc P (zfP P 6 t) cs))
   |v=>aa (w5 P t v))else ac
  |none=>ac
 |none=>ac
def AV.zc1:AV->AV
 |.gW _ k es=>.sl k es
 |v=>v
def AV.cV:AV->AV
 |.agg cs=>.agg (cs.map AV.zc1)
 |v=>v
def ut(P:Program)(t:TypeId):Option AV:=(zpJ P t).map AV.cV
def t6(ok:Bool)(v:AV)(b:Bool):AV:=if ok then .fl [v,.bool b]else v
def oV(P:Program)(h:AH)(kt et:TypeId)(ok:Bool)(m k:AV):Option AV :=
 if xp P kt k k=aa true then(match m with
  |.ef=>(ut P et).map λz=>t6 ok z false
  |.map id=>match h.g7 id with
   |some (.q7 es _)=>match sK P kt k es 0,ut P et with
    |some (aa (_,v)),_=>aa (t6 ok v true)
    |some ac,aa z=>aa (t6 ok z false)
    |_,_=>ac
   |_=>ac
  |_=>ac)else ac
def zhW(P:Program)(h:AH)(kt et:TypeId)(m k:AV):Option (AV×AH) :=
 if xp P kt k k=aa true then(match m with
  |.map id=>match h.g7 id with
   |some (.q7 es 0)=>match sK P kt k es 0,ut P et with
    |some (aa (i,v)),_=>aa (.fl [v,.int .i64 i],h)
    |some ac,aa z=>aa (.fl [z,.int .i64 es.length],h.put id (.q7 (es++[(k,z)]) 0))
    |_,_=>ac
   |_=>ac
  |_=>ac)else ac
def pb(h:AH)(m s x:AV):Option AH :=
 match m,s with
 |.map id,.int _ n=>match h.g7 id with
  |some (.q7 es 0)=>if 0<=n then(match es[n.toNat]? with
   |some e=>aa (h.put id (.q7 (es.set n.toNat (e.1,x.cV)) 0))
   |none=>ac)else ac
  |_=>ac
 |_,_=>ac
def zbJ(P:Program)(h:AH)(kt:TypeId)(m k x:AV):Option AH :=
 if xp P kt k k=aa true then(match m with
  |.map id=>match h.g7 id with
   |some (.q7 es c)=>match sK P kt k es 0 with
    |some (aa (i,_))=>aa (h.put id (.q7 (es.set i (k,x.cV)) c))
    |some ac=>aa (h.put id (.q7 (es++[(k,x.cV)]) c))
    |none=>ac
   |_=>ac
  |_=>ac)else ac

def zhV(P:Program)(h:AH)(t:TypeId)(v:AV)(name:String):Option (FuncId×AV) :=
 match P.info? t with
 |some i=>match i.methods.toList.find? (λm=>m.name==name)with
  |some m=>if m.path.isEmpty then(match m.func with
   |some (f,p)=>match P.underlying t,p with
    |some (.pointer _),true=>aa (f,v)
    |some (.pointer e),false=>match v,P.underlying e,P.info? e with
     |.ptr id off,aa d,aa j=>(sJ h (yd d) j.size (.ptr id off)).map λx=>(f,w5 P e x)
     |_,_,_=>ac
    |some _,false=>aa (f,v)
    |_,_=>ac
   |none=>ac)else ac
  |none=>ac
 |none=>ac
def zj(P:Program)(o:Oper)(env:List AV)(h:AH):Res :=
 match o.op with
 |.move x|.assign x=>if yo x then .ok (w5 P o.type (ev env x)) h else .fail
 |.pick c a b=>if yo a&&yo b&&yo c then(match ev env c with
  |.bool t=>.ok (if t then ev env a else ev env b) h
  |_=>.fail)else .fail
 |.alloc t=>match yY P t with
  |some cs=>.ok (.ptr h.zh.length 0) (h.new (.cells cs))
  |none=>.fail
 |.box t x=>if yo x then(match (w5 P t (ev env x)).cells? with
  |some cs=>.ok (.ptr h.zh.length 0) (h.new (.cells cs))
  |none=>.fail)else .fail
 |.build t parts=>if parts.all λp=>yo p.2 then(match P.underlying t,yY P t with
  |some (.struct fs),aa z=>match zbm P fs with
   |some pl=>oo h ((qJ (λi=>pl[i]?) z (xS P (.struct fs) env parts)).map .agg)
   |none=>.fail
  |some (.array n e),aa z=>match P.info? e with
   |some j=>oo h ((qJ (λi=>aa (i*j.size,j.size)) z (xS P (.array n e) env parts)).map .agg)
   |none=>.fail
  |_,_=>.fail)else .fail
 |.load t a=>match P.underlying t,P.info? t with
  |some d,aa i=>oo h ((sJ h (yd d) i.size (ev env a)).map (w5 P t))
  |_,_=>.fail
 |.store t a x=>if yo x then(match P.info? t with
  |some i=>oh (mI h i.size (ev env a) (w5 P t (ev env x)))
  |none=>.fail)else .fail
 |.nilCheck x=>if yo x then(match ev env x with
  |.ptr id o=>.ok (.ptr id o) h
  |.fK cs=>.ok (.fK cs) h
  |.fW id t k n p=>.ok (.fW id t k n p) h
  |.fn (.func f) a b=>.ok (.fn (.func f) a b) h
  |_=>.fail)else .fail
 |.binOp op t x y _=>if yo x&&yo y then(match mU P op t h (ev env x) (ev env y)with
  |some S=>.any S
  |none=>oo h ((yL P op t (ev env x) (ev env y)).or (zxl P op t y (ev env x) (ev env y))))else .fail
 |.unOp op _ x=>if yo x then oo h (aUn op (ev env x))else .fail
 |.convert s t x=>if yo x then(match P.underlying s,P.underlying t with
  |some _,aa d=>oo h (zcz d (ev env x))
  |_,_=>.fail)else .fail
 |.makeFunc f a b=>if a.all yo&&b.all yo then .ok (.fn f (a.toList.map (ev env)) (b.toList.map (ev env))) h else .fail
 |.slice t x lo hi mx=>if yo x&&lo.all yo&&hi.all yo&&mx.all yo then(match P.underlying t with
  |some .string=>match ev env x with
   |.str s=>oo h (zdP (.str s) (lo.map (ev env)) (hi.map (ev env)) (mx.map (ev env)))
   |_=>.fail
  |some (.slice e)=>match P.info? e with
   |some i=>match w5 P t (ev env x)with
    |.sl k es=>if k=i.size then oo h (zdP (.sl k es) (lo.map (ev env)) (hi.map (ev env)) (mx.map (ev env)))else .fail
    |.gW q k es=>if k=i.size then oo h (zdP (.gW q k es) (lo.map (ev env)) (hi.map (ev env)) (mx.map (ev env)))else .fail
    |_=>.fail
   |none=>.fail
  |some (.array n e)=>match P.info? e with
   |some i=>match ev env x,lo.map (ev env),hi,mx with
    |.ptr id off,aa (.int _ l),ac,ac=>if 0<=l/\l<n/\n<=maxLen then .ok (.cu i.size id (off+l.toNat*i.size) (n-l.toNat)) h else .fail
    |_,_,_,_=>.fail
   |none=>.fail
  |_=>.fail)else .fail
 |.fieldAddr t x f=>match rX P t f with
  |some (off,u)=>match P.info? u with
   |some i=>if i.size=0 \/ yo x=false then .fail else oo h (tB off (ev env x))
   |none=>.fail
  |none=>.fail
 |.field t x f=>match rX P t f with
  |some (off,u)=>match P.underlying u,P.info? u with
   |some d,aa i=>if yo x then oo h ((zje (yd d) off i.size (ev env x)).map (w5 P u))else .fail
   |_,_=>.fail
  |none=>.fail
 |.indexAddr t x i=>if yo x&&yo i then(match P.underlying t with
  |some (.slice e)=>match P.info? e with
   |some j=>oo h (tA j.size (ev env x) (ev env i))
   |none=>.fail
  |some (.array n e)=>match P.info? e with
   |some j=>oo h (za8 n j.size (ev env x) (ev env i))
   |none=>.fail
  |_=>.fail)else .fail
 |.index t x i=>if yo x&&yo i then(match P.underlying t with
  |some .string=>oo h (nY (ev env x) (ev env i))
  |some (.array n e)=>match P.underlying e,P.info? e with
   |some d,aa j=>oo h ((nZ (yd d) n j.size (ev env x) (ev env i)).map (w5 P e))
   |_,_=>.fail
  |_=>.fail)else .fail
 |.extract t i=>if yo t then(match ev env t with
  |.fl vs=>oo h ((vs[i]?).map (w5 P o.type))
  |_=>.fail)else .fail
 |.buildSlice t n parts=>if parts.all λp=>yo p.2 then(match P.underlying t with
  |some (.slice e)=>match P.info? e,yY P e with
   |some i,aa z=>if 0<i.size/\n*i.size<=65536/\z.length=i.size then
     (match (qJ (λj=>aa (j*i.size,i.size)) ((List.replicate n z).flatten) (xS P (.slice e) env parts))with
           |some cs=>match xO cs with
             |some cs=>.ok (.gW ac i.size (rows i.size n cs)) h
             |none=>.fail
           |none=>.fail)else .fail
   |_,_=>.fail
  |_=>.fail)else .fail
 |.call c=>if c.args.all yo&&c.args.size==c.argTypes.size then(match c.callee with
  |.builtin b=>uu P h b c.argTypes.toList (c.args.toList.map (ev env))
  |.value f=>if yo f=false then .fail else match ev env f with
   |.fn (.func g) first caps=>.call g (first++(c.args.toList.zip c.argTypes.toList).map (λp=>w5 P p.2 (ev env p.1))++caps)
   |.ca id=>.round id ((c.args.toList.zip c.argTypes.toList).map (λp=>w5 P p.2 (ev env p.1)))
   |_=>.fail
  |.invoke x name=>if yo x=false then .fail else match ev env x with
   |.iface t v=>match zhV P h t v name with
    |some (g,b)=>.call g (b::(c.args.toList.zip c.argTypes.toList).map (λp=>w5 P p.2 (ev env p.1)))
    |none=>.fail
   |_=>.fail)else .fail
 |.range t x=>if yo x then(match P.underlying t,ev env x with
  |some .string,.str s=>.ok (.ptr h.zh.length 0) (h.new (.ec s 0))
  |_,_=>.fail)else .fail
 |.next x str=>if yo x&&str then zpL h (ev env x)else .fail
 |.makeMap _ ac=>.ok (.map h.zh.length) (h.new (.q7 [] 0))
 |.lookup t x i ok=>if yo x&&yo i then(match P.underlying t with
  |some (.map kt et)=>oo h (oV P h kt et ok (ev env x) (ev env i))
  |_=>.fail)else .fail
 |.mapEntry t x i=>if yo x&&yo i then(match P.underlying t with
  |some (.map kt et)=>ovh (zhW P h kt et (ev env x) (ev env i))
  |_=>.fail)else .fail
 |.entryStore _ x i y=>if yo x&&yo i&&yo y then oh (pb h (ev env x) (ev env i) (ev env y))else .fail
 |.mapUpdate t x i y=>if yo x&&yo i&&yo y then(match P.underlying t with
  |some (.map kt _)=>oh (zbJ P h kt (ev env x) (ev env i) (ev env y))
  |_=>.fail)else .fail
 |_=>.fail

end Go.Vv
namespace Go.Vv
open Go Go.RowKit

def ME(g:Gh):List (AV×AV)->List MapEntry->Prop
 |[],es=>es=[]
 |(k,x)::r,es=>∃e s,es=e::s/\V g k e.key/\V g x e.val/\ME g r s

theorem ME.mono{g g':Gh}(h:g.le g'):∀(a5:List (AV×AV)) (vs:List MapEntry),ME g a5 vs->ME g' a5 vs
 |[],_,hv=>by simpa only[ME]using hv
 |(k,x)::r,_,hv=>by
  simp only[ME]at hv ⊢;obtain⟨e,s,rfl,b,a,c⟩:=hv;exact⟨e,s,rfl,b.mono h,a.mono h,ME.mono h r s c⟩

theorem VA.dd{g:Gh}{d:List Nat}{a5:List AV}{vs:List Value}(h:VA g a5 vs):VA { g with δ:=d } a5 vs:=VA.fm (g.bI d) _ _ h
theorem ME.dd{g:Gh}{d:List Nat}:∀{a5:List (AV×AV)} {vs:List MapEntry},ME g a5 vs->ME { g with δ:=d } a5 vs
 |[],_,hv=>by simpa only[ME]using hv
 |(k,x)::r,_,hv=>by
  simp only[ME]at hv ⊢;obtain⟨e,s,rfl,b,a,c⟩:=hv;exact⟨e,s,rfl,V.fm (g.bI d) _ _ b,V.fm (g.bI d) _ _ a,ME.dd c⟩
def eD(g:Gh)(w:World)(c:Nat):q6->Prop
 |.cells cs=>∃vs t,w.heap[c]?=aa (.cells vs t (0,0))/\VA g cs vs.toList
 |.ec s pos=>w.heap[c]?=aa (.stringIter ⟨s.toArray⟩ pos)
 |.q7 es clock=>∃ents n,w.heap[c]?=aa (.map ents n)/\ME g es ents.toList/\(clock=0->n=ents.size/\∀(i:Nat)(e:MapEntry),ents[i]?=aa e->e.born=i)
 |.loop st pe env ps assign body=>∃fn tmps d,w.heap[c]?=aa (.loop { state:=st,pending:=pe,fn,tmps,params:=ps,assign,body,defers:=d })/\VL g env tmps.toList
 |.row _ _ _=>False
 |.fF id n seen=>∃m,g.σ[id]?=aa (aa m)/\w.heap[c]?=aa (.mapIter (aa m) n seen.toArray n)
 |.eQ=>w.heap[c]?=aa (.mapIter ac 0 #[] 0)
 |.other|.dead=>True
def eA(g:Gh)(w:World)(i k:Nat)(es:List (List AV)):Prop :=
 ∃t,g.τ[i]?=aa t/\t.row=true/\t.n=es.length/\(∀e∈es,e.length=k)/\es.flatten.all AV.pure=true/\(es=[] \/ ∃b o e cs ty,t.loc=aa (b,o+es.length*k,e) /\
  w.heap[b]?=aa (.cells cs ty (0,0))/\VA g es.flatten ((cs.toList.drop o).take (es.length*k))/\o+es.length*k<=cs.size/\∀j,o<=j->g.Φ b j=ac)
def dP(g:Gh)(w:World):q6->Prop
 |.row i k es=>eA g w i k es
 |.dead=>True
 |_=>False

theorem eD.mono{g g':Gh}{w w':World}{c:Nat}{k:q6}(h:g.le g')(f:w'.heap[c]?=w.heap[c]?)(b:eD g w c k):eD g' w' c k:=by
 cases k with
 |cells cs=>obtain⟨vs,t,e,a⟩:=b;exact⟨vs,t,f.trans e,a.mono h⟩
 |ec s pos=>exact f.trans b
 |q7 es clock=>obtain⟨ents,n,e,a,i⟩:=b;exact⟨ents,n,f.trans e,a.mono h,i⟩
 |loop st pe env ps assign body=>obtain⟨fn,tmps,d,e,a⟩:=b;exact⟨fn,tmps,d,f.trans e,a.mono h⟩
 |row _ _ _=>exact b
 |fF id n seen=>obtain⟨m,e,a⟩:=b;exact⟨m,h.sig _ _ e,f.trans a⟩
 |eQ=>exact f.trans b
 |other=>trivial
 |dead=>trivial
theorem eA.mono{g g':Gh}{w w':World}{i k:Nat}{es:List (List AV)}(h:g.le g')(d:g'.τ[i]?=g.τ[i]?)
  (p:∀t b x,g.τ[i]?=aa t->t.row=true->t.loc=aa (b,x)->w'.heap[b]?=w.heap[b]?/\∀j,g'.Φ b j=g.Φ b j) (q:eA g w i k es):eA g' w' i k es:=by
 obtain⟨t,c,a,r,f,m,s⟩:=q;refine⟨t,d.trans c,a,r,f,m,s.imp id ?_⟩
 rintro⟨b,o,e,cs,ty,k1,k2,k3,v,n⟩
 obtain⟨l,y⟩:=p t b _ c a k1;exact⟨b,o,e,cs,ty,k1,l.trans k2,k3.mono h,v,λj u=>(y j).trans (n j u)⟩
theorem dP.mono{g g':Gh}{w w':World}{k:q6}(h:g.le g')(f:∀(i:Nat)(t:TI),g.τ[i]?=aa t->t.row=true->g'.τ[i]?=aa t)
  (d:∀(i:Nat) t b x,g.τ[i]?=aa t->t.row=true->t.loc=aa (b,x)->w'.heap[b]?=w.heap[b]?/\∀j,g'.Φ b j=g.Φ b j) (a:dP g w k):dP g' w' k:=by
 cases k with
 |row i k es =>
  have a:eA g w i k es:=a;obtain⟨t,c,e,_⟩:=id a;exact a.mono h ((f i t c e).trans c.symm) (d i)
 |dead=>trivial
 |_=>exact a.elim

structure ed(Φ:Nat->Nat->Option Value)(B:Nat)(w:World)(b l e:Nat):Prop where
 lo:B<=b
 lt:b<w.heap.size
 cells:∃cs ty,w.heap[b]?=aa (.cells cs ty (0,0))/\e<=cs.size
 free:∀j,l<=j->Φ b j=ac

theorem ed.mono{Φ Φ':Nat->Nat->Option Value}{B:Nat}{w w':World}{b l e:Nat}(h:ed Φ B w b l e)(k:w.heap.size<=w'.heap.size)(c:w'.heap[b]?=w.heap[b]?)
  (d:∀j,l<=j->Φ' b j=Φ b j):ed Φ' B w' b l e :=
 ⟨h.lo,o4 h.lt k,by obtain⟨cs,ty,i,f⟩:=h.cells;exact⟨cs,ty,c.trans i,f⟩,λj a=>(d j a).trans (h.free j a)⟩

structure Rel(B:Nat)(w0:World)(g:Gh)(h:AH)(w:World):Prop where
 below:Below B w0 w
 dA:B<=w.heap.size
 eK:∀b j v,g.Φ b j=aa v->w.cell? ⟨b,j,ac⟩=aa v
 fi:g.σ.length=h.zh.length
 g7:∀(i c:Nat)(k:q6),g.σ[i]?=aa (aa c)->h.zh[i]?=aa k->B<=c/\c<w.heap.size/\eD g w c k/\(k≠.dead->∀j,g.Φ c j=ac)
 fA:g.τ.length=h.zs.length
 tok:∀(i:Nat)(t:TI),g.τ[i]?=aa t->h.zs[i]?=aa t.n/\∀b l e,t.loc=aa (b,l,e)->ed g.Φ B w b l e
 eF:∀(i j c:Nat),g.σ[i]?=aa (aa c)->g.σ[j]?=aa (aa c)->i=j
 fS:∀(i j:Nat)(t t':TI) (b:Nat) (x y:Nat×Nat),g.τ[i]?=aa t->g.τ[j]?=aa t'->t.loc=aa (b,x)->t'.loc=aa (b,y)->i=j
 sep:∀(i c j:Nat)(t:TI) (b:Nat) (x:Nat×Nat),g.σ[i]?=aa (aa c)->g.τ[j]?=aa t->t.loc=aa (b,x)->b≠c
 eJ:∀c,c∈g.δ->B<=c/\w.heap[c]?=aa (.deferred (aa []))/\∀i:Nat,g.σ[i]?≠aa (aa c)
 row:∀(i:Nat)(k:q6),g.σ[i]?=aa ac->h.zh[i]?=aa k->dP g w k
 fX:∀(i j t k k':Nat)(es es':List (List AV)),h.zh[i]?=aa (.row t k es)->h.zh[j]?=aa (.row t k' es')->i=j

section
variable{B:Nat}{w0 w:World}{g:Gh}{h:AH}

theorem Rel.em(r:Rel B w0 g h w){b j:Nat}{v:Value}(e:g.Φ b j=aa v):b<w.heap.size:=World.block_lt_of_cell? w ⟨b,j,ac⟩ (r.eK b j v e)

theorem Rel.drew(r:Rel B w0 g h w):Rel B w0 g h w.drew :=
 ⟨r.below.drew,r.dA,r.eK,r.fi,λi c k p d=>by obtain⟨f,a,o,m⟩:=r.g7 i c k p d;exact⟨f,a,o.mono (Gh.le.refl g) rfl,m⟩,r.fA,
   λi t j=>by obtain⟨f,a⟩:=r.tok i t j;exact⟨f,λb l e n=>(a b l e n).mono (ob _) rfl λ_ _=>rfl⟩,r.eF,r.fS,r.sep,r.eJ,λi k hi d=>(r.row i k hi d).mono (Gh.le.refl g) (λ_ _ h _=>h) (λ_ _ _ _ _ _ _=>⟨rfl,λ_=>rfl⟩),r.fX⟩
theorem Rel.d8(r:Rel B w0 g h w){c:Nat}(a:c∈g.δ):c<w.heap.size:=(l5.1 (r.eJ c a).2.1).1

theorem Rel.eS(r:Rel B w0 g h w)(o:Obj):Rel B w0 g h (w.alloc o) :=
 ⟨r.below.alloc r.dA o,by have:=r.dA;simp;omega,λb j v e=>(World.cell?_alloc_lt w o ⟨b,j,ac⟩ (r.em e)).trans (r.eK b j v e),r.fi,
   λi c k a n=>by
     obtain⟨p,d,s,q⟩:=r.g7 i c k a n;exact⟨p,by simp;omega,s.mono (Gh.le.refl g) (Below.heap_alloc w o c d),q⟩,r.fA,
   λi t m=>by
     obtain⟨p,d⟩:=r.tok i t m;exact⟨p,λb l e f=>(d b l e f).mono (by simp) (Below.heap_alloc w o b (d b l e f).lt) λ_ _=>rfl⟩,r.eF,r.fS,r.sep,λc a=>⟨(r.eJ c a).1,(Below.heap_alloc w o c (r.d8 a)).trans (r.eJ c a).2.1,(r.eJ c a).2.2⟩,λi k hi n=>(r.row i k hi n).mono (Gh.le.refl g) (λ_ _ h _=>h) (λi t b x m _ f=>⟨Below.heap_alloc w o b ((r.tok i t m).2 b x.1 x.2 f).lt,λ_=>rfl⟩),r.fX⟩

def Gh.ft(g:Gh)(c:Option Nat):Gh:={ g with σ:=g.σ++[c] }
theorem Gh.fd(g:Gh)(c:Option Nat):g.le (g.ft c) :=
 ⟨λ_ _ _ e=>e,λi x e=>by
  have:i<g.σ.length:=(tu.1 e).1;simp only[Gh.ft];rw[ol this];exact e,λ_ t e=>⟨t,e,ob _,λ_=>rfl,rfl⟩,λ_ h=>h⟩
theorem fM{g:Gh}{c x:Option Nat}{i:Nat}(e:(g.ft c).σ[i]?=aa x):g.σ[i]?=aa x \/ (i=g.σ.length/\x=c):=by
 simp only[Gh.ft]at e
 grind

theorem Rel.zzK(r:Rel B w0 g h w){c:Nat}(k:q6)(E:B<=c)(F:c<w.heap.size)(s:eD (g.ft (aa c)) w c k)(l:∀j,g.Φ c j=ac)
  (hs:∀(i x:Nat),g.σ[i]?=aa (aa x)->x≠c) (z:∀(i:Nat)(t:TI) (b:Nat) (x:Nat×Nat),g.τ[i]?=aa t->t.loc=aa (b,x)->b≠c) (q:c∉g.δ) :
  Rel B w0 (g.ft (aa c)) (h.new k) w :=
 ⟨r.below,r.dA,r.eK,by simp[Gh.ft,AH.new,r.fi],λi x k' d a=>by
   have f:=r.fi;rcases fM d with d|⟨rfl,n⟩
   ·have hi:i<h.zh.length:=by rw[<- f];exact(tu.1 d).1
    simp only[AH.new]at a;rw[ol hi]at a;obtain⟨C,v,D,A⟩:=r.g7 i x k' d a;exact⟨C,v,D.mono (g.fd _) rfl,A⟩
   ·obtain rfl:=ky n;simp only[AH.new]at a;rw[f,pa (ob _)]at a;simp at a;subst a;exact⟨E,F,s,λ_=>l⟩,r.fA,r.tok,
  λi j x hi m=>by
   rcases fM hi with hi|⟨rfl,u⟩<;>rcases fM m with m|⟨rfl,e⟩
   ·exact r.eF i j x hi m
   ·exact absurd (ky e) (hs i x hi)
   ·exact absurd (ky u) (hs j _ m)
   ·rfl,
  r.fS,λi x j t b y d o p=>by
   rcases fM d with d|⟨rfl,n⟩
   ·exact r.sep i x j t b y d o p
   ·obtain rfl:=ky n;exact z j t b y o p,
  λx d=>⟨(r.eJ x d).1,(r.eJ x d).2.1,λi hi=>by
   rcases fM hi with hi|⟨_,n⟩
   ·exact(r.eJ x d).2.2 i hi
   ·obtain rfl:=ky n;exact q d⟩,
  λi k' hi a=>by
   rcases fM hi with hi|⟨_,n⟩
   ·have p:i<h.zh.length:=by rw[<- r.fi];exact(tu.1 hi).1
    simp only[AH.new]at a;rw[ol p]at a;exact(r.row i k' hi a).mono (g.fd _) (λ_ _ h _=>h) (λ_ _ _ _ _ _ _=>⟨rfl,λ_=>rfl⟩)
   ·exact absurd n (by simp),
  λi j t k1 k2 es es' hi m=>by
   have G:∀t k1 es,k≠.row t k1 es:=by rintro t k1 es rfl;exact s
   simp only[AH.new]at hi m;have key:∀(i t k1:Nat)(es:List (List AV)),(h.zh++[k])[i]?=aa (.row t k1 es)->h.zh[i]?=aa (.row t k1 es):=by
    intro i t k1 es hi
    grind
   exact r.fX i j t k1 k2 es es' (key _ _ _ _ hi) (key _ _ _ _ m)⟩

theorem Rel.dD(r:Rel B w0 g h w)(o:Obj)(k:q6)(c:eD (g.ft (aa w.heap.size)) (w.alloc o) w.heap.size k):Rel B w0 (g.ft (aa w.heap.size)) (h.new k) (w.alloc o) :=
 (r.eS o).zzK k r.dA (by simp) c
  (λj=>by
   rcases he:g.Φ w.heap.size j with _|v
   ·rfl
   ·exact absurd (r.em he) (ji _))
  (λi x a e=>by
   have hi:i<h.zh.length:=by rw[<- r.fi];exact(tu.1 a).1
   have:=(r.g7 i x _ a (rk hi)).2.1;omega)
  (λi t b x f d e=>by
   have:=((r.tok i t f).2 b x.1 x.2 d).lt;omega)
  (λl=>ji _ (r.d8 l))

theorem Rel.d6(r:Rel B w0 g h w){cs:List AV}{vs:Array Value}(t:TypeId)(a:VA g cs vs.toList) :
  Rel B w0 (g.ft (aa w.heap.size)) (h.new (.cells cs)) (w.alloc (.cells vs t)) :=
 r.dD _ _ ⟨vs,t,heap_alloc_new w _,a.mono (g.fd _)⟩

def Gh.cW(g:Gh)(b:Nat)(f:Nat->Option Value):Gh:={ g with Φ:=λb' j=>if b'=b then(match g.Φ b j with|some v=>aa v|none=>f j)else g.Φ b' j }
theorem Gh.dF(g:Gh)(b:Nat)(f:Nat->Option Value):g.le (g.cW b f) :=
 ⟨λa j v e=>by
  simp only[Gh.cW];by_cases hb:a=b
  ·subst hb;simp[e]
  ·simp[hb,e],λ_ _ e=>e,λ_ t e=>⟨t,e,ob _,λ_=>rfl,rfl⟩,λ_ h=>h⟩

theorem Rel.cW(r:Rel B w0 g h w){b:Nat}{f:Nat->Option Value}(A:∀j v,f j=aa v->w.cell? ⟨b,j,ac⟩=aa v)
  (hs:∀(i c:Nat),g.σ[i]?=aa (aa c)->h.zh[i]?≠aa .dead->c≠b)
  (u:∀(i:Nat)(t:TI) (l e:Nat),g.τ[i]?=aa t->t.loc=aa (b,l,e)->t.row=false/\∀j,l<=j->f j=ac):Rel B w0 (g.cW b f) h w :=
 ⟨r.below,r.dA,λd j v e=>by
   simp only[Gh.cW]at e;by_cases hb:d=b
   ·subst hb;simp only[oS]at e;split at e
    ·rename_i E D;cases e;exact r.eK _ _ _ D
    ·exact A j v e
   ·simp only[hb,mb]at e;exact r.eK _ _ _ e,r.fi,
  λi c k s n=>by
   obtain⟨p,m,C,y⟩:=r.g7 i c k s n;refine⟨p,m,C.mono (g.dF b f) rfl,λhd j=>?_⟩;have a:c≠b:=hs i c s (by rw[n];intro e;injection e with e;exact hd e);simp only[Gh.cW,a,mb];exact y hd j,r.fA,
  λi t hi=>by
   obtain⟨p,m⟩:=r.tok i t hi;refine⟨p,λd l e o=>(m d l e o).mono (ob _) rfl λj q=>?_⟩;simp only[Gh.cW];by_cases hb:d=b
   ·subst hb;simp only[oS,(m d l e o).free j q];exact(u i t l e hi o).2 j q
   ·simp only[hb,mb],r.eF,r.fS,r.sep,r.eJ,
  λi k hi n=>(r.row i k hi n).mono (g.dF b f) (λ_ _ h _=>h) (λi t d x z F o=>⟨rfl,λj=>by
   have a:d≠b:=by
    rintro rfl
    grind
   simp only[Gh.cW,a,mb]⟩),r.fX⟩

theorem Rel.newRow(r:Rel B w0 g h w)(vs:Array Value)(t:TypeId)(n:Nat) :
  Rel B w0 (g.cW w.heap.size λj=>if j<n then vs[j]? else ac) h (w.alloc (.cells vs t)) :=
 (r.eS _).cW (λj v e=>by
   split at e
   ·simp_all
   ·cases e)
  (λi c a _ e=>by
   have hi:i<h.zh.length:=by rw[<- r.fi];exact(tu.1 a).1
   have:=(r.g7 i c _ a (rk hi)).2.1;omega)
  (λi t l e d b=>by
   have:=((r.tok i t d).2 _ l e b).lt;omega)

theorem Rel.putObj(r:Rel B w0 g h w){i c:Nat}{k k':q6}(y:g.σ[i]?=aa (aa c))(O:h.zh[i]?=aa k)(hd:k≠.dead){w':World}(N:w'.os=w.os)(L:w'.tape=w.tape)
  (F:w'.output=w.output) (K:w'.heap.size=w.heap.size) (d:∀b,b≠c->w'.heap[b]?=w.heap[b]?) (M:eD g w' c k'):Rel B w0 g (h.put i k') w':=by
 obtain⟨T,P,_,p⟩:=r.g7 i c k y O;refine⟨⟨N.trans r.below.os,L.trans r.below.tape,F.trans r.below.output,by rw[K];exact r.below.size,λb Q=>(d b (by omega)).trans (r.below.block b Q)⟩,
  by omega,λb j v e=>?_,by simp[AH.put,r.fi],λn G I z f=>?_,r.fA,λn t C=>?_,r.eF,r.fS,r.sep,λx E=>⟨(r.eJ x E).1,(d x (by rintro rfl;exact(r.eJ x E).2.2 i y)).trans (r.eJ x E).2.1,(r.eJ x E).2.2⟩,λn q s J=>?_,λu H t k1 k2 es es' m A=>?_⟩
 ·have o:b≠c:=by rintro rfl;rw[p hd j]at e;cases e
  exact(World.cell?_of_block (w:=w) (w':=w') (a:=⟨b,j,ac⟩) (d b o)).trans (r.eK b j v e)
 ·simp only[AH.put]at f;by_cases hi:n=i
  ·grind
  ·rw[lR (λe=>hi e.symm)]at f;obtain⟨m,A,S,R⟩:=r.g7 n G I z f;have o:G≠c:=by rintro rfl;exact hi (r.eF _ _ _ z y)
   exact⟨m,by omega,S.mono (Gh.le.refl g) (d G o),R⟩
 ·obtain⟨m,A⟩:=r.tok n t C;refine⟨m,λb l e D=>(A b l e D).mono (by omega) (d b ?_) λ_ _=>rfl⟩;exact r.sep i c n t b (l,e) y C D
 ·have hi:n≠i:=by rintro rfl;rw[y]at s;cases s
  simp only[AH.put]at J;rw[lR (λe=>hi e.symm)]at J;exact(r.row n q s J).mono (Gh.le.refl g) (λ_ _ h _=>h) (λH t b x C _ D=>⟨d b (r.sep i c H t b x y C D),λ_=>rfl⟩)
 ·have key:∀(u t k1:Nat)(es:List (List AV)),(h.zh.set i k')[u]?=aa (.row t k1 es)->h.zh[u]?=aa (.row t k1 es):=by
   intro u t k1 es m;by_cases hi:u=i
   ·subst hi;rw[li (tu.1 O).1]at m;injection m with m;subst m;exact M.elim
   ·grind
  exact r.fX u H t k1 k2 es es' (key _ _ _ _ m) (key _ _ _ _ A)
end
end Go.Vv
