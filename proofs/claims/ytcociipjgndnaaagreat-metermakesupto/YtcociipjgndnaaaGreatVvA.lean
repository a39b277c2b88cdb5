/- The abstract domain of this proof: values that hold the contents of unchanging memory, a small heap of boxed variables, and how they stand to the model's values. -/
import Derived.WalkKit
import Derived.RangeFuncLeaves
namespace Go.Vv
def ua:=@Option.bind_some
def uc:=@List.getElem?_eq_some_iff
def ud:=@Bool.and_eq_true
def ue:=@List.set_cons_succ
def uf:=@List.set_cons_zero
def ug:=@List.getElem?_eq_getElem
def uh:=@Nat.le_refl
def ui:=@List.getElem?_append_right
def uj:=@List.getElem?_append_left
def uk:=@List.length_cons
def ul:=@Bool.false_eq_true
def um:=@decide_eq_true_eq
def un:=@Option.some.injEq
def uo:=@List.length_append
def up:=@if_pos
def uq:=@Nat.add_sub_cancel_left
def ur:=@List.getD_eq_getElem?_getD
def ut:=@if_true
def uu:=@if_neg
def uv:=@Array.getElem?_toList
def uw:=@List.getElem?_take
def ux:=@List.all_eq_true
def uy:=@List.append_assoc
def uz:=@List.length_map
def uA:=@List.getElem?_set_self
def uB:=@Int.toNat_natCast
def uC:=@List.map_cons
def uD:=@List.mem_cons
def uE:=@decide_eq_true
def uF:=@List.getElem?_drop
def uG:=@if_false
def uH:=@Array.getElem?_eq_getElem
def uI:=@List.length_set
def uJ:=@Bool.eq_iff_iff
def uK:=@List.getElem?_set_ne
def uL:=@List.mem_singleton
def uM:=@List.take_of_length_le
def uN:=@List.mem_of_getElem?
def uO:=@List.set_append_right
def uP:=@List.eq_nil_of_length_eq_zero
def uQ:=@Array.getElem?_eq_some_iff
def uR:=@List.mem_append
def uS:=@decide_eq_false
def uT:=@Int.le_refl
def uU:=@Nat.le_trans
def uV:=@List.length_nil
def uW:=@List.pairwise_cons
def uX:=@Bool.true_and
def uY:=@List.take_append_of_le_length
def uZ:=@Nat.zero_add
def u2:=@beq_self_eq_true
def u5:=@Bool.and_self
def u6:=@List.nil_append
def u7:=@Option.map_some
def u9:=@Array.getD_eq_getD_getElem?
def tb:=@Nat.add_mul
def tc:=@List.all_cons
def te:=@Bool.and_eq_false_iff
def tf:=@List.mem_filter
def tg:=@Bool.not_true
def th:=@List.getElem?_eq_none
def tj:=@List.mem_iff_getElem?
def tm:=@of_decide_eq_true
def tn:=@Bool.or_eq_true
def tp:=@List.filter_append
def tq:=@List.flatten_cons
def tr:=@Bool.false_or
def tu:=@List.ext_getElem?
def tv:=@Bool.not_eq_true'
def tw:=@Nat.mul_le_mul_right
def tx:=@Option.bind_eq_some_iff
def tz:=@Nat.lt_or_ge
def tA:=@List.append_nil
def tB:=@List.drop_drop
def tC:=@List.pairwise_iff_getElem
def tD:=@List.all_append
def tE:=@List.map_nil
def tF:=@List.mem_map
def tG:=@Prod.mk.injEq
def tH:=@List.filter_eq_nil_iff
def tI:=@List.drop_of_length_le
def tJ:=@List.mem_cons_of_mem
def tK:=@Nat.zero_le
def tL:=@List.filter_cons
def tM:=@Nat.add_assoc
def tN:=@Classical.choose_spec
def tO:=@List.flatten_append
def tP:=@List.filter_eq_self
def tQ:=@List.takeWhile_append_dropWhile
def tR:=@List.pairwise_append
def tS:=@List.cons_append
def tT:=@List.mem_zipIdx_iff_getElem?
def tU:=@List.getElem_mem
def tV:=@Array.getElem?_eq_none
def tW:=@and_true
def tX:=@List.flatMap_cons
def tY:=@List.mem_cons_self
def tZ:=@List.sum_cons
def t6:=@Nat.add_sub_cancel
def t7:=@Array.toList_append
def t8:=@Array.length_toList
def sa:=@List.takeWhile_cons
def sd:=@List.take_append
def se:=@List.length_take
def sf:=@List.take_length
def sg:=@decide_eq_false_iff_not
def si:=@List.take_add_one
def sj:=@Bool.and_true
def sm:=@List.any_eq_false
def sn:=@Nat.succ_mul
def so:=@Nat.lt_of_lt_of_le
def sq:=@List.drop_zero
def sr:=@List.length_filter_le
def su:=@Nat.eq_zero_or_pos
def sx:=@beq_iff_eq
def sy:=@Int.fdiv_eq_ediv_of_nonneg
def sA:=@Nat.add_zero
def sB:=@List.length_drop
def sC:=@Nat.le_add_right
def sD:=@Array.ext'
def sE:=@List.getElem?_toArray
def sF:=@Array.getElem?_modify
def sG:=@List.take_append_drop
def sH:=@Nat.lt_irrefl
def sI:=@List.foldl_cons
def sJ:=@List.map_append
def sK:=@decide_false
def sL:=@Bool.or_eq_false_iff
def sM:=@and_assoc
def sN:=@List.findIdx?_eq_some_iff_getElem
def sO:=@List.drop_left
def sP:=@Option.map_eq_some_iff
def sQ:=@Array.all_eq_true_iff_forall_mem
def sR:=@Bool.not_false
def sS:=@List.take_succ_cons
def sU:=@Option.some.inj
def sV:=@Eq.symm
def sW:=@List.flatten_nil
def sX:=@Nat.lt_succ_self
def sY:=@List.drop_append_of_le_length
def sZ:=@decide_true
def s5:=@List.getElem?_map
def s6:=@List.getElem?_cons_succ
def s7:=@bne_self_eq_false
def s8:=@Nat.min_eq_left
def s9:=@List.cons.injEq
def ra:=@Nat.one_ne_zero
def rb:=@List.map_congr_left
def rd:=@List.length_pos_iff
def re:=@List.getElem_cons_drop
def rf:=@Array.ext_getElem?
def rg:=@Nat.ble_eq_true_of_le
def rh:=@List.extract_eq_take_drop
def ri:=@List.drop_eq_getElem_cons
def rj:=@List.getElem?_set
def rk:=@List.set_append_left
def rl:=@Function.comp_def
def rm:=@Nat.le_succ_of_le
def rn:=@Array.getElem?_setIfInBounds_ne
def rp:=@List.replicate_succ
def rq:=@Array.getElem?_push
def rt:=@List.getElem?_range
def ru:=@Option.bind_eq_bind
def rx:=@Bool.false_and
def ry:=@List.mapM_cons
def rz:=@List.drop_append
def rB:=@decide_eq_decide
def rC:=@Nat.sub_self
def rD:=@List.find?_eq_none
def rE:=@Except.ok.injEq
def rF:=@List.length_singleton
def rG:=@Nat.le_of_ble_eq_true
def rH:=@UInt8.lt_iff_toNat_lt
def rI:=@List.size_toArray
def rJ:=@Nat.mul_le_mul
def rK:=@Array.toList_setIfInBounds
def rL:=@Array.getElem?_append_left
def rM:=@Array.toList_map
def rN:=@List.map_map
def rO:=@Bool.not_eq_true
def rP:=@List.any_eq_true
def rQ:=@List.all_nil
def rR:=@List.mem_of_find?_eq_some
def rS:=@List.getElem_append_right
def rT:=@List.take_set_of_le
def rU:=@List.drop_set_of_lt
def rV:=@beq_eq_false_iff_ne
def rW:=@List.getElem_append_left
def rX:=@Option.pure_def
def rY:=@Array.foldl_toList
def rZ:=@Array.toList_range
def r6:=@List.zip_cons_cons
def r7:=@List.filter_filter
def pa:=@Int.sub_add_cancel
def pb:=@Nat.le_mul_of_pos_right
def pc:=@List.getElem?_cons_zero
def pd:=@List.filter_append_perm
def pf:=@List.filter_cons_of_pos
def pg:=@List.filter_cons_of_neg
def ph:=@Array.size_append
def pi:=@not_false_eq_true
def pj:=@List.take_take
def pk:=@and_self
def pm:=@List.filter_congr
def pn:=@List.take_succ_eq_append_getElem
def po:=@List.getElem_take
def pp:=@List.getElem_drop
def pq:=@Array.eq_empty_of_size_eq_zero
def pr:=@Option.getD_some
def pt:=@Int.natCast_zero
def pu:=@Bool.or_false
def pw:=@List.mem_of_mem_take
def px:=@Array.toList_extract
def py:=@List.drop_left'
def pz:=@List.nodup_cons
def pA:=@List.find?_cons
def pB:=@Int.le_of_lt
def pC:=@Bool.or_self
def pD:=@List.take_left
def pE:=@List.drop_take
def pF:=@Option.some_or
def pG:=@of_decide_eq_false
def pH:=@List.take_zero
def pI:=@decide_eq_true_iff
def pJ:=@List.nodup_iff_pairwise_ne
def pK:=@List.append_of_mem
def pL:=@Int.lt_or_gt_of_ne
def pM:=@List.mem_or_eq_of_mem_set
def pN:=@Decidable.byContradiction
def pO:=@List.getLast?_eq_none_iff
def pP:=@List.getLast?_eq_getElem?
def pQ:=@Nat.mul_pos
def pR:=@List.length_range
def pU:=@Option.isSome_iff_exists
def pV:=@List.map_take
def pW:=@List.any_cons
def pX:=@List.Pairwise.imp_of_mem
def pY:=@List.zipIdx_cons
def pZ:=@Nat.mod_eq_of_lt
def p4:=@List.mem_flatten
def p5:=@Nat.succ_le_succ
def p6:=@List.getLast?_singleton
def p7:=@List.append_cancel_left
def p8:=@Nat.add_comm
def p9:=@dif_pos
def oa:=@bne_iff_ne
def oc:=@Array.toList_replicate
def od:=@Bool.or_true
def og:=@List.dropWhile_sublist
def oj:=@Int.toNat_le
def ol:=@List.take_left'
def om:=@Bool.and_false
def oq:=@Nat.min_def
def ot:=@Int.toNat_zero
def ou:=@true_and
def ov:=@List.any_nil
def ow:=@Bool.true_or
def oz:=@Nat.min_self
def oA:=@ne_eq
def oB:=@BEq.rfl
open Go

inductive AV where
 | bool (b:Bool)
 | int (k:IntKind) (n:Int)
 | str (s:List UInt8)
 | nilp | nilm | nilf | nili | nilsl
 | ptr (id off:Nat)
 | fptr (cs:List AV)
 | sl (k:Nat) (es:List (List AV))
 | osl (o:Option Nat) (k:Nat) (es:List (List AV))
 | msl (k id off len:Nat)
 | rsl (id t k n:Nat)
 | rptr (id t k n p:Nat)
 | rsuf (id t k n i:Nat)
 | map (id:Nat)
 | fn (f:Fn) (first caps:List AV)
 | iface (t:TypeId) (v:AV)
 | agg (cs:List AV)
 | tup (vs:List AV)
 | glob (g:Nat)
 | yld (id:Nat)
 | bsl (k:Nat) (es:List (List AV))
 | nsl (k:Nat) (es:List (List AV))
 | gsl (k n:Nat)
 | gptr (m:Nat)
 | any
 | opq
 deriving Inhabited

def aundef:AV:=.tup []

def AV.one:AV->Bool
 | .agg _ | .tup _ | .any=>false
 | _=>true

def AV.pure:AV->Bool
 | .bool _ | .int _ _ | .str _ | .nilp | .nilm | .nilf | .nili | .sl _ _ | .bsl _ _ | .nsl _ _ | .gsl _ _ | .fn _ [] []=>true
 | _=>false
theorem AV.one_of_pure {a:AV} (h:a.pure=true):a.one=true:=by
 unfold AV.pure at h;split at h <;> first | rfl | cases h

def AV.cells?:AV->Option (List AV)
 | .agg cs=>some cs
 | .tup _ | .any=>none
 | v=>some [v]

inductive Blk where
 | cells (cs:List AV)
 | siter (s:List UInt8) (pos:Nat)
 | loop (st:LoopState) (pe:Option Code) (env:List AV) (ps:Array Tmp) (assign body:Code)
 | mapo (es:List (AV×AV)) (clock:Nat)
 | miter (id n:Nat) (seen:List Nat)
 | miter0
 | row (t k:Nat) (es:List (List AV))
 | other
 | dead
 deriving Inhabited

structure AH where
 blks:List Blk
 toks:List Nat
 deriving Inhabited

structure TI where
 n:Nat
 loc:Option (Nat×Nat×Nat)
 row:Bool:=false

inductive BK where
 | new (s:Nat)
 | gar (s:Nat)
 | shut (o:Obj)
 | frz (o:Obj)
structure Gh where
 Φ:Nat->Nat->Option Value
 σ:List (Option Nat)
 τ:List TI
 δ:List Nat
 N:Nat->Option BK:=λ_=>none
 O:Nat->Prop:=λ_=>False

def capOk (t:TI) (a:Option Addr) (n c k:Nat):Prop :=
 t.row=false/\n<=t.n/\(n=t.n->c=n \/ ∃b o,a=some ⟨b,o,none⟩/\t.loc=some (b,o+n * k,o+c * k))

def rowHd (t:TI) (a:Option Addr) (n c k:Nat):Prop :=
 t.row=true/\n<=t.n/\((n=0/\c=0) \/ ∃b o,a=some ⟨b,o,none⟩/\(n=t.n->t.loc=some (b,o+n * k,o+c * k)))
def rowPt (t:TI) (b q n k p:Nat):Prop :=
 t.row=true/\n<=t.n/\(n=t.n->∃o e,q=o+p/\t.loc=some (b,o+n * k,e))

mutual
def V (g:Gh):AV->Value->Prop
 | .bool b,v=>v=.bool b
 | .int k n,v=>v=.int k n
 | .str s,v=>v=.string ⟨s.toArray⟩/\s.length<=maxLen
 | .nilp,v=>v=.pointer none
 | .nilm,v=>v=.map none
 | .nilf,v=>v=.nilFunc
 | .nili,v=>v=.nilIface
 | .nilsl,v=>v=.slice none 0 0
 | .ptr id off,v=>∃c,g.σ[id]?=some (some c)/\v=.pointer (some ⟨c,off,none⟩)
 | .fptr cs,v=>∃b o,v=.pointer (some ⟨b,o,none⟩)/\VC g b o cs
 | .sl k es,v=>∃a c,v=.slice a es.length c/\es.length<=c/\c<=maxLen/\(es=[] \/ ∃b o,a=some ⟨b,o,none⟩/\VE g b k o es)
 | .osl q k es,v=>∃a c,v=.slice a es.length c/\es.length<=c/\c<=maxLen/\(es=[] \/ ∃b o,a=some ⟨b,o,none⟩/\VE g b k o es) /\
   (match q with
       | none=>c=es.length
       | some id=>∃t,g.τ[id]?=some t/\capOk t a es.length c k)
 | .msl _ id off len,v=>∃c cap,g.σ[id]?=some (some c)/\v=.slice (some ⟨c,off,none⟩) len cap/\len<=cap/\cap<=maxLen
 | .rsl _ i k n,v=>∃a c,v=.slice a n c/\n<=c/\c<=maxLen/\∃t,g.τ[i]?=some t/\rowHd t a n c k
 | .rptr _ i k n p,v=>∃b q,v=.pointer (some ⟨b,q,none⟩)/\∃t,g.τ[i]?=some t/\rowPt t b q n k p
 | .rsuf _ i k n p,v=>∃a c,v=.slice a (n - p) c/\(p<=n/\n<=maxLen)/\∃t,g.τ[i]?=some t/\(n - p=0 \/ ∃b q,a=some ⟨b,q,none⟩/\rowPt t b q n k (p * k))
 | .map id,v=>∃c,g.σ[id]?=some (some c)/\v=.map (some c)
 | .fn f first caps,v=>∃fs cs,v=.func f fs cs/\VL g first fs.toList/\VL g caps cs.toList
 | .iface t x,v=>∃u,v=.iface t u/\V g x u
 | .agg cs,v=>∃vs,v=.agg vs/\VA g cs vs.toList
 | .tup xs,v=>∃vs,v=.tuple vs/\VL g xs vs.toList
 | .glob n,v=>v=.pointer (some ⟨n,0,none⟩)
 | .yld id,v=>∃c,g.σ[id]?=some (some c)/\v=.func (.yield c) #[] #[]
 | .bsl k es,v=>∃a c,v=.slice a es.length c/\es.length<=c/\c<=maxLen/\(es=[] \/ ∃b o,a=some ⟨b,o,none⟩/\VE g b k o es/\g.O b)
 | .nsl k es,v=>∃a c,v=.slice a es.length c/\es.length<=c/\c<=maxLen/\(es=[] \/ ∃b o,a=some ⟨b,o,none⟩/\VE g b k o es/\∃s,g.N b=some (.new s))
 | .gsl k n,v=>∃a c,v=.slice a n c/\n<=c/\c<=maxLen/\(n=0 \/ ∃b o s,a=some ⟨b,o,none⟩/\g.N b=some (.gar s)/\o+n * k<=s)
 | .gptr m,v=>∃b o s,v=.pointer (some ⟨b,o,none⟩)/\g.N b=some (.gar s)/\o+m<=s
 | .any,_=>True
 | .opq,v=>v.oneCell'=true
def VL (g:Gh):List AV->List Value->Prop
 | [],vs=>vs=[]
 | a::r,vs=>∃v s,vs=v::s/\V g a v/\VL g r s
def VA (g:Gh):List AV->List Value->Prop
 | [],vs=>vs=[]
 | a::r,vs=>∃v s,vs=v::s/\(a.one=true/\V g a v)/\VA g r s
def VC (g:Gh) (b:Nat):Nat->List AV->Prop
 | _,[]=>True
 | o,a::r=>(∃v,g.Φ b o=some v/\a.pure=true/\V g a v)/\VC g b (o+1) r
def VE (g:Gh) (b k:Nat):Nat->List (List AV)->Prop
 | _,[]=>True
 | o,e::r=>(e.length=k/\VC g b o e)/\VE g b k (o+k) r
end


structure Gh.lv (g g':Gh):Prop where
 phi:∀b j v,g.Φ b j=some v->g'.Φ b j=some v
 sig:∀(i:Nat) (c:Option Nat),g.σ[i]?=some c->g'.σ[i]?=some c
 tau:∀(i:Nat) (t:TI),g.τ[i]?=some t->∃t',g'.τ[i]?=some t'/\t.n<=t'.n/\(t.n=t'.n->t'=t)/\t'.row=t.row
 new:∀(b:Nat) (x:BK),g.N b=some x->g'.N b=some x
 old:∀b:Nat,g.O b->g'.O b
structure Gh.le (g g':Gh):Prop where
 phi:∀b j v,g.Φ b j=some v->g'.Φ b j=some v
 sig:∀(i:Nat) (c:Option Nat),g.σ[i]?=some c->g'.σ[i]?=some c
 tau:∀(i:Nat) (t:TI),g.τ[i]?=some t->∃t',g'.τ[i]?=some t'/\t.n<=t'.n/\(t.n=t'.n->t'=t)/\t'.row=t.row
 del:∀c,c ∈ g.δ->c ∈ g'.δ
 new:∀(b:Nat) (x:BK),g.N b=some x->g'.N b=some x
 old:∀b:Nat,g.O b->g'.O b
theorem Gh.le.lv {g g':Gh} (h:g.le g'):g.lv g':=⟨h.phi,h.sig,h.tau,h.new,h.old⟩

theorem Gh.le.refl (g:Gh):g.le g:=⟨λ_ _ _ h=>h,λ_ _ h=>h,λ_ t h=>⟨t,h,uh _,λ_=>rfl,rfl⟩,λ_ h=>h,λ_ _ h=>h,λ_ h=>h⟩
theorem Gh.le.trans {a b c:Gh} (h:a.le b) (k:b.le c):a.le c :=
 ⟨λx y v e=>k.phi _ _ _ (h.phi x y v e),λi x e=>k.sig _ _ (h.sig i x e),λi t e=>by
  obtain ⟨d,f,s,l,s1⟩:=h.tau i t e;obtain ⟨j,m,o,r,s2⟩:=k.tau i d f;refine ⟨j,m,uU s o,λq=>?_,s2.trans s1⟩;have p:t.n=d.n:=by omega
  have:=l p;subst this;exact r q,λc u=>k.del c (h.del c u),λb x e=>k.new b x (h.new b x e),λb e=>k.old b (h.old b e)⟩

theorem capOk.monoV {g g':Gh} (h:g.lv g') {id:Nat} {a:Option Addr} {n c k:Nat} (l:∃t,g.τ[id]?=some t/\capOk t a n c k) :
  ∃t,g'.τ[id]?=some t/\capOk t a n c k:=by
 obtain ⟨t,e,h0,m,i⟩:=l;obtain ⟨t',b,f,j,hs⟩:=h.tau _ _ e;refine ⟨t',b,hs.trans h0,uU m f,λd=>?_⟩;have:t.n=t'.n:=by omega
 have:=j this;subst this;exact i d

theorem rowHd.monoV {g g':Gh} (h:g.lv g') {id:Nat} {a:Option Addr} {n c k:Nat} (q:∃t,g.τ[id]?=some t/\rowHd t a n c k) :
  ∃t,g'.τ[id]?=some t/\rowHd t a n c k:=by
 obtain ⟨t,f,h0,r,j⟩:=q;obtain ⟨t',d,i,m,hs⟩:=h.tau _ _ f;refine ⟨t',d,hs.trans h0,uU r i,j.imp (λh=>h) λ⟨b,o,p,l⟩=>⟨b,o,p,λe=>?_⟩⟩;have:t.n=t'.n:=by omega
 have:=m this;subst this;exact l e
theorem rowPt.monoV {g g':Gh} (h:g.lv g') {id:Nat} {b q n k p:Nat} (j:∃t,g.τ[id]?=some t/\rowPt t b q n k p) :
  ∃t,g'.τ[id]?=some t/\rowPt t b q n k p:=by
 obtain ⟨t,d,h0,l,f⟩:=j;obtain ⟨t',a,e,i,hs⟩:=h.tau _ _ d;refine ⟨t',a,hs.trans h0,uU l e,λc=>?_⟩;have:t.n=t'.n:=by omega
 have:=i this;subst this;exact f c

mutual
theorem V.monoV {g g':Gh} (h:g.lv g'):∀(a:AV) (v:Value),V g a v->V g' a v
 | .bool _,_,hv=>by simpa only [V] using hv
 | .int _ _,_,hv=>by simpa only [V] using hv
 | .str _,_,hv=>by simpa only [V] using hv
 | .nilp,_,hv=>by simpa only [V] using hv
 | .nilm,_,hv=>by simpa only [V] using hv
 | .nilf,_,hv=>by simpa only [V] using hv
 | .nili,_,hv=>by simpa only [V] using hv
 | .nilsl,_,hv=>by simpa only [V] using hv
 | .ptr _ _,_,hv=>by
  simp only [V] at hv ⊢;obtain ⟨c,y,e⟩:=hv;exact ⟨c,h.sig _ _ y,e⟩
 | .fptr cs,_,hv=>by
  simp only [V] at hv ⊢;obtain ⟨b,o,e,y⟩:=hv;exact ⟨b,o,e,VC.monoV h b o cs y⟩
 | .sl k es,_,hv=>by
  simp only [V] at hv ⊢;obtain ⟨a,c,e,d,j,l⟩:=hv;exact ⟨a,c,e,d,j,l.imp id λ⟨b,o,e,hh⟩=>⟨b,o,e,VE.monoV h b k o es hh⟩⟩
 | .osl q k es,_,hv=>by
  simp only [V] at hv ⊢;obtain ⟨a,c,e,d,j,l,B⟩:=hv;refine ⟨a,c,e,d,j,l.imp id λ⟨b,o,e,hh⟩=>⟨b,o,e,VE.monoV h b k o es hh⟩,?_⟩;cases q with
  | none=>exact B
  | some id=>exact capOk.monoV h B
 | .msl _ _ _ _,_,hv=>by
  simp only [V] at hv ⊢;obtain ⟨c,cap,y,e⟩:=hv;exact ⟨c,cap,h.sig _ _ y,e⟩
 | .rsl _ _ _ _,_,hv=>by
  simp only [V] at hv ⊢;obtain ⟨a,c,e,d,j,l⟩:=hv;exact ⟨a,c,e,d,j,rowHd.monoV h l⟩
 | .rsuf _ i k n p,_,hv=>by
  simp only [V] at hv ⊢;obtain ⟨a,c,e,d,t,C,l⟩:=hv;rcases l with l | ⟨b,q,D,l⟩
  ·obtain ⟨t',A,_⟩:=h.tau _ _ C;exact ⟨a,c,e,d,t',A,.inl l⟩
  ·obtain ⟨t',A,B⟩:=rowPt.monoV h ⟨t,C,l⟩;exact ⟨a,c,e,d,t',A,.inr ⟨b,q,D,B⟩⟩
 | .rptr _ _ _ _ _,_,hv=>by
  simp only [V] at hv ⊢;obtain ⟨b,q,e,l⟩:=hv;exact ⟨b,q,e,rowPt.monoV h l⟩
 | .map _,_,hv=>by
  simp only [V] at hv ⊢;obtain ⟨c,y,e⟩:=hv;exact ⟨c,h.sig _ _ y,e⟩
 | .fn f w bs,_,hv=>by
  simp only [V] at hv ⊢;obtain ⟨fs,cs,e,d,j⟩:=hv;exact ⟨fs,cs,e,VL.monoV h w _ d,VL.monoV h bs _ j⟩
 | .iface t x,_,hv=>by
  simp only [V] at hv ⊢;obtain ⟨u,e,d⟩:=hv;exact ⟨u,e,V.monoV h x u d⟩
 | .agg cs,_,hv=>by
  simp only [V] at hv ⊢;obtain ⟨vs,e,d⟩:=hv;exact ⟨vs,e,VA.monoV h cs _ d⟩
 | .tup xs,_,hv=>by
  simp only [V] at hv ⊢;obtain ⟨vs,e,d⟩:=hv;exact ⟨vs,e,VL.monoV h xs _ d⟩
 | .glob _,_,hv=>by simpa only [V] using hv
 | .yld _,_,hv=>by
  simp only [V] at hv ⊢;obtain ⟨c,y,e⟩:=hv;exact ⟨c,h.sig _ _ y,e⟩
 | .bsl k es,_,hv=>by
  simp only [V] at hv ⊢;obtain ⟨a,c,e,d,j,l⟩:=hv;exact ⟨a,c,e,d,j,l.imp id λ⟨b,o,e,hh,z⟩=>⟨b,o,e,VE.monoV h b k o es hh,h.old _ z⟩⟩
 | .nsl k es,_,hv=>by
  simp only [V] at hv ⊢;obtain ⟨a,c,e,d,j,l⟩:=hv;exact ⟨a,c,e,d,j,l.imp id λ⟨b,o,e,hh,s,z⟩=>⟨b,o,e,VE.monoV h b k o es hh,s,h.new _ _ z⟩⟩
 | .gsl k n,_,hv=>by
  simp only [V] at hv ⊢;obtain ⟨a,c,e,d,j,l⟩:=hv;exact ⟨a,c,e,d,j,l.imp id λ⟨b,o,s,e,z,hs⟩=>⟨b,o,s,e,h.new _ _ z,hs⟩⟩
 | .gptr m,_,hv=>by
  simp only [V] at hv ⊢;obtain ⟨b,o,s,e,z,hs⟩:=hv;exact ⟨b,o,s,e,h.new _ _ z,hs⟩
 | .any,_,_=>by simp only [V]
 | .opq,_,hv=>by simpa only [V] using hv
theorem VL.monoV {g g':Gh} (h:g.lv g'):∀(w:List AV) (vs:List Value),VL g w vs->VL g' w vs
 | [],_,hv=>by simpa only [VL] using hv
 | a::r,_,hv=>by
  simp only [VL] at hv ⊢;obtain ⟨v,s,e,d,j⟩:=hv;exact ⟨v,s,e,V.monoV h a v d,VL.monoV h r s j⟩
theorem VA.monoV {g g':Gh} (h:g.lv g'):∀(w:List AV) (vs:List Value),VA g w vs->VA g' w vs
 | [],_,hv=>by simpa only [VA] using hv
 | a::r,_,hv=>by
  simp only [VA] at hv ⊢;obtain ⟨v,s,e,⟨h0,d⟩,j⟩:=hv;exact ⟨v,s,e,⟨h0,V.monoV h a v d⟩,VA.monoV h r s j⟩
theorem VC.monoV {g g':Gh} (h:g.lv g') (b:Nat):∀(o:Nat) (w:List AV),VC g b o w->VC g' b o w
 | _,[],_=>by simp only [VC]
 | o,a::r,hv=>by
  simp only [VC] at hv ⊢;obtain ⟨⟨v,h0,d,j⟩,l⟩:=hv;exact ⟨⟨v,h.phi _ _ _ h0,d,V.monoV h a v j⟩,VC.monoV h b (o+1) r l⟩
theorem VE.monoV {g g':Gh} (h:g.lv g') (b k:Nat):∀(o:Nat) (w:List (List AV)),VE g b k o w->VE g' b k o w
 | _,[],_=>by simp only [VE]
 | o,e::r,hv=>by
  simp only [VE] at hv ⊢;obtain ⟨⟨h0,d⟩,j⟩:=hv;exact ⟨⟨h0,VC.monoV h b o e d⟩,VE.monoV h b k (o+k) r j⟩
end

theorem capOk.mono {g g':Gh} (h:g.le g') {id:Nat} {a:Option Addr} {n c k:Nat} (b:∃t,g.τ[id]?=some t/\capOk t a n c k):∃t,g'.τ[id]?=some t/\capOk t a n c k:=capOk.monoV h.lv b
theorem V.mono {g g':Gh} (h:g.le g') (a:AV) (v:Value) (b:V g a v):V g' a v:=V.monoV h.lv a v b
theorem VL.mono {g g':Gh} (h:g.le g') (a:List AV) (vs:List Value) (b:VL g a vs):VL g' a vs:=VL.monoV h.lv a vs b
theorem VA.mono {g g':Gh} (h:g.le g') (a:List AV) (vs:List Value) (b:VA g a vs):VA g' a vs:=VA.monoV h.lv a vs b
theorem VC.mono {g g':Gh} (h:g.le g') (b:Nat) (o:Nat) (a:List AV) (c:VC g b o a):VC g' b o a:=VC.monoV h.lv b o a c
theorem VE.mono {g g':Gh} (h:g.le g') (b k:Nat) (o:Nat) (es:List (List AV)) (a:VE g b k o es):VE g' b k o es:=VE.monoV h.lv b k o es a
theorem Gh.lv_dd (g:Gh) (d:List Nat):g.lv { g with δ:=d }:=⟨λ_ _ _ e=>e,λ_ _ e=>e,λ_ t e=>⟨t,e,uh _,λ_=>rfl,rfl⟩,λ_ _ e=>e,λ_ e=>e⟩
theorem VL.dd {g:Gh} {d:List Nat} {a:List AV} {vs:List Value} (h:VL g a vs):VL { g with δ:=d } a vs:=VL.monoV (g.lv_dd d) _ _ h

section
variable {g:Gh}
theorem VL.length:∀{a:List AV} {vs:List Value},VL g a vs->a.length=vs.length
 | [],_,h=>by simp only [VL] at h;subst h;rfl
 | _::r,_,h=>by
  simp only [VL] at h;obtain ⟨v,s,rfl,_,b⟩:=h;simp [VL.length b]
theorem VA.toVL:∀{a:List AV} {vs:List Value},VA g a vs->VL g a vs
 | [],_,h=>by simp only [VA] at h;simp only [VL];exact h
 | _::r,_,h=>by
  simp only [VA] at h;obtain ⟨v,s,rfl,⟨_,c⟩,b⟩:=h;simp only [VL];exact ⟨v,s,rfl,c,VA.toVL b⟩
theorem VA.ones:∀{a:List AV} {vs:List Value},VA g a vs->a.all AV.one=true
 | [],_,_=>rfl
 | _::r,_,h=>by
  simp only [VA] at h;obtain ⟨v,s,rfl,⟨h0,_⟩,b⟩:=h;simp [h0,VA.ones b]
theorem VA.mk:∀{a:List AV} {vs:List Value},VL g a vs->a.all AV.one=true->VA g a vs
 | [],_,h,_=>by simp only [VL] at h;simp only [VA];exact h
 | _::r,_,h,ho=>by
  simp only [VL] at h;obtain ⟨v,s,rfl,c,b⟩:=h;simp only [tc,ud] at ho;simp only [VA];exact ⟨v,s,rfl,⟨ho.1,c⟩,VA.mk b ho.2⟩
theorem VL.get:∀{b:List AV} {vs:List Value},VL g b vs->∀(i:Nat) (a:AV),b[i]?=some a->∃v,vs[i]?=some v/\V g a v
 | [],_,_,i,a,hi=>by simp at hi
 | _::r,_,h,i,a,hi=>by
  simp only [VL] at h;obtain ⟨v,s,rfl,d,c⟩:=h;cases i with
  | zero=>simp at hi;subst hi;exact ⟨v,rfl,d⟩
  | succ i=>simpa using VL.get c i a (by simpa using hi)
theorem VL.getR:∀{b:List AV} {vs:List Value},VL g b vs->∀(i:Nat) (v:Value),vs[i]?=some v->∃a,b[i]?=some a/\V g a v
 | [],_,h,i,v,hi=>by simp only [VL] at h;subst h;simp at hi
 | a::r,_,h,i,v,hi=>by
  simp only [VL] at h;obtain ⟨v',s,rfl,d,c⟩:=h;cases i with
  | zero=>simp at hi;subst hi;exact ⟨a,rfl,d⟩
  | succ i=>simpa using VL.getR c i v (by simpa using hi)
theorem VL.set:∀{c:List AV} {vs:List Value},VL g c vs->∀(i:Nat) (a:AV) (v:Value),V g a v->VL g (c.set i a) (vs.set i v)
 | [],_,h,i,a,v,_=>by simp only [VL] at h;subst h;simp [VL]
 | _::r,_,h,i,a,v,hv=>by
  simp only [VL] at h;obtain ⟨v',s,rfl,d,b⟩:=h;cases i with
  | zero=>simp only [uf,VL];exact ⟨v,s,rfl,hv,b⟩
  | succ i=>simp only [ue,VL];exact ⟨v',_,rfl,d,VL.set b i a v hv⟩
theorem VL.append:∀{a bs:List AV} {vs ws:List Value},VL g a vs->VL g bs ws->VL g (a++bs) (vs++ws)
 | [],_,_,_,h,k=>by simp only [VL] at h;subst h;simpa using k
 | _::r,_,_,_,h,k=>by
  simp only [VL] at h;obtain ⟨v',s,rfl,c,b⟩:=h;simp only [tS,VL];exact ⟨v',_,rfl,c,VL.append b k⟩
theorem VL.take:∀{a:List AV} {vs:List Value} (n:Nat),VL g a vs->VL g (a.take n) (vs.take n)
 | [],_,n,h=>by simp only [VL] at h;subst h;simp [VL]
 | _::r,_,n,h=>by
  simp only [VL] at h;obtain ⟨v',s,rfl,c,b⟩:=h;cases n with
  | zero=>simp [VL]
  | succ n=>simp only [sS,VL];exact ⟨v',_,rfl,c,VL.take n b⟩
theorem VL.drop:∀{a:List AV} {vs:List Value} (n:Nat),VL g a vs->VL g (a.drop n) (vs.drop n)
 | [],_,n,h=>by simp only [VL] at h;subst h;simp [VL]
 | _::r,_,n,h=>by
  have c:=h;simp only [VL] at h;obtain ⟨v',s,rfl,d,b⟩:=h;cases n with
  | zero=>simpa using c
  | succ n=>simpa using VL.drop n b
theorem VL.cons {a:AV} {v:Value} {b:List AV} {vs:List Value} (h:V g a v) (k:VL g b vs):VL g (a::b) (v::vs):=by
 simp only [VL];exact ⟨v,vs,rfl,h,k⟩
theorem all_take {α:Type} {p:α->Bool} {l:List α} (n:Nat) (h:l.all p=true):(l.take n).all p=true:=by
 rw [ux] at h ⊢;exact λx a=>h x (pw a)
theorem all_drop {α:Type} {p:α->Bool} {l:List α} (n:Nat) (h:l.all p=true):(l.drop n).all p=true:=by
 rw [ux] at h ⊢;exact λx a=>h x (List.mem_of_mem_drop a)
theorem VA.append {a bs:List AV} {vs ws:List Value} (h:VA g a vs) (k:VA g bs ws):VA g (a++bs) (vs++ws) :=
 VA.mk (VL.append h.toVL k.toVL) (by rw [tD,h.ones,k.ones];rfl)
theorem VA.take {a:List AV} {vs:List Value} (n:Nat) (h:VA g a vs):VA g (a.take n) (vs.take n):=VA.mk (VL.take n h.toVL) (all_take n h.ones)
theorem VA.drop {a:List AV} {vs:List Value} (n:Nat) (h:VA g a vs):VA g (a.drop n) (vs.drop n):=VA.mk (VL.drop n h.toVL) (all_drop n h.ones)

theorem VC.get {b:Nat}:∀{o:Nat} {c:List AV},VC g b o c->∀(i:Nat) (a:AV),c[i]?=some a->∃v,g.Φ b (o+i)=some v/\a.pure=true/\V g a v
 | _,[],_,i,a,hi=>by simp at hi
 | o,_::r,h,i,a,hi=>by
  simp only [VC] at h;obtain ⟨⟨v,h0,l,d⟩,j⟩:=h;cases i with
  | zero=>simp at hi;subst hi;exact ⟨v,h0,l,d⟩
  | succ i =>
   obtain ⟨v',e,f,k⟩:=VC.get j i a (by simpa using hi);exact ⟨v',by rw [show o+(i+1)=o+1+i by omega];exact e,f,k⟩
theorem VC.mk {b:Nat}:∀{o:Nat} {c:List AV},(∀(i:Nat) (a:AV),c[i]?=some a->∃v,g.Φ b (o+i)=some v/\a.pure=true/\V g a v)->VC g b o c
 | _,[],_=>by simp only [VC]
 | o,a::r,h=>by
  simp only [VC];refine ⟨by simpa using h 0 a rfl,VC.mk (o:=o+1) λi x d=>?_⟩;obtain ⟨v,e,f,j⟩:=h (i+1) x (by simpa using d);exact ⟨v,by rw [show o+1+i=o+(i+1) by omega];exact e,f,j⟩
theorem VC.drop {b o:Nat} {d:List AV} (n:Nat) (h:VC g b o d):VC g b (o+n) (d.drop n):=VC.mk λi a c=>by
 rw [uF] at c;obtain ⟨v,e,f⟩:=h.get _ _ c;exact ⟨v,by rw [show o+n+i=o+(n+i) by omega];exact e,f⟩
theorem VC.take {b o:Nat} {d:List AV} (n:Nat) (h:VC g b o d):VC g b o (d.take n):=VC.mk λi a c=>by
 rw [uw] at c;split at c
 ·exact h.get _ _ c
 ·cases c
theorem VC.append {b o:Nat} {c bs:List AV} (h:VC g b o c) (k:VC g b (o+c.length) bs):VC g b o (c++bs):=VC.mk λi a d=>by
 by_cases hi:i < c.length
 ·rw [uj hi] at d;exact h.get _ _ d
 ·rw [ui (by omega)] at d;obtain ⟨v,e,f⟩:=k.get _ _ d;exact ⟨v,by rw [show o+i=o+c.length+(i - c.length) by omega];exact e,f⟩
theorem VE.get {b k:Nat}:∀{o:Nat} {es:List (List AV)},VE g b k o es->∀(i:Nat) (e:List AV),es[i]?=some e->e.length=k/\VC g b (o+i * k) e
 | _,[],_,i,e,hi=>by simp at hi
 | o,_::r,h,i,e,hi=>by
  simp only [VE] at h;obtain ⟨⟨h0,f⟩,a⟩:=h;cases i with
  | zero=>simp at hi;subst hi;exact ⟨h0,by simpa using f⟩
  | succ i =>
   obtain ⟨c,d⟩:=VE.get a i e (by simpa using hi);exact ⟨c,by rw [show o+(i+1) * k=o+k+i * k by rw [sn];omega];exact d⟩
theorem VE.mk {b k:Nat}:∀{o:Nat} {es:List (List AV)},(∀(i:Nat) (e:List AV),es[i]?=some e->e.length=k/\VC g b (o+i * k) e)->VE g b k o es
 | _,[],_=>by simp only [VE]
 | o,e::r,h=>by
  simp only [VE];refine ⟨by simpa using h 0 e rfl,VE.mk (o:=o+k) λi x a=>?_⟩;obtain ⟨c,d⟩:=h (i+1) x (by simpa using a);exact ⟨c,by rw [show o+k+i * k=o+(i+1) * k by rw [sn];omega];exact d⟩
theorem VE.drop {b k o:Nat} {es:List (List AV)} (n:Nat) (h:VE g b k o es):VE g b k (o+n * k) (es.drop n):=VE.mk λi a c=>by
 rw [uF] at c;obtain ⟨d,e⟩:=h.get _ _ c;exact ⟨d,by rw [show o+n * k+i * k=o+(n+i) * k by rw [tb];omega];exact e⟩
theorem VE.take {b k o:Nat} {es:List (List AV)} (n:Nat) (h:VE g b k o es):VE g b k o (es.take n):=VE.mk λi a c=>by
 rw [uw] at c;split at c
 ·exact h.get _ _ c
 ·cases c
theorem VE.append {b k o:Nat} {es fs:List (List AV)} (h:VE g b k o es) (f:VE g b k (o+es.length * k) fs):VE g b k o (es++fs):=VE.mk λi a c=>by
 by_cases hi:i < es.length
 ·rw [uj hi] at c;exact h.get _ _ c
 ·rw [ui (by omega)] at c;obtain ⟨d,e⟩:=f.get _ _ c;refine ⟨d,?_⟩;have:o+i * k=o+es.length * k+(i - es.length) * k:=by
   rw [tM,<- tb];congr 2;omega
  rw [this];exact e
end
end Go.Vv
