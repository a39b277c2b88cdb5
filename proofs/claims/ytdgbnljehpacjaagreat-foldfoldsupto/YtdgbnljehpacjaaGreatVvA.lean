/- The abstract domain of this proof: values that hold the contents of unchanging memory, a small heap of boxed variables, and how they stand to the model's values. -/
import Derived.WalkKit
import Derived.RangeFuncLeaves
set_option linter.all false
namespace Go.Vv
def ua:=@Option.bind_some
def uc:=@List.getElem?_eq_some_iff
def ud:=@Bool.and_eq_true
def ue:=@List.getElem?_eq_getElem
def uf:=@List.set_cons_succ
def ug:=@List.set_cons_zero
def uh:=@Nat.le_refl
def ui:=@Option.some.injEq
def uj:=@decide_eq_true_eq
def uk:=@Bool.false_eq_true
def ul:=@List.length_map
def um:=@List.getElem?_append_right
def un:=@List.getElem?_append_left
def uo:=@List.length_append
def uq:=@List.all_eq_true
def ur:=@if_true
def ut:=@Int.toNat_natCast
def uu:=@List.length_cons
def uv:=@if_pos
def uw:=@List.getElem?_take
def ux:=@List.mem_singleton
def uy:=@Nat.add_sub_cancel_left
def uz:=@List.map_cons
def uA:=@List.getD_eq_getElem?_getD
def uB:=@List.append_assoc
def uC:=@if_neg
def uD:=@List.mem_append
def uE:=@List.getElem?_set_self
def uF:=@List.eq_nil_of_length_eq_zero
def uG:=@List.getElem?_drop
def uH:=@if_false
def uI:=@List.length_set
def uJ:=@Nat.le_trans
def uK:=@Array.getElem?_toList
def uL:=@List.pairwise_cons
def uM:=@List.take_of_length_le
def uN:=@Array.getElem?_eq_getElem
def uO:=@Array.getElem?_eq_some_iff
def uP:=@beq_self_eq_true
def uQ:=@List.mem_cons
def uR:=@List.nil_append
def uS:=@Option.some.inj
def uT:=@decide_eq_true
def uU:=@Bool.true_and
def uV:=@List.length_nil
def uW:=@List.mem_of_getElem?
def uX:=@Array.getD_eq_getD_getElem?
def uY:=@Option.map_some
def uZ:=@List.pairwise_iff_getElem
def u2:=@List.take_append_of_le_length
def u7:=@List.getElem?_set_ne
def u9:=@List.pairwise_append
def tb:=@decide_eq_false
def tc:=@List.ext_getElem?
def te:=@List.flatten_cons
def tf:=@Bool.and_self
def tg:=@Nat.mul_le_mul_right
def th:=@List.length_take
def tj:=@Bool.false_or
def tm:=@List.mem_iff_getElem?
def tn:=@Bool.not_true
def tp:=@List.drop_of_length_le
def tq:=@of_decide_eq_true
def tr:=@List.map_nil
def tu:=@Nat.add_mul
def tv:=@Bool.eq_iff_iff
def tw:=@List.takeWhile_append_dropWhile
def tx:=@Nat.le_of_ble_eq_true
def tz:=@Nat.zero_le
def tA:=@Nat.zero_add
def tB:=@List.drop_drop
def tC:=@List.take_add_one
def tD:=@Option.bind_eq_some_iff
def tE:=@List.map_append
def tF:=@List.mem_cons_of_mem
def tG:=@Bool.or_eq_true
def tH:=@Bool.not_eq_true'
def tI:=@List.all_cons
def tJ:=@List.getElem?_eq_none
def tK:=@Array.toList_append
def tL:=@List.getElem_of_mem
def tM:=@List.filter_eq_self
def tN:=@List.takeWhile_cons
def tO:=@List.mem_filter
def tP:=@List.cons_append
def tQ:=@and_true
def tR:=@Int.le_refl
def tS:=@Nat.add_zero
def tT:=@List.mem_cons_self
def tU:=@List.filter_append
def tV:=@Eq.symm
def tW:=@Nat.lt_irrefl
def tX:=@List.take_append
def tY:=@Array.all_eq_true_iff_forall_mem
def tZ:=@List.mem_map
def t6:=@List.any_eq_false
def t7:=@Prod.mk.injEq
def t8:=@List.filter_eq_nil_iff
def sa:=@List.take_length
def sd:=@Classical.choose_spec
def se:=@List.take_append_drop
def sf:=@List.drop_zero
def sg:=@Nat.lt_of_lt_of_le
def si:=@List.sum_cons
def sj:=@Option.map_eq_some_iff
def sm:=@List.flatMap_cons
def sn:=@List.flatten_append
def so:=@List.foldl_cons
def sq:=@List.append_nil
def sr:=@List.mem_or_eq_of_mem_set
def su:=@List.drop_eq_getElem_cons
def sx:=@List.mem_of_find?_eq_some
def sy:=@Nat.eq_zero_or_pos
def sA:=@List.find?_eq_none
def sB:=@Nat.lt_or_ge
def sC:=@Nat.succ_mul
def sD:=@List.drop_append_of_le_length
def sE:=@Bool.not_false
def sF:=@List.take_succ_cons
def sG:=@Array.length_toList
def sH:=@beq_eq_false_iff_ne
def sI:=@and_assoc
def sJ:=@List.getElem_mem
def sK:=@List.filter_cons
def sL:=@Nat.mul_le_mul
def sM:=@List.getElem?_toArray
def sN:=@Nat.ble_eq_true_of_le
def sO:=@List.set_append_right
def sP:=@List.findIdx?_eq_some_iff_getElem
def sQ:=@List.getElem?_map
def sR:=@bne_self_eq_false
def sS:=@Nat.le_succ_of_le
def sU:=@List.take_set_of_le
def sV:=@List.drop_set_of_lt
def sW:=@List.replicate_succ
def sX:=@List.map_congr_left
def sY:=@Option.bind_eq_bind
def sZ:=@List.length_drop
def s5:=@List.drop_append
def s6:=@List.map_map
def s7:=@beq_iff_eq
def s8:=@List.getElem_cons_drop
def s9:=@decide_false
def ra:=@Nat.min_eq_left
def rb:=@Nat.add_assoc
def rd:=@Array.getElem?_modify
def rf:=@List.length_filter_le
def rg:=@Array.size_append
def rh:=@List.size_toArray
def ri:=@Function.comp_def
def rj:=@List.drop_left
def rk:=@Bool.false_and
def rm:=@List.mapM_cons
def rn:=@Bool.or_eq_false_iff
def rp:=@Array.toList_map
def rq:=@Bool.not_eq_true
def rt:=@Option.getD_some
def ru:=@List.getElem_map
def rx:=@Int.natCast_zero
def ry:=@List.any_eq_true
def rz:=@List.extract_eq_take_drop
def rB:=@List.eq_of_mem_replicate
def rC:=@Bool.and_true
def rD:=@Option.pure_def
def rE:=@Array.toList_range
def rF:=@Array.ext_getElem?
def rG:=@Nat.add_sub_cancel
def rH:=@List.filter_filter
def rI:=@Nat.le_mul_of_pos_right
def rJ:=@decide_eq_false_iff_not
def rK:=@List.filter_append_perm
def rL:=@Array.getElem?_eq_none
def rM:=@Option.some_or
def rN:=@List.filter_congr
def rO:=@Bool.or_self
def rP:=@Int.toNat_le
def rQ:=@List.singleton_append
def rR:=@UInt8.lt_iff_toNat_lt
def rS:=@List.flatten_nil
def rT:=@decide_eq_decide
def rU:=@List.any_cons
def rV:=@Nat.mul_pos
def rW:=@decide_true
def rX:=@and_self
def rY:=@List.contains_eq_mem
def rZ:=@List.set_append_left
def r6:=@List.drop_left'
def r7:=@List.cons.injEq
def r8:=@List.nodup_cons
def r9:=@Array.getElem?_setIfInBounds
def pa:=@List.mem_zipIdx_iff_getElem?
def pb:=@Except.ok.injEq
def pc:=@List.find?_cons
def pd:=@List.sum_append
def pf:=@Array.getElem?_push
def pg:=@List.getElem?_range
def ph:=@List.length_pos_iff
def pi:=@List.mergeSort_perm
def pj:=@List.take_left
def pk:=@Array.ext'
def pm:=@List.drop_take
def pn:=@Array.toList_setIfInBounds
def po:=@Array.foldl_toList
def pp:=@Array.getElem?_append_left
def pq:=@List.nodup_iff_pairwise_ne
def pr:=@List.append_of_mem
def pt:=@Int.toNat_zero
def pu:=@List.getLast?_eq_none_iff
def pw:=@List.getElem?_set
def px:=@not_false_eq_true
def py:=@List.pairwise_map
def pz:=@Nat.lt_trichotomy
def pA:=@Option.isSome_iff_exists
def pB:=@List.map_take
def pC:=@List.Pairwise.imp_of_mem
def pD:=@List.zipIdx_cons
def pE:=@Nat.mod_eq_of_lt
def pF:=@List.mem_flatten
def pG:=@List.getElem?_cons_succ
def pH:=@Nat.lt_succ_self
def pI:=@Nat.succ_le_succ
def pJ:=@List.getLast?_singleton
def pK:=@List.isEmpty_iff
def pL:=@List.pairwise_mergeSort
def pM:=@Bool.or_true
def pN:=@List.dropWhile_sublist
def pO:=@List.all_append
def pP:=@List.take_left'
def pQ:=@List.take_take
def pR:=@List.take_zero
def pU:=@dif_pos
def pV:=@Bool.or_false
def pW:=@Nat.add_comm
def pX:=@Nat.le_of_eq
def pY:=@List.any_nil
def pZ:=@Bool.true_or
def p2:=@Nat.sub_self
def p3:=@List.set_set
open Go
variable {vs:List Value}

inductive AV where
 | bool (b:Bool)
 | int (k:IntKind) (n:Int)
 | str (s:List UInt8)
 | nilp | nilm | nilf | nili | nilsl
 | ptr (id off:Nat)
 | fptr (cs:List AV)
 | sl (k:Nat) (es:List (List AV))
 | osl (o:Option Nat) (k:Nat) (es:List (List AV))
 | msl (k id off len:Nat)
 | rsl (id t k n:Nat)
 | rptr (id t k n p:Nat)
 | rsuf (id t k n i:Nat)
 | map (id:Nat)
 | fn (f:Fn) (first caps:List AV)
 | iface (t:TypeId) (v:AV)
 | agg (cs:List AV)
 | tup (vs:List AV)
 | glob (g:Nat)
 | yld (id:Nat)
 | bsl (k:Nat) (es:List (List AV))
 | nsl (k:Nat) (es:List (List AV))
 | gsl (k n:Nat)
 | gptr (m:Nat)
 | any
 | opq
 deriving Inhabited

def aundef:AV:=.tup []

def AV.one:AV->Bool
 | .agg _ | .tup _ | .any=>false
 | _=>true

def AV.pure:AV->Bool
 | .bool _ | .int _ _ | .str _ | .nilp | .nilm | .nilf | .nili | .sl _ _ | .bsl _ _ | .nsl _ _ | .gsl _ _ | .fn _ [] []=>true
 | _=>false
theorem AV.one_of_pure {a:AV} (h:a.pure=true):a.one=true:=by
 unfold AV.pure at h;split at h <;> first | rfl | cases h

def AV.cells?:AV->Option (List AV)
 | .agg cs=>some cs
 | .tup _ | .any=>none
 | v=>some [v]

inductive Blk where
 | cells (cs:List AV)
 | siter (s:List UInt8) (pos:Nat)
 | loop (st:LoopState) (pe:Option Code) (env:List AV) (ps:Array Tmp) (assign body:Code)
 | mapo (es:List (AV×AV)) (clock:Nat)
 | miter (id n:Nat) (seen:List Nat)
 | miter0
 | row (t k:Nat) (es:List (List AV))
 | bld (T:TypeId) (x:AV)
 | other
 | dead
 deriving Inhabited

structure AH where
 blks:List Blk
 toks:List Nat
 deriving Inhabited

structure TI where
 n:Nat
 loc:Option (Nat×Nat×Nat)
 row:Bool:=false

inductive BK where
 | new (s:Nat)
 | gar (s:Nat)
 | shut (o:Obj)
 | frz (o:Obj)
structure Gh where
 Φ:Nat->Nat->Option Value
 σ:List (Option Nat)
 τ:List TI
 δ:List Nat
 N:Nat->Option BK:=λ_=>none
 O:Nat->Prop:=λ_=>False

def capOk (t:TI) (a:Option Addr) (n c k:Nat):Prop :=
 t.row=false/\n<=t.n/\(n=t.n->c=n \/ ∃b o,a=some ⟨b,o,none⟩/\t.loc=some (b,o+n * k,o+c * k))

def rowHd (t:TI) (a:Option Addr) (n c k:Nat):Prop :=
 t.row=true/\n<=t.n/\((n=0/\c=0) \/ ∃b o,a=some ⟨b,o,none⟩/\(n=t.n->t.loc=some (b,o+n * k,o+c * k)))
def rowPt (t:TI) (b q n k p:Nat):Prop :=
 t.row=true/\n<=t.n/\(n=t.n->∃o e,q=o+p/\t.loc=some (b,o+n * k,e))

mutual
def V (g:Gh):AV->Value->Prop
 | .bool b,v=>v=.bool b
 | .int k n,v=>v=.int k n
 | .str s,v=>v=.string ⟨s.toArray⟩/\s.length<=maxLen
 | .nilp,v=>v=.pointer none
 | .nilm,v=>v=.map none
 | .nilf,v=>v=.nilFunc
 | .nili,v=>v=.nilIface
 | .nilsl,v=>v=.slice none 0 0
 | .ptr id off,v=>∃c,g.σ[id]?=some (some c)/\v=.pointer (some ⟨c,off,none⟩)
 | .fptr cs,v=>∃b o,v=.pointer (some ⟨b,o,none⟩)/\VC g b o cs
 | .sl k es,v=>∃a c,v=.slice a es.length c/\es.length<=c/\c<=maxLen/\(es=[] \/ ∃b o,a=some ⟨b,o,none⟩/\VE g b k o es)
 | .osl q k es,v=>∃a c,v=.slice a es.length c/\es.length<=c/\c<=maxLen/\(es=[] \/ ∃b o,a=some ⟨b,o,none⟩/\VE g b k o es) /\
   (match q with
       | none=>c=es.length
       | some id=>∃t,g.τ[id]?=some t/\capOk t a es.length c k)
 | .msl _ id off len,v=>∃c cap,g.σ[id]?=some (some c)/\v=.slice (some ⟨c,off,none⟩) len cap/\len<=cap/\cap<=maxLen
 | .rsl _ i k n,v=>∃a c,v=.slice a n c/\n<=c/\c<=maxLen/\∃t,g.τ[i]?=some t/\rowHd t a n c k
 | .rptr _ i k n p,v=>∃b q,v=.pointer (some ⟨b,q,none⟩)/\∃t,g.τ[i]?=some t/\rowPt t b q n k p
 | .rsuf _ i k n p,v=>∃a c,v=.slice a (n - p) c/\(p<=n/\n<=maxLen)/\∃t,g.τ[i]?=some t/\(n - p=0 \/ ∃b q,a=some ⟨b,q,none⟩/\rowPt t b q n k (p * k))
 | .map id,v=>∃c,g.σ[id]?=some (some c)/\v=.map (some c)
 | .fn f first caps,v=>∃fs cs,v=.func f fs cs/\VL g first fs.toList/\VL g caps cs.toList
 | .iface t x,v=>∃u,v=.iface t u/\V g x u
 | .agg cs,v=>∃vs,v=.agg vs/\VA g cs vs.toList
 | .tup xs,v=>∃vs,v=.tuple vs/\VL g xs vs.toList
 | .glob n,v=>v=.pointer (some ⟨n,0,none⟩)
 | .yld id,v=>∃c,g.σ[id]?=some (some c)/\v=.func (.yield c) #[] #[]
 | .bsl k es,v=>∃a c,v=.slice a es.length c/\es.length<=c/\c<=maxLen/\(es=[] \/ ∃b o,a=some ⟨b,o,none⟩/\VE g b k o es/\g.O b)
 | .nsl k es,v=>∃a c,v=.slice a es.length c/\es.length<=c/\c<=maxLen/\(es=[] \/ ∃b o,a=some ⟨b,o,none⟩/\VE g b k o es/\∃s,g.N b=some (.new s))
 | .gsl k n,v=>∃a c,v=.slice a n c/\n<=c/\c<=maxLen/\(n=0 \/ ∃b o s,a=some ⟨b,o,none⟩/\g.N b=some (.gar s)/\o+n * k<=s)
 | .gptr m,v=>∃b o s,v=.pointer (some ⟨b,o,none⟩)/\g.N b=some (.gar s)/\o+m<=s
 | .any,_=>True
 | .opq,v=>v.oneCell'=true
def VL (g:Gh):List AV->List Value->Prop
 | [],vs=>vs=[]
 | a::r,vs=>∃v s,vs=v::s/\V g a v/\VL g r s
def VA (g:Gh):List AV->List Value->Prop
 | [],vs=>vs=[]
 | a::r,vs=>∃v s,vs=v::s/\(a.one=true/\V g a v)/\VA g r s
def VC (g:Gh) (b:Nat):Nat->List AV->Prop
 | _,[]=>True
 | o,a::r=>(∃v,g.Φ b o=some v/\a.pure=true/\V g a v)/\VC g b (o+1) r
def VE (g:Gh) (b k:Nat):Nat->List (List AV)->Prop
 | _,[]=>True
 | o,e::r=>(e.length=k/\VC g b o e)/\VE g b k (o+k) r
end


structure Gh.lv (g g':Gh):Prop where
 phi:∀b j v,g.Φ b j=some v->g'.Φ b j=some v
 sig:∀(i:Nat) (c:Option Nat),g.σ[i]?=some c->g'.σ[i]?=some c
 tau:∀(i:Nat) (t:TI),g.τ[i]?=some t->∃t',g'.τ[i]?=some t'/\t.n<=t'.n/\(t.n=t'.n->t'=t)/\t'.row=t.row
 new:∀(b:Nat) (x:BK),g.N b=some x->g'.N b=some x
 old:∀b:Nat,g.O b->g'.O b
structure Gh.le (g g':Gh):Prop where
 phi:∀b j v,g.Φ b j=some v->g'.Φ b j=some v
 sig:∀(i:Nat) (c:Option Nat),g.σ[i]?=some c->g'.σ[i]?=some c
 tau:∀(i:Nat) (t:TI),g.τ[i]?=some t->∃t',g'.τ[i]?=some t'/\t.n<=t'.n/\(t.n=t'.n->t'=t)/\t'.row=t.row
 del:∀c,c ∈ g.δ->c ∈ g'.δ
 new:∀(b:Nat) (x:BK),g.N b=some x->g'.N b=some x
 old:∀b:Nat,g.O b->g'.O b
theorem Gh.le.lv {g g':Gh} (h:g.le g'):g.lv g':=⟨h.phi,h.sig,h.tau,h.new,h.old⟩

theorem Gh.le.refl (g:Gh):g.le g:=⟨λ_ _ _ h=>h,λ_ _ h=>h,λ_ t h=>⟨t,h,uh _,λ_=>rfl,rfl⟩,λ_ h=>h,λ_ _ h=>h,λ_ h=>h⟩
theorem Gh.le.trans {a b c:Gh} (h:a.le b) (k:b.le c):a.le c :=
 ⟨λx y v e=>k.phi _ _ _ (h.phi x y v e),λi x e=>k.sig _ _ (h.sig i x e),λi t e=>by
  obtain ⟨d,p,r,l,o⟩:=h.tau i t e;obtain ⟨f,m,s,w,s2⟩:=k.tau i d p;refine ⟨f,m,uJ r s,λq=>?_,s2.trans o⟩;have j:t.n=d.n:=by omega
  have:=l j;subst this;exact w q,λc u=>k.del c (h.del c u),λb x e=>k.new b x (h.new b x e),λb e=>k.old b (h.old b e)⟩

theorem capOk.monoV {g g':Gh} (h:g.lv g') {id:Nat} {a:Option Addr} {n c k:Nat} (i:∃t,g.τ[id]?=some t/\capOk t a n c k) :
  ∃t,g'.τ[id]?=some t/\capOk t a n c k:=by
 obtain ⟨t,d,h0,e,j⟩:=i;obtain ⟨t',b,f,l,hs⟩:=h.tau _ _ d;refine ⟨t',b,hs.trans h0,uJ e f,λm=>?_⟩
 grind

theorem rowHd.monoV {g g':Gh} (h:g.lv g') {id:Nat} {a:Option Addr} {n c k:Nat} (m:∃t,g.τ[id]?=some t/\rowHd t a n c k) :
  ∃t,g'.τ[id]?=some t/\rowHd t a n c k:=by
 obtain ⟨t,f,h0,i,e⟩:=m;obtain ⟨t',d,j,p,hs⟩:=h.tau _ _ f;refine ⟨t',d,hs.trans h0,uJ i j,e.imp (λh=>h) λ⟨b,o,l,q⟩=>⟨b,o,l,λr=>?_⟩⟩
 grind
theorem rowPt.monoV {g g':Gh} (h:g.lv g') {id:Nat} {b q n k p:Nat} (f:∃t,g.τ[id]?=some t/\rowPt t b q n k p) :
  ∃t,g'.τ[id]?=some t/\rowPt t b q n k p:=by
 obtain ⟨t,c,h0,d,i⟩:=f;obtain ⟨t',a,e,j,hs⟩:=h.tau _ _ c;refine ⟨t',a,hs.trans h0,uJ d e,λl=>?_⟩
 grind

mutual
theorem V.monoV {g g':Gh} (h:g.lv g'):∀(a:AV) (v:Value),V g a v->V g' a v
 | .bool _,_,hv=>by simpa only [V] using hv
 | .int _ _,_,hv=>by simpa only [V] using hv
 | .str _,_,hv=>by simpa only [V] using hv
 | .nilp,_,hv=>by simpa only [V] using hv
 | .nilm,_,hv=>by simpa only [V] using hv
 | .nilf,_,hv=>by simpa only [V] using hv
 | .nili,_,hv=>by simpa only [V] using hv
 | .nilsl,_,hv=>by simpa only [V] using hv
 | .ptr _ _,_,hv=>by
  simp only [V] at hv ⊢;obtain ⟨c,w,e⟩:=hv;exact ⟨c,h.sig _ _ w,e⟩
 | .fptr cs,_,hv=>by
  simp only [V] at hv ⊢;obtain ⟨b,o,e,w⟩:=hv;exact ⟨b,o,e,VC.monoV h b o cs w⟩
 | .sl k es,_,hv=>by
  simp only [V] at hv ⊢;obtain ⟨a,c,e,d,j,l⟩:=hv;exact ⟨a,c,e,d,j,l.imp id λ⟨b,o,e,hh⟩=>⟨b,o,e,VE.monoV h b k o es hh⟩⟩
 | .osl q k es,_,hv=>by
  simp only [V] at hv ⊢;obtain ⟨a,c,e,d,j,l,z⟩:=hv;refine ⟨a,c,e,d,j,l.imp id λ⟨b,o,e,hh⟩=>⟨b,o,e,VE.monoV h b k o es hh⟩,?_⟩;cases q with
  | none=>exact z
  | some id=>exact capOk.monoV h z
 | .msl _ _ _ _,_,hv=>by
  simp only [V] at hv ⊢;obtain ⟨c,cap,w,e⟩:=hv;exact ⟨c,cap,h.sig _ _ w,e⟩
 | .rsl _ _ _ _,_,hv=>by
  simp only [V] at hv ⊢;obtain ⟨a,c,e,d,j,l⟩:=hv;exact ⟨a,c,e,d,j,rowHd.monoV h l⟩
 | .rsuf _ i k n p,_,hv=>by
  simp only [V] at hv ⊢;obtain ⟨a,c,e,d,t,B,l⟩:=hv;rcases l with l | ⟨b,q,C,l⟩
  ·obtain ⟨t',A,_⟩:=h.tau _ _ B
   simp_all
  ·obtain ⟨t',A,z⟩:=rowPt.monoV h ⟨t,B,l⟩
   grind
 | .rptr _ _ _ _ _,_,hv=>by
  simp only [V] at hv ⊢;obtain ⟨b,q,e,l⟩:=hv;exact ⟨b,q,e,rowPt.monoV h l⟩
 | .map _,_,hv=>by
  simp only [V] at hv ⊢;obtain ⟨c,w,e⟩:=hv;exact ⟨c,h.sig _ _ w,e⟩
 | .fn f a5 bs,_,hv=>by
  simp only [V] at hv ⊢;obtain ⟨fs,cs,e,d,j⟩:=hv;exact ⟨fs,cs,e,VL.monoV h a5 _ d,VL.monoV h bs _ j⟩
 | .iface t x,_,hv=>by
  simp only [V] at hv ⊢;obtain ⟨u,e,d⟩:=hv;exact ⟨u,e,V.monoV h x u d⟩
 | .agg cs,_,hv=>by
  simp only [V] at hv ⊢;obtain ⟨vs,e,d⟩:=hv;exact ⟨vs,e,VA.monoV h cs _ d⟩
 | .tup xs,_,hv=>by
  simp only [V] at hv ⊢;obtain ⟨vs,e,d⟩:=hv;exact ⟨vs,e,VL.monoV h xs _ d⟩
 | .glob _,_,hv=>by simpa only [V] using hv
 | .yld _,_,hv=>by
  simp only [V] at hv ⊢;obtain ⟨c,w,e⟩:=hv;exact ⟨c,h.sig _ _ w,e⟩
 | .bsl k es,_,hv=>by
  simp only [V] at hv ⊢;obtain ⟨a,c,e,d,j,l⟩:=hv;exact ⟨a,c,e,d,j,l.imp id λ⟨b,o,e,hh,y⟩=>⟨b,o,e,VE.monoV h b k o es hh,h.old _ y⟩⟩
 | .nsl k es,_,hv=>by
  simp only [V] at hv ⊢;obtain ⟨a,c,e,d,j,l⟩:=hv;exact ⟨a,c,e,d,j,l.imp id λ⟨b,o,e,hh,s,y⟩=>⟨b,o,e,VE.monoV h b k o es hh,s,h.new _ _ y⟩⟩
 | .gsl k n,_,hv=>by
  simp only [V] at hv ⊢;obtain ⟨a,c,e,d,j,l⟩:=hv;exact ⟨a,c,e,d,j,l.imp id λ⟨b,o,s,e,y,hs⟩=>⟨b,o,s,e,h.new _ _ y,hs⟩⟩
 | .gptr m,_,hv=>by
  simp only [V] at hv ⊢;obtain ⟨b,o,s,e,y,hs⟩:=hv;exact ⟨b,o,s,e,h.new _ _ y,hs⟩
 | .any,_,_=>by simp only [V]
 | .opq,_,hv=>by simpa only [V] using hv
theorem VL.monoV {g g':Gh} (h:g.lv g'):∀(a5:List AV) (vs:List Value),VL g a5 vs->VL g' a5 vs
 | [],_,hv=>by simpa only [VL] using hv
 | a::r,_,hv=>by
  simp only [VL] at hv ⊢;obtain ⟨v,s,e,d,j⟩:=hv;exact ⟨v,s,e,V.monoV h a v d,VL.monoV h r s j⟩
theorem VA.monoV {g g':Gh} (h:g.lv g'):∀(a5:List AV) (vs:List Value),VA g a5 vs->VA g' a5 vs
 | [],_,hv=>by simpa only [VA] using hv
 | a::r,_,hv=>by
  simp only [VA] at hv ⊢;obtain ⟨v,s,e,⟨h0,d⟩,j⟩:=hv;exact ⟨v,s,e,⟨h0,V.monoV h a v d⟩,VA.monoV h r s j⟩
theorem VC.monoV {g g':Gh} (h:g.lv g') (b:Nat):∀(o:Nat) (a5:List AV),VC g b o a5->VC g' b o a5
 | _,[],_=>by simp only [VC]
 | o,a::r,hv=>by
  simp only [VC] at hv ⊢;obtain ⟨⟨v,h0,d,j⟩,l⟩:=hv;exact ⟨⟨v,h.phi _ _ _ h0,d,V.monoV h a v j⟩,VC.monoV h b (o+1) r l⟩
theorem VE.monoV {g g':Gh} (h:g.lv g') (b k:Nat):∀(o:Nat) (a5:List (List AV)),VE g b k o a5->VE g' b k o a5
 | _,[],_=>by simp only [VE]
 | o,e::r,hv=>by
  simp only [VE] at hv ⊢;obtain ⟨⟨h0,d⟩,j⟩:=hv;exact ⟨⟨h0,VC.monoV h b o e d⟩,VE.monoV h b k (o+k) r j⟩
end

theorem capOk.mono {g g':Gh} (h:g.le g') {id:Nat} {a:Option Addr} {n c k:Nat} (b:∃t,g.τ[id]?=some t/\capOk t a n c k):∃t,g'.τ[id]?=some t/\capOk t a n c k:=capOk.monoV h.lv b
theorem V.mono {g g':Gh} (h:g.le g') (a:AV) (v:Value) (b:V g a v):V g' a v:=V.monoV h.lv a v b
theorem VL.mono {g g':Gh} (h:g.le g') (a5:List AV) (vs:List Value) (a:VL g a5 vs):VL g' a5 vs:=VL.monoV h.lv a5 vs a
theorem VA.mono {g g':Gh} (h:g.le g') (a5:List AV) (vs:List Value) (a:VA g a5 vs):VA g' a5 vs:=VA.monoV h.lv a5 vs a
theorem VC.mono {g g':Gh} (h:g.le g') (b:Nat) (o:Nat) (a5:List AV) (a:VC g b o a5):VC g' b o a5:=VC.monoV h.lv b o a5 a
theorem VE.mono {g g':Gh} (h:g.le g') (b k:Nat) (o:Nat) (es:List (List AV)) (a:VE g b k o es):VE g' b k o es:=VE.monoV h.lv b k o es a
theorem Gh.lv_dd (g:Gh) (d:List Nat):g.lv { g with δ:=d }:=⟨λ_ _ _ e=>e,λ_ _ e=>e,λ_ t e=>⟨t,e,uh _,λ_=>rfl,rfl⟩,λ_ _ e=>e,λ_ e=>e⟩
theorem VL.dd {g:Gh} {d:List Nat} {a5:List AV} (h:VL g a5 vs):VL { g with δ:=d } a5 vs:=VL.monoV (g.lv_dd d) _ _ h

section
variable {g:Gh}
theorem VL.length:∀{a5:List AV} {vs:List Value},VL g a5 vs->a5.length=vs.length
 | [],_,h=>by simp only [VL] at h;subst h;rfl
 | _::r,_,h=>by
  simp only [VL] at h;obtain ⟨v,s,rfl,_,a⟩:=h;simp [VL.length a]
theorem VA.toVL:∀{a5:List AV} {vs:List Value},VA g a5 vs->VL g a5 vs
 | [],_,h=>by simp only [VA] at h;simp only [VL];exact h
 | _::r,_,h=>by
  simp only [VA] at h;obtain ⟨v,s,rfl,⟨_,b⟩,a⟩:=h;simp only [VL];exact ⟨v,s,rfl,b,VA.toVL a⟩
theorem VA.ones:∀{a5:List AV} {vs:List Value},VA g a5 vs->a5.all AV.one=true
 | [],_,_=>rfl
 | _::r,_,h=>by
  simp only [VA] at h;obtain ⟨v,s,rfl,⟨h0,_⟩,a⟩:=h;simp [h0,VA.ones a]
theorem VA.mk:∀{a5:List AV} {vs:List Value},VL g a5 vs->a5.all AV.one=true->VA g a5 vs
 | [],_,h,_=>by simp only [VL] at h;simp only [VA];exact h
 | _::r,_,h,ho=>by
  simp only [VL] at h;obtain ⟨v,s,rfl,b,a⟩:=h;simp only [tI,ud] at ho;simp only [VA];exact ⟨v,s,rfl,⟨ho.1,b⟩,VA.mk a ho.2⟩
theorem VL.get:∀{a5:List AV} {vs:List Value},VL g a5 vs->∀(i:Nat) (a:AV),a5[i]?=some a->∃v,vs[i]?=some v/\V g a v
 | [],_,_,i,a,hi=>by simp at hi
 | _::r,_,h,i,a,hi=>by
  simp only [VL] at h;obtain ⟨v,s,rfl,c,b⟩:=h;cases i with
  | zero=>simp at hi;subst hi;exact ⟨v,rfl,c⟩
  | succ i=>simpa using VL.get b i a (by simp_all)
theorem VL.getR:∀{a5:List AV} {vs:List Value},VL g a5 vs->∀(i:Nat) (v:Value),vs[i]?=some v->∃a,a5[i]?=some a/\V g a v
 | [],_,h,i,v,hi=>by simp only [VL] at h;subst h;simp at hi
 | a::r,_,h,i,v,hi=>by
  simp only [VL] at h;obtain ⟨v',s,rfl,c,b⟩:=h;cases i with
  | zero=>simp at hi;subst hi;exact ⟨a,rfl,c⟩
  | succ i=>simpa using VL.getR b i v (by simp_all)
theorem VL.set:∀{a5:List AV} {vs:List Value},VL g a5 vs->∀(i:Nat) (a:AV) (v:Value),V g a v->VL g (a5.set i a) (vs.set i v)
 | [],_,h,i,a,v,_=>by simp only [VL] at h;subst h;simp [VL]
 | _::r,_,h,i,a,v,hv=>by
  simp only [VL] at h;obtain ⟨v',s,rfl,c,b⟩:=h;cases i with
  | zero=>simp only [ug,VL];exact ⟨v,s,rfl,hv,b⟩
  | succ i=>simp only [uf,VL];exact ⟨v',_,rfl,c,VL.set b i a v hv⟩
theorem VL.append:∀{a5 bs:List AV} {vs ws:List Value},VL g a5 vs->VL g bs ws->VL g (a5++bs) (vs++ws)
 | [],_,_,_,h,k=>by simp only [VL] at h;subst h;simpa using k
 | _::r,_,_,_,h,k=>by
  simp only [VL] at h;obtain ⟨v',s,rfl,b,a⟩:=h;simp only [tP,VL];exact ⟨v',_,rfl,b,VL.append a k⟩
theorem VL.take:∀{a5:List AV} {vs:List Value} (n:Nat),VL g a5 vs->VL g (a5.take n) (vs.take n)
 | [],_,n,h=>by simp only [VL] at h;subst h;simp [VL]
 | _::r,_,n,h=>by
  simp only [VL] at h;obtain ⟨v',s,rfl,b,a⟩:=h;cases n with
  | zero=>simp [VL]
  | succ n=>simp only [sF,VL];exact ⟨v',_,rfl,b,VL.take n a⟩
theorem VL.drop:∀{a5:List AV} {vs:List Value} (n:Nat),VL g a5 vs->VL g (a5.drop n) (vs.drop n)
 | [],_,n,h=>by simp only [VL] at h;subst h;simp [VL]
 | _::r,_,n,h=>by
  have a:=h;simp only [VL] at h;obtain ⟨v',s,rfl,c,b⟩:=h;cases n with
  | zero=>simpa using a
  | succ n=>simpa using VL.drop n b
theorem VL.cons {a:AV} {v:Value} {a5:List AV} (h:V g a v) (k:VL g a5 vs):VL g (a::a5) (v::vs):=by
 simp only [VL];exact ⟨v,vs,rfl,h,k⟩
theorem all_take {α:Type} {p:α->Bool} {l:List α} (n:Nat) (h:l.all p=true):(l.take n).all p=true:=by
 grind
theorem all_drop {α:Type} {p:α->Bool} {l:List α} (n:Nat) (h:l.all p=true):(l.drop n).all p=true:=by
 grind
theorem VA.append {a5 bs:List AV} {vs ws:List Value} (h:VA g a5 vs) (k:VA g bs ws):VA g (a5++bs) (vs++ws) :=
 VA.mk (VL.append h.toVL k.toVL) (by rw [pO,h.ones,k.ones];rfl)
theorem VA.take {a5:List AV} {vs:List Value} (n:Nat) (h:VA g a5 vs):VA g (a5.take n) (vs.take n):=VA.mk (VL.take n h.toVL) (all_take n h.ones)
theorem VA.drop {a5:List AV} {vs:List Value} (n:Nat) (h:VA g a5 vs):VA g (a5.drop n) (vs.drop n):=VA.mk (VL.drop n h.toVL) (all_drop n h.ones)

theorem VC.get {b:Nat}:∀{o:Nat} {a5:List AV},VC g b o a5->∀(i:Nat) (a:AV),a5[i]?=some a->∃v,g.Φ b (o+i)=some v/\a.pure=true/\V g a v
 | _,[],_,i,a,hi=>by simp at hi
 | o,_::r,h,i,a,hi=>by
  simp only [VC] at h;obtain ⟨⟨v,h0,d,c⟩,e⟩:=h;cases i with
  | zero=>simp at hi;subst hi;exact ⟨v,h0,d,c⟩
  | succ i =>
   obtain ⟨v',f,k,j⟩:=VC.get e i a (by simp_all)
   grind
theorem VC.mk {b:Nat}:∀{o:Nat} {a5:List AV},(∀(i:Nat) (a:AV),a5[i]?=some a->∃v,g.Φ b (o+i)=some v/\a.pure=true/\V g a v)->VC g b o a5
 | _,[],_=>by simp only [VC]
 | o,a::r,h=>by
  simp only [VC];refine ⟨by simpa using h 0 a rfl,VC.mk (o:=o+1) λi x f=>?_⟩;obtain ⟨v,c,e,d⟩:=h (i+1) x (by simp_all)
  grind
theorem VC.drop {b o:Nat} {a5:List AV} (n:Nat) (h:VC g b o a5):VC g b (o+n) (a5.drop n):=VC.mk λi a c=>by
 rw [uG] at c;obtain ⟨v,d,e⟩:=h.get _ _ c
 grind
theorem VC.take {b o:Nat} {a5:List AV} (n:Nat) (h:VC g b o a5):VC g b o (a5.take n):=VC.mk λi a c=>by
 rw [uw] at c;split at c
 ·exact h.get _ _ c
 ·cases c
theorem VC.append {b o:Nat} {a5 bs:List AV} (h:VC g b o a5) (k:VC g b (o+a5.length) bs):VC g b o (a5++bs):=VC.mk λi a c=>by
 by_cases hi:i < a5.length
 ·rw [un hi] at c;exact h.get _ _ c
 ·rw [um (by omega)] at c;obtain ⟨v,d,e⟩:=k.get _ _ c
  grind
theorem VE.get {b k:Nat}:∀{o:Nat} {es:List (List AV)},VE g b k o es->∀(i:Nat) (e:List AV),es[i]?=some e->e.length=k/\VC g b (o+i * k) e
 | _,[],_,i,e,hi=>by simp at hi
 | o,_::r,h,i,e,hi=>by
  simp only [VE] at h;obtain ⟨⟨h0,d⟩,a⟩:=h;cases i with
  | zero=>simp at hi;subst hi;exact ⟨h0,by simp_all⟩
  | succ i =>
   obtain ⟨c,f⟩:=VE.get a i e (by simp_all)
   grind
theorem VE.mk {b k:Nat}:∀{o:Nat} {es:List (List AV)},(∀(i:Nat) (e:List AV),es[i]?=some e->e.length=k/\VC g b (o+i * k) e)->VE g b k o es
 | _,[],_=>by simp only [VE]
 | o,e::r,h=>by
  simp only [VE];refine ⟨by simpa using h 0 e rfl,VE.mk (o:=o+k) λi x d=>?_⟩;obtain ⟨a,c⟩:=h (i+1) x (by simp_all)
  grind
theorem VE.drop {b k o:Nat} {es:List (List AV)} (n:Nat) (h:VE g b k o es):VE g b k (o+n * k) (es.drop n):=VE.mk λi a c=>by
 rw [uG] at c;obtain ⟨d,e⟩:=h.get _ _ c
 grind
theorem VE.take {b k o:Nat} {es:List (List AV)} (n:Nat) (h:VE g b k o es):VE g b k o (es.take n):=VE.mk λi a c=>by
 rw [uw] at c;split at c
 ·exact h.get _ _ c
 ·cases c
theorem VE.append {b k o:Nat} {es fs:List (List AV)} (h:VE g b k o es) (d:VE g b k (o+es.length * k) fs):VE g b k o (es++fs):=VE.mk λi a c=>by
 by_cases hi:i < es.length
 ·rw [un hi] at c;exact h.get _ _ c
 ·rw [um (by omega)] at c;obtain ⟨e,f⟩:=d.get _ _ c;refine ⟨e,?_⟩;have:o+i * k=o+es.length * k+(i - es.length) * k:=by
   rw [rb,<- tu];congr 2;omega
  simp_all
end
end Go.Vv
namespace Go.Vv
open Go

def cv1:Value->AV
 | .bool b=>.bool b
 | .int k n=>.int k n
 | .string s=>.str s.data.toList
 | .pointer none=>.nilp
 | .slice none 0 0=>.nilsl
 | .map none=>.nilm
 | .nilFunc=>.nilf
 | .nilIface=>.nili
 | _=>aundef
def okc1:Value->Bool
 | .bool _ | .int _ _ | .pointer none | .slice none 0 0 | .map none | .nilFunc | .nilIface=>true
 | .string s=>decide (s.size<=maxLen)
 | _=>false
def cv:Value->AV
 | .agg cs=>.agg (cs.toList.map cv1)
 | .tuple _=>aundef
 | v=>cv1 v
def okc:Value->Bool
 | .agg cs=>cs.toList.all okc1
 | .tuple vs=>vs.isEmpty
 | v=>okc1 v

def ev (env:List AV):Operand->AV
 | .tmp t=>env.getD t aundef
 | .const v=>cv v
 | .global g=>.glob g
 | .func f=>.fn (.func f) [] []
def yr:Operand->Bool
 | .const v=>okc v
 | _=>true

def yp:TypeDesc->Bool
 | .struct _ | .array _ _=>true
 | _=>false
def tyfix (P:Program) (t:TypeId):AV->AV
 | .nilsl=>match P.underlying t with
  | some (.slice e)=>.osl none (P.cellsOf e) []
  | _=>.nilsl
 | v=>v
def setd (env:List AV):Option Tmp->AV->List AV
 | some d,v=>env.set d v
 | none,_=>env

inductive Res where
 | ok (v:AV) (h:AH)
 | len (n:Nat) (v:AV) (h:AH)
 | call (f:FuncId) (args:List AV)
 | round (id:Nat) (args:List AV)
 | any (S:AV->AH->Prop)
 | fail

def oo (h:AH):Option AV->Res
 | some v=>.ok v h
 | none=>.fail
def oh (h:Option AH):Res :=
 match h with
 | some h=>.ok aundef h
 | none=>.fail
def ovh:Option (AV×AH)->Res
 | some (v,h)=>.ok v h
 | none=>.fail

def AH.blk (h:AH) (id:Nat):Option Blk:=h.blks[id]?
def AH.new (h:AH) (b:Blk):AH:={ h with blks:=h.blks++[b] }
def AH.put (h:AH) (id:Nat) (b:Blk):AH:={ h with blks:=h.blks.set id b }

def qZ (h:AH) (ag:Bool) (n:Nat):AV->Option AV
 | .ptr id off=>match h.blk id with
  | some (.cells cs)=>if ag then (if off+n<=cs.length then some (.agg ((cs.drop off).take n)) else none) else cs[off]?
  | some (.bld _ x)=>if ag=false/\off=1 then some x else none
  | _=>none
 | .fptr cs=>if ag then (if n<=cs.length then some (.agg (cs.take n)) else none) else cs[0]?
 | .rptr id t k m p=>match h.blk id with
  | some (.row t' k' es)=>if t'=t/\k'=k/\es.length=m then (if ag then (if p+n<=es.flatten.length then some (.agg ((es.flatten.drop p).take n)) else none) else es.flatten[p]?) else none
  | _=>none
 | _=>none
def yX (cs:List AV) (off:Nat) (vs:List AV):List AV:=cs.take off++vs++cs.drop (off+vs.length)
def aClean:AV->Option AV
 | .osl _ k es=>some (.sl k es)
 | .nilsl=>none
 | v=>if v.pure then some v else none
def xy:List AV->Option (List AV)
 | []=>some []
 | a::r=>match aClean a,xy r with
  | some a,some r=>some (a::r)
  | _,_=>none
def rows (k:Nat):Nat->List AV->List (List AV)
 | 0,_=>[]
 | n+1,cs=>cs.take k::rows k n (cs.drop k)
def aStore (h:AH) (n:Nat) (p v:AV):Option AH :=
 match p,v.cells? with
 | .ptr id off,some vs=>match h.blk id with
  | some (.cells cs)=>if vs.length=n/\off+n<=cs.length then some (h.put id (.cells (yX cs off vs))) else none
  | some (.bld T _)=>match vs with
   | [y]=>if n=1/\off=1 then some (h.put id (.bld T y)) else none
   | _=>none
  | _=>none
 | .rptr id t k m p,some vs=>match h.blk id with
  | some (.row t' k' es)=>if t'=t/\k'=k/\es.length=m/\vs.length=n/\p+n<=es.flatten.length then (match xy vs with
   | some vs=>some (h.put id (.row t k (rows k m (yX es.flatten p vs))))
   | none=>none) else none
  | _=>none
 | .gptr m,some vs=>if vs.length=n/\n<=m then some h else none
 | _,_=>none
def qg (off:Nat):AV->Option AV
 | .ptr id o=>some (.ptr id (o+off))
 | .fptr cs=>some (.fptr (cs.drop off))
 | .rptr id t k n p=>some (.rptr id t k n (p+off))
 | .gptr m=>if off<=m then some (.gptr (m - off)) else none
 | _=>none
def aPart (ag:Bool) (off n:Nat):AV->Option AV
 | .agg cs=>if ag then some (.agg ((cs.drop off).take n)) else cs[off]?
 | _=>none
def vN (place:Nat->Option (Nat×Nat)):List AV->List (Nat×AV)->Option (List AV)
 | cs,[]=>some cs
 | cs,(i,v)::r =>
  match place i,v.cells? with
  | some (off,size),some vs=>if vs.length=size/\off+size<=cs.length then vN place (yX cs off vs) r else none
  | _,_=>none
def aLen:AV->Option Nat
 | .sl _ es | .osl _ _ es | .bsl _ es | .nsl _ es=>some es.length
 | .msl _ _ _ n | .rsl _ _ _ n | .gsl _ n=>some n
 | .rsuf _ _ _ n p=>some (n - p)
 | .nilsl=>some 0
 | _=>none
def qf (k:Nat) (x i:AV):Option AV :=
 match x,i with
 | .sl k' es,.int _ n | .osl _ k' es,.int _ n | .bsl k' es,.int _ n | .nsl k' es,.int _ n=>if k'=k/\0<=n then (es[n.toNat]?).map .fptr else none
 | .gsl k' m,.int _ n=>if k'=k/\0<=n/\n < m then some (.gptr k) else none
 | .msl k' id off len,.int _ n=>if k'=k/\0<=n/\n < len then some (.ptr id (off+n.toNat * k)) else none
 | .rsl id t k' m,.int _ n=>if k'=k/\0<=n/\n < m then some (.rptr id t k m (n.toNat * k)) else none
 | .rsuf id t k' m p,.int _ n=>if k'=k/\0<=n/\n < (m - p:Nat) then some (.rptr id t k m ((p+n.toNat) * k)) else none
 | _,_=>none
def aIndexArr (len k:Nat) (x i:AV):Option AV :=
 match x,i with
 | .ptr id off,.int _ n=>if 0<=n/\n < len then some (.ptr id (off+n.toNat * k)) else none
 | .fptr cs,.int _ n=>if 0<=n/\n < len then some (.fptr (cs.drop (n.toNat * k))) else none
 | _,_=>none
def aIndexStr (x i:AV):Option AV :=
 match x,i with
 | .str s,.int _ n=>if 0<=n then (s[n.toNat]?).map λb=>.int .u8 b.toNat else none
 | _,_=>none
def aIndexAgg (ag:Bool) (len k:Nat) (x i:AV):Option AV :=
 match i with
 | .int _ n=>if 0<=n/\n < len then aPart ag (n.toNat * k) k x else none
 | _=>none
def aBound (d:Nat):Option AV->Option Nat
 | none=>some d
 | some (.int _ n)=>if 0<=n then some n.toNat else none
 | _=>none
def aSliceStr (s:List UInt8) (lo hi:Option AV):Option AV :=
 match aBound 0 lo,aBound s.length hi with
 | some l,some h=>if l<=h/\h<=s.length then some (.str ((s.take h).drop l)) else none
 | _,_=>none
def aSliceSl (full:Bool) (k:Nat) (es:List (List AV)) (lo hi mx:Option AV):Option AV :=
 match aBound 0 lo,aBound es.length hi with
 | some l,some h =>
  if l<=h/\h<=es.length then
   match mx with
   | none=>some (if full&&hi.isNone then .osl none k (es.drop l) else .sl k ((es.take h).drop l))
   | some (.int _ m)=>if m=h/\hi.isSome then some (.osl none k ((es.take h).drop l)) else none
   | _=>none
  else none
 | _,_=>none
def aSlice (x:AV) (lo hi mx:Option AV):Option AV :=
 match x with
 | .str s=>if mx.isNone then aSliceStr s lo hi else none
 | .sl k es=>aSliceSl false k es lo hi mx
 | .osl o k es=>aSliceSl o.isNone k es lo hi mx
 | _=>none

def xh (op:BinOp) (k:IntKind) (a b:Int):Option AV :=
 match op with
 | .add=>some (.int k (k.wrap (a+b)))
 | .sub=>some (.int k (k.wrap (a - b)))
 | .mul=>some (.int k (k.wrap (a * b)))
 | .quo=>if b=0 then none else some (.int k (k.wrap (a.tdiv b)))
 | .rem=>if b=0 then none else some (.int k (a.tmod b))
 | .and=>some (.int k (k.wrap ((BitVec.ofInt k.bits a &&& BitVec.ofInt k.bits b).toNat)))
 | .or=>some (.int k (k.wrap ((BitVec.ofInt k.bits a ||| BitVec.ofInt k.bits b).toNat)))
 | .xor=>some (.int k (k.wrap ((BitVec.ofInt k.bits a ^^^ BitVec.ofInt k.bits b).toNat)))
 | .andNot=>some (.int k (k.wrap ((BitVec.ofInt k.bits a &&& ~~~(BitVec.ofInt k.bits b)).toNat)))
 | .eql=>some (.bool (a==b))
 | .neq=>some (.bool (a != b))
 | .lss=>some (.bool (decide (a < b)))
 | .leq=>some (.bool (decide (a<=b)))
 | .gtr=>some (.bool (decide (a > b)))
 | .geq=>some (.bool (decide (a >= b)))
 | .shl=>if b < 0 then none else some (.int k (k.wrap (a * 2 ^ min b.toNat k.bits)))
 | .shr=>if b < 0 then none else some (.int k (a.fdiv (2 ^ min b.toNat k.bits)))
def aStr (op:BinOp) (x y:List UInt8):Option AV :=
 match op with
 | .add=>if x.length+y.length<=maxLen then some (.str (x++y)) else none
 | .eql=>some (.bool (x==y))
 | .neq=>some (.bool !(x==y))
 | .lss=>some (.bool (Op.bytesLess x y))
 | .leq=>some (.bool (Op.bytesLess x y || x==y))
 | .gtr=>some (.bool !(Op.bytesLess x y || x==y))
 | .geq=>some (.bool !(Op.bytesLess x y))
 | _=>none
inductive Kd where
 | b | i | s
 deriving DecidableEq
def aEq1:Kd->AV->AV->Option Bool
 | .b,.bool a,.bool b=>some (a==b)
 | .i,.int k a,.int k' b=>if k=k' then some (a==b) else none
 | .s,.str a,.str b=>some (a==b)
 | _,_,_=>none
def qW:List Kd->List AV->List AV->Option Bool
 | [],[],[]=>some true
 | k::ks,a::r,b::s=>match aEq1 k a b,qW ks r s with
  | some x,some y=>some (x&&y)
  | _,_=>none
 | _,_,_=>none
def aNil:TypeDesc->AV->AV->Option Bool
 | .pointer _,.nilp,.nilp | .func _ _ _,.nilf,.nilf | .map _ _,.nilm,.nilm=>some true
 | .pointer _,.nilp,.ptr _ _ | .pointer _,.nilp,.fptr _ | .pointer _,.ptr _ _,.nilp | .pointer _,.fptr _,.nilp=>some false
 | .func _ _ _,.nilf,.fn _ _ _ | .func _ _ _,.fn _ _ _,.nilf=>some false
 | .map _ _,.nilm,.map _ | .map _ _,.map _,.nilm=>some false
 | .slice _,.msl _ _ _ _,.nilsl=>some false
 | _,_,_=>none
def plainFsOf (P:Program) (f:TypeId->Option (List Kd)):List Field->Nat->Option (List Kd)
 | [],_=>some []
 | x :: fs, acc => if x.name ≠ "_" ∧ x.offset = acc then (match f x.type, P.info? x.type with
   | some ks,some i=>if i.size=ks.length then (match plainFsOf P f fs (acc+i.size) with
    | some r=>some (ks++r)
    | none=>none) else none
   | _,_=>none) else none
def x5 (P:Program):Nat->TypeId->Option (List Kd)
 | 0,_=>none
 | d+1,t=>match P.underlying t with
  | some .bool=>some [.b]
  | some (.int _)=>some [.i]
  | some .string=>some [.s]
  | some (.struct fs)=>if P.stoodInHeld t then none else plainFsOf P (x5 P d) fs.toList 0
  | _=>none
abbrev plainFs (P:Program) (d:Nat) (fs:List Field) (acc:Nat):Option (List Kd):=plainFsOf P (x5 P d) fs acc
def arrKs (P:Program) (t:TypeId):Option (List Kd) :=
 match P.underlying t with
 | some (.array n e)=>match P.underlying e,P.info? e with
  | some (.int _),some i=>if i.size=1 then some (List.replicate n .i) else none
  | _,_=>none
 | _=>none
def aEq (P:Program) (t:TypeId) (x y:AV):Option Bool :=
 match x,y with
 | .agg cs,.agg ds=>if P.eqGuardType P.depth t=false/\(P.underlying t).any yp then (match (x5 P 6 t).or (arrKs P t) with
  | some ks=>qW ks cs ds
  | none=>none) else none
 | .bool a,.bool b=>match P.underlying t with
  | some .bool=>some (a==b)
  | _=>none
 | x,y=>match P.underlying t with
  | some d=>aNil d x y
  | none=>none
def yM (P:Program) (op:BinOp) (t:TypeId) (x y:AV):Option AV :=
 match x,y with
 | .int k a,.int k' b=>if k=k' \/ op=.shl \/ op=.shr then xh op k a b else none
 | .str a,.str b=>aStr op a b
 | x,y=>match op with
  | .eql=>(aEq P t x y).map .bool
  | .neq=>(aEq P t x y).map λb=>.bool !b
  | _=>none
def aNilq (P:Program) (op:BinOp) (t:TypeId) (h:AH):AV->AV->Option (AV->AH->Prop)
 | .sl _ es,.nilsl | .osl _ _ es,.nilsl=>match P.underlying t,op with
  | some (.slice _),.eql=>some λv h'=>h'=h/\∃b,v=.bool b/\(b=true->es=[])
  | some (.slice _),.neq=>some λv h'=>h'=h/\∃b,v=.bool (!b)/\(b=true->es=[])
  | _,_=>none
 | _,_=>none
theorem aNilq_none {P:Program} {op:BinOp} {t:TypeId} {h:AH} {x y v:AV} (b:yM P op t x y=some v):aNilq P op t h x y=none:=by
 unfold aNilq;split
 ·rename_i k es;split
  ·rename_i a;simp [yM,aEq,a,aNil] at b
  ·rename_i a;simp [yM,aEq,a,aNil] at b
  ·rfl
 ·rename_i q k es;split
  ·rename_i a;simp [yM,aEq,a,aNil] at b
  ·rename_i a;simp [yM,aEq,a,aNil] at b
  ·rfl
 ·rfl
def aIfc (P:Program) (op:BinOp) (t:TypeId) (oy:Operand) (a b:AV):Option AV :=
 match P.underlying t,oy,a,b with
 | some (.interface _),.const .nilIface,.nili,.nili=>(match op with
  | .eql=>some (.bool true)
  | .neq=>some (.bool false)
  | _=>none)
 | some (.interface _),.const .nilIface,.iface _ _,.nili=>(match op with
  | .eql=>some (.bool false)
  | .neq=>some (.bool true)
  | _=>none)
 | _,_,_,_=>none
def aUn (op:UnOp):AV->Option AV
 | .int k n=>match op with
  | .neg=>some (.int k (k.wrap (0 - n)))
  | .xor=>some (.int k (k.wrap ((BitVec.ofInt k.bits (if k.signed then -1 else k.max) ^^^ BitVec.ofInt k.bits n).toNat)))
  | _=>none
 | .bool b=>match op with
  | .not=>some (.bool !b)
  | _=>none
 | _=>none
def aConvert (d:TypeDesc):AV->Option AV
 | .int _ n=>match d with
  | .int k=>some (.int k (k.wrap n))
  | _=>none
 | .str s=>match d with
  | .string=>some (.str s)
  | _=>none
 | _=>none

def lim:Nat:=2147483648
def AH.grow (h:AH) (o:Option Nat) (n m:Nat):Option (Nat×AH) :=
 match o with
 | none=>some (h.toks.length,{ h with toks:=h.toks++[n+m] })
 | some id=>if h.toks[id]?=some n then some (id,{ h with toks:=h.toks.set id (n+m) }) else none
def aAppend (h:AH) (k:Nat) (s:AV) (ys:List (List AV)):Option (AV×AH) :=
 match s with
 | .osl o k' es =>
  if ys.length=0 then (match o with
   | none=>some (.osl (some h.toks.length) k' es,{ h with toks:=h.toks++[es.length] })
   | some id=>some (.osl (some id) k' es,h)) else
  if k'=k/\es.length+ys.length<=lim then
   match h.grow o es.length ys.length with
   | some (id,h')=>some (.osl (some id) k (es++ys),h')
   | none=>none
  else none
 | .rsl id t k' n=>if ys.length=0 then some (.rsl id t k' n,h) else (match h.blk id with
  | some (.row t' k'' es)=>if (t'=t/\k'=k/\k''=k)/\es.length=n/\h.toks[t]?=some n/\n+ys.length<=lim then
    some (.rsl id t k (n+ys.length),{ h.put id (.row t k (es++ys)) with toks:=h.toks.set t (n+ys.length) }) else none
  | _=>none)
 | _=>none
def aNews (k:Nat):AV->Option (List (List AV))
 | .sl k' es | .osl _ k' es | .bsl k' es | .nsl k' es=>if k'=k then some es else none
 | .str s=>if k=1 then some (s.map λb=>[.int .u8 b.toNat]) else none
 | _=>none
def aMM (mx:Bool):AV->List AV->Option AV
 | v,[]=>some v
 | .int k a,.int k' b::r=>if k=k' then aMM mx (.int k (if mx then (if b > a then b else a) else (if b < a then b else a))) r else none
 | _,_=>none

def aBuiltin (P:Program) (h:AH) (b:Builtin) (ts:List TypeId) (args:List AV):Res :=
 match b,ts,args with
 | .len,[t],[x]=>match P.underlying t with
  | some .string=>match x with
   | .str s=>.len s.length (.int .i64 s.length) h
   | _=>.fail
  | some (.slice _)=>match aLen x with
   | some n=>.len n (.int .i64 n) h
   | none=>.fail
  | some (.map _ _)=>match x with
   | .map id=>match h.blk id with
    | some (.mapo es _)=>.any λv h'=>h'=h/\v=.int .i64 es.length
    | _=>.fail
   | _=>.fail
  | _=>.fail
 | .append,[t,u],[s,x]=>match P.underlying t,P.underlying u with
  | some (.slice e),some (.slice _) | some (.slice e),some .string=>match P.info? e with
   | some i=>if i.bytes<=65536/\0 < i.size/\(i.zero.map (·.cells.size))=some i.size then (match aNews i.size (tyfix P u x) with
    | some ys=>ovh (aAppend h i.size (tyfix P t s) ys)
    | none=>.fail) else .fail
   | none=>.fail
  | _,_=>.fail
 | .min,_,x::r=>oo h (aMM false x r)
 | .max,_,x::r=>oo h (aMM true x r)
 | _,_,_=>.fail

def fieldOff (P:Program) (t:TypeId) (f:Nat):Option (Nat×TypeId) :=
 match P.underlying t with
 | some (.struct fs)=>(fs[f]?).map λx=>(x.offset,x.type)
 | _=>none
def leafTys (P:Program):Nat->TypeId->List TypeId
 | 0,_=>[]
 | d+1,t=>match P.underlying t with
  | some (.struct fs)=>fs.toList.flatMap λf=>leafTys P d f.type
  | some (.array n e)=>(List.replicate n (leafTys P d e)).flatten
  | _=>[t]
def fixCells (P:Program):List TypeId->List AV->List AV
 | t::ts,a::a5=>tyfix P t a::fixCells P ts a5
 | _,a5=>a5
def xl (P:Program) (t:TypeId):Option (List AV) :=
 match P.info? t with
 | some i=>match i.zero with
  | some z=>if okc z then (match (cv z).cells? with
   | some cs=>some (fixCells P (leafTys P 6 t) cs)
   | none=>none) else none
  | none=>none
 | none=>none
def vD (P:Program) (fs:Array Field):Option (List (Nat×Nat)):=fs.toList.mapM λf=>(P.info? f.type).map λi=>(f.offset,i.size)
def partTy (d:TypeDesc) (i:Nat):TypeId :=
 match d with
 | .struct fs=>((fs[i]?).map (·.type)).getD 0
 | .array _ e | .slice e=>e
 | _=>0
def xw (P:Program) (d:TypeDesc) (env:List AV) (parts:Array (Nat×Operand)):List (Nat×AV):=parts.toList.map λp=>(p.1,tyfix P (partTy d p.1) (ev env p.2))

def dec (s:List UInt8) (pos:Nat):Nat×Nat:=Utf8.decode ⟨s.toArray⟩ pos
def aNext (h:AH):AV->Res
 | .ptr id 0=>match h.blk id with
  | some (.siter s pos)=>if pos < s.length then .ok (.tup [.bool true,.int .i64 pos,.int .i32 (dec s pos).1]) (h.put id (.siter s (pos+(dec s pos).2))) else .ok (.tup [.bool false]) h
  | _=>.fail
 | _=>.fail

def yZ (P:Program) (kt:TypeId) (a b:AV):Option Bool :=
 match P.underlying kt with
 | some .bool=>aEq1 .b a b
 | some (.int _)=>aEq1 .i a b
 | some .string=>aEq1 .s a b
 | some (.struct _)=>match a,b with
  | .agg cs,.agg ds=>(match x5 P 6 kt with
   | some ks=>qW ks cs ds
   | none=>none)
  | _,_=>none
 | _=>none
def qV (P:Program) (kt:TypeId) (k:AV):List (AV×AV)->Nat->Option (Option (Nat×AV))
 | [],_=>some none
 | e::r,i=>match yZ P kt k e.1 with
  | some true=>some (some (i,e.2))
  | some false=>qV P kt k r (i+1)
  | none=>none
def aZero (P:Program) (t:TypeId):Option AV :=
 match P.info? t with
 | some i=>match i.zero with
  | some z=>if okc z then (match cv z with
   | .agg cs=>some (.agg (fixCells P (leafTys P 6 t) cs))
   | v=>some (tyfix P t v)) else none
  | none=>none
 | none=>none
def AV.zc1:AV->AV
 | .osl _ k es=>.sl k es
 | v=>v
def AV.zcl:AV->AV
 | .agg cs=>.agg (cs.map AV.zc1)
 | v=>v
def aZeroM (P:Program) (t:TypeId):Option AV:=(aZero P t).map AV.zcl
def withOk (ok:Bool) (v:AV) (b:Bool):AV:=if ok then .tup [v,.bool b] else v
def aLookup (P:Program) (h:AH) (kt et:TypeId) (ok:Bool) (m k:AV):Option AV :=
 if yZ P kt k k=some true then (match m with
  | .nilm=>(aZeroM P et).map λz=>withOk ok z false
  | .map id=>match h.blk id with
   | some (.mapo es _)=>match qV P kt k es 0,aZeroM P et with
    | some (some (_,v)),_=>some (withOk ok v true)
    | some none,some z=>some (withOk ok z false)
    | _,_=>none
   | _=>none
  | _=>none) else none
def aEntry (P:Program) (h:AH) (kt et:TypeId) (m k:AV):Option (AV×AH) :=
 if yZ P kt k k=some true then (match m with
  | .map id=>match h.blk id with
   | some (.mapo es 0)=>match qV P kt k es 0,aZeroM P et with
    | some (some (i,v)),_=>some (.tup [v,.int .i64 i],h)
    | some none,some z=>some (.tup [z,.int .i64 es.length],h.put id (.mapo (es++[(k,z)]) 0))
    | _,_=>none
   | _=>none
  | _=>none) else none
def aEntryStore (h:AH) (m s x:AV):Option AH :=
 match m,s with
 | .map id,.int _ n=>match h.blk id with
  | some (.mapo es 0)=>if 0<=n then (match es[n.toNat]? with
   | some e=>some (h.put id (.mapo (es.set n.toNat (e.1,x.zcl)) 0))
   | none=>none) else none
  | _=>none
 | _,_=>none
def aMapPut (P:Program) (h:AH) (kt:TypeId) (m k x:AV):Option AH :=
 if yZ P kt k k=some true then (match m with
  | .map id=>match h.blk id with
   | some (.mapo es c)=>match qV P kt k es 0 with
    | some (some (i,_))=>some (h.put id (.mapo (es.set i (k,x.zcl)) c))
    | some none=>some (h.put id (.mapo (es++[(k,x.zcl)]) c))
    | none=>none
   | _=>none
  | _=>none) else none

def aRecv (P:Program) (h:AH) (t:TypeId) (v:AV) (name:String):Option (FuncId×AV) :=
 match P.info? t with
 | some i=>match i.methods.toList.find? (λm=>m.name==name) with
  | some m=>if m.path.isEmpty then (match m.func with
   | some (f,p)=>match P.underlying t,p with
    | some (.pointer _),true=>some (f,v)
    | some (.pointer e),false=>match v,P.underlying e,P.info? e with
     | .ptr id off,some d,some j=>(qZ h (yp d) j.size (.ptr id off)).map λx=>(f,tyfix P e x)
     | _,_,_=>none
    | some _,false=>some (f,v)
    | _,_=>none
   | none=>none) else none
  | none=>none
 | none=>none
def zt (P:Program) (o:Oper) (env:List AV) (h:AH):Res :=
 match o.op with
 | .move x | .assign x=>if yr x then .ok (tyfix P o.type (ev env x)) h else .fail
 | .pick c a b=>if yr a&&yr b&&yr c then (match ev env c with
  | .bool t=>.ok (if t then ev env a else ev env b) h
  | _=>.fail) else .fail
 | .alloc t=>match xl P t with
  | some cs=>.ok (.ptr h.blks.length 0) (h.new (.cells cs))
  | none=>.fail
 | .box t x=>if yr x then (match (tyfix P t (ev env x)).cells? with
  | some cs=>.ok (.ptr h.blks.length 0) (h.new (.cells cs))
  | none=>.fail) else .fail
 | .build t parts=>if parts.all λp=>yr p.2 then (match P.underlying t,xl P t with
  | some (.struct fs),some z=>match vD P fs with
   | some pl=>oo h ((vN (λi=>pl[i]?) z (xw P (.struct fs) env parts)).map .agg)
   | none=>.fail
  | some (.array n e),some z=>match P.info? e with
   | some j=>oo h ((vN (λi=>some (i * j.size,j.size)) z (xw P (.array n e) env parts)).map .agg)
   | none=>.fail
  | _,_=>.fail) else .fail
 | .load t a=>match P.underlying t,P.info? t with
  | some d,some i=>oo h ((qZ h (yp d) i.size (ev env a)).map (tyfix P t))
  | _,_=>.fail
 | .store t a x=>if yr x then (match P.info? t with
  | some i=>oh (aStore h i.size (ev env a) (tyfix P t (ev env x)))
  | none=>.fail) else .fail
 | .nilCheck x=>if yr x then (match ev env x with
  | .ptr id o=>.ok (.ptr id o) h
  | .fptr cs=>.ok (.fptr cs) h
  | .rptr id t k n p=>.ok (.rptr id t k n p) h
  | .gptr m=>.ok (.gptr m) h
  | .fn (.func f) a b=>.ok (.fn (.func f) a b) h
  | _=>.fail) else .fail
 | .binOp op t x y _=>if yr x&&yr y then (match aNilq P op t h (ev env x) (ev env y) with
  | some S=>.any S
  | none=>oo h ((yM P op t (ev env x) (ev env y)).or (aIfc P op t y (ev env x) (ev env y)))) else .fail
 | .unOp op _ x=>if yr x then oo h (aUn op (ev env x)) else .fail
 | .convert s t x=>if yr x then (match P.underlying s,P.underlying t with
  | some _,some d=>oo h (aConvert d (ev env x))
  | _,_=>.fail) else .fail
 | .makeFunc f a b=>if a.all yr&&b.all yr then .ok (.fn f (a.toList.map (ev env)) (b.toList.map (ev env))) h else .fail
 | .slice t x lo hi mx=>if yr x&&lo.all yr&&hi.all yr&&mx.all yr then (match P.underlying t with
  | some .string=>match ev env x with
   | .str s=>oo h (aSlice (.str s) (lo.map (ev env)) (hi.map (ev env)) (mx.map (ev env)))
   | _=>.fail
  | some (.slice e)=>match P.info? e with
   | some i=>match tyfix P t (ev env x) with
    | .sl k es=>if k=i.size then oo h (aSlice (.sl k es) (lo.map (ev env)) (hi.map (ev env)) (mx.map (ev env))) else .fail
    | .osl q k es=>if k=i.size then oo h (aSlice (.osl q k es) (lo.map (ev env)) (hi.map (ev env)) (mx.map (ev env))) else .fail
    | _=>.fail
   | none=>.fail
  | some (.array n e)=>match P.info? e with
   | some i=>match ev env x,lo.map (ev env),hi,mx with
    | .ptr id off,some (.int _ l),none,none=>if 0<=l/\l < n/\n<=maxLen then .ok (.msl i.size id (off+l.toNat * i.size) (n - l.toNat)) h else .fail
    | _,_,_,_=>.fail
   | none=>.fail
  | _=>.fail) else .fail
 | .fieldAddr t x f=>match fieldOff P t f with
  | some (off,u)=>match P.info? u with
   | some i=>if i.size=0 \/ yr x=false then .fail else oo h (qg off (ev env x))
   | none=>.fail
  | none=>.fail
 | .field t x f=>match fieldOff P t f with
  | some (off,u)=>match P.underlying u,P.info? u with
   | some d,some i=>if yr x then oo h ((aPart (yp d) off i.size (ev env x)).map (tyfix P u)) else .fail
   | _,_=>.fail
  | none=>.fail
 | .indexAddr t x i=>if yr x&&yr i then (match P.underlying t with
  | some (.slice e)=>match P.info? e with
   | some j=>oo h (qf j.size (ev env x) (ev env i))
   | none=>.fail
  | some (.array n e)=>match P.info? e with
   | some j=>oo h (aIndexArr n j.size (ev env x) (ev env i))
   | none=>.fail
  | _=>.fail) else .fail
 | .index t x i=>if yr x&&yr i then (match P.underlying t with
  | some .string=>oo h (aIndexStr (ev env x) (ev env i))
  | some (.array n e)=>match P.underlying e,P.info? e with
   | some d,some j=>oo h ((aIndexAgg (yp d) n j.size (ev env x) (ev env i)).map (tyfix P e))
   | _,_=>.fail
  | _=>.fail) else .fail
 | .extract t i=>if yr t then (match ev env t with
  | .tup vs=>oo h ((vs[i]?).map (tyfix P o.type))
  | _=>.fail) else .fail
 | .buildSlice t n parts=>if parts.all λp=>yr p.2 then (match P.underlying t with
  | some (.slice e)=>match P.info? e,xl P e with
   | some i,some z=>if 0 < i.size/\n * i.size<=65536/\z.length=i.size then
     (match (vN (λj=>some (j * i.size,i.size)) ((List.replicate n z).flatten) (xw P (.slice e) env parts)) with
           | some cs=>match xy cs with
             | some cs=>.ok (.osl none i.size (rows i.size n cs)) h
             | none=>.fail
           | none=>.fail) else .fail
   | _,_=>.fail
  | _=>.fail) else .fail
 | .call c=>if c.args.all yr&&c.args.size==c.argTypes.size then (match c.callee with
  | .builtin b=>aBuiltin P h b c.argTypes.toList (c.args.toList.map (ev env))
  | .value f=>if yr f=false then .fail else match ev env f with
   | .fn (.func g) first caps=>.call g (first++(c.args.toList.zip c.argTypes.toList).map (λp=>tyfix P p.2 (ev env p.1))++caps)
   | .yld id=>.round id ((c.args.toList.zip c.argTypes.toList).map (λp=>tyfix P p.2 (ev env p.1)))
   | _=>.fail
  | .invoke x name=>if yr x=false then .fail else match ev env x with
   | .iface t v=>match aRecv P h t v name with
    | some (g,b)=>.call g (b::(c.args.toList.zip c.argTypes.toList).map (λp=>tyfix P p.2 (ev env p.1)))
    | none=>.fail
   | _=>.fail) else .fail
 | .range t x=>if yr x then (match P.underlying t,ev env x with
  | some .string,.str s=>.ok (.ptr h.blks.length 0) (h.new (.siter s 0))
  | _,_=>.fail) else .fail
 | .next x str=>if yr x&&str then aNext h (ev env x) else .fail
 | .makeMap _ none=>.ok (.map h.blks.length) (h.new (.mapo [] 0))
 | .lookup t x i ok=>if yr x&&yr i then (match P.underlying t with
  | some (.map kt et)=>oo h (aLookup P h kt et ok (ev env x) (ev env i))
  | _=>.fail) else .fail
 | .mapEntry t x i=>if yr x&&yr i then (match P.underlying t with
  | some (.map kt et)=>ovh (aEntry P h kt et (ev env x) (ev env i))
  | _=>.fail) else .fail
 | .entryStore _ x i y=>if yr x&&yr i&&yr y then oh (aEntryStore h (ev env x) (ev env i) (ev env y)) else .fail
 | .mapUpdate t x i y=>if yr x&&yr i&&yr y then (match P.underlying t with
  | some (.map kt _)=>oh (aMapPut P h kt (ev env x) (ev env i) (ev env y))
  | _=>.fail) else .fail
 | _=>.fail

end Go.Vv
namespace Go.Vv
open Go Go.RowKit
variable {w':World}

def ME (g:Gh):List (AV×AV)->List MapEntry->Prop
 | [],es=>es=[]
 | (k,x)::r,es=>∃e s,es=e::s/\V g k e.key/\V g x e.val/\ME g r s

theorem ME.mono {g g':Gh} (h:g.le g'):∀(a5:List (AV×AV)) (vs:List MapEntry),ME g a5 vs->ME g' a5 vs
 | [],_,hv=>by simpa only [ME] using hv
 | (k,x)::r,_,hv=>by
  simp only [ME] at hv ⊢;obtain ⟨e,s,rfl,b,a,c⟩:=hv;exact ⟨e,s,rfl,b.mono h,a.mono h,ME.mono h r s c⟩

theorem VA.dd {g:Gh} {d:List Nat} {a5:List AV} {vs:List Value} (h:VA g a5 vs):VA { g with δ:=d } a5 vs:=VA.monoV (g.lv_dd d) _ _ h
theorem ME.dd {g:Gh} {d:List Nat}:∀{a5:List (AV×AV)} {vs:List MapEntry},ME g a5 vs->ME { g with δ:=d } a5 vs
 | [],_,hv=>by simpa only [ME] using hv
 | (k,x)::r,_,hv=>by
  simp only [ME] at hv ⊢;obtain ⟨e,s,rfl,b,a,c⟩:=hv;exact ⟨e,s,rfl,V.monoV (g.lv_dd d) _ _ b,V.monoV (g.lv_dd d) _ _ a,ME.dd c⟩
def BlkOk (g:Gh) (w:World) (c:Nat):Blk->Prop
 | .cells cs=>∃vs t,w.heap[c]?=some (.cells vs t (0,0))/\VA g cs vs.toList
 | .siter s pos=>w.heap[c]?=some (.stringIter ⟨s.toArray⟩ pos)
 | .mapo es clock=>∃ents n,w.heap[c]?=some (.map ents n)/\ME g es ents.toList/\(clock=0->n=ents.size/\∀(i:Nat) (e:MapEntry),ents[i]?=some e->e.born=i)
 | .loop st pe env ps assign body=>∃fn tmps d,w.heap[c]?=some (.loop { state:=st,pending:=pe,fn,tmps,params:=ps,assign,body,defers:=d })/\VL g env tmps.toList
 | .row _ _ _=>False
 | .bld T x=>∃a v,w.heap[c]?=some (.cells #[a,v] T (0,0))/\(a=.pointer none \/ a=.pointer (some ⟨c,0,none⟩))/\x.one=true/\V g x v
 | .miter id n seen=>∃m,g.σ[id]?=some (some m)/\w.heap[c]?=some (.mapIter (some m) n seen.toArray n)
 | .miter0=>w.heap[c]?=some (.mapIter none 0 #[] 0)
 | .other | .dead=>True
def RowOk (g:Gh) (w:World) (i k:Nat) (es:List (List AV)):Prop :=
 ∃t,g.τ[i]?=some t/\t.row=true/\t.n=es.length/\(∀e ∈ es,e.length=k)/\es.flatten.all AV.pure=true/\(es=[] \/ ∃b o e cs ty,t.loc=some (b,o+es.length * k,e) /\
  w.heap[b]?=some (.cells cs ty (0,0))/\VA g es.flatten ((cs.toList.drop o).take (es.length * k))/\o+es.length * k<=cs.size/\∀j,o<=j->g.Φ b j=none)
def RowB (g:Gh) (w:World):Blk->Prop
 | .row i k es=>RowOk g w i k es
 | .dead=>True
 | _=>False

theorem BlkOk.mono {g g':Gh} {w w':World} {c:Nat} {k:Blk} (h:g.le g') (i:w'.heap[c]?=w.heap[c]?) (f:BlkOk g w c k):BlkOk g' w' c k:=by
 cases k with
 | cells cs=>obtain ⟨vs,t,e,b⟩:=f;exact ⟨vs,t,i.trans e,b.mono h⟩
 | bld T x=>obtain ⟨a,v,e,b,j,l⟩:=f;exact ⟨a,v,i.trans e,b,j,V.mono h _ _ l⟩
 | siter s pos=>exact i.trans f
 | mapo es clock=>obtain ⟨ents,n,e,b,j⟩:=f;exact ⟨ents,n,i.trans e,b.mono h,j⟩
 | loop st pe env ps assign body=>obtain ⟨fn,tmps,d,e,b⟩:=f;exact ⟨fn,tmps,d,i.trans e,b.mono h⟩
 | row _ _ _=>exact f
 | miter id n seen=>obtain ⟨m,e,b⟩:=f;exact ⟨m,h.sig _ _ e,i.trans b⟩
 | miter0=>exact i.trans f
 | other=>trivial
 | dead=>trivial
theorem RowOk.mono {g g':Gh} {w w':World} {i k:Nat} {es:List (List AV)} (h:g.le g') (f:g'.τ[i]?=g.τ[i]?)
  (r:∀t b x,g.τ[i]?=some t->t.row=true->t.loc=some (b,x)->w'.heap[b]?=w.heap[b]?/\∀j,g'.Φ b j=g.Φ b j) (s:RowOk g w i k es):RowOk g' w' i k es:=by
 obtain ⟨t,d,c,u,m,p,v⟩:=s;refine ⟨t,f.trans d,c,u,m,p,v.imp id ?_⟩
 rintro ⟨b,o,e,cs,ty,a,k2,l,z,q⟩
 obtain ⟨n,A⟩:=r t b _ d c a;exact ⟨b,o,e,cs,ty,a,n.trans k2,l.mono h,z,λj y=>(A j).trans (q j y)⟩
theorem RowB.mono {g g':Gh} {w w':World} {k:Blk} (h:g.le g') (f:∀(i:Nat) (t:TI),g.τ[i]?=some t->t.row=true->g'.τ[i]?=some t)
  (d:∀(i:Nat) t b x,g.τ[i]?=some t->t.row=true->t.loc=some (b,x)->w'.heap[b]?=w.heap[b]?/\∀j,g'.Φ b j=g.Φ b j) (a:RowB g w k):RowB g' w' k:=by
 cases k with
 | row i k es =>
  have a:RowOk g w i k es:=a;obtain ⟨t,c,e,_⟩:=id a;exact a.mono h ((f i t c e).trans c.symm) (d i)
 | dead=>trivial
 | _=>exact a.elim

structure LocOk (Φ:Nat->Nat->Option Value) (B:Nat) (w:World) (b l e:Nat):Prop where
 lo:B<=b
 lt:b < w.heap.size
 cells:∃cs ty,w.heap[b]?=some (.cells cs ty (0,0))/\e<=cs.size
 free:∀j,l<=j->Φ b j=none

theorem LocOk.mono {Φ Φ':Nat->Nat->Option Value} {B:Nat} {w:World} {b l e:Nat} (h:LocOk Φ B w b l e) (k:w.heap.size<=w'.heap.size) (c:w'.heap[b]?=w.heap[b]?)
  (d:∀j,l<=j->Φ' b j=Φ b j):LocOk Φ' B w' b l e :=
 ⟨h.lo,sg h.lt k,by obtain ⟨cs,ty,i,f⟩:=h.cells;exact ⟨cs,ty,c.trans i,f⟩,λj a=>(d j a).trans (h.free j a)⟩

def Apart (g:Gh) (b:Nat):Prop:=(∀i:Nat,g.σ[i]? ≠ some (some b))/\b ∉ g.δ/\∀(i:Nat) (t:TI) (x:Nat×Nat),g.τ[i]?=some t->t.loc ≠ some (b,x)
def NOk (B:Nat) (g:Gh) (w:World) (b:Nat):BK->Prop
 | .new s=>B<=b/\Apart g b/\∃cs ty,w.heap[b]?=some (.cells cs ty (0,0))/\cs.size=s
 | .gar s=>B<=b/\Apart g b/\(∃cs ty,w.heap[b]?=some (.cells cs ty (0,0))/\cs.size=s)/\∀j,g.Φ b j=none
 | .shut o=>B<=b/\Apart g b/\w.heap[b]?=some o/\∀j,g.Φ b j=none
 | .frz o=>B<=b/\Apart g b/\w.heap[b]?=some o
theorem NOk.mono {B:Nat} {g g':Gh} {w:World} {b:Nat} {x:BK} (h:NOk B g w b x)
  (k:B<=b->b < w.heap.size->Apart g b->w'.heap[b]?=w.heap[b]?/\Apart g' b/\((∀j,g.Φ b j=none)->∀j,g'.Φ b j=none)):NOk B g' w' b x:=by
 cases x with
 | new s =>
  obtain ⟨a,e,cs,ty,c,i⟩:=h;obtain ⟨d,k2,_⟩:=k a (uO.1 c).1 e;exact ⟨a,k2,cs,ty,d.trans c,i⟩
 | gar s =>
  obtain ⟨a,e,⟨cs,ty,c,i⟩,l⟩:=h;obtain ⟨d,k2,f⟩:=k a (uO.1 c).1 e;exact ⟨a,k2,⟨cs,ty,d.trans c,i⟩,f l⟩
 | shut o =>
  obtain ⟨a,e,c,l⟩:=h;obtain ⟨d,k2,f⟩:=k a (uO.1 c).1 e;exact ⟨a,k2,d.trans c,f l⟩
 | frz o =>
  obtain ⟨a,e,c⟩:=h;obtain ⟨d,k2,_⟩:=k a (uO.1 c).1 e;exact ⟨a,k2,d.trans c⟩

structure Rel (B:Nat) (w0:World) (g:Gh) (h:AH) (w:World):Prop where
 below:Below B w0 w
 bsz:B<=w.heap.size
 phi:∀b j v,g.Φ b j=some v->w.cell? ⟨b,j,none⟩=some v
 slen:g.σ.length=h.blks.length
 blk:∀(i c:Nat) (k:Blk),g.σ[i]?=some (some c)->h.blks[i]?=some k->B<=c/\c < w.heap.size/\BlkOk g w c k/\(k ≠ .dead->∀j,g.Φ c j=none)
 tlen:g.τ.length=h.toks.length
 tok:∀(i:Nat) (t:TI),g.τ[i]?=some t->h.toks[i]?=some t.n/\∀b l e,t.loc=some (b,l,e)->LocOk g.Φ B w b l e
 sinj:∀(i j c:Nat),g.σ[i]?=some (some c)->g.σ[j]?=some (some c)->i=j
 tinj:∀(i j:Nat) (t t':TI) (b:Nat) (x y:Nat×Nat),g.τ[i]?=some t->g.τ[j]?=some t'->t.loc=some (b,x)->t'.loc=some (b,y)->i=j
 sep:∀(i c j:Nat) (t:TI) (b:Nat) (x:Nat×Nat),g.σ[i]?=some (some c)->g.τ[j]?=some t->t.loc=some (b,x)->b ≠ c
 dfr:∀c,c ∈ g.δ->B<=c/\w.heap[c]?=some (.deferred (some []))/\∀i:Nat,g.σ[i]? ≠ some (some c)
 row:∀(i:Nat) (k:Blk),g.σ[i]?=some none->h.blks[i]?=some k->RowB g w k
 rinj:∀(i j t k k':Nat) (es es':List (List AV)),h.blks[i]?=some (.row t k es)->h.blks[j]?=some (.row t k' es')->i=j
 nb:∀(b:Nat) (x:BK),g.N b=some x->NOk B g w b x
 ob:∀b:Nat,g.O b->b < w.heap.size/\∀s,g.N b ≠ some (.new s)/\g.N b ≠ some (.gar s)
 oa:∀b:Nat,g.O b->Apart g b

section
variable {B:Nat} {w0 w:World} {g:Gh} {h:AH}

theorem Rel.phi_lt (r:Rel B w0 g h w) {b j:Nat} {v:Value} (e:g.Φ b j=some v):b < w.heap.size:=World.block_lt_of_cell? w ⟨b,j,none⟩ (r.phi b j v e)

theorem Rel.drew (r:Rel B w0 g h w):Rel B w0 g h w.drew :=
 ⟨r.below.drew,r.bsz,r.phi,r.slen,λi c k s d=>by obtain ⟨f,a,p,n⟩:=r.blk i c k s d;exact ⟨f,a,p.mono (Gh.le.refl g) rfl,n⟩,r.tlen,
   λi t j=>by obtain ⟨f,a⟩:=r.tok i t j;exact ⟨f,λb l e o=>(a b l e o).mono (uh _) rfl λ_ _=>rfl⟩,r.sinj,r.tinj,r.sep,r.dfr,λi k hi d=>(r.row i k hi d).mono (Gh.le.refl g) (λ_ _ h _=>h) (λ_ _ _ _ _ _ _=>⟨rfl,λ_=>rfl⟩),r.rinj,λb x m=>(r.nb b x m).mono λ_ _ q=>⟨rfl,q,λh=>h⟩,r.ob,r.oa⟩
theorem Rel.nlt (r:Rel B w0 g h w) {b:Nat} {x:BK} (c:g.N b=some x):b < w.heap.size:=by
 have:=r.nb b x c;cases x with
 | new s=>obtain ⟨_,_,cs,ty,a,_⟩:=this;exact (uO.1 a).1
 | gar s=>obtain ⟨_,_,⟨cs,ty,a,_⟩,_⟩:=this;exact (uO.1 a).1
 | shut o=>exact (uO.1 this.2.2.1).1
 | frz o=>exact (uO.1 this.2.2).1
theorem Rel.nnew (r:Rel B w0 g h w) {b:Nat} (a:w.heap.size<=b):g.N b=none:=by
 rcases hx:g.N b with _ | x
 ·rfl
 ·exact absurd (r.nlt hx) (by omega)
theorem Rel.ntok (r:Rel B w0 g h w) {i:Nat} {t:TI} {b:Nat} {y:Nat×Nat} (c:g.τ[i]?=some t) (a:t.loc=some (b,y)):g.N b=none:=by
 rcases hx:g.N b with _ | x
 ·rfl
 ·have:=r.nb b x hx;cases x <;> exact absurd a (this.2.1.2.2 i t y c)
theorem Rel.nsig (r:Rel B w0 g h w) {i c:Nat} (hi:g.σ[i]?=some (some c)):g.N c=none:=by
 rcases hx:g.N c with _ | x
 ·rfl
 ·have:=r.nb c x hx;cases x <;> exact absurd hi (this.2.1.1 i)
theorem Rel.otok (r:Rel B w0 g h w) {i:Nat} {t:TI} {b:Nat} {y:Nat×Nat} (c:g.τ[i]?=some t) (a:t.loc=some (b,y)):¬ g.O b:=λh=>(r.oa b h).2.2 i t y c a
theorem Rel.nold (r:Rel B w0 g h w) {b:Nat} (a:w.heap.size<=b):¬ g.O b:=λh=>absurd (r.ob b h).1 (by omega)
theorem Rel.dfr_lt (r:Rel B w0 g h w) {c:Nat} (a:c ∈ g.δ):c < w.heap.size:=(uO.1 (r.dfr c a).2.1).1

theorem Rel.alloc0 (r:Rel B w0 g h w) (o:Obj):Rel B w0 g h (w.alloc o) :=
 ⟨r.below.alloc r.bsz o,by have:=r.bsz;simp;omega,λb j v e=>(World.cell?_alloc_lt w o ⟨b,j,none⟩ (r.phi_lt e)).trans (r.phi b j v e),r.slen,
   λi c k d p=>by
     obtain ⟨q,f,u,s⟩:=r.blk i c k d p;exact ⟨q,by simp;omega,u.mono (Gh.le.refl g) (Below.heap_alloc w o c f),s⟩,r.tlen,
   λi t n=>by
     obtain ⟨q,f⟩:=r.tok i t n;exact ⟨q,λb l e a=>(f b l e a).mono (by simp) (Below.heap_alloc w o b (f b l e a).lt) λ_ _=>rfl⟩,r.sinj,r.tinj,r.sep,λc d=>⟨(r.dfr c d).1,(Below.heap_alloc w o c (r.dfr_lt d)).trans (r.dfr c d).2.1,(r.dfr c d).2.2⟩,λi k hi p=>(r.row i k hi p).mono (Gh.le.refl g) (λ_ _ h _=>h) (λi t b x n _ a=>⟨Below.heap_alloc w o b ((r.tok i t n).2 b x.1 x.2 a).lt,λ_=>rfl⟩),r.rinj,λb x m=>(r.nb b x m).mono λ_ a y=>⟨Below.heap_alloc w o b a,y,λh=>h⟩,λb m=>⟨by have:=(r.ob b m).1;simp;omega,(r.ob b m).2⟩,r.oa⟩

def Gh.addS (g:Gh) (c:Option Nat):Gh:={ g with σ:=g.σ++[c] }
theorem Gh.le_addS (g:Gh) (c:Option Nat):g.le (g.addS c) :=
 ⟨λ_ _ _ e=>e,λi x e=>by
  have:i < g.σ.length:=(uc.1 e).1;simp only [Gh.addS];rw [un this];exact e,λ_ t e=>⟨t,e,uh _,λ_=>rfl,rfl⟩,λ_ h=>h,λ_ _ h=>h,λ_ h=>h⟩
theorem addS_get {g:Gh} {c x:Option Nat} {i:Nat} (e:(g.addS c).σ[i]?=some x):g.σ[i]?=some x \/ (i=g.σ.length/\x=c):=by
 simp only [Gh.addS] at e
 grind

theorem Rel.adopt (r:Rel B w0 g h w) {c:Nat} (k:Blk) (J:B<=c) (K:c < w.heap.size) (C:BlkOk (g.addS (some c)) w c k) (o:∀j,g.Φ c j=none)
  (hs:∀(i x:Nat),g.σ[i]?=some (some x)->x ≠ c) (F:∀(i:Nat) (t:TI) (b:Nat) (x:Nat×Nat),g.τ[i]?=some t->t.loc=some (b,x)->b ≠ c) (z:c ∉ g.δ) (A:g.N c=none) (v:¬ g.O c) :
  Rel B w0 (g.addS (some c)) (h.new k) w :=
 ⟨r.below,r.bsz,r.phi,by simp [Gh.addS,AH.new,r.slen],λi x k' d a=>by
   have n:=r.slen;rcases addS_get d with d | ⟨rfl,f⟩
   ·have hi:i < h.blks.length:=by rw [<- n];exact (uc.1 d).1
    simp only [AH.new] at a;rw [un hi] at a;obtain ⟨H,E,I,G⟩:=r.blk i x k' d a;exact ⟨H,E,I.mono (g.le_addS _) rfl,G⟩
   ·obtain rfl:=uS f;simp only [AH.new] at a;rw [n,um (uh _)] at a;simp at a;subst a;exact ⟨J,K,C,λ_=>o⟩,r.tlen,r.tok,
  λi j x hi p=>by
   rcases addS_get hi with hi | ⟨rfl,D⟩ <;> rcases addS_get p with p | ⟨rfl,e⟩
   ·exact r.sinj i j x hi p
   ·exact absurd (uS e) (hs i x hi)
   ·exact absurd (uS D) (hs j _ p)
   ·rfl,
  r.tinj,λi x j t b y d q u=>by
   rcases addS_get d with d | ⟨rfl,f⟩
   ·exact r.sep i x j t b y d q u
   ·obtain rfl:=uS f;exact F j t b y q u,
  λx d=>⟨(r.dfr x d).1,(r.dfr x d).2.1,λi hi=>by
   rcases addS_get hi with hi | ⟨_,f⟩
   ·exact (r.dfr x d).2.2 i hi
   ·obtain rfl:=uS f;exact z d⟩,
  λi k' hi a=>by
   rcases addS_get hi with hi | ⟨_,f⟩
   ·have u:i < h.blks.length:=by rw [<- r.slen];exact (uc.1 hi).1
    simp only [AH.new] at a;rw [un u] at a;exact (r.row i k' hi a).mono (g.le_addS _) (λ_ _ h _=>h) (λ_ _ _ _ _ _ _=>⟨rfl,λ_=>rfl⟩)
   ·exact absurd f (by simp),
  λi j t l k2 es es' hi p=>by
   have L:∀t l es,k ≠ .row t l es:=by rintro t l es rfl;exact C
   simp only [AH.new] at hi p;have key:∀(i t l:Nat) (es:List (List AV)),(h.blks++[k])[i]?=some (.row t l es)->h.blks[i]?=some (.row t l es):=by
    intro i t l es hi
    grind
   exact r.rinj i j t l k2 es es' (key _ _ _ _ hi) (key _ _ _ _ p),
  λb x m=>by
   by_cases hbc:b=c
   ·subst hbc;have m:g.N b=some x:=m;rw [A] at m;cases m
   ·exact (r.nb b x m).mono λ_ _ s=>⟨rfl,⟨λi hi=>by
     rcases addS_get hi with hi | ⟨_,f⟩
     ·exact s.1 i hi
     ·exact hbc (uS f),s.2⟩,λh=>h⟩,r.ob,
  λb m=>by
   have s:=r.oa b m;refine ⟨λi hi=>?_,s.2⟩;rcases addS_get hi with hi | ⟨_,f⟩
   ·exact s.1 i hi
   ·obtain rfl:=uS f;exact v m⟩

theorem Rel.newBlk (r:Rel B w0 g h w) (o:Obj) (k:Blk) (c:BlkOk (g.addS (some w.heap.size)) (w.alloc o) w.heap.size k):Rel B w0 (g.addS (some w.heap.size)) (h.new k) (w.alloc o) :=
 (r.alloc0 o).adopt k r.bsz (by simp) c
  (λj=>by
   rcases he:g.Φ w.heap.size j with _ | v
   ·rfl
   ·exact absurd (r.phi_lt he) (tW _))
  (λi x a e=>by
   have hi:i < h.blks.length:=by rw [<- r.slen];exact (uc.1 a).1
   have:=(r.blk i x _ a (ue hi)).2.1;omega)
  (λi t b x f d e=>by
   have:=((r.tok i t f).2 b x.1 x.2 d).lt;omega)
  (λl=>tW _ (r.dfr_lt l)) (r.nnew (uh _)) (r.nold (uh _))

theorem Rel.newCells (r:Rel B w0 g h w) {cs:List AV} {vs:Array Value} (t:TypeId) (a:VA g cs vs.toList) :
  Rel B w0 (g.addS (some w.heap.size)) (h.new (.cells cs)) (w.alloc (.cells vs t)) :=
 r.newBlk _ _ ⟨vs,t,heap_alloc_new w _,a.mono (g.le_addS _)⟩

def Gh.vow (g:Gh) (b:Nat) (f:Nat->Option Value):Gh:={ g with Φ:=λb' j=>if b'=b then (match g.Φ b j with | some v=>some v | none=>f j) else g.Φ b' j }
theorem Gh.le_vow (g:Gh) (b:Nat) (f:Nat->Option Value):g.le (g.vow b f) :=
 ⟨λa j v e=>by
  simp only [Gh.vow];by_cases hb:a=b
  ·subst hb;simp [e]
  ·simp [hb,e],λ_ _ e=>e,λ_ t e=>⟨t,e,uh _,λ_=>rfl,rfl⟩,λ_ h=>h,λ_ _ h=>h,λ_ h=>h⟩

theorem Rel.vow (r:Rel B w0 g h w) {b:Nat} {f:Nat->Option Value} (D:∀j v,f j=some v->w.cell? ⟨b,j,none⟩=some v)
  (hs:∀(i c:Nat),g.σ[i]?=some (some c)->h.blks[i]? ≠ some .dead->c ≠ b)
  (z:∀(i:Nat) (t:TI) (l e:Nat),g.τ[i]?=some t->t.loc=some (b,l,e)->t.row=false/\∀j,l<=j->f j=none) (s:g.N b=none):Rel B w0 (g.vow b f) h w :=
 ⟨r.below,r.bsz,λa j v e=>by
   simp only [Gh.vow] at e;by_cases hb:a=b
   ·subst hb;simp only [ur] at e;split at e
    ·rename_i v' F;cases e;exact r.phi _ _ _ F
    ·exact D j v e
   ·simp only [hb,uH] at e;exact r.phi _ _ _ e,r.slen,
  λi c k y o=>by
   obtain ⟨q,n,E,A⟩:=r.blk i c k y o;refine ⟨q,n,E.mono (g.le_vow b f) rfl,λhd j=>?_⟩;have m:c ≠ b:=hs i c y (by rw [o];intro e;injection e with e;exact hd e);simp only [Gh.vow,m,uH];exact A hd j,r.tlen,
  λi t hi=>by
   obtain ⟨q,n⟩:=r.tok i t hi;refine ⟨q,λa l e p=>(n a l e p).mono (uh _) rfl λj u=>?_⟩;simp only [Gh.vow];by_cases hb:a=b
   ·subst hb;simp only [ur,(n a l e p).free j u];exact (z i t l e hi p).2 j u
   ·simp only [hb,uH],r.sinj,r.tinj,r.sep,r.dfr,
  λi k hi o=>(r.row i k hi o).mono (g.le_vow b f) (λ_ _ h _=>h) (λi t a x C H p=>⟨rfl,λj=>by
   have m:a ≠ b:=by
    rintro rfl
    grind
   simp only [Gh.vow,m,uH]⟩),r.rinj,
  λa x d=>by
   by_cases hbb:a=b
   ·subst hbb;have d:g.N a=some x:=d;rw [s] at d;cases d
   ·exact (r.nb a x d).mono λ_ _ G=>⟨rfl,G,λh j=>by simp only [Gh.vow,hbb,uH];exact h j⟩,r.ob,r.oa⟩

theorem Rel.newRow (r:Rel B w0 g h w) (vs:Array Value) (t:TypeId) (n:Nat) :
  Rel B w0 (g.vow w.heap.size λj=>if j < n then vs[j]? else none) h (w.alloc (.cells vs t)) :=
 (r.alloc0 _).vow (λj v e=>by
   split at e
   ·simp_all
   ·cases e)
  (λi c a _ e=>by
   have hi:i < h.blks.length:=by rw [<- r.slen];exact (uc.1 a).1
   have:=(r.blk i c _ a (ue hi)).2.1;omega)
  (λi t l e d b=>by
   have:=((r.tok i t d).2 _ l e b).lt;omega) (r.nnew (uh _))

theorem Rel.putObj (r:Rel B w0 g h w) {i c:Nat} {k k':Blk} (u:g.σ[i]?=some (some c)) (Q:h.blks[i]?=some k) (hd:k ≠ .dead) {w':World} (P:w'.os=w.os) (N:w'.tape=w.tape)
  (I:w'.output=w.output) (D:w'.heap.size=w.heap.size) (d:∀b,b ≠ c->w'.heap[b]?=w.heap[b]?) (O:BlkOk g w' c k'):Rel B w0 g (h.put i k') w':=by
 obtain ⟨V,S,_,p⟩:=r.blk i c k u Q;refine ⟨⟨P.trans r.below.os,N.trans r.below.tape,I.trans r.below.output,by rw [D];exact r.below.size,λb y=>(d b (by omega)).trans (r.below.block b y)⟩,
  by omega,λb j v e=>?_,by simp [AH.put,r.slen],λn J L C f=>?_,r.tlen,λn t F=>?_,r.sinj,r.tinj,r.sep,λx H=>⟨(r.dfr x H).1,(d x (by rintro rfl;exact (r.dfr x H).2.2 i u)).trans (r.dfr x H).2.1,(r.dfr x H).2.2⟩,λn q s M=>?_,λz K t A k2 es es' m E=>?_,
  λb x y=>(r.nb b x y).mono λ_ _ R=>⟨d b (by rintro rfl;exact R.1 i u),R,λh=>h⟩,λb y=>⟨by rw [D];exact (r.ob b y).1,(r.ob b y).2⟩,r.oa⟩
 ·have o:b ≠ c:=by rintro rfl;rw [p hd j] at e;cases e
  exact (World.cell?_of_block (w:=w) (w':=w') (a:=⟨b,j,none⟩) (d b o)).trans (r.phi b j v e)
 ·simp only [AH.put] at f;by_cases hi:n=i
  ·grind
  ·rw [u7 (λe=>hi e.symm)] at f;obtain ⟨m,E,U,T⟩:=r.blk n J L C f;have o:J ≠ c:=by rintro rfl;exact hi (r.sinj _ _ _ C u)
   exact ⟨m,by omega,U.mono (Gh.le.refl g) (d J o),T⟩
 ·obtain ⟨m,E⟩:=r.tok n t F;refine ⟨m,λb l e G=>(E b l e G).mono (by omega) (d b ?_) λ_ _=>rfl⟩;exact r.sep i c n t b (l,e) u F G
 ·have hi:n ≠ i:=by rintro rfl;rw [u] at s;cases s
  simp only [AH.put] at M;rw [u7 (λe=>hi e.symm)] at M;exact (r.row n q s M).mono (Gh.le.refl g) (λ_ _ h _=>h) (λK t b x F _ G=>⟨d b (r.sep i c K t b x u F G),λ_=>rfl⟩)
 ·have key:∀(z t A:Nat) (es:List (List AV)),(h.blks.set i k')[z]?=some (.row t A es)->h.blks[z]?=some (.row t A es):=by
   intro z t A es m;by_cases hi:z=i
   ·subst hi;rw [uE (uc.1 Q).1] at m;injection m with m;subst m;exact O.elim
   ·grind
  exact r.rinj z K t A k2 es es' (key _ _ _ _ m) (key _ _ _ _ E)
end
end Go.Vv
