/- The abstract domain of this proof: values that hold the contents of unchanging memory, a small heap of boxed variables, and how they stand to the model's values. -/
import Derived.WalkKit
import Derived.RangeFuncLeaves
set_option linter.all false
namespace Go.Vv
def ua:=@List.getElem?_eq_some_iff
def uc:=@Option.bind_some
def ud:=@Bool.and_eq_true
def ue:=@Nat.le_refl
def uf:=@Option.some.injEq
def ug:=@List.set_cons_succ
def uh:=@List.set_cons_zero
def ui:=@List.getElem?_eq_getElem
def uj:=@Option.some.inj
def uk:=@decide_eq_true_eq
def ul:=@List.length_cons
def um:=@Bool.false_eq_true
def un:=@List.getElem?_append_right
def uo:=@List.getElem?_append_left
def up:=@List.mem_singleton
def uq:=@List.length_append
def ur:=@if_true
def ut:=@List.length_map
def uu:=@List.getElem?_take
def uv:=@List.all_eq_true
def uw:=@List.map_cons
def ux:=@List.mem_cons
def uy:=@List.append_assoc
def uz:=@List.getElem?_set_self
def uA:=@Bool.eq_iff_iff
def uB:=@Option.map_some
def uC:=@Array.getElem?_toList
def uD:=@List.eq_nil_of_length_eq_zero
def uE:=@List.length_nil
def uF:=@List.mem_of_getElem?
def uG:=@if_pos
def uH:=@List.getElem?_drop
def uI:=@Array.getElem?_eq_some_iff
def uJ:=@if_false
def uK:=@List.mem_append
def uL:=@List.pairwise_cons
def uM:=@Array.getElem?_eq_getElem
def uN:=@Nat.le_trans
def uO:=@List.take_of_length_le
def uP:=@List.getD_eq_getElem?_getD
def uQ:=@Nat.add_sub_cancel_left
def uR:=@List.getElem?_set_ne
def uS:=@decide_eq_false
def uT:=@List.ext_getElem?
def uU:=@Int.toNat_natCast
def uV:=@List.nil_append
def uW:=@Bool.and_self
def uX:=@Bool.true_and
def uY:=@List.flatten_cons
def uZ:=@List.all_cons
def u2:=@List.take_append_of_le_length
def u5:=@Nat.zero_add
def u6:=@List.mem_map
def u7:=@List.mem_filter
def u9:=@Nat.mul_le_mul_right
def tb:=@List.mem_iff_getElem?
def tc:=@Bool.or_eq_true
def te:=@if_neg
def tf:=@Option.map_eq_some_iff
def tg:=@Nat.add_mul
def th:=@Nat.lt_of_lt_of_le
def tj:=@List.cons_append
def tm:=@of_decide_eq_true
def tn:=@List.flatMap_cons
def tp:=@Array.getD_eq_getD_getElem?
def tq:=@List.drop_of_length_le
def tr:=@List.mem_cons_of_mem
def tu:=@Nat.lt_irrefl
def tv:=@Bool.false_or
def tw:=@List.pairwise_iff_getElem
def tx:=@decide_eq_true
def tz:=@List.mem_cons_self
def tA:=@List.getElem?_eq_none
def tB:=@Nat.add_zero
def tC:=@List.append_nil
def tD:=@Prod.mk.injEq
def tE:=@Bool.or_eq_false_iff
def tF:=@List.pairwise_append
def tG:=@List.drop_drop
def tH:=@List.mem_zipIdx_iff_getElem?
def tI:=@List.length_take
def tJ:=@beq_self_eq_true
def tK:=@Array.toList_append
def tL:=@Classical.choose_spec
def tM:=@List.length_filter_le
def tN:=@List.take_append
def tO:=@List.getElem?_map
def tP:=@Bool.not_eq_true'
def tQ:=@Bool.and_true
def tR:=@List.map_nil
def tS:=@Nat.add_sub_cancel
def tT:=@and_true
def tU:=@Nat.zero_le
def tV:=@Nat.le_add_right
def tW:=@Array.all_eq_true_iff_forall_mem
def tX:=@Bool.not_false
def tY:=@List.flatten_append
def tZ:=@List.filter_eq_self
def t6:=@List.all_append
def t7:=@List.filter_append
def t8:=@Nat.add_assoc
def sa:=@List.filterMap_cons_none
def sd:=@Bool.not_true
def se:=@List.drop_append_of_le_length
def sf:=@Option.bind_eq_some_iff
def sg:=@and_assoc
def si:=@List.map_append
def sj:=@List.map_congr_left
def sm:=@Array.length_toList
def sn:=@Nat.lt_or_ge
def so:=@Nat.succ_mul
def sq:=@List.drop_zero
def sr:=@List.getElem?_toArray
def su:=@Nat.ble_eq_true_of_le
def sx:=@List.findIdx?_eq_some_iff_getElem
def sy:=@List.foldl_cons
def sA:=@Function.comp_def
def sB:=@bne_self_eq_false
def sC:=@Nat.le_succ_of_le
def sD:=@List.sum_cons
def sE:=@List.replicate_succ
def sF:=@Option.bind_eq_bind
def sG:=@List.zipIdx_cons
def sH:=@List.getElem?_cons_zero
def sI:=@List.getElem?_cons_succ
def sJ:=@Nat.lt_succ_self
def sK:=@decide_eq_decide
def sL:=@List.append_cancel_left
def sM:=@beq_iff_eq
def sN:=@List.getElem_cons_drop
def sO:=@Nat.min_eq_left
def sP:=@Nat.le_of_ble_eq_true
def sQ:=@Array.getElem?_modify
def sR:=@List.singleton_append
def sS:=@Bool.and_eq_false_iff
def sU:=@UInt8.lt_iff_toNat_lt
def sV:=@List.size_toArray
def sW:=@List.pairwise_map
def sX:=@Nat.mul_le_mul
def sY:=@Array.toList_setIfInBounds
def sZ:=@List.mapM_cons
def s5:=@List.Perm.refl
def s6:=@List.length_drop
def s7:=@Array.toList_map
def s8:=@List.map_map
def s9:=@List.drop_append
def rc:=@List.extract_eq_take_drop
def rd:=@List.filterMap_eq_nil_iff
def rf:=@List.getLast?_eq_getElem?
def rg:=@List.take_succ_cons
def rh:=@List.map_eq_nil_iff
def ri:=@List.mergeSort_perm
def rj:=@ne_true_of_eq_false
def rk:=@List.map_take
def rl:=@List.filterMap_cons_some
def rm:=@List.Pairwise.imp_of_mem
def rn:=@List.Perm.eq_of_pairwise
def rp:=@List.cons.injEq
def rq:=@Option.pure_def
def rt:=@Array.foldl_toList
def ru:=@Nat.eq_zero_or_pos
def rx:=@Array.toList_range
def ry:=@List.find?_eq_none
def rz:=@Nat.le_mul_of_pos_right
def rA:=@decide_true
def rB:=@List.drop_left
def rC:=@Array.size_append
def rD:=@List.filter_eq_nil_iff
def rE:=@Bool.false_and
def rF:=@Option.some_or
def rG:=@List.length_singleton
def rH:=@List.set_append_right
def rI:=@List.flatten_nil
def rJ:=@List.filter_cons
def rK:=@List.take_length
def rL:=@List.mem_of_mem_take
def rM:=@and_self
def rN:=@List.drop_left'
def rO:=@List.length_set
def rP:=@Option.map_none
def rQ:=@Except.ok.injEq
def rR:=@List.takeWhile_append_of_pos
def rS:=@Option.map_bind
def rT:=@Array.getElem?_push
def rU:=@List.filterMap_cons
def rV:=@List.getElem?_range
def rW:=@List.length_pos_iff
def rX:=@beq_eq_false_iff_ne
def rY:=@List.all_nil
def rZ:=@Array.ext'
def r5:=@List.drop_take
def r6:=@List.zip_cons_cons
def r7:=@List.filterMap_nil
def r8:=@List.mem_filterMap
def r9:=@Array.ext_getElem?
def pa:=@Array.getElem?_append_left
def pb:=@decide_eq_true_iff
def pc:=@List.nodup_iff_pairwise_ne
def pd:=@List.filter_filter
def pf:=@List.getLast?_eq_none_iff
def pg:=@List.take_add_one
def ph:=@Nat.mul_pos
def pi:=@Array.toList_push
def pj:=@Bool.not_eq_false
def pk:=@List.filter_congr
def pm:=@Int.le_refl
def pn:=@Eq.symm
def po:=@Option.isSome_iff_exists
def pp:=@List.map_drop
def pq:=@Nat.mod_eq_of_lt
def pr:=@Bool.not_eq_true
def pt:=@List.filter_cons_of_pos
def pu:=@Nat.succ_le_succ
def pw:=@decide_eq_false_iff_not
def px:=@List.getElem_mem
def py:=@List.getLast?_singleton
def pz:=@List.isEmpty_iff
def pA:=@List.filter_append_perm
def pB:=@List.not_mem_nil
def pC:=@Nat.sub_self
def pD:=@Array.getElem?_eq_none
def pE:=@dif_pos
def pF:=@Bool.or_true
def pG:=@List.append_inj_right'
def pH:=@List.take_left'
def pI:=@List.nodup_cons
def pJ:=@Nat.one_ne_zero
def pK:=@List.take_left
def pL:=@List.take_take
def pM:=@List.perm_cons
def pN:=@List.any_cons
def pO:=@Bool.or_false
def pP:=@Nat.add_comm
def pQ:=@List.map_set
def pR:=@true_and
def pU:=@List.any_nil
def pV:=@Bool.true_or
def pW:=@Bool.or_self
open Go
variable {vs:List Value}

inductive AV where
 | bool (b:Bool)
 | int (k:IntKind) (n:Int)
 | str (s:List UInt8)
 | nilp | nilm | nilf | nili | nilsl
 | ptr (id off:Nat)
 | fptr (cs:List AV)
 | sl (k:Nat) (es:List (List AV))
 | osl (o:Option Nat) (k:Nat) (es:List (List AV))
 | msl (k id off len:Nat)
 | rsl (id t k n:Nat)
 | rptr (id t k n p:Nat)
 | rsuf (id t k n i:Nat)
 | map (id:Nat)
 | fn (f:Fn) (first caps:List AV)
 | iface (t:TypeId) (v:AV)
 | agg (cs:List AV)
 | tup (vs:List AV)
 | glob (g:Nat)
 | yld (id:Nat)
 | bsl (k:Nat) (es:List (List AV))
 | nsl (k:Nat) (es:List (List AV))
 | gsl (k n:Nat)
 | gptr (m:Nat)
 | imap (id q:Nat)
 | any
 | opq
 deriving Inhabited

def aundef:AV:=.tup []

def AV.one:AV->Bool
 | .agg _ | .tup _ | .any=>false
 | _=>true

def AV.pure:AV->Bool
 | .bool _ | .int _ _ | .str _ | .nilp | .nilm | .nilf | .nili | .sl _ _ | .bsl _ _ | .nsl _ _ | .gsl _ _ | .fn _ [] []=>true
 | _=>false
theorem AV.one_of_pure {a:AV} (h:a.pure=true):a.one=true:=by
 unfold AV.pure at h;split at h <;> first | rfl | cases h

def AV.cells?:AV->Option (List AV)
 | .agg cs=>some cs
 | .tup _ | .any=>none
 | v=>some [v]

inductive Blk where
 | cells (cs:List AV)
 | siter (s:List UInt8) (pos:Nat)
 | loop (st:LoopState) (pe:Option Code) (env:List AV) (ps:Array Tmp) (assign body:Code)
 | mapo (es:List (AV×AV)) (clock:Nat)
 | miter (id n:Nat) (seen:List Nat)
 | miter0
 | row (t k:Nat) (es:List (List AV))
 | bld (T:TypeId) (x:AV)
 | pool (ms:List (List (Option (AV×AV))))
 | pmiter (id q n:Nat) (seen:List Nat)
 | other
 | dead
 deriving Inhabited

structure AH where
 blks:List Blk
 toks:List Nat
 deriving Inhabited

structure TI where
 n:Nat
 loc:Option (Nat×Nat×Nat)
 row:Bool:=false

inductive BK where
 | new (s:Nat)
 | gar (s:Nat)
 | shut (o:Obj)
 | frz (o:Obj)
 | own (id q:Nat)
structure Gh where
 Φ:Nat->Nat->Option Value
 σ:List (Option Nat)
 τ:List TI
 δ:List Nat
 N:Nat->Option BK:=λ_=>none
 O:Nat->Prop:=λ_=>False

def capOk (t:TI) (a:Option Addr) (n c k:Nat):Prop :=
 t.row=false/\n<=t.n/\(n=t.n->c=n \/ ∃b o,a=some ⟨b,o,none⟩/\t.loc=some (b,o+n * k,o+c * k))

def rowHd (t:TI) (a:Option Addr) (n c k:Nat):Prop :=
 t.row=true/\n<=t.n/\((n=0/\c=0) \/ ∃b o,a=some ⟨b,o,none⟩/\(n=t.n->t.loc=some (b,o+n * k,o+c * k)))
def rowPt (t:TI) (b q n k p:Nat):Prop :=
 t.row=true/\n<=t.n/\(n=t.n->∃o e,q=o+p/\t.loc=some (b,o+n * k,e))

mutual
def V (g:Gh):AV->Value->Prop
 | .bool b,v=>v=.bool b
 | .int k n,v=>v=.int k n
 | .str s,v=>v=.string ⟨s.toArray⟩/\s.length<=maxLen
 | .nilp,v=>v=.pointer none
 | .nilm,v=>v=.map none
 | .nilf,v=>v=.nilFunc
 | .nili,v=>v=.nilIface
 | .nilsl,v=>v=.slice none 0 0
 | .ptr id off,v=>∃c,g.σ[id]?=some (some c)/\v=.pointer (some ⟨c,off,none⟩)
 | .fptr cs,v=>∃b o,v=.pointer (some ⟨b,o,none⟩)/\VC g b o cs
 | .sl k es,v=>∃a c,v=.slice a es.length c/\es.length<=c/\c<=maxLen/\(es=[] \/ ∃b o,a=some ⟨b,o,none⟩/\VE g b k o es)
 | .osl q k es,v=>∃a c,v=.slice a es.length c/\es.length<=c/\c<=maxLen/\(es=[] \/ ∃b o,a=some ⟨b,o,none⟩/\VE g b k o es) /\
   (match q with
       | none=>c=es.length
       | some id=>∃t,g.τ[id]?=some t/\capOk t a es.length c k)
 | .msl _ id off len,v=>∃c cap,g.σ[id]?=some (some c)/\v=.slice (some ⟨c,off,none⟩) len cap/\len<=cap/\cap<=maxLen
 | .rsl _ i k n,v=>∃a c,v=.slice a n c/\n<=c/\c<=maxLen/\∃t,g.τ[i]?=some t/\rowHd t a n c k
 | .rptr _ i k n p,v=>∃b q,v=.pointer (some ⟨b,q,none⟩)/\∃t,g.τ[i]?=some t/\rowPt t b q n k p
 | .rsuf _ i k n p,v=>∃a c,v=.slice a (n - p) c/\(p<=n/\n<=maxLen)/\∃t,g.τ[i]?=some t/\(n - p=0 \/ ∃b q,a=some ⟨b,q,none⟩/\rowPt t b q n k (p * k))
 | .map id,v=>∃c,g.σ[id]?=some (some c)/\v=.map (some c)
 | .fn f first caps,v=>∃fs cs,v=.func f fs cs/\VL g first fs.toList/\VL g caps cs.toList
 | .iface t x,v=>∃u,v=.iface t u/\V g x u
 | .agg cs,v=>∃vs,v=.agg vs/\VA g cs vs.toList
 | .tup xs,v=>∃vs,v=.tuple vs/\VL g xs vs.toList
 | .glob n,v=>v=.pointer (some ⟨n,0,none⟩)
 | .yld id,v=>∃c,g.σ[id]?=some (some c)/\v=.func (.yield c) #[] #[]
 | .bsl k es,v=>∃a c,v=.slice a es.length c/\es.length<=c/\c<=maxLen/\(es=[] \/ ∃b o,a=some ⟨b,o,none⟩/\VE g b k o es/\g.O b)
 | .nsl k es,v=>∃a c,v=.slice a es.length c/\es.length<=c/\c<=maxLen/\(es=[] \/ ∃b o,a=some ⟨b,o,none⟩/\VE g b k o es/\∃s,g.N b=some (.new s))
 | .gsl k n,v=>∃a c,v=.slice a n c/\n<=c/\c<=maxLen/\(n=0 \/ ∃b o s,a=some ⟨b,o,none⟩/\g.N b=some (.gar s)/\o+n * k<=s)
 | .gptr m,v=>∃b o s,v=.pointer (some ⟨b,o,none⟩)/\g.N b=some (.gar s)/\o+m<=s
 | .imap id q,v=>∃c,g.N c=some (.own id q)/\v=.map (some c)
 | .any,_=>True
 | .opq,v=>v.oneCell'=true
def VL (g:Gh):List AV->List Value->Prop
 | [],vs=>vs=[]
 | a::r,vs=>∃v s,vs=v::s/\V g a v/\VL g r s
def VA (g:Gh):List AV->List Value->Prop
 | [],vs=>vs=[]
 | a::r,vs=>∃v s,vs=v::s/\(a.one=true/\V g a v)/\VA g r s
def VC (g:Gh) (b:Nat):Nat->List AV->Prop
 | _,[]=>True
 | o,a::r=>(∃v,g.Φ b o=some v/\a.pure=true/\V g a v)/\VC g b (o+1) r
def VE (g:Gh) (b k:Nat):Nat->List (List AV)->Prop
 | _,[]=>True
 | o,e::r=>(e.length=k/\VC g b o e)/\VE g b k (o+k) r
end


structure Gh.lv (g g':Gh):Prop where
 phi:∀b j v,g.Φ b j=some v->g'.Φ b j=some v
 sig:∀(i:Nat) (c:Option Nat),g.σ[i]?=some c->g'.σ[i]?=some c
 tau:∀(i:Nat) (t:TI),g.τ[i]?=some t->∃t',g'.τ[i]?=some t'/\t.n<=t'.n/\(t.n=t'.n->t'=t)/\t'.row=t.row
 new:∀(b:Nat) (x:BK),g.N b=some x->g'.N b=some x
 old:∀b:Nat,g.O b->g'.O b
structure Gh.le (g g':Gh):Prop where
 phi:∀b j v,g.Φ b j=some v->g'.Φ b j=some v
 sig:∀(i:Nat) (c:Option Nat),g.σ[i]?=some c->g'.σ[i]?=some c
 tau:∀(i:Nat) (t:TI),g.τ[i]?=some t->∃t',g'.τ[i]?=some t'/\t.n<=t'.n/\(t.n=t'.n->t'=t)/\t'.row=t.row
 del:∀c,c ∈ g.δ->c ∈ g'.δ
 new:∀(b:Nat) (x:BK),g.N b=some x->g'.N b=some x
 old:∀b:Nat,g.O b->g'.O b
theorem Gh.le.lv {g g':Gh} (h:g.le g'):g.lv g':=⟨h.phi,h.sig,h.tau,h.new,h.old⟩

theorem Gh.le.refl (g:Gh):g.le g:=⟨λ_ _ _ h=>h,λ_ _ h=>h,λ_ t h=>⟨t,h,ue _,λ_=>rfl,rfl⟩,λ_ h=>h,λ_ _ h=>h,λ_ h=>h⟩
theorem Gh.le.trans {a b c:Gh} (h:a.le b) (k:b.le c):a.le c :=
 ⟨λx y v e=>k.phi _ _ _ (h.phi x y v e),λi x e=>k.sig _ _ (h.sig i x e),λi t e=>by
  obtain ⟨d,p,r,l,o⟩:=h.tau i t e;obtain ⟨f,m,s,w,s2⟩:=k.tau i d p;refine ⟨f,m,uN r s,λq=>?_,s2.trans o⟩;have j:t.n=d.n:=by omega
  have:=l j;subst this;exact w q,λc u=>k.del c (h.del c u),λb x e=>k.new b x (h.new b x e),λb e=>k.old b (h.old b e)⟩

theorem capOk.monoV {g g':Gh} (h:g.lv g') {id:Nat} {a:Option Addr} {n c k:Nat} (i:∃t,g.τ[id]?=some t/\capOk t a n c k) :
  ∃t,g'.τ[id]?=some t/\capOk t a n c k:=by
 obtain ⟨t,d,h0,e,j⟩:=i;obtain ⟨t',b,f,l,hs⟩:=h.tau _ _ d;refine ⟨t',b,hs.trans h0,uN e f,λm=>?_⟩
 grind

theorem rowHd.monoV {g g':Gh} (h:g.lv g') {id:Nat} {a:Option Addr} {n c k:Nat} (m:∃t,g.τ[id]?=some t/\rowHd t a n c k) :
  ∃t,g'.τ[id]?=some t/\rowHd t a n c k:=by
 obtain ⟨t,f,h0,i,e⟩:=m;obtain ⟨t',d,j,p,hs⟩:=h.tau _ _ f;refine ⟨t',d,hs.trans h0,uN i j,e.imp (λh=>h) λ⟨b,o,l,q⟩=>⟨b,o,l,λr=>?_⟩⟩
 grind
theorem rowPt.monoV {g g':Gh} (h:g.lv g') {id:Nat} {b q n k p:Nat} (f:∃t,g.τ[id]?=some t/\rowPt t b q n k p) :
  ∃t,g'.τ[id]?=some t/\rowPt t b q n k p:=by
 obtain ⟨t,c,h0,d,i⟩:=f;obtain ⟨t',a,e,j,hs⟩:=h.tau _ _ c;refine ⟨t',a,hs.trans h0,uN d e,λl=>?_⟩
 grind

mutual
theorem V.monoV {g g':Gh} (h:g.lv g'):∀(a:AV) (v:Value),V g a v->V g' a v
 | .bool _,_,hv=>by simpa only [V] using hv
 | .int _ _,_,hv=>by simpa only [V] using hv
 | .str _,_,hv=>by simpa only [V] using hv
 | .nilp,_,hv=>by simpa only [V] using hv
 | .nilm,_,hv=>by simpa only [V] using hv
 | .nilf,_,hv=>by simpa only [V] using hv
 | .nili,_,hv=>by simpa only [V] using hv
 | .nilsl,_,hv=>by simpa only [V] using hv
 | .ptr _ _,_,hv=>by
  simp only [V] at hv ⊢;obtain ⟨c,w,e⟩:=hv;exact ⟨c,h.sig _ _ w,e⟩
 | .fptr cs,_,hv=>by
  simp only [V] at hv ⊢;obtain ⟨b,o,e,w⟩:=hv;exact ⟨b,o,e,VC.monoV h b o cs w⟩
 | .sl k es,_,hv=>by
  simp only [V] at hv ⊢;obtain ⟨a,c,e,d,j,l⟩:=hv;exact ⟨a,c,e,d,j,l.imp id λ⟨b,o,e,hh⟩=>⟨b,o,e,VE.monoV h b k o es hh⟩⟩
 | .osl q k es,_,hv=>by
  simp only [V] at hv ⊢;obtain ⟨a,c,e,d,j,l,z⟩:=hv;refine ⟨a,c,e,d,j,l.imp id λ⟨b,o,e,hh⟩=>⟨b,o,e,VE.monoV h b k o es hh⟩,?_⟩;cases q with
  | none=>exact z
  | some id=>exact capOk.monoV h z
 | .msl _ _ _ _,_,hv=>by
  simp only [V] at hv ⊢;obtain ⟨c,cap,w,e⟩:=hv;exact ⟨c,cap,h.sig _ _ w,e⟩
 | .rsl _ _ _ _,_,hv=>by
  simp only [V] at hv ⊢;obtain ⟨a,c,e,d,j,l⟩:=hv;exact ⟨a,c,e,d,j,rowHd.monoV h l⟩
 | .rsuf _ i k n p,_,hv=>by
  simp only [V] at hv ⊢;obtain ⟨a,c,e,d,t,B,l⟩:=hv;rcases l with l | ⟨b,q,C,l⟩
  ·obtain ⟨t',A,_⟩:=h.tau _ _ B
   simp_all
  ·obtain ⟨t',A,z⟩:=rowPt.monoV h ⟨t,B,l⟩
   grind
 | .rptr _ _ _ _ _,_,hv=>by
  simp only [V] at hv ⊢;obtain ⟨b,q,e,l⟩:=hv;exact ⟨b,q,e,rowPt.monoV h l⟩
 | .map _,_,hv=>by
  simp only [V] at hv ⊢;obtain ⟨c,w,e⟩:=hv;exact ⟨c,h.sig _ _ w,e⟩
 | .fn f a5 bs,_,hv=>by
  simp only [V] at hv ⊢;obtain ⟨fs,cs,e,d,j⟩:=hv;exact ⟨fs,cs,e,VL.monoV h a5 _ d,VL.monoV h bs _ j⟩
 | .iface t x,_,hv=>by
  simp only [V] at hv ⊢;obtain ⟨u,e,d⟩:=hv;exact ⟨u,e,V.monoV h x u d⟩
 | .agg cs,_,hv=>by
  simp only [V] at hv ⊢;obtain ⟨vs,e,d⟩:=hv;exact ⟨vs,e,VA.monoV h cs _ d⟩
 | .tup xs,_,hv=>by
  simp only [V] at hv ⊢;obtain ⟨vs,e,d⟩:=hv;exact ⟨vs,e,VL.monoV h xs _ d⟩
 | .glob _,_,hv=>by simpa only [V] using hv
 | .yld _,_,hv=>by
  simp only [V] at hv ⊢;obtain ⟨c,w,e⟩:=hv;exact ⟨c,h.sig _ _ w,e⟩
 | .bsl k es,_,hv=>by
  simp only [V] at hv ⊢;obtain ⟨a,c,e,d,j,l⟩:=hv;exact ⟨a,c,e,d,j,l.imp id λ⟨b,o,e,hh,y⟩=>⟨b,o,e,VE.monoV h b k o es hh,h.old _ y⟩⟩
 | .nsl k es,_,hv=>by
  simp only [V] at hv ⊢;obtain ⟨a,c,e,d,j,l⟩:=hv;exact ⟨a,c,e,d,j,l.imp id λ⟨b,o,e,hh,s,y⟩=>⟨b,o,e,VE.monoV h b k o es hh,s,h.new _ _ y⟩⟩
 | .gsl k n,_,hv=>by
  simp only [V] at hv ⊢;obtain ⟨a,c,e,d,j,l⟩:=hv;exact ⟨a,c,e,d,j,l.imp id λ⟨b,o,s,e,y,hs⟩=>⟨b,o,s,e,h.new _ _ y,hs⟩⟩
 | .gptr m,_,hv=>by
  simp only [V] at hv ⊢;obtain ⟨b,o,s,e,y,hs⟩:=hv;exact ⟨b,o,s,e,h.new _ _ y,hs⟩
 | .imap _ _,_,hv=>by
  simp only [V] at hv ⊢;obtain ⟨c,w,e⟩:=hv;exact ⟨c,h.new _ _ w,e⟩
 | .any,_,_=>by simp only [V]
 | .opq,_,hv=>by simpa only [V] using hv
theorem VL.monoV {g g':Gh} (h:g.lv g'):∀(a5:List AV) (vs:List Value),VL g a5 vs->VL g' a5 vs
 | [],_,hv=>by simpa only [VL] using hv
 | a::r,_,hv=>by
  simp only [VL] at hv ⊢;obtain ⟨v,s,e,d,j⟩:=hv;exact ⟨v,s,e,V.monoV h a v d,VL.monoV h r s j⟩
theorem VA.monoV {g g':Gh} (h:g.lv g'):∀(a5:List AV) (vs:List Value),VA g a5 vs->VA g' a5 vs
 | [],_,hv=>by simpa only [VA] using hv
 | a::r,_,hv=>by
  simp only [VA] at hv ⊢;obtain ⟨v,s,e,⟨h0,d⟩,j⟩:=hv;exact ⟨v,s,e,⟨h0,V.monoV h a v d⟩,VA.monoV h r s j⟩
theorem VC.monoV {g g':Gh} (h:g.lv g') (b:Nat):∀(o:Nat) (a5:List AV),VC g b o a5->VC g' b o a5
 | _,[],_=>by simp only [VC]
 | o,a::r,hv=>by
  simp only [VC] at hv ⊢;obtain ⟨⟨v,h0,d,j⟩,l⟩:=hv;exact ⟨⟨v,h.phi _ _ _ h0,d,V.monoV h a v j⟩,VC.monoV h b (o+1) r l⟩
theorem VE.monoV {g g':Gh} (h:g.lv g') (b k:Nat):∀(o:Nat) (a5:List (List AV)),VE g b k o a5->VE g' b k o a5
 | _,[],_=>by simp only [VE]
 | o,e::r,hv=>by
  simp only [VE] at hv ⊢;obtain ⟨⟨h0,d⟩,j⟩:=hv;exact ⟨⟨h0,VC.monoV h b o e d⟩,VE.monoV h b k (o+k) r j⟩
end

theorem capOk.mono {g g':Gh} (h:g.le g') {id:Nat} {a:Option Addr} {n c k:Nat} (b:∃t,g.τ[id]?=some t/\capOk t a n c k):∃t,g'.τ[id]?=some t/\capOk t a n c k:=capOk.monoV h.lv b
theorem V.mono {g g':Gh} (h:g.le g') (a:AV) (v:Value) (b:V g a v):V g' a v:=V.monoV h.lv a v b
theorem VL.mono {g g':Gh} (h:g.le g') (a5:List AV) (vs:List Value) (a:VL g a5 vs):VL g' a5 vs:=VL.monoV h.lv a5 vs a
theorem VA.mono {g g':Gh} (h:g.le g') (a5:List AV) (vs:List Value) (a:VA g a5 vs):VA g' a5 vs:=VA.monoV h.lv a5 vs a
theorem VC.mono {g g':Gh} (h:g.le g') (b:Nat) (o:Nat) (a5:List AV) (a:VC g b o a5):VC g' b o a5:=VC.monoV h.lv b o a5 a
theorem VE.mono {g g':Gh} (h:g.le g') (b k:Nat) (o:Nat) (es:List (List AV)) (a:VE g b k o es):VE g' b k o es:=VE.monoV h.lv b k o es a
theorem Gh.lv_dd (g:Gh) (d:List Nat):g.lv { g with δ:=d }:=⟨λ_ _ _ e=>e,λ_ _ e=>e,λ_ t e=>⟨t,e,ue _,λ_=>rfl,rfl⟩,λ_ _ e=>e,λ_ e=>e⟩
theorem VL.dd {g:Gh} {d:List Nat} {a5:List AV} (h:VL g a5 vs):VL { g with δ:=d } a5 vs:=VL.monoV (g.lv_dd d) _ _ h

section
variable {g:Gh}
theorem VL.length:∀{a5:List AV} {vs:List Value},VL g a5 vs->a5.length=vs.length
 | [],_,h=>by simp only [VL] at h;subst h;rfl
 | _::r,_,h=>by
  simp only [VL] at h;obtain ⟨v,s,rfl,_,a⟩:=h;simp [VL.length a]
theorem VA.toVL:∀{a5:List AV} {vs:List Value},VA g a5 vs->VL g a5 vs
 | [],_,h=>by simp only [VA] at h;simp only [VL];exact h
 | _::r,_,h=>by
  simp only [VA] at h;obtain ⟨v,s,rfl,⟨_,b⟩,a⟩:=h;simp only [VL];exact ⟨v,s,rfl,b,VA.toVL a⟩
theorem VA.ones:∀{a5:List AV} {vs:List Value},VA g a5 vs->a5.all AV.one=true
 | [],_,_=>rfl
 | _::r,_,h=>by
  simp only [VA] at h;obtain ⟨v,s,rfl,⟨h0,_⟩,a⟩:=h;simp [h0,VA.ones a]
theorem VA.mk:∀{a5:List AV} {vs:List Value},VL g a5 vs->a5.all AV.one=true->VA g a5 vs
 | [],_,h,_=>by simp only [VL] at h;simp only [VA];exact h
 | _::r,_,h,ho=>by
  simp only [VL] at h;obtain ⟨v,s,rfl,b,a⟩:=h;simp only [uZ,ud] at ho;simp only [VA];exact ⟨v,s,rfl,⟨ho.1,b⟩,VA.mk a ho.2⟩
theorem VL.get:∀{a5:List AV} {vs:List Value},VL g a5 vs->∀(i:Nat) (a:AV),a5[i]?=some a->∃v,vs[i]?=some v/\V g a v
 | [],_,_,i,a,hi=>by simp at hi
 | _::r,_,h,i,a,hi=>by
  simp only [VL] at h;obtain ⟨v,s,rfl,c,b⟩:=h;cases i with
  | zero=>simp at hi;subst hi;exact ⟨v,rfl,c⟩
  | succ i=>simpa using VL.get b i a (by simp_all)
theorem VL.getR:∀{a5:List AV} {vs:List Value},VL g a5 vs->∀(i:Nat) (v:Value),vs[i]?=some v->∃a,a5[i]?=some a/\V g a v
 | [],_,h,i,v,hi=>by simp only [VL] at h;subst h;simp at hi
 | a::r,_,h,i,v,hi=>by
  simp only [VL] at h;obtain ⟨d,s,rfl,c,b⟩:=h;cases i with
  | zero=>simp at hi;subst hi;exact ⟨a,rfl,c⟩
  | succ i=>simpa using VL.getR b i v (by simp_all)
theorem VL.set:∀{a5:List AV} {vs:List Value},VL g a5 vs->∀(i:Nat) (a:AV) (v:Value),V g a v->VL g (a5.set i a) (vs.set i v)
 | [],_,h,i,a,v,_=>by simp only [VL] at h;subst h;simp [VL]
 | _::r,_,h,i,a,v,hv=>by
  simp only [VL] at h;obtain ⟨c,s,rfl,d,b⟩:=h;cases i with
  | zero=>simp only [uh,VL];exact ⟨v,s,rfl,hv,b⟩
  | succ i=>simp only [ug,VL];exact ⟨c,_,rfl,d,VL.set b i a v hv⟩
theorem VL.append:∀{a5 bs:List AV} {vs a:List Value},VL g a5 vs->VL g bs a->VL g (a5++bs) (vs++a)
 | [],_,_,_,h,k=>by simp only [VL] at h;subst h;simpa using k
 | _::r,_,_,_,h,k=>by
  simp only [VL] at h;obtain ⟨b,s,rfl,d,c⟩:=h;simp only [tj,VL];exact ⟨b,_,rfl,d,VL.append c k⟩
theorem VL.take:∀{a5:List AV} {vs:List Value} (n:Nat),VL g a5 vs->VL g (a5.take n) (vs.take n)
 | [],_,n,h=>by simp only [VL] at h;subst h;simp [VL]
 | _::r,_,n,h=>by
  simp only [VL] at h;obtain ⟨a,s,rfl,c,b⟩:=h;cases n with
  | zero=>simp [VL]
  | succ n=>simp only [rg,VL];exact ⟨a,_,rfl,c,VL.take n b⟩
theorem VL.drop:∀{a5:List AV} {vs:List Value} (n:Nat),VL g a5 vs->VL g (a5.drop n) (vs.drop n)
 | [],_,n,h=>by simp only [VL] at h;subst h;simp [VL]
 | _::r,_,n,h=>by
  have h':=h;simp only [VL] at h;obtain ⟨b,s,rfl,c,a⟩:=h;cases n with
  | zero=>simpa using h'
  | succ n=>simpa using VL.drop n a
theorem VL.cons {a:AV} {v:Value} {a5:List AV} (h:V g a v) (k:VL g a5 vs):VL g (a::a5) (v::vs):=by
 simp only [VL];exact ⟨v,vs,rfl,h,k⟩
theorem all_take {α:Type} {p:α->Bool} {l:List α} (n:Nat) (h:l.all p=true):(l.take n).all p=true:=by
 grind
theorem all_drop {α:Type} {p:α->Bool} {l:List α} (n:Nat) (h:l.all p=true):(l.drop n).all p=true:=by
 grind
theorem VA.append {a5 bs:List AV} {vs a:List Value} (h:VA g a5 vs) (k:VA g bs a):VA g (a5++bs) (vs++a) :=
 VA.mk (VL.append h.toVL k.toVL) (by rw [t6,h.ones,k.ones];rfl)
theorem VA.take {a5:List AV} {vs:List Value} (n:Nat) (h:VA g a5 vs):VA g (a5.take n) (vs.take n):=VA.mk (VL.take n h.toVL) (all_take n h.ones)
theorem VA.drop {a5:List AV} {vs:List Value} (n:Nat) (h:VA g a5 vs):VA g (a5.drop n) (vs.drop n):=VA.mk (VL.drop n h.toVL) (all_drop n h.ones)

theorem VC.get {b:Nat}:∀{o:Nat} {a5:List AV},VC g b o a5->∀(i:Nat) (a:AV),a5[i]?=some a->∃v,g.Φ b (o+i)=some v/\a.pure=true/\V g a v
 | _,[],_,i,a,hi=>by simp at hi
 | o,_::r,h,i,a,hi=>by
  simp only [VC] at h;obtain ⟨⟨v,h0,d,c⟩,e⟩:=h;cases i with
  | zero=>simp at hi;subst hi;exact ⟨v,h0,d,c⟩
  | succ i =>
   obtain ⟨k,f,l,j⟩:=VC.get e i a (by simp_all)
   grind
theorem VC.mk {b:Nat}:∀{o:Nat} {a5:List AV},(∀(i:Nat) (a:AV),a5[i]?=some a->∃v,g.Φ b (o+i)=some v/\a.pure=true/\V g a v)->VC g b o a5
 | _,[],_=>by simp only [VC]
 | o,a::r,h=>by
  simp only [VC];refine ⟨by simpa using h 0 a rfl,VC.mk (o:=o+1) λi x f=>?_⟩;obtain ⟨v,c,e,d⟩:=h (i+1) x (by simp_all)
  grind
theorem VC.drop {b o:Nat} {a5:List AV} (n:Nat) (h:VC g b o a5):VC g b (o+n) (a5.drop n):=VC.mk λi a c=>by
 rw [uH] at c;obtain ⟨v,d,e⟩:=h.get _ _ c
 grind
theorem VC.take {b o:Nat} {a5:List AV} (n:Nat) (h:VC g b o a5):VC g b o (a5.take n):=VC.mk λi a c=>by
 rw [uu] at c;split at c
 ·exact h.get _ _ c
 ·cases c
theorem VC.append {b o:Nat} {a5 bs:List AV} (h:VC g b o a5) (k:VC g b (o+a5.length) bs):VC g b o (a5++bs):=VC.mk λi a c=>by
 by_cases hi:i < a5.length
 ·rw [uo hi] at c;exact h.get _ _ c
 ·rw [un (by omega)] at c;obtain ⟨v,d,e⟩:=k.get _ _ c
  grind
theorem VE.get {b k:Nat}:∀{o:Nat} {es:List (List AV)},VE g b k o es->∀(i:Nat) (e:List AV),es[i]?=some e->e.length=k/\VC g b (o+i * k) e
 | _,[],_,i,e,hi=>by simp at hi
 | o,_::r,h,i,e,hi=>by
  simp only [VE] at h;obtain ⟨⟨h0,d⟩,a⟩:=h;cases i with
  | zero=>simp at hi;subst hi;exact ⟨h0,by simp_all⟩
  | succ i =>
   obtain ⟨c,f⟩:=VE.get a i e (by simp_all)
   grind
theorem VE.mk {b k:Nat}:∀{o:Nat} {es:List (List AV)},(∀(i:Nat) (e:List AV),es[i]?=some e->e.length=k/\VC g b (o+i * k) e)->VE g b k o es
 | _,[],_=>by simp only [VE]
 | o,e::r,h=>by
  simp only [VE];refine ⟨by simpa using h 0 e rfl,VE.mk (o:=o+k) λi x d=>?_⟩;obtain ⟨a,c⟩:=h (i+1) x (by simp_all)
  grind
theorem VE.drop {b k o:Nat} {es:List (List AV)} (n:Nat) (h:VE g b k o es):VE g b k (o+n * k) (es.drop n):=VE.mk λi a c=>by
 rw [uH] at c;obtain ⟨d,e⟩:=h.get _ _ c
 grind
theorem VE.take {b k o:Nat} {es:List (List AV)} (n:Nat) (h:VE g b k o es):VE g b k o (es.take n):=VE.mk λi a c=>by
 rw [uu] at c;split at c
 ·exact h.get _ _ c
 ·cases c
theorem VE.append {b k o:Nat} {es fs:List (List AV)} (h:VE g b k o es) (h':VE g b k (o+es.length * k) fs):VE g b k o (es++fs):=VE.mk λi a c=>by
 by_cases hi:i < es.length
 ·rw [uo hi] at c;exact h.get _ _ c
 ·rw [un (by omega)] at c;obtain ⟨d,e⟩:=h'.get _ _ c;refine ⟨d,?_⟩;have:o+i * k=o+es.length * k+(i - es.length) * k:=by
   rw [t8,<- tg];congr 2;omega
  simp_all
end
end Go.Vv
namespace Go.Vv
open Go

def cv1:Value->AV
 | .bool b=>.bool b
 | .int k n=>.int k n
 | .string s=>.str s.data.toList
 | .pointer none=>.nilp
 | .slice none 0 0=>.nilsl
 | .map none=>.nilm
 | .nilFunc=>.nilf
 | .nilIface=>.nili
 | _=>aundef
def okc1:Value->Bool
 | .bool _ | .int _ _ | .pointer none | .slice none 0 0 | .map none | .nilFunc | .nilIface=>true
 | .string s=>decide (s.size<=maxLen)
 | _=>false
def cv:Value->AV
 | .agg cs=>.agg (cs.toList.map cv1)
 | .tuple _=>aundef
 | v=>cv1 v
def okc:Value->Bool
 | .agg cs=>cs.toList.all okc1
 | .tuple vs=>vs.isEmpty
 | v=>okc1 v

def ev (env:List AV):Operand->AV
 | .tmp t=>env.getD t aundef
 | .const v=>cv v
 | .global g=>.glob g
 | .func f=>.fn (.func f) [] []
def yf:Operand->Bool
 | .const v=>okc v
 | _=>true

def yq:TypeDesc->Bool
 | .struct _ | .array _ _=>true
 | _=>false
def tyfix (P:Program) (t:TypeId):AV->AV
 | .nilsl=>match P.underlying t with
  | some (.slice e)=>.osl none (P.cellsOf e) []
  | _=>.nilsl
 | v=>v
def setd (env:List AV):Option Tmp->AV->List AV
 | some d,v=>env.set d v
 | none,_=>env

inductive Res where
 | ok (v:AV) (h:AH)
 | len (n:Nat) (v:AV) (h:AH)
 | call (f:FuncId) (args:List AV)
 | round (id:Nat) (args:List AV)
 | any (S:AV->AH->Prop)
 | fail

def oo (h:AH):Option AV->Res
 | some v=>.ok v h
 | none=>.fail
def oh (h:Option AH):Res :=
 match h with
 | some h=>.ok aundef h
 | none=>.fail
def ovh:Option (AV×AH)->Res
 | some (v,h)=>.ok v h
 | none=>.fail

def AH.blk (h:AH) (id:Nat):Option Blk:=h.blks[id]?
def AH.new (h:AH) (b:Blk):AH:={ h with blks:=h.blks++[b] }
def AH.put (h:AH) (id:Nat) (b:Blk):AH:={ h with blks:=h.blks.set id b }

def aLoad (h:AH) (ag:Bool) (n:Nat):AV->Option AV
 | .ptr id off=>match h.blk id with
  | some (.cells cs)=>if ag then (if off+n<=cs.length then some (.agg ((cs.drop off).take n)) else none) else cs[off]?
  | some (.bld _ x)=>if ag=false/\off=1 then some x else none
  | _=>none
 | .fptr cs=>if ag then (if n<=cs.length then some (.agg (cs.take n)) else none) else cs[0]?
 | .rptr id t k m p=>match h.blk id with
  | some (.row t' k' es)=>if t'=t/\k'=k/\es.length=m then (if ag then (if p+n<=es.flatten.length then some (.agg ((es.flatten.drop p).take n)) else none) else es.flatten[p]?) else none
  | _=>none
 | _=>none
def yP (cs:List AV) (off:Nat) (vs:List AV):List AV:=cs.take off++vs++cs.drop (off+vs.length)
def aClean:AV->Option AV
 | .osl _ k es=>some (.sl k es)
 | .nilsl=>none
 | v=>if v.pure then some v else none
def xF:List AV->Option (List AV)
 | []=>some []
 | a::r=>match aClean a,xF r with
  | some a,some r=>some (a::r)
  | _,_=>none
def rows (k:Nat):Nat->List AV->List (List AV)
 | 0,_=>[]
 | n+1,cs=>cs.take k::rows k n (cs.drop k)
def aStore (h:AH) (n:Nat) (p v:AV):Option AH :=
 match p,v.cells? with
 | .ptr id off,some vs=>match h.blk id with
  | some (.cells cs)=>if vs.length=n/\off+n<=cs.length then some (h.put id (.cells (yP cs off vs))) else none
  | some (.bld T _)=>match vs with
   | [y]=>if n=1/\off=1 then some (h.put id (.bld T y)) else none
   | _=>none
  | _=>none
 | .rptr id t k m p,some vs=>match h.blk id with
  | some (.row t' k' es)=>if t'=t/\k'=k/\es.length=m/\vs.length=n/\p+n<=es.flatten.length then (match xF vs with
   | some vs=>some (h.put id (.row t k (rows k m (yP es.flatten p vs))))
   | none=>none) else none
  | _=>none
 | .gptr m,some vs=>if vs.length=n/\n<=m then some h else none
 | _,_=>none
def qh (off:Nat):AV->Option AV
 | .ptr id o=>some (.ptr id (o+off))
 | .fptr cs=>some (.fptr (cs.drop off))
 | .rptr id t k n p=>some (.rptr id t k n (p+off))
 | .gptr m=>if off<=m then some (.gptr (m - off)) else none
 | _=>none
def aPart (ag:Bool) (off n:Nat):AV->Option AV
 | .agg cs=>if ag then some (.agg ((cs.drop off).take n)) else cs[off]?
 | _=>none
def qc (place:Nat->Option (Nat×Nat)):List AV->List (Nat×AV)->Option (List AV)
 | cs,[]=>some cs
 | cs,(i,v)::r =>
  match place i,v.cells? with
  | some (off,size),some vs=>if vs.length=size/\off+size<=cs.length then qc place (yP cs off vs) r else none
  | _,_=>none
def aLen:AV->Option Nat
 | .sl _ es | .osl _ _ es | .bsl _ es | .nsl _ es=>some es.length
 | .msl _ _ _ n | .rsl _ _ _ n | .gsl _ n=>some n
 | .rsuf _ _ _ n p=>some (n - p)
 | .nilsl=>some 0
 | _=>none
def aIndexAddr (k:Nat) (x i:AV):Option AV :=
 match x,i with
 | .sl k' es,.int _ n | .osl _ k' es,.int _ n | .bsl k' es,.int _ n | .nsl k' es,.int _ n=>if k'=k/\0<=n then (es[n.toNat]?).map .fptr else none
 | .gsl k' m,.int _ n=>if k'=k/\0<=n/\n < m then some (.gptr k) else none
 | .msl k' id off len,.int _ n=>if k'=k/\0<=n/\n < len then some (.ptr id (off+n.toNat * k)) else none
 | .rsl id t k' m,.int _ n=>if k'=k/\0<=n/\n < m then some (.rptr id t k m (n.toNat * k)) else none
 | .rsuf id t k' m p,.int _ n=>if k'=k/\0<=n/\n < (m - p:Nat) then some (.rptr id t k m ((p+n.toNat) * k)) else none
 | _,_=>none
def aIndexArr (len k:Nat) (x i:AV):Option AV :=
 match x,i with
 | .ptr id off,.int _ n=>if 0<=n/\n < len then some (.ptr id (off+n.toNat * k)) else none
 | .fptr cs,.int _ n=>if 0<=n/\n < len then some (.fptr (cs.drop (n.toNat * k))) else none
 | _,_=>none
def aIndexStr (x i:AV):Option AV :=
 match x,i with
 | .str s,.int _ n=>if 0<=n then (s[n.toNat]?).map λb=>.int .u8 b.toNat else none
 | _,_=>none
def aIndexAgg (ag:Bool) (len k:Nat) (x i:AV):Option AV :=
 match i with
 | .int _ n=>if 0<=n/\n < len then aPart ag (n.toNat * k) k x else none
 | _=>none
def aBound (d:Nat):Option AV->Option Nat
 | none=>some d
 | some (.int _ n)=>if 0<=n then some n.toNat else none
 | _=>none
def aSliceStr (s:List UInt8) (lo hi:Option AV):Option AV :=
 match aBound 0 lo,aBound s.length hi with
 | some l,some h=>if l<=h/\h<=s.length then some (.str ((s.take h).drop l)) else none
 | _,_=>none
def aSliceSl (full:Bool) (k:Nat) (es:List (List AV)) (lo hi mx:Option AV):Option AV :=
 match aBound 0 lo,aBound es.length hi with
 | some l,some h =>
  if l<=h/\h<=es.length then
   match mx with
   | none=>some (if full&&hi.isNone then .osl none k (es.drop l) else .sl k ((es.take h).drop l))
   | some (.int _ m)=>if m=h/\hi.isSome then some (.osl none k ((es.take h).drop l)) else none
   | _=>none
  else none
 | _,_=>none
def aSlice (x:AV) (lo hi mx:Option AV):Option AV :=
 match x with
 | .str s=>if mx.isNone then aSliceStr s lo hi else none
 | .sl k es=>aSliceSl false k es lo hi mx
 | .osl o k es=>aSliceSl o.isNone k es lo hi mx
 | _=>none

def yZ (op:BinOp) (k:IntKind) (a b:Int):Option AV :=
 match op with
 | .add=>some (.int k (k.wrap (a+b)))
 | .sub=>some (.int k (k.wrap (a - b)))
 | .mul=>some (.int k (k.wrap (a * b)))
 | .quo=>if b=0 then none else some (.int k (k.wrap (a.tdiv b)))
 | .rem=>if b=0 then none else some (.int k (a.tmod b))
 | .and=>some (.int k (k.wrap ((BitVec.ofInt k.bits a &&& BitVec.ofInt k.bits b).toNat)))
 | .or=>some (.int k (k.wrap ((BitVec.ofInt k.bits a ||| BitVec.ofInt k.bits b).toNat)))
 | .xor=>some (.int k (k.wrap ((BitVec.ofInt k.bits a ^^^ BitVec.ofInt k.bits b).toNat)))
 | .andNot=>some (.int k (k.wrap ((BitVec.ofInt k.bits a &&& ~~~(BitVec.ofInt k.bits b)).toNat)))
 | .eql=>some (.bool (a==b))
 | .neq=>some (.bool (a != b))
 | .lss=>some (.bool (decide (a < b)))
 | .leq=>some (.bool (decide (a<=b)))
 | .gtr=>some (.bool (decide (a > b)))
 | .geq=>some (.bool (decide (a >= b)))
 | .shl=>if b < 0 then none else some (.int k (k.wrap (a * 2 ^ min b.toNat k.bits)))
 | .shr=>if b < 0 then none else some (.int k (a.fdiv (2 ^ min b.toNat k.bits)))
def aStr (op:BinOp) (x y:List UInt8):Option AV :=
 match op with
 | .add=>if x.length+y.length<=maxLen then some (.str (x++y)) else none
 | .eql=>some (.bool (x==y))
 | .neq=>some (.bool !(x==y))
 | .lss=>some (.bool (Op.bytesLess x y))
 | .leq=>some (.bool (Op.bytesLess x y || x==y))
 | .gtr=>some (.bool !(Op.bytesLess x y || x==y))
 | .geq=>some (.bool !(Op.bytesLess x y))
 | _=>none
inductive Kd where
 | b | i | s
 deriving DecidableEq
def aEq1:Kd->AV->AV->Option Bool
 | .b,.bool a,.bool b=>some (a==b)
 | .i,.int k a,.int k' b=>if k=k' then some (a==b) else none
 | .s,.str a,.str b=>some (a==b)
 | _,_,_=>none
def qT:List Kd->List AV->List AV->Option Bool
 | [],[],[]=>some true
 | k::ks,a::r,b::s=>match aEq1 k a b,qT ks r s with
  | some x,some y=>some (x&&y)
  | _,_=>none
 | _,_,_=>none
def aNil:TypeDesc->AV->AV->Option Bool
 | .pointer _,.nilp,.nilp | .func _ _ _,.nilf,.nilf | .map _ _,.nilm,.nilm=>some true
 | .pointer _,.nilp,.ptr _ _ | .pointer _,.nilp,.fptr _ | .pointer _,.ptr _ _,.nilp | .pointer _,.fptr _,.nilp=>some false
 | .func _ _ _,.nilf,.fn _ _ _ | .func _ _ _,.fn _ _ _,.nilf=>some false
 | .map _ _,.nilm,.map _ | .map _ _,.map _,.nilm | .map _ _,.nilm,.imap _ _ | .map _ _,.imap _ _,.nilm=>some false
 | .slice _,.msl _ _ _ _,.nilsl=>some false
 | _,_,_=>none
def plainFsOf (P:Program) (f:TypeId->Option (List Kd)):List Field->Nat->Option (List Kd)
 | [],_=>some []
 | x :: fs, acc => if x.name ≠ "_" ∧ x.offset = acc then (match f x.type, P.info? x.type with
   | some ks,some i=>if i.size=ks.length then (match plainFsOf P f fs (acc+i.size) with
    | some r=>some (ks++r)
    | none=>none) else none
   | _,_=>none) else none
def xN (P:Program):Nat->TypeId->Option (List Kd)
 | 0,_=>none
 | d+1,t=>match P.underlying t with
  | some .bool=>some [.b]
  | some (.int _)=>some [.i]
  | some .string=>some [.s]
  | some (.struct fs)=>if P.stoodInHeld t then none else plainFsOf P (xN P d) fs.toList 0
  | _=>none
abbrev plainFs (P:Program) (d:Nat) (fs:List Field) (acc:Nat):Option (List Kd):=plainFsOf P (xN P d) fs acc
def arrKs (P:Program) (t:TypeId):Option (List Kd) :=
 match P.underlying t with
 | some (.array n e)=>match P.underlying e,P.info? e with
  | some (.int _),some i=>if i.size=1 then some (List.replicate n .i) else none
  | _,_=>none
 | _=>none
def aEq (P:Program) (t:TypeId) (x y:AV):Option Bool :=
 match x,y with
 | .agg cs,.agg ds=>if P.eqGuardType P.depth t=false/\(P.underlying t).any yq then (match (xN P 6 t).or (arrKs P t) with
  | some ks=>qT ks cs ds
  | none=>none) else none
 | .bool a,.bool b=>match P.underlying t with
  | some .bool=>some (a==b)
  | _=>none
 | x,y=>match P.underlying t with
  | some d=>aNil d x y
  | none=>none
def yG (P:Program) (op:BinOp) (t:TypeId) (x y:AV):Option AV :=
 match x,y with
 | .int k a,.int k' b=>if k=k' \/ op=.shl \/ op=.shr then yZ op k a b else none
 | .str a,.str b=>aStr op a b
 | x,y=>match op with
  | .eql=>(aEq P t x y).map .bool
  | .neq=>(aEq P t x y).map λb=>.bool !b
  | _=>none
def aNilq (P:Program) (op:BinOp) (t:TypeId) (h:AH):AV->AV->Option (AV->AH->Prop)
 | .sl _ es,.nilsl | .osl _ _ es,.nilsl=>match P.underlying t,op with
  | some (.slice _),.eql=>some λv h'=>h'=h/\∃b,v=.bool b/\(b=true->es=[])
  | some (.slice _),.neq=>some λv h'=>h'=h/\∃b,v=.bool (!b)/\(b=true->es=[])
  | _,_=>none
 | _,_=>none
theorem aNilq_none {P:Program} {op:BinOp} {t:TypeId} {h:AH} {x y v:AV} (b:yG P op t x y=some v):aNilq P op t h x y=none:=by
 unfold aNilq;split
 ·rename_i k es;split
  ·rename_i a;simp [yG,aEq,a,aNil] at b
  ·rename_i a;simp [yG,aEq,a,aNil] at b
  ·rfl
 ·rename_i q k es;split
  ·rename_i a;simp [yG,aEq,a,aNil] at b
  ·rename_i a;simp [yG,aEq,a,aNil] at b
  ·rfl
 ·rfl
def aIfc (P:Program) (op:BinOp) (t:TypeId) (oy:Operand) (a b:AV):Option AV :=
 match P.underlying t,oy,a,b with
 | some (.interface _),.const .nilIface,.nili,.nili=>(match op with
  | .eql=>some (.bool true)
  | .neq=>some (.bool false)
  | _=>none)
 | some (.interface _),.const .nilIface,.iface _ _,.nili=>(match op with
  | .eql=>some (.bool false)
  | .neq=>some (.bool true)
  | _=>none)
 | _,_,_,_=>none
def aUn (op:UnOp):AV->Option AV
 | .int k n=>match op with
  | .neg=>some (.int k (k.wrap (0 - n)))
  | .xor=>some (.int k (k.wrap ((BitVec.ofInt k.bits (if k.signed then -1 else k.max) ^^^ BitVec.ofInt k.bits n).toNat)))
  | _=>none
 | .bool b=>match op with
  | .not=>some (.bool !b)
  | _=>none
 | _=>none
def aConvert (d:TypeDesc):AV->Option AV
 | .int _ n=>match d with
  | .int k=>some (.int k (k.wrap n))
  | _=>none
 | .str s=>match d with
  | .string=>some (.str s)
  | _=>none
 | _=>none

def xe:Nat:=2147483648
def AH.grow (h:AH) (o:Option Nat) (n m:Nat):Option (Nat×AH) :=
 match o with
 | none=>some (h.toks.length,{ h with toks:=h.toks++[n+m] })
 | some id=>if h.toks[id]?=some n then some (id,{ h with toks:=h.toks.set id (n+m) }) else none
def aAppend (h:AH) (k:Nat) (s:AV) (ys:List (List AV)):Option (AV×AH) :=
 match s with
 | .osl o k' es =>
  if ys.length=0 then (match o with
   | none=>some (.osl (some h.toks.length) k' es,{ h with toks:=h.toks++[es.length] })
   | some id=>some (.osl (some id) k' es,h)) else
  if k'=k/\es.length+ys.length<=xe then
   match h.grow o es.length ys.length with
   | some (id,h')=>some (.osl (some id) k (es++ys),h')
   | none=>none
  else none
 | .rsl id t k' n=>if ys.length=0 then some (.rsl id t k' n,h) else (match h.blk id with
  | some (.row t' k'' es)=>if (t'=t/\k'=k/\k''=k)/\es.length=n/\h.toks[t]?=some n/\n+ys.length<=xe then
    some (.rsl id t k (n+ys.length),{ h.put id (.row t k (es++ys)) with toks:=h.toks.set t (n+ys.length) }) else none
  | _=>none)
 | _=>none
def aNews (k:Nat):AV->Option (List (List AV))
 | .sl k' es | .osl _ k' es | .bsl k' es | .nsl k' es=>if k'=k then some es else none
 | .str s=>if k=1 then some (s.map λb=>[.int .u8 b.toNat]) else none
 | _=>none
def aMM (mx:Bool):AV->List AV->Option AV
 | v,[]=>some v
 | .int k a,.int k' b::r=>if k=k' then aMM mx (.int k (if mx then (if b > a then b else a) else (if b < a then b else a))) r else none
 | _,_=>none

def qd (P:Program) (h:AH) (b:Builtin) (ts:List TypeId) (args:List AV):Res :=
 match b,ts,args with
 | .len,[t],[x]=>match P.underlying t with
  | some .string=>match x with
   | .str s=>.len s.length (.int .i64 s.length) h
   | _=>.fail
  | some (.slice _)=>match aLen x with
   | some n=>.len n (.int .i64 n) h
   | none=>.fail
  | some (.map _ _)=>match x with
   | .map id=>match h.blk id with
    | some (.mapo es _)=>.any λv h'=>h'=h/\v=.int .i64 es.length
    | _=>.fail
   | _=>.fail
  | _=>.fail
 | .append,[t,u],[s,x]=>match P.underlying t,P.underlying u with
  | some (.slice e),some (.slice _) | some (.slice e),some .string=>match P.info? e with
   | some i=>if i.bytes<=65536/\0 < i.size/\(i.zero.map (·.cells.size))=some i.size then (match aNews i.size (tyfix P u x) with
    | some ys=>ovh (aAppend h i.size (tyfix P t s) ys)
    | none=>.fail) else .fail
   | none=>.fail
  | _,_=>.fail
 | .min,_,x::r=>oo h (aMM false x r)
 | .max,_,x::r=>oo h (aMM true x r)
 | _,_,_=>.fail

def fieldOff (P:Program) (t:TypeId) (f:Nat):Option (Nat×TypeId) :=
 match P.underlying t with
 | some (.struct fs)=>(fs[f]?).map λx=>(x.offset,x.type)
 | _=>none
def leafTys (P:Program):Nat->TypeId->List TypeId
 | 0,_=>[]
 | d+1,t=>match P.underlying t with
  | some (.struct fs)=>fs.toList.flatMap λf=>leafTys P d f.type
  | some (.array n e)=>(List.replicate n (leafTys P d e)).flatten
  | _=>[t]
def fixCells (P:Program):List TypeId->List AV->List AV
 | t::ts,a::a5=>tyfix P t a::fixCells P ts a5
 | _,a5=>a5
def xQ (P:Program) (t:TypeId):Option (List AV) :=
 match P.info? t with
 | some i=>match i.zero with
  | some z=>if okc z then (match (cv z).cells? with
   | some cs=>some (fixCells P (leafTys P 6 t) cs)
   | none=>none) else none
  | none=>none
 | none=>none
def vH (P:Program) (fs:Array Field):Option (List (Nat×Nat)):=fs.toList.mapM λf=>(P.info? f.type).map λi=>(f.offset,i.size)
def partTy (d:TypeDesc) (i:Nat):TypeId :=
 match d with
 | .struct fs=>((fs[i]?).map (·.type)).getD 0
 | .array _ e | .slice e=>e
 | _=>0
def xj (P:Program) (d:TypeDesc) (env:List AV) (parts:Array (Nat×Operand)):List (Nat×AV):=parts.toList.map λp=>(p.1,tyfix P (partTy d p.1) (ev env p.2))

def dec (s:List UInt8) (pos:Nat):Nat×Nat:=Utf8.decode ⟨s.toArray⟩ pos
def aNext (h:AH):AV->Res
 | .ptr id 0=>match h.blk id with
  | some (.siter s pos)=>if pos < s.length then .ok (.tup [.bool true,.int .i64 pos,.int .i32 (dec s pos).1]) (h.put id (.siter s (pos+(dec s pos).2))) else .ok (.tup [.bool false]) h
  | _=>.fail
 | _=>.fail

def xq (P:Program) (kt:TypeId) (a b:AV):Option Bool :=
 match P.underlying kt with
 | some .bool=>aEq1 .b a b
 | some (.int _)=>aEq1 .i a b
 | some .string=>aEq1 .s a b
 | some (.struct _)=>match a,b with
  | .agg cs,.agg ds=>(match xN P 6 kt with
   | some ks=>qT ks cs ds
   | none=>none)
  | _,_=>none
 | _=>none
def qV (P:Program) (kt:TypeId) (k:AV):List (AV×AV)->Nat->Option (Option (Nat×AV))
 | [],_=>some none
 | e::r,i=>match xq P kt k e.1 with
  | some true=>some (some (i,e.2))
  | some false=>qV P kt k r (i+1)
  | none=>none
def aZero (P:Program) (t:TypeId):Option AV :=
 match P.info? t with
 | some i=>match i.zero with
  | some z=>if okc z then (match cv z with
   | .agg cs=>some (.agg (fixCells P (leafTys P 6 t) cs))
   | v=>some (tyfix P t v)) else none
  | none=>none
 | none=>none
def AV.zc1:AV->AV
 | .osl _ k es=>.sl k es
 | v=>v
def AV.zcl:AV->AV
 | .agg cs=>.agg (cs.map AV.zc1)
 | v=>v
def vS (P:Program) (t:TypeId):Option AV:=(aZero P t).map AV.zcl
def va (ok:Bool) (v:AV) (b:Bool):AV:=if ok then .tup [v,.bool b] else v
def aLookup (P:Program) (h:AH) (kt et:TypeId) (ok:Bool) (m k:AV):Option AV :=
 if xq P kt k k=some true then (match m with
  | .nilm=>(vS P et).map λz=>va ok z false
  | .map id=>match h.blk id with
   | some (.mapo es _)=>match qV P kt k es 0,vS P et with
    | some (some (_,v)),_=>some (va ok v true)
    | some none,some z=>some (va ok z false)
    | _,_=>none
   | _=>none
  | _=>none) else none
def aEntry (P:Program) (h:AH) (kt et:TypeId) (m k:AV):Option (AV×AH) :=
 if xq P kt k k=some true then (match m with
  | .map id=>match h.blk id with
   | some (.mapo es 0)=>match qV P kt k es 0,vS P et with
    | some (some (i,v)),_=>some (.tup [v,.int .i64 i],h)
    | some none,some z=>some (.tup [z,.int .i64 es.length],h.put id (.mapo (es++[(k,z)]) 0))
    | _,_=>none
   | _=>none
  | _=>none) else none
def aEntryStore (h:AH) (m s x:AV):Option AH :=
 match m,s with
 | .map id,.int _ n=>match h.blk id with
  | some (.mapo es 0)=>if 0<=n then (match es[n.toNat]? with
   | some e=>some (h.put id (.mapo (es.set n.toNat (e.1,x.zcl)) 0))
   | none=>none) else none
  | _=>none
 | _,_=>none
def aMapPut (P:Program) (h:AH) (kt:TypeId) (m k x:AV):Option AH :=
 if xq P kt k k=some true then (match m with
  | .map id=>match h.blk id with
   | some (.mapo es c)=>match qV P kt k es 0 with
    | some (some (i,_))=>some (h.put id (.mapo (es.set i (k,x.zcl)) c))
    | some none=>some (h.put id (.mapo (es++[(k,x.zcl)]) c))
    | none=>none
   | _=>none
  | _=>none) else none

def aRecv (P:Program) (h:AH) (t:TypeId) (v:AV) (name:String):Option (FuncId×AV) :=
 match P.info? t with
 | some i=>match i.methods.toList.find? (λm=>m.name==name) with
  | some m=>if m.path.isEmpty then (match m.func with
   | some (f,p)=>match P.underlying t,p with
    | some (.pointer _),true=>some (f,v)
    | some (.pointer e),false=>match v,P.underlying e,P.info? e with
     | .ptr id off,some d,some j=>(aLoad h (yq d) j.size (.ptr id off)).map λx=>(f,tyfix P e x)
     | _,_,_=>none
    | some _,false=>some (f,v)
    | _,_=>none
   | none=>none) else none
  | none=>none
 | none=>none
def zB (P:Program) (o:Oper) (env:List AV) (h:AH):Res :=
 match o.op with
 | .move x | .assign x=>if yf x then .ok (tyfix P o.type (ev env x)) h else .fail
 | .pick c a b=>if yf a&&yf b&&yf c then (match ev env c with
  | .bool t=>.ok (if t then ev env a else ev env b) h
  | _=>.fail) else .fail
 | .alloc t=>match xQ P t with
  | some cs=>.ok (.ptr h.blks.length 0) (h.new (.cells cs))
  | none=>.fail
 | .box t x=>if yf x then (match (tyfix P t (ev env x)).cells? with
  | some cs=>.ok (.ptr h.blks.length 0) (h.new (.cells cs))
  | none=>.fail) else .fail
 | .build t parts=>if parts.all λp=>yf p.2 then (match P.underlying t,xQ P t with
  | some (.struct fs),some z=>match vH P fs with
   | some pl=>oo h ((qc (λi=>pl[i]?) z (xj P (.struct fs) env parts)).map .agg)
   | none=>.fail
  | some (.array n e),some z=>match P.info? e with
   | some j=>oo h ((qc (λi=>some (i * j.size,j.size)) z (xj P (.array n e) env parts)).map .agg)
   | none=>.fail
  | _,_=>.fail) else .fail
 | .load t a=>match P.underlying t,P.info? t with
  | some d,some i=>oo h ((aLoad h (yq d) i.size (ev env a)).map (tyfix P t))
  | _,_=>.fail
 | .store t a x=>if yf x then (match P.info? t with
  | some i=>oh (aStore h i.size (ev env a) (tyfix P t (ev env x)))
  | none=>.fail) else .fail
 | .nilCheck x=>if yf x then (match ev env x with
  | .ptr id o=>.ok (.ptr id o) h
  | .fptr cs=>.ok (.fptr cs) h
  | .rptr id t k n p=>.ok (.rptr id t k n p) h
  | .gptr m=>.ok (.gptr m) h
  | .fn (.func f) a b=>.ok (.fn (.func f) a b) h
  | _=>.fail) else .fail
 | .binOp op t x y _=>if yf x&&yf y then (match aNilq P op t h (ev env x) (ev env y) with
  | some S=>.any S
  | none=>oo h ((yG P op t (ev env x) (ev env y)).or (aIfc P op t y (ev env x) (ev env y)))) else .fail
 | .unOp op _ x=>if yf x then oo h (aUn op (ev env x)) else .fail
 | .convert s t x=>if yf x then (match P.underlying s,P.underlying t with
  | some _,some d=>oo h (aConvert d (ev env x))
  | _,_=>.fail) else .fail
 | .makeFunc f a b=>if a.all yf&&b.all yf then .ok (.fn f (a.toList.map (ev env)) (b.toList.map (ev env))) h else .fail
 | .slice t x lo hi mx=>if yf x&&lo.all yf&&hi.all yf&&mx.all yf then (match P.underlying t with
  | some .string=>match ev env x with
   | .str s=>oo h (aSlice (.str s) (lo.map (ev env)) (hi.map (ev env)) (mx.map (ev env)))
   | _=>.fail
  | some (.slice e)=>match P.info? e with
   | some i=>match tyfix P t (ev env x) with
    | .sl k es=>if k=i.size then oo h (aSlice (.sl k es) (lo.map (ev env)) (hi.map (ev env)) (mx.map (ev env))) else .fail
    | .osl q k es=>if k=i.size then oo h (aSlice (.osl q k es) (lo.map (ev env)) (hi.map (ev env)) (mx.map (ev env))) else .fail
    | _=>.fail
   | none=>.fail
  | some (.array n e)=>match P.info? e with
   | some i=>match ev env x,lo.map (ev env),hi,mx with
    | .ptr id off,some (.int _ l),none,none=>if 0<=l/\l < n/\n<=maxLen then .ok (.msl i.size id (off+l.toNat * i.size) (n - l.toNat)) h else .fail
    | _,_,_,_=>.fail
   | none=>.fail
  | _=>.fail) else .fail
 | .fieldAddr t x f=>match fieldOff P t f with
  | some (off,u)=>match P.info? u with
   | some i=>if i.size=0 \/ yf x=false then .fail else oo h (qh off (ev env x))
   | none=>.fail
  | none=>.fail
 | .field t x f=>match fieldOff P t f with
  | some (off,u)=>match P.underlying u,P.info? u with
   | some d,some i=>if yf x then oo h ((aPart (yq d) off i.size (ev env x)).map (tyfix P u)) else .fail
   | _,_=>.fail
  | none=>.fail
 | .indexAddr t x i=>if yf x&&yf i then (match P.underlying t with
  | some (.slice e)=>match P.info? e with
   | some j=>oo h (aIndexAddr j.size (ev env x) (ev env i))
   | none=>.fail
  | some (.array n e)=>match P.info? e with
   | some j=>oo h (aIndexArr n j.size (ev env x) (ev env i))
   | none=>.fail
  | _=>.fail) else .fail
 | .index t x i=>if yf x&&yf i then (match P.underlying t with
  | some .string=>oo h (aIndexStr (ev env x) (ev env i))
  | some (.array n e)=>match P.underlying e,P.info? e with
   | some d,some j=>oo h ((aIndexAgg (yq d) n j.size (ev env x) (ev env i)).map (tyfix P e))
   | _,_=>.fail
  | _=>.fail) else .fail
 | .extract t i=>if yf t then (match ev env t with
  | .tup vs=>oo h ((vs[i]?).map (tyfix P o.type))
  | _=>.fail) else .fail
 | .buildSlice t n parts=>if parts.all λp=>yf p.2 then (match P.underlying t with
  | some (.slice e)=>match P.info? e,xQ P e with
   | some i,some z=>if 0 < i.size/\n * i.size<=65536/\z.length=i.size then
     (match (qc (λj=>some (j * i.size,i.size)) ((List.replicate n z).flatten) (xj P (.slice e) env parts)) with
           | some cs=>match xF cs with
             | some cs=>.ok (.osl none i.size (rows i.size n cs)) h
             | none=>.fail
           | none=>.fail) else .fail
   | _,_=>.fail
  | _=>.fail) else .fail
 | .call c=>if c.args.all yf&&c.args.size==c.argTypes.size then (match c.callee with
  | .builtin b=>qd P h b c.argTypes.toList (c.args.toList.map (ev env))
  | .value f=>if yf f=false then .fail else match ev env f with
   | .fn (.func g) first caps=>.call g (first++(c.args.toList.zip c.argTypes.toList).map (λp=>tyfix P p.2 (ev env p.1))++caps)
   | .yld id=>.round id ((c.args.toList.zip c.argTypes.toList).map (λp=>tyfix P p.2 (ev env p.1)))
   | _=>.fail
  | .invoke x name=>if yf x=false then .fail else match ev env x with
   | .iface t v=>match aRecv P h t v name with
    | some (g,b)=>.call g (b::(c.args.toList.zip c.argTypes.toList).map (λp=>tyfix P p.2 (ev env p.1)))
    | none=>.fail
   | _=>.fail) else .fail
 | .range t x=>if yf x then (match P.underlying t,ev env x with
  | some .string,.str s=>.ok (.ptr h.blks.length 0) (h.new (.siter s 0))
  | _,_=>.fail) else .fail
 | .next x str=>if yf x&&str then aNext h (ev env x) else .fail
 | .makeMap _ none=>.ok (.map h.blks.length) (h.new (.mapo [] 0))
 | .lookup t x i ok=>if yf x&&yf i then (match P.underlying t with
  | some (.map kt et)=>oo h (aLookup P h kt et ok (ev env x) (ev env i))
  | _=>.fail) else .fail
 | .mapEntry t x i=>if yf x&&yf i then (match P.underlying t with
  | some (.map kt et)=>ovh (aEntry P h kt et (ev env x) (ev env i))
  | _=>.fail) else .fail
 | .entryStore _ x i y=>if yf x&&yf i&&yf y then oh (aEntryStore h (ev env x) (ev env i) (ev env y)) else .fail
 | .mapUpdate t x i y=>if yf x&&yf i&&yf y then (match P.underlying t with
  | some (.map kt _)=>oh (aMapPut P h kt (ev env x) (ev env i) (ev env y))
  | _=>.fail) else .fail
 | _=>.fail

end Go.Vv
