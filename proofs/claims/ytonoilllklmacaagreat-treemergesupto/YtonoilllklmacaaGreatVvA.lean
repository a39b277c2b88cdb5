/- The abstract domain of this proof: values that hold the contents of unchanging memory, a small heap of boxed variables, and how they stand to the model's values. -/
import Derived.WalkKit
import Derived.RangeFuncLeaves
set_option linter.all false
namespace Go.Vv
def ua:=@Option.bind_some
def uc:=@List.getElem?_eq_some_iff
def ud:=@Bool.and_eq_true
def ue:=@List.set_cons_succ
def uf:=@List.set_cons_zero
def ug:=@Nat.le_refl
def uh:=@List.getElem?_eq_getElem
def ui:=@Option.some.injEq
def uj:=@List.getElem?_append_right
def uk:=@decide_eq_true_eq
def ul:=@List.length_map
def um:=@Bool.false_eq_true
def un:=@List.getElem?_append_left
def uo:=@Option.some.inj
def uq:=@List.length_append
def ur:=@List.all_eq_true
def ut:=@if_true
def uu:=@List.getElem?_take
def uv:=@Nat.add_sub_cancel_left
def uw:=@List.map_cons
def ux:=@List.length_cons
def uy:=@Int.toNat_natCast
def uz:=@if_pos
def uA:=@Nat.le_trans
def uB:=@List.getElem?_drop
def uC:=@List.append_assoc
def uD:=@List.getElem?_set_self
def uE:=@List.mem_singleton
def uF:=@Array.getElem?_toList
def uG:=@List.mem_append
def uH:=@List.eq_nil_of_length_eq_zero
def uI:=@List.nil_append
def uJ:=@if_false
def uK:=@List.take_of_length_le
def uL:=@List.pairwise_cons
def uM:=@if_neg
def uN:=@Array.getElem?_eq_some_iff
def uO:=@Array.getElem?_eq_getElem
def uP:=@List.mem_cons
def uQ:=@List.length_set
def uR:=@List.getElem?_set_ne
def uS:=@Bool.true_and
def uT:=@Bool.and_self
def uU:=@List.flatten_cons
def uV:=@List.take_append_of_le_length
def uW:=@beq_self_eq_true
def uX:=@List.mem_of_getElem?
def uY:=@Option.map_some
def uZ:=@List.ext_getElem?
def u1:=@decide_eq_true
def u2:=@List.mem_iff_getElem?
def u5:=@List.takeWhile_append_dropWhile
def u6:=@List.length_nil
def u7:=@Nat.mul_le_mul_right
def u9:=@decide_eq_false
def tc:=@of_decide_eq_true
def te:=@Nat.add_mul
def tf:=@List.all_cons
def tg:=@Bool.false_or
def th:=@Option.bind_eq_some_iff
def tj:=@List.drop_of_length_le
def tn:=@List.drop_drop
def tp:=@List.pairwise_append
def tq:=@List.length_take
def tr:=@List.map_nil
def tu:=@Bool.eq_iff_iff
def tv:=@List.pairwise_iff_getElem
def tw:=@Array.toList_append
def tx:=@Nat.zero_add
def tz:=@List.mem_map
def tA:=@Array.getD_eq_getD_getElem?
def tB:=@List.take_add_one
def tC:=@Bool.or_eq_true
def tD:=@Nat.zero_le
def tE:=@List.filter_append
def tF:=@List.getElem?_eq_none
def tG:=@List.filter_eq_self
def tH:=@List.takeWhile_cons
def tI:=@List.getD_eq_getElem?_getD
def tJ:=@List.mem_cons_of_mem
def tL:=@Nat.add_zero
def tM:=@and_true
def tN:=@List.map_append
def tO:=@List.mem_filter
def tP:=@List.cons_append
def tQ:=@Nat.lt_irrefl
def tR:=@Bool.not_true
def tS:=@Eq.symm
def tT:=@List.mem_cons_self
def tU:=@List.foldl_cons
def tV:=@List.take_append
def tW:=@List.filter_eq_nil_iff
def tX:=@List.filter_cons
def tY:=@Int.le_refl
def tZ:=@Classical.choose_spec
def t6:=@Prod.mk.injEq
def t7:=@List.find?_eq_none
def t8:=@Nat.succ_mul
def sa:=@List.drop_zero
def sd:=@Option.map_eq_some_iff
def se:=@Array.all_eq_true_iff_forall_mem
def sf:=@List.flatten_append
def sg:=@List.mem_or_eq_of_mem_set
def si:=@Nat.lt_of_lt_of_le
def sj:=@List.take_length
def sm:=@List.drop_append_of_le_length
def sn:=@List.getElem?_map
def so:=@Bool.not_eq_true'
def sq:=@List.flatMap_cons
def sr:=@bne_self_eq_false
def su:=@List.filter_congr
def sx:=@Array.length_toList
def sy:=@Nat.lt_or_ge
def sA:=@Bool.and_true
def sB:=@Nat.mul_le_mul
def sC:=@Bool.not_false
def sD:=@List.getElem?_toArray
def sE:=@Nat.ble_eq_true_of_le
def sF:=@List.set_append_right
def sG:=@List.findIdx?_eq_some_iff_getElem
def sH:=@List.mem_of_find?_eq_some
def sI:=@Nat.le_succ_of_le
def sJ:=@List.pairwise_map
def sK:=@List.take_succ_cons
def sL:=@List.take_set_of_le
def sM:=@List.drop_set_of_lt
def sN:=@List.replicate_succ
def sO:=@List.map_congr_left
def sP:=@Option.bind_eq_bind
def sQ:=@List.mem_map_of_mem
def sR:=@List.getElem?_cons_zero
def sS:=@List.drop_append
def sU:=@Nat.eq_zero_or_pos
def sV:=@List.getElem_cons_drop
def sW:=@List.filter_filter
def sX:=@Nat.min_eq_left
def sY:=@List.append_nil
def sZ:=@Nat.add_assoc
def s5:=@Array.getElem?_modify
def s6:=@List.length_filter_le
def s7:=@Array.size_append
def s8:=@List.size_toArray
def s9:=@Function.comp_def
def ra:=@List.any_eq_false
def rb:=@List.drop_left
def rd:=@List.mapM_cons
def rf:=@Bool.or_eq_false_iff
def rg:=@List.length_drop
def rh:=@Array.toList_map
def ri:=@Option.getD_some
def rj:=@and_assoc
def rk:=@List.getElem_map
def rl:=@List.getElem_mem
def rm:=@decide_false
def rn:=@List.any_eq_true
def rp:=@List.extract_eq_take_drop
def rq:=@List.exists_mem_of_ne_nil
def rt:=@beq_eq_false_iff_ne
def ru:=@List.eq_of_mem_replicate
def rx:=@List.nodup_cons
def ry:=@Option.pure_def
def rz:=@List.find?_cons
def rB:=@Array.toList_range
def rC:=@Nat.add_sub_cancel
def rD:=@Nat.le_mul_of_pos_right
def rE:=@List.filter_append_perm
def rF:=@List.map_map
def rG:=@Bool.false_and
def rH:=@Array.toList_replicate
def rI:=@Option.some_or
def rJ:=@not_false_eq_true
def rK:=@Int.toNat_le
def rL:=@Nat.le_of_ble_eq_true
def rM:=@List.take_append_drop
def rN:=@List.singleton_append
def rO:=@UInt8.lt_iff_toNat_lt
def rP:=@List.flatten_nil
def rQ:=@Array.eq_empty_of_size_eq_zero
def rR:=@beq_iff_eq
def rS:=@Bool.not_eq_true
def rT:=@decide_eq_decide
def rU:=@Int.natCast_zero
def rV:=@Nat.mul_pos
def rW:=@decide_true
def rX:=@List.set_append_left
def rY:=@List.drop_left'
def rZ:=@List.cons.injEq
def r6:=@Except.ok.injEq
def r7:=@List.drop_succ_cons
def r8:=@Array.getElem?_push
def r9:=@List.getElem?_range
def pa:=@List.length_pos_iff
def pb:=@List.mergeSort_perm
def pc:=@List.map_eq_nil_iff
def pd:=@List.getElem_of_mem
def pf:=@Bool.or_self
def pg:=@List.take_left
def ph:=@Array.ext'
def pi:=@List.drop_take
def pj:=@Array.toList_setIfInBounds
def pk:=@Array.foldl_toList
def pm:=@and_self
def pn:=@Array.ext_getElem?
def po:=@Array.getElem?_append_left
def pp:=@List.nodup_iff_pairwise_ne
def pq:=@Option.isSome_iff_ne_none
def pr:=@List.getLast?_eq_none_iff
def pt:=@Option.isSome_iff_exists
def pu:=@List.map_take
def px:=@List.sum_cons
def py:=@List.Pairwise.imp_of_mem
def pz:=@List.zipIdx_cons
def pA:=@Nat.mod_eq_of_lt
def pB:=@List.mem_flatten
def pC:=@List.getElem?_cons_succ
def pD:=@Nat.succ_le_succ
def pE:=@true_and
def pF:=@decide_eq_false_iff_not
def pG:=@List.getLast?_singleton
def pH:=@List.isEmpty_iff
def pI:=@List.pairwise_mergeSort
def pJ:=@Array.getElem?_eq_none
def pL:=@Bool.or_true
def pM:=@List.dropWhile_sublist
def pN:=@List.all_append
def pO:=@List.take_left'
def pP:=@List.take_take
def pQ:=@List.take_zero
def pR:=@dif_pos
def pU:=@List.any_cons
def pV:=@Bool.or_false
def pW:=@Nat.add_comm
def pX:=@List.any_nil
def pY:=@Bool.true_or
open Go
variable {vs:List Value}

inductive HK where
 | i (k:IntKind)
 | s
 deriving DecidableEq,Inhabited
def HK.ok:HK->Value->Prop
 | .i k,v=>∃n,v=.int k n
 | .s,v=>∃s,v=.string s
inductive AV where
 | bool (b:Bool)
 | int (k:IntKind) (n:Int)
 | str (s:List UInt8)
 | nilp | nilm | nilf | nili | nilsl
 | ptr (id off:Nat)
 | fptr (cs:List AV)
 | sl (k:Nat) (es:List (List AV))
 | osl (o:Option Nat) (k:Nat) (es:List (List AV))
 | msl (k id off len:Nat)
 | rsl (id t k n:Nat)
 | rptr (id t k n p:Nat)
 | rsuf (id t k n i:Nat)
 | map (id:Nat)
 | fn (f:Fn) (first caps:List AV)
 | iface (t:TypeId) (v:AV)
 | agg (cs:List AV)
 | tup (vs:List AV)
 | glob (g:Nat)
 | yld (id:Nat)
 | bsl (k:Nat) (es:List (List AV))
 | nsl (k:Nat) (es:List (List AV))
 | hsl (k:Nat) (es:List (List AV))
 | hfp (cs:List AV)
 | hol (k:HK)
 | any
 | opq
 deriving Inhabited

def aundef:AV:=.tup []

def AV.one:AV->Bool
 | .agg _ | .tup _ | .any=>false
 | _=>true

def AV.pure:AV->Bool
 | .bool _ | .int _ _ | .str _ | .nilp | .nilm | .nilf | .nili | .sl _ _ | .bsl _ _ | .nsl _ _ | .hsl _ _ | .fn _ [] []=>true
 | _=>false
theorem AV.one_of_pure {a:AV} (h:a.pure=true):a.one=true:=by
 unfold AV.pure at h;split at h <;> first | rfl | cases h

def AV.cells?:AV->Option (List AV)
 | .agg cs=>some cs
 | .tup _ | .any=>none
 | v=>some [v]

inductive Blk where
 | cells (cs:List AV)
 | siter (s:List UInt8) (pos:Nat)
 | loop (st:LoopState) (pe:Option Code) (env:List AV) (ps:Array Tmp) (assign body:Code)
 | mapo (es:List (AV×AV)) (clock:Nat)
 | miter (id n:Nat) (seen:List Nat)
 | miter0
 | row (t k:Nat) (es:List (List AV))
 | bld (T:TypeId) (x:AV)
 | other
 | dead
 deriving Inhabited

structure AH where
 blks:List Blk
 toks:List Nat
 deriving Inhabited

structure TI where
 n:Nat
 loc:Option (Nat×Nat×Nat)
 row:Bool:=false

inductive BK where
 | new (s:Nat)
 | gar (s:Nat) (f:Nat->Option HK)
 | shut (o:Obj)
 | frz (o:Obj)
structure Gh where
 Φ:Nat->Nat->Option Value
 σ:List (Option Nat)
 τ:List TI
 δ:List Nat
 N:Nat->Option BK:=λ_=>none
 O:Nat->Prop:=λ_=>False

def capOk (t:TI) (a:Option Addr) (n c k:Nat):Prop :=
 t.row=false/\n<=t.n/\(n=t.n->c=n \/ ∃b o,a=some ⟨b,o,none⟩/\t.loc=some (b,o+n * k,o+c * k))

def rowHd (t:TI) (a:Option Addr) (n c k:Nat):Prop :=
 t.row=true/\n<=t.n/\((n=0/\c=0) \/ ∃b o,a=some ⟨b,o,none⟩/\(n=t.n->t.loc=some (b,o+n * k,o+c * k)))
def rowPt (t:TI) (b q n k p:Nat):Prop :=
 t.row=true/\n<=t.n/\(n=t.n->∃o e,q=o+p/\t.loc=some (b,o+n * k,e))

def holeOk (g:Gh) (b o:Nat):AV->Prop
 | .hol k=>∃s f,g.N b=some (.gar s f)/\f o=some k
 | _=>False
mutual
def V (g:Gh):AV->Value->Prop
 | .bool b,v=>v=.bool b
 | .int k n,v=>v=.int k n
 | .str s,v=>v=.string ⟨s.toArray⟩/\s.length<=maxLen
 | .nilp,v=>v=.pointer none
 | .nilm,v=>v=.map none
 | .nilf,v=>v=.nilFunc
 | .nili,v=>v=.nilIface
 | .nilsl,v=>v=.slice none 0 0
 | .ptr id off,v=>∃c,g.σ[id]?=some (some c)/\v=.pointer (some ⟨c,off,none⟩)
 | .fptr cs,v=>∃b o,v=.pointer (some ⟨b,o,none⟩)/\VC g b o cs
 | .sl k es,v=>∃a c,v=.slice a es.length c/\es.length<=c/\c<=maxLen/\(es=[] \/ ∃b o,a=some ⟨b,o,none⟩/\VE g b k o es)
 | .osl q k es,v=>∃a c,v=.slice a es.length c/\es.length<=c/\c<=maxLen/\(es=[] \/ ∃b o,a=some ⟨b,o,none⟩/\VE g b k o es) /\
   (match q with
       | none=>c=es.length
       | some id=>∃t,g.τ[id]?=some t/\capOk t a es.length c k)
 | .msl _ id off len,v=>∃c cap,g.σ[id]?=some (some c)/\v=.slice (some ⟨c,off,none⟩) len cap/\len<=cap/\cap<=maxLen
 | .rsl _ i k n,v=>∃a c,v=.slice a n c/\n<=c/\c<=maxLen/\∃t,g.τ[i]?=some t/\rowHd t a n c k
 | .rptr _ i k n p,v=>∃b q,v=.pointer (some ⟨b,q,none⟩)/\∃t,g.τ[i]?=some t/\rowPt t b q n k p
 | .rsuf _ i k n p,v=>∃a c,v=.slice a (n - p) c/\(p<=n/\n<=maxLen)/\∃t,g.τ[i]?=some t/\(n - p=0 \/ ∃b q,a=some ⟨b,q,none⟩/\rowPt t b q n k (p * k))
 | .map id,v=>∃c,g.σ[id]?=some (some c)/\v=.map (some c)
 | .fn f first caps,v=>∃fs cs,v=.func f fs cs/\VL g first fs.toList/\VL g caps cs.toList
 | .iface t x,v=>∃u,v=.iface t u/\V g x u
 | .agg cs,v=>∃vs,v=.agg vs/\VA g cs vs.toList
 | .tup xs,v=>∃vs,v=.tuple vs/\VL g xs vs.toList
 | .glob n,v=>v=.pointer (some ⟨n,0,none⟩)
 | .yld id,v=>∃c,g.σ[id]?=some (some c)/\v=.func (.yield c) #[] #[]
 | .bsl k es,v=>∃a c,v=.slice a es.length c/\es.length<=c/\c<=maxLen/\(es=[] \/ ∃b o,a=some ⟨b,o,none⟩/\VE g b k o es/\g.O b)
 | .nsl k es,v=>∃a c,v=.slice a es.length c/\es.length<=c/\c<=maxLen/\(es=[] \/ ∃b o,a=some ⟨b,o,none⟩/\VE g b k o es/\∃s,g.N b=some (.new s))
 | .hsl k es,v=>∃a c,v=.slice a es.length c/\es.length<=c/\c<=maxLen/\(es=[] \/ ∃b o,a=some ⟨b,o,none⟩/\VEh g b k o es)
 | .hfp cs,v=>∃b o,v=.pointer (some ⟨b,o,none⟩)/\VCh g b o cs
 | .hol k,v=>k.ok v
 | .any,_=>True
 | .opq,v=>v.oneCell'=true
def VL (g:Gh):List AV->List Value->Prop
 | [],vs=>vs=[]
 | a::r,vs=>∃v s,vs=v::s/\V g a v/\VL g r s
def VA (g:Gh):List AV->List Value->Prop
 | [],vs=>vs=[]
 | a::r,vs=>∃v s,vs=v::s/\(a.one=true/\V g a v)/\VA g r s
def VC (g:Gh) (b:Nat):Nat->List AV->Prop
 | _,[]=>True
 | o,a::r=>(∃v,g.Φ b o=some v/\a.pure=true/\V g a v)/\VC g b (o+1) r
def VE (g:Gh) (b k:Nat):Nat->List (List AV)->Prop
 | _,[]=>True
 | o,e::r=>(e.length=k/\VC g b o e)/\VE g b k (o+k) r
def VCh (g:Gh) (b:Nat):Nat->List AV->Prop
 | _,[]=>True
 | o,a::r=>(holeOk g b o a \/ ∃v,g.Φ b o=some v/\a.pure=true/\V g a v)/\VCh g b (o+1) r
def VEh (g:Gh) (b k:Nat):Nat->List (List AV)->Prop
 | _,[]=>True
 | o,e::r=>(e.length=k/\VCh g b o e)/\VEh g b k (o+k) r
end


structure Gh.lv (g g':Gh):Prop where
 phi:∀b j v,g.Φ b j=some v->g'.Φ b j=some v
 sig:∀(i:Nat) (c:Option Nat),g.σ[i]?=some c->g'.σ[i]?=some c
 tau:∀(i:Nat) (t:TI),g.τ[i]?=some t->∃t',g'.τ[i]?=some t'/\t.n<=t'.n/\(t.n=t'.n->t'=t)/\t'.row=t.row
 new:∀(b:Nat) (x:BK),g.N b=some x->g'.N b=some x
 old:∀b:Nat,g.O b->g'.O b
structure Gh.le (g g':Gh):Prop where
 phi:∀b j v,g.Φ b j=some v->g'.Φ b j=some v
 sig:∀(i:Nat) (c:Option Nat),g.σ[i]?=some c->g'.σ[i]?=some c
 tau:∀(i:Nat) (t:TI),g.τ[i]?=some t->∃t',g'.τ[i]?=some t'/\t.n<=t'.n/\(t.n=t'.n->t'=t)/\t'.row=t.row
 del:∀c,c ∈ g.δ->c ∈ g'.δ
 new:∀(b:Nat) (x:BK),g.N b=some x->g'.N b=some x
 old:∀b:Nat,g.O b->g'.O b
theorem Gh.le.lv {g g':Gh} (h:g.le g'):g.lv g':=⟨h.phi,h.sig,h.tau,h.new,h.old⟩

theorem Gh.le.refl (g:Gh):g.le g:=⟨λ_ _ _ h=>h,λ_ _ h=>h,λ_ t h=>⟨t,h,ug _,λ_=>rfl,rfl⟩,λ_ h=>h,λ_ _ h=>h,λ_ h=>h⟩
theorem Gh.le.trans {a b c:Gh} (h:a.le b) (k:b.le c):a.le c :=
 ⟨λx y v e=>k.phi _ _ _ (h.phi x y v e),λi x e=>k.sig _ _ (h.sig i x e),λi t e=>by
  obtain ⟨d,r,s,m,p⟩:=h.tau i t e;obtain ⟨f,o,u,w,l⟩:=k.tau i d r;refine ⟨f,o,uA s u,λq=>?_,l.trans p⟩;have j:t.n=d.n:=by omega
  have:=m j;subst this;exact w q,λc hc=>k.del c (h.del c hc),λb x e=>k.new b x (h.new b x e),λb e=>k.old b (h.old b e)⟩

theorem capOk.monoV {g g':Gh} (h:g.lv g') {id:Nat} {a:Option Addr} {n c k:Nat} (hc:∃t,g.τ[id]?=some t/\capOk t a n c k) :
  ∃t,g'.τ[id]?=some t/\capOk t a n c k:=by
 obtain ⟨t,d,h0,e,i⟩:=hc;obtain ⟨t',b,f,j,hs⟩:=h.tau _ _ d;refine ⟨t',b,hs.trans h0,uA e f,λl=>?_⟩
 grind

theorem rowHd.monoV {g g':Gh} (h:g.lv g') {id:Nat} {a:Option Addr} {n c k:Nat} (hc:∃t,g.τ[id]?=some t/\rowHd t a n c k) :
  ∃t,g'.τ[id]?=some t/\rowHd t a n c k:=by
 obtain ⟨t,f,h0,i,e⟩:=hc;obtain ⟨t',d,j,m,hs⟩:=h.tau _ _ f;refine ⟨t',d,hs.trans h0,uA i j,e.imp (λh=>h) λ⟨b,o,l,p⟩=>⟨b,o,l,λq=>?_⟩⟩
 grind
theorem rowPt.monoV {g g':Gh} (h:g.lv g') {id:Nat} {b q n k p:Nat} (hc:∃t,g.τ[id]?=some t/\rowPt t b q n k p) :
  ∃t,g'.τ[id]?=some t/\rowPt t b q n k p:=by
 obtain ⟨t,c,h0,d,f⟩:=hc;obtain ⟨t',a,e,i,hs⟩:=h.tau _ _ c;refine ⟨t',a,hs.trans h0,uA d e,λj=>?_⟩
 grind

theorem holeOk.mono {g g':Gh} (h:g.lv g') {b o:Nat} {a:AV} (hh:holeOk g b o a):holeOk g' b o a:=by
 cases a <;> first | exact hh.elim | (obtain ⟨s,f,d,c⟩:=hh;exact ⟨s,f,h.new _ _ d,c⟩)
mutual
theorem V.monoV {g g':Gh} (h:g.lv g'):∀(a:AV) (v:Value),V g a v->V g' a v
 | .bool _,_,hv=>by simpa only [V] using hv
 | .int _ _,_,hv=>by simpa only [V] using hv
 | .str _,_,hv=>by simpa only [V] using hv
 | .nilp,_,hv=>by simpa only [V] using hv
 | .nilm,_,hv=>by simpa only [V] using hv
 | .nilf,_,hv=>by simpa only [V] using hv
 | .nili,_,hv=>by simpa only [V] using hv
 | .nilsl,_,hv=>by simpa only [V] using hv
 | .ptr _ _,_,hv=>by
  simp only [V] at hv ⊢;obtain ⟨c,hc,e⟩:=hv;exact ⟨c,h.sig _ _ hc,e⟩
 | .fptr cs,_,hv=>by
  simp only [V] at hv ⊢;obtain ⟨b,o,e,hc⟩:=hv;exact ⟨b,o,e,VC.monoV h b o cs hc⟩
 | .sl k es,_,hv=>by
  simp only [V] at hv ⊢;obtain ⟨a,c,e,d,j,l⟩:=hv;exact ⟨a,c,e,d,j,l.imp id λ⟨b,o,e,hh⟩=>⟨b,o,e,VE.monoV h b k o es hh⟩⟩
 | .osl q k es,_,hv=>by
  simp only [V] at hv ⊢;obtain ⟨a,c,e,d,j,l,m⟩:=hv;refine ⟨a,c,e,d,j,l.imp id λ⟨b,o,e,hh⟩=>⟨b,o,e,VE.monoV h b k o es hh⟩,?_⟩;cases q with
  | none=>exact m
  | some id=>exact capOk.monoV h m
 | .msl _ _ _ _,_,hv=>by
  simp only [V] at hv ⊢;obtain ⟨c,cap,hc,e⟩:=hv;exact ⟨c,cap,h.sig _ _ hc,e⟩
 | .rsl _ _ _ _,_,hv=>by
  simp only [V] at hv ⊢;obtain ⟨a,c,e,d,j,l⟩:=hv;exact ⟨a,c,e,d,j,rowHd.monoV h l⟩
 | .rsuf _ i k n p,_,hv=>by
  simp only [V] at hv ⊢;obtain ⟨a,c,e,d,t,z,l⟩:=hv;rcases l with l | ⟨b,q,A,l⟩
  ·obtain ⟨t',w,_⟩:=h.tau _ _ z
   simp_all
  ·obtain ⟨t',w,m⟩:=rowPt.monoV h ⟨t,z,l⟩
   grind
 | .rptr _ _ _ _ _,_,hv=>by
  simp only [V] at hv ⊢;obtain ⟨b,q,e,l⟩:=hv;exact ⟨b,q,e,rowPt.monoV h l⟩
 | .map _,_,hv=>by
  simp only [V] at hv ⊢;obtain ⟨c,hc,e⟩:=hv;exact ⟨c,h.sig _ _ hc,e⟩
 | .fn f a5 bs,_,hv=>by
  simp only [V] at hv ⊢;obtain ⟨fs,cs,e,d,j⟩:=hv;exact ⟨fs,cs,e,VL.monoV h a5 _ d,VL.monoV h bs _ j⟩
 | .iface t x,_,hv=>by
  simp only [V] at hv ⊢;obtain ⟨u,e,d⟩:=hv;exact ⟨u,e,V.monoV h x u d⟩
 | .agg cs,_,hv=>by
  simp only [V] at hv ⊢;obtain ⟨vs,e,d⟩:=hv;exact ⟨vs,e,VA.monoV h cs _ d⟩
 | .tup xs,_,hv=>by
  simp only [V] at hv ⊢;obtain ⟨vs,e,d⟩:=hv;exact ⟨vs,e,VL.monoV h xs _ d⟩
 | .glob _,_,hv=>by simpa only [V] using hv
 | .yld _,_,hv=>by
  simp only [V] at hv ⊢;obtain ⟨c,hc,e⟩:=hv;exact ⟨c,h.sig _ _ hc,e⟩
 | .bsl k es,_,hv=>by
  simp only [V] at hv ⊢;obtain ⟨a,c,e,d,j,l⟩:=hv;exact ⟨a,c,e,d,j,l.imp id λ⟨b,o,e,hh,y⟩=>⟨b,o,e,VE.monoV h b k o es hh,h.old _ y⟩⟩
 | .nsl k es,_,hv=>by
  simp only [V] at hv ⊢;obtain ⟨a,c,e,d,j,l⟩:=hv;exact ⟨a,c,e,d,j,l.imp id λ⟨b,o,e,hh,s,y⟩=>⟨b,o,e,VE.monoV h b k o es hh,s,h.new _ _ y⟩⟩
 | .hsl k es,_,hv=>by
  simp only [V] at hv ⊢;obtain ⟨a,c,e,d,j,l⟩:=hv;exact ⟨a,c,e,d,j,l.imp id λ⟨b,o,e,hh⟩=>⟨b,o,e,VEh.monoV h b k o es hh⟩⟩
 | .hfp cs,_,hv=>by
  simp only [V] at hv ⊢;obtain ⟨b,o,e,hc⟩:=hv;exact ⟨b,o,e,VCh.monoV h b o cs hc⟩
 | .hol _,_,hv=>by simpa only [V] using hv
 | .any,_,_=>by simp only [V]
 | .opq,_,hv=>by simpa only [V] using hv
theorem VL.monoV {g g':Gh} (h:g.lv g'):∀(a5:List AV) (vs:List Value),VL g a5 vs->VL g' a5 vs
 | [],_,hv=>by simpa only [VL] using hv
 | a::r,_,hv=>by
  simp only [VL] at hv ⊢;obtain ⟨v,s,e,d,j⟩:=hv;exact ⟨v,s,e,V.monoV h a v d,VL.monoV h r s j⟩
theorem VA.monoV {g g':Gh} (h:g.lv g'):∀(a5:List AV) (vs:List Value),VA g a5 vs->VA g' a5 vs
 | [],_,hv=>by simpa only [VA] using hv
 | a::r,_,hv=>by
  simp only [VA] at hv ⊢;obtain ⟨v,s,e,⟨h0,d⟩,j⟩:=hv;exact ⟨v,s,e,⟨h0,V.monoV h a v d⟩,VA.monoV h r s j⟩
theorem VC.monoV {g g':Gh} (h:g.lv g') (b:Nat):∀(o:Nat) (a5:List AV),VC g b o a5->VC g' b o a5
 | _,[],_=>by simp only [VC]
 | o,a::r,hv=>by
  simp only [VC] at hv ⊢;obtain ⟨⟨v,h0,d,j⟩,l⟩:=hv;exact ⟨⟨v,h.phi _ _ _ h0,d,V.monoV h a v j⟩,VC.monoV h b (o+1) r l⟩
theorem VE.monoV {g g':Gh} (h:g.lv g') (b k:Nat):∀(o:Nat) (a5:List (List AV)),VE g b k o a5->VE g' b k o a5
 | _,[],_=>by simp only [VE]
 | o,e::r,hv=>by
  simp only [VE] at hv ⊢;obtain ⟨⟨h0,d⟩,j⟩:=hv;exact ⟨⟨h0,VC.monoV h b o e d⟩,VE.monoV h b k (o+k) r j⟩
theorem VCh.monoV {g g':Gh} (h:g.lv g') (b:Nat):∀(o:Nat) (a5:List AV),VCh g b o a5->VCh g' b o a5
 | _,[],_=>by simp only [VCh]
 | o,a::r,hv=>by
  simp only [VCh] at hv ⊢;obtain ⟨d,l⟩:=hv;exact ⟨d.imp (holeOk.mono h) λ⟨v,h0,d,j⟩=>⟨v,h.phi _ _ _ h0,d,V.monoV h a v j⟩,VCh.monoV h b (o+1) r l⟩
theorem VEh.monoV {g g':Gh} (h:g.lv g') (b k:Nat):∀(o:Nat) (a5:List (List AV)),VEh g b k o a5->VEh g' b k o a5
 | _,[],_=>by simp only [VEh]
 | o,e::r,hv=>by
  simp only [VEh] at hv ⊢;obtain ⟨⟨h0,d⟩,j⟩:=hv;exact ⟨⟨h0,VCh.monoV h b o e d⟩,VEh.monoV h b k (o+k) r j⟩
end

theorem capOk.mono {g g':Gh} (h:g.le g') {id:Nat} {a:Option Addr} {n c k:Nat} (hc:∃t,g.τ[id]?=some t/\capOk t a n c k):∃t,g'.τ[id]?=some t/\capOk t a n c k:=capOk.monoV h.lv hc
theorem V.mono {g g':Gh} (h:g.le g') (a:AV) (v:Value) (b:V g a v):V g' a v:=V.monoV h.lv a v b
theorem VL.mono {g g':Gh} (h:g.le g') (a5:List AV) (vs:List Value) (a:VL g a5 vs):VL g' a5 vs:=VL.monoV h.lv a5 vs a
theorem VA.mono {g g':Gh} (h:g.le g') (a5:List AV) (vs:List Value) (a:VA g a5 vs):VA g' a5 vs:=VA.monoV h.lv a5 vs a
theorem VC.mono {g g':Gh} (h:g.le g') (b:Nat) (o:Nat) (a5:List AV) (a:VC g b o a5):VC g' b o a5:=VC.monoV h.lv b o a5 a
theorem VE.mono {g g':Gh} (h:g.le g') (b k:Nat) (o:Nat) (es:List (List AV)) (a:VE g b k o es):VE g' b k o es:=VE.monoV h.lv b k o es a
theorem Gh.lv_dd (g:Gh) (d:List Nat):g.lv { g with δ:=d }:=⟨λ_ _ _ e=>e,λ_ _ e=>e,λ_ t e=>⟨t,e,ug _,λ_=>rfl,rfl⟩,λ_ _ e=>e,λ_ e=>e⟩
theorem VL.dd {g:Gh} {d:List Nat} {a5:List AV} (h:VL g a5 vs):VL { g with δ:=d } a5 vs:=VL.monoV (g.lv_dd d) _ _ h

section
variable {g:Gh}
theorem VL.length:∀{a5:List AV} {vs:List Value},VL g a5 vs->a5.length=vs.length
 | [],_,h=>by simp only [VL] at h;subst h;rfl
 | _::r,_,h=>by
  simp only [VL] at h;obtain ⟨v,s,rfl,_,a⟩:=h;simp [VL.length a]
theorem VA.toVL:∀{a5:List AV} {vs:List Value},VA g a5 vs->VL g a5 vs
 | [],_,h=>by simp only [VA] at h;simp only [VL];exact h
 | _::r,_,h=>by
  simp only [VA] at h;obtain ⟨v,s,rfl,⟨_,b⟩,a⟩:=h;simp only [VL];exact ⟨v,s,rfl,b,VA.toVL a⟩
theorem VA.ones:∀{a5:List AV} {vs:List Value},VA g a5 vs->a5.all AV.one=true
 | [],_,_=>rfl
 | _::r,_,h=>by
  simp only [VA] at h;obtain ⟨v,s,rfl,⟨h0,_⟩,a⟩:=h;simp [h0,VA.ones a]
theorem VA.mk:∀{a5:List AV} {vs:List Value},VL g a5 vs->a5.all AV.one=true->VA g a5 vs
 | [],_,h,_=>by simp only [VL] at h;simp only [VA];exact h
 | _::r,_,h,ho=>by
  simp only [VL] at h;obtain ⟨v,s,rfl,b,a⟩:=h;simp only [tf,ud] at ho;simp only [VA];exact ⟨v,s,rfl,⟨ho.1,b⟩,VA.mk a ho.2⟩
theorem VL.get:∀{a5:List AV} {vs:List Value},VL g a5 vs->∀(i:Nat) (a:AV),a5[i]?=some a->∃v,vs[i]?=some v/\V g a v
 | [],_,_,i,a,hi=>by simp at hi
 | _::r,_,h,i,a,hi=>by
  simp only [VL] at h;obtain ⟨v,s,rfl,c,b⟩:=h;cases i with
  | zero=>simp at hi;subst hi;exact ⟨v,rfl,c⟩
  | succ i=>simpa using VL.get b i a (by simp_all)
theorem VL.getR:∀{a5:List AV} {vs:List Value},VL g a5 vs->∀(i:Nat) (v:Value),vs[i]?=some v->∃a,a5[i]?=some a/\V g a v
 | [],_,h,i,v,hi=>by simp only [VL] at h;subst h;simp at hi
 | a::r,_,h,i,v,hi=>by
  simp only [VL] at h;obtain ⟨v',s,rfl,c,b⟩:=h;cases i with
  | zero=>simp at hi;subst hi;exact ⟨a,rfl,c⟩
  | succ i=>simpa using VL.getR b i v (by simp_all)
theorem VL.set:∀{a5:List AV} {vs:List Value},VL g a5 vs->∀(i:Nat) (a:AV) (v:Value),V g a v->VL g (a5.set i a) (vs.set i v)
 | [],_,h,i,a,v,_=>by simp only [VL] at h;subst h;simp [VL]
 | _::r,_,h,i,a,v,hv=>by
  simp only [VL] at h;obtain ⟨v',s,rfl,c,b⟩:=h;cases i with
  | zero=>simp only [uf,VL];exact ⟨v,s,rfl,hv,b⟩
  | succ i=>simp only [ue,VL];exact ⟨v',_,rfl,c,VL.set b i a v hv⟩
theorem VL.append:∀{a5 bs:List AV} {vs ws:List Value},VL g a5 vs->VL g bs ws->VL g (a5++bs) (vs++ws)
 | [],_,_,_,h,k=>by simp only [VL] at h;subst h;simpa using k
 | _::r,_,_,_,h,k=>by
  simp only [VL] at h;obtain ⟨v',s,rfl,b,a⟩:=h;simp only [tP,VL];exact ⟨v',_,rfl,b,VL.append a k⟩
theorem VL.take:∀{a5:List AV} {vs:List Value} (n:Nat),VL g a5 vs->VL g (a5.take n) (vs.take n)
 | [],_,n,h=>by simp only [VL] at h;subst h;simp [VL]
 | _::r,_,n,h=>by
  simp only [VL] at h;obtain ⟨v',s,rfl,b,a⟩:=h;cases n with
  | zero=>simp [VL]
  | succ n=>simp only [sK,VL];exact ⟨v',_,rfl,b,VL.take n a⟩
theorem VL.drop:∀{a5:List AV} {vs:List Value} (n:Nat),VL g a5 vs->VL g (a5.drop n) (vs.drop n)
 | [],_,n,h=>by simp only [VL] at h;subst h;simp [VL]
 | _::r,_,n,h=>by
  have a:=h;simp only [VL] at h;obtain ⟨v',s,rfl,c,b⟩:=h;cases n with
  | zero=>simpa using a
  | succ n=>simpa using VL.drop n b
theorem VL.cons {a:AV} {v:Value} {a5:List AV} (h:V g a v) (k:VL g a5 vs):VL g (a::a5) (v::vs):=by
 simp only [VL];exact ⟨v,vs,rfl,h,k⟩
theorem all_take {α:Type} {p:α->Bool} {l:List α} (n:Nat) (h:l.all p=true):(l.take n).all p=true:=by
 grind
theorem all_drop {α:Type} {p:α->Bool} {l:List α} (n:Nat) (h:l.all p=true):(l.drop n).all p=true:=by
 grind
theorem VA.append {a5 bs:List AV} {vs ws:List Value} (h:VA g a5 vs) (k:VA g bs ws):VA g (a5++bs) (vs++ws) :=
 VA.mk (VL.append h.toVL k.toVL) (by rw [pN,h.ones,k.ones];rfl)
theorem VA.take {a5:List AV} {vs:List Value} (n:Nat) (h:VA g a5 vs):VA g (a5.take n) (vs.take n):=VA.mk (VL.take n h.toVL) (all_take n h.ones)
theorem VA.drop {a5:List AV} {vs:List Value} (n:Nat) (h:VA g a5 vs):VA g (a5.drop n) (vs.drop n):=VA.mk (VL.drop n h.toVL) (all_drop n h.ones)

theorem VC.get {b:Nat}:∀{o:Nat} {a5:List AV},VC g b o a5->∀(i:Nat) (a:AV),a5[i]?=some a->∃v,g.Φ b (o+i)=some v/\a.pure=true/\V g a v
 | _,[],_,i,a,hi=>by simp at hi
 | o,_::r,h,i,a,hi=>by
  simp only [VC] at h;obtain ⟨⟨v,h0,d,c⟩,e⟩:=h;cases i with
  | zero=>simp at hi;subst hi;exact ⟨v,h0,d,c⟩
  | succ i =>
   obtain ⟨v',f,k,j⟩:=VC.get e i a (by simp_all)
   grind
theorem VC.mk {b:Nat}:∀{o:Nat} {a5:List AV},(∀(i:Nat) (a:AV),a5[i]?=some a->∃v,g.Φ b (o+i)=some v/\a.pure=true/\V g a v)->VC g b o a5
 | _,[],_=>by simp only [VC]
 | o,a::r,h=>by
  simp only [VC];refine ⟨by simpa using h 0 a rfl,VC.mk (o:=o+1) λi x f=>?_⟩;obtain ⟨v,c,e,d⟩:=h (i+1) x (by simp_all)
  grind
theorem VC.drop {b o:Nat} {a5:List AV} (n:Nat) (h:VC g b o a5):VC g b (o+n) (a5.drop n):=VC.mk λi a c=>by
 rw [uB] at c;obtain ⟨v,d,e⟩:=h.get _ _ c
 grind
theorem VC.take {b o:Nat} {a5:List AV} (n:Nat) (h:VC g b o a5):VC g b o (a5.take n):=VC.mk λi a c=>by
 rw [uu] at c;split at c
 ·exact h.get _ _ c
 ·cases c
theorem VC.append {b o:Nat} {a5 bs:List AV} (h:VC g b o a5) (k:VC g b (o+a5.length) bs):VC g b o (a5++bs):=VC.mk λi a c=>by
 by_cases hi:i < a5.length
 ·rw [un hi] at c;exact h.get _ _ c
 ·rw [uj (by omega)] at c;obtain ⟨v,d,e⟩:=k.get _ _ c
  grind
theorem VE.get {b k:Nat}:∀{o:Nat} {es:List (List AV)},VE g b k o es->∀(i:Nat) (e:List AV),es[i]?=some e->e.length=k/\VC g b (o+i * k) e
 | _,[],_,i,e,hi=>by simp at hi
 | o,_::r,h,i,e,hi=>by
  simp only [VE] at h;obtain ⟨⟨h0,d⟩,a⟩:=h;cases i with
  | zero=>simp at hi;subst hi;exact ⟨h0,by simp_all⟩
  | succ i =>
   obtain ⟨c,f⟩:=VE.get a i e (by simp_all)
   grind
theorem VE.mk {b k:Nat}:∀{o:Nat} {es:List (List AV)},(∀(i:Nat) (e:List AV),es[i]?=some e->e.length=k/\VC g b (o+i * k) e)->VE g b k o es
 | _,[],_=>by simp only [VE]
 | o,e::r,h=>by
  simp only [VE];refine ⟨by simpa using h 0 e rfl,VE.mk (o:=o+k) λi x d=>?_⟩;obtain ⟨a,c⟩:=h (i+1) x (by simp_all)
  grind
theorem VE.drop {b k o:Nat} {es:List (List AV)} (n:Nat) (h:VE g b k o es):VE g b k (o+n * k) (es.drop n):=VE.mk λi a c=>by
 rw [uB] at c;obtain ⟨d,e⟩:=h.get _ _ c
 grind
theorem VE.take {b k o:Nat} {es:List (List AV)} (n:Nat) (h:VE g b k o es):VE g b k o (es.take n):=VE.mk λi a c=>by
 rw [uu] at c;split at c
 ·exact h.get _ _ c
 ·cases c
theorem VE.append {b k o:Nat} {es fs:List (List AV)} (h:VE g b k o es) (d:VE g b k (o+es.length * k) fs):VE g b k o (es++fs):=VE.mk λi a c=>by
 by_cases hi:i < es.length
 ·rw [un hi] at c;exact h.get _ _ c
 ·rw [uj (by omega)] at c;obtain ⟨e,f⟩:=d.get _ _ c;refine ⟨e,?_⟩;have:o+i * k=o+es.length * k+(i - es.length) * k:=by
   rw [sZ,<- te];congr 2;omega
  simp_all
end
end Go.Vv
namespace Go.Vv
open Go

def cv1:Value->AV
 | .bool b=>.bool b
 | .int k n=>.int k n
 | .string s=>.str s.data.toList
 | .pointer none=>.nilp
 | .slice none 0 0=>.nilsl
 | .map none=>.nilm
 | .nilFunc=>.nilf
 | .nilIface=>.nili
 | _=>aundef
def okc1:Value->Bool
 | .bool _ | .int _ _ | .pointer none | .slice none 0 0 | .map none | .nilFunc | .nilIface=>true
 | .string s=>decide (s.size<=maxLen)
 | _=>false
def cv:Value->AV
 | .agg cs=>.agg (cs.toList.map cv1)
 | .tuple _=>aundef
 | v=>cv1 v
def okc:Value->Bool
 | .agg cs=>cs.toList.all okc1
 | .tuple vs=>vs.isEmpty
 | v=>okc1 v

def ev (env:List AV):Operand->AV
 | .tmp t=>env.getD t aundef
 | .const v=>cv v
 | .global g=>.glob g
 | .func f=>.fn (.func f) [] []
def yv:Operand->Bool
 | .const v=>okc v
 | _=>true

def yA:TypeDesc->Bool
 | .struct _ | .array _ _=>true
 | _=>false
def tyfix (P:Program) (t:TypeId):AV->AV
 | .nilsl=>match P.underlying t with
  | some (.slice e)=>.osl none (P.cellsOf e) []
  | _=>.nilsl
 | v=>v
def setd (env:List AV):Option Tmp->AV->List AV
 | some d,v=>env.set d v
 | none,_=>env

inductive Res where
 | ok (v:AV) (h:AH)
 | len (n:Nat) (v:AV) (h:AH)
 | call (f:FuncId) (args:List AV)
 | round (id:Nat) (args:List AV)
 | any (S:AV->AH->Prop)
 | fail

def oo (h:AH):Option AV->Res
 | some v=>.ok v h
 | none=>.fail
def oh (h:Option AH):Res :=
 match h with
 | some h=>.ok aundef h
 | none=>.fail
def ovh:Option (AV×AH)->Res
 | some (v,h)=>.ok v h
 | none=>.fail

def AH.blk (h:AH) (id:Nat):Option Blk:=h.blks[id]?
def AH.new (h:AH) (b:Blk):AH:={ h with blks:=h.blks++[b] }
def AH.put (h:AH) (id:Nat) (b:Blk):AH:={ h with blks:=h.blks.set id b }

def aLoad (h:AH) (ag:Bool) (n:Nat):AV->Option AV
 | .ptr id off=>match h.blk id with
  | some (.cells cs)=>if ag then (if off+n<=cs.length then some (.agg ((cs.drop off).take n)) else none) else cs[off]?
  | some (.bld _ x)=>if ag=false/\off=1 then some x else none
  | _=>none
 | .fptr cs | .hfp cs=>if ag then (if n<=cs.length then some (.agg (cs.take n)) else none) else cs[0]?
 | .rptr id t k m p=>match h.blk id with
  | some (.row t' k' es)=>if t'=t/\k'=k/\es.length=m then (if ag then (if p+n<=es.flatten.length then some (.agg ((es.flatten.drop p).take n)) else none) else es.flatten[p]?) else none
  | _=>none
 | _=>none
def y8 (cs:List AV) (off:Nat) (vs:List AV):List AV:=cs.take off++vs++cs.drop (off+vs.length)
def aClean:AV->Option AV
 | .osl _ k es=>some (.sl k es)
 | .nilsl=>none
 | v=>if v.pure then some v else none
def xB:List AV->Option (List AV)
 | []=>some []
 | a::r=>match aClean a,xB r with
  | some a,some r=>some (a::r)
  | _,_=>none
def rows (k:Nat):Nat->List AV->List (List AV)
 | 0,_=>[]
 | n+1,cs=>cs.take k::rows k n (cs.drop k)
def HK.fit:HK->AV->Bool
 | .i k,.int k' _=>k==k'
 | k,.hol k'=>k==k'
 | .s,.str _=>true
 | _,_=>false
def hfit:List AV->List AV->Bool
 | _,[]=>true
 | .hol k::r,v::s=>k.fit v&&hfit r s
 | _,_=>false
def aStore (h:AH) (n:Nat) (p v:AV):Option AH :=
 match p,v.cells? with
 | .ptr id off,some vs=>match h.blk id with
  | some (.cells cs)=>if vs.length=n/\off+n<=cs.length then some (h.put id (.cells (y8 cs off vs))) else none
  | some (.bld T _)=>match vs with
   | [y]=>if n=1/\off=1 then some (h.put id (.bld T y)) else none
   | _=>none
  | _=>none
 | .rptr id t k m p,some vs=>match h.blk id with
  | some (.row t' k' es)=>if t'=t/\k'=k/\es.length=m/\vs.length=n/\p+n<=es.flatten.length then (match xB vs with
   | some vs=>some (h.put id (.row t k (rows k m (y8 es.flatten p vs))))
   | none=>none) else none
  | _=>none
 | .hfp cs,some vs=>if vs.length=n/\hfit cs vs=true then some h else none
 | _,_=>none
def qA (off:Nat):AV->Option AV
 | .ptr id o=>some (.ptr id (o+off))
 | .fptr cs=>some (.fptr (cs.drop off))
 | .rptr id t k n p=>some (.rptr id t k n (p+off))
 | .hfp cs=>some (.hfp (cs.drop off))
 | _=>none
def aPart (ag:Bool) (off n:Nat):AV->Option AV
 | .agg cs=>if ag then some (.agg ((cs.drop off).take n)) else cs[off]?
 | _=>none
def qd (place:Nat->Option (Nat×Nat)):List AV->List (Nat×AV)->Option (List AV)
 | cs,[]=>some cs
 | cs,(i,v)::r =>
  match place i,v.cells? with
  | some (off,size),some vs=>if vs.length=size/\off+size<=cs.length then qd place (y8 cs off vs) r else none
  | _,_=>none
def aLen:AV->Option Nat
 | .sl _ es | .osl _ _ es | .bsl _ es | .nsl _ es | .hsl _ es=>some es.length
 | .msl _ _ _ n | .rsl _ _ _ n=>some n
 | .rsuf _ _ _ n p=>some (n - p)
 | .nilsl=>some 0
 | _=>none
def vO (k:Nat) (x i:AV):Option AV :=
 match x,i with
 | .sl k' es,.int _ n | .osl _ k' es,.int _ n | .bsl k' es,.int _ n | .nsl k' es,.int _ n=>if k'=k/\0<=n then (es[n.toNat]?).map .fptr else none
 | .hsl k' es,.int _ n=>if k'=k/\0<=n then (es[n.toNat]?).map .hfp else none
 | .msl k' id off len,.int _ n=>if k'=k/\0<=n/\n < len then some (.ptr id (off+n.toNat * k)) else none
 | .rsl id t k' m,.int _ n=>if k'=k/\0<=n/\n < m then some (.rptr id t k m (n.toNat * k)) else none
 | .rsuf id t k' m p,.int _ n=>if k'=k/\0<=n/\n < (m - p:Nat) then some (.rptr id t k m ((p+n.toNat) * k)) else none
 | _,_=>none
def aIndexArr (len k:Nat) (x i:AV):Option AV :=
 match x,i with
 | .ptr id off,.int _ n=>if 0<=n/\n < len then some (.ptr id (off+n.toNat * k)) else none
 | .fptr cs,.int _ n=>if 0<=n/\n < len then some (.fptr (cs.drop (n.toNat * k))) else none
 | _,_=>none
def aIndexStr (x i:AV):Option AV :=
 match x,i with
 | .str s,.int _ n=>if 0<=n then (s[n.toNat]?).map λb=>.int .u8 b.toNat else none
 | _,_=>none
def aIndexAgg (ag:Bool) (len k:Nat) (x i:AV):Option AV :=
 match i with
 | .int _ n=>if 0<=n/\n < len then aPart ag (n.toNat * k) k x else none
 | _=>none
def aBound (d:Nat):Option AV->Option Nat
 | none=>some d
 | some (.int _ n)=>if 0<=n then some n.toNat else none
 | _=>none
def aSliceStr (s:List UInt8) (lo hi:Option AV):Option AV :=
 match aBound 0 lo,aBound s.length hi with
 | some l,some h=>if l<=h/\h<=s.length then some (.str ((s.take h).drop l)) else none
 | _,_=>none
def aSliceSl (full:Bool) (k:Nat) (es:List (List AV)) (lo hi mx:Option AV):Option AV :=
 match aBound 0 lo,aBound es.length hi with
 | some l,some h =>
  if l<=h/\h<=es.length then
   match mx with
   | none=>some (if full&&hi.isNone then .osl none k (es.drop l) else .sl k ((es.take h).drop l))
   | some (.int _ m)=>if m=h/\hi.isSome then some (.osl none k ((es.take h).drop l)) else none
   | _=>none
  else none
 | _,_=>none
def aSlice (x:AV) (lo hi mx:Option AV):Option AV :=
 match x with
 | .str s=>if mx.isNone then aSliceStr s lo hi else none
 | .sl k es=>aSliceSl false k es lo hi mx
 | .osl o k es=>aSliceSl o.isNone k es lo hi mx
 | _=>none

def xi (op:BinOp) (k:IntKind) (a b:Int):Option AV :=
 match op with
 | .add=>some (.int k (k.wrap (a+b)))
 | .sub=>some (.int k (k.wrap (a - b)))
 | .mul=>some (.int k (k.wrap (a * b)))
 | .quo=>if b=0 then none else some (.int k (k.wrap (a.tdiv b)))
 | .rem=>if b=0 then none else some (.int k (a.tmod b))
 | .and=>some (.int k (k.wrap ((BitVec.ofInt k.bits a &&& BitVec.ofInt k.bits b).toNat)))
 | .or=>some (.int k (k.wrap ((BitVec.ofInt k.bits a ||| BitVec.ofInt k.bits b).toNat)))
 | .xor=>some (.int k (k.wrap ((BitVec.ofInt k.bits a ^^^ BitVec.ofInt k.bits b).toNat)))
 | .andNot=>some (.int k (k.wrap ((BitVec.ofInt k.bits a &&& ~~~(BitVec.ofInt k.bits b)).toNat)))
 | .eql=>some (.bool (a==b))
 | .neq=>some (.bool (a != b))
 | .lss=>some (.bool (decide (a < b)))
 | .leq=>some (.bool (decide (a<=b)))
 | .gtr=>some (.bool (decide (a > b)))
 | .geq=>some (.bool (decide (a >= b)))
 | .shl=>if b < 0 then none else some (.int k (k.wrap (a * 2 ^ min b.toNat k.bits)))
 | .shr=>if b < 0 then none else some (.int k (a.fdiv (2 ^ min b.toNat k.bits)))
def aStr (op:BinOp) (x y:List UInt8):Option AV :=
 match op with
 | .add=>if x.length+y.length<=maxLen then some (.str (x++y)) else none
 | .eql=>some (.bool (x==y))
 | .neq=>some (.bool !(x==y))
 | .lss=>some (.bool (Op.bytesLess x y))
 | .leq=>some (.bool (Op.bytesLess x y || x==y))
 | .gtr=>some (.bool !(Op.bytesLess x y || x==y))
 | .geq=>some (.bool !(Op.bytesLess x y))
 | _=>none
inductive Kd where
 | b | i | s
 deriving DecidableEq
def aEq1:Kd->AV->AV->Option Bool
 | .b,.bool a,.bool b=>some (a==b)
 | .i,.int k a,.int k' b=>if k=k' then some (a==b) else none
 | .s,.str a,.str b=>some (a==b)
 | _,_,_=>none
def aEqL:List Kd->List AV->List AV->Option Bool
 | [],[],[]=>some true
 | k::ks,a::r,b::s=>match aEq1 k a b,aEqL ks r s with
  | some x,some y=>some (x&&y)
  | _,_=>none
 | _,_,_=>none
def aNil:TypeDesc->AV->AV->Option Bool
 | .pointer _,.nilp,.nilp | .func _ _ _,.nilf,.nilf | .map _ _,.nilm,.nilm=>some true
 | .pointer _,.nilp,.ptr _ _ | .pointer _,.nilp,.fptr _ | .pointer _,.ptr _ _,.nilp | .pointer _,.fptr _,.nilp=>some false
 | .func _ _ _,.nilf,.fn _ _ _ | .func _ _ _,.fn _ _ _,.nilf=>some false
 | .map _ _,.nilm,.map _ | .map _ _,.map _,.nilm=>some false
 | .slice _,.msl _ _ _ _,.nilsl=>some false
 | _,_,_=>none
def plainFsOf (P:Program) (f:TypeId->Option (List Kd)):List Field->Nat->Option (List Kd)
 | [],_=>some []
 | x :: fs, acc => if x.name ≠ "_" ∧ x.offset = acc then (match f x.type, P.info? x.type with
   | some ks,some i=>if i.size=ks.length then (match plainFsOf P f fs (acc+i.size) with
    | some r=>some (ks++r)
    | none=>none) else none
   | _,_=>none) else none
def wh (P:Program):Nat->TypeId->Option (List Kd)
 | 0,_=>none
 | d+1,t=>match P.underlying t with
  | some .bool=>some [.b]
  | some (.int _)=>some [.i]
  | some .string=>some [.s]
  | some (.struct fs)=>if P.stoodInHeld t then none else plainFsOf P (wh P d) fs.toList 0
  | _=>none
abbrev plainFs (P:Program) (d:Nat) (fs:List Field) (acc:Nat):Option (List Kd):=plainFsOf P (wh P d) fs acc
def arrKs (P:Program) (t:TypeId):Option (List Kd) :=
 match P.underlying t with
 | some (.array n e)=>match P.underlying e,P.info? e with
  | some (.int _),some i=>if i.size=1 then some (List.replicate n .i) else none
  | _,_=>none
 | _=>none
def aEq (P:Program) (t:TypeId) (x y:AV):Option Bool :=
 match x,y with
 | .agg cs,.agg ds=>if P.eqGuardType P.depth t=false/\(P.underlying t).any yA then (match (wh P 6 t).or (arrKs P t) with
  | some ks=>aEqL ks cs ds
  | none=>none) else none
 | .bool a,.bool b=>match P.underlying t with
  | some .bool=>some (a==b)
  | _=>none
 | x,y=>match P.underlying t with
  | some d=>aNil d x y
  | none=>none
def yV (P:Program) (op:BinOp) (t:TypeId) (x y:AV):Option AV :=
 match x,y with
 | .int k a,.int k' b=>if k=k' \/ op=.shl \/ op=.shr then xi op k a b else none
 | .hol (.i k),.int k' _=>if k=k'/\op=.add then some (.hol (.i k)) else none
 | .str a,.str b=>aStr op a b
 | x,y=>match op with
  | .eql=>(aEq P t x y).map .bool
  | .neq=>(aEq P t x y).map λb=>.bool !b
  | _=>none
def aNilq (P:Program) (op:BinOp) (t:TypeId) (h:AH):AV->AV->Option (AV->AH->Prop)
 | .sl _ es,.nilsl | .osl _ _ es,.nilsl=>match P.underlying t,op with
  | some (.slice _),.eql=>some λv h'=>h'=h/\∃b,v=.bool b/\(b=true->es=[])
  | some (.slice _),.neq=>some λv h'=>h'=h/\∃b,v=.bool (!b)/\(b=true->es=[])
  | _,_=>none
 | _,_=>none
theorem aNilq_none {P:Program} {op:BinOp} {t:TypeId} {h:AH} {x y v:AV} (b:yV P op t x y=some v):aNilq P op t h x y=none:=by
 unfold aNilq;split
 ·rename_i k es;split
  ·rename_i a;simp [yV,aEq,a,aNil] at b
  ·rename_i a;simp [yV,aEq,a,aNil] at b
  ·rfl
 ·rename_i q k es;split
  ·rename_i a;simp [yV,aEq,a,aNil] at b
  ·rename_i a;simp [yV,aEq,a,aNil] at b
  ·rfl
 ·rfl
def aIfc (P:Program) (op:BinOp) (t:TypeId) (oy:Operand) (a b:AV):Option AV :=
 match P.underlying t,oy,a,b with
 | some (.interface _),.const .nilIface,.nili,.nili=>(match op with
  | .eql=>some (.bool true)
  | .neq=>some (.bool false)
  | _=>none)
 | some (.interface _),.const .nilIface,.iface _ _,.nili=>(match op with
  | .eql=>some (.bool false)
  | .neq=>some (.bool true)
  | _=>none)
 | _,_,_,_=>none
def aUn (op:UnOp):AV->Option AV
 | .int k n=>match op with
  | .neg=>some (.int k (k.wrap (0 - n)))
  | .xor=>some (.int k (k.wrap ((BitVec.ofInt k.bits (if k.signed then -1 else k.max) ^^^ BitVec.ofInt k.bits n).toNat)))
  | _=>none
 | .bool b=>match op with
  | .not=>some (.bool !b)
  | _=>none
 | _=>none
def aConvert (d:TypeDesc):AV->Option AV
 | .int _ n=>match d with
  | .int k=>some (.int k (k.wrap n))
  | _=>none
 | .str s=>match d with
  | .string=>some (.str s)
  | _=>none
 | _=>none

def lim:Nat:=2147483648
def AH.grow (h:AH) (o:Option Nat) (n m:Nat):Option (Nat×AH) :=
 match o with
 | none=>some (h.toks.length,{ h with toks:=h.toks++[n+m] })
 | some id=>if h.toks[id]?=some n then some (id,{ h with toks:=h.toks.set id (n+m) }) else none
def aAppend (h:AH) (k:Nat) (s:AV) (ys:List (List AV)):Option (AV×AH) :=
 match s with
 | .osl o k' es =>
  if ys.length=0 then (match o with
   | none=>some (.osl (some h.toks.length) k' es,{ h with toks:=h.toks++[es.length] })
   | some id=>some (.osl (some id) k' es,h)) else
  if k'=k/\es.length+ys.length<=lim then
   match h.grow o es.length ys.length with
   | some (id,h')=>some (.osl (some id) k (es++ys),h')
   | none=>none
  else none
 | .rsl id t k' n=>if ys.length=0 then some (.rsl id t k' n,h) else (match h.blk id with
  | some (.row t' k'' es)=>if (t'=t/\k'=k/\k''=k)/\es.length=n/\h.toks[t]?=some n/\n+ys.length<=lim then
    some (.rsl id t k (n+ys.length),{ h.put id (.row t k (es++ys)) with toks:=h.toks.set t (n+ys.length) }) else none
  | _=>none)
 | _=>none
def aNews (k:Nat):AV->Option (List (List AV))
 | .sl k' es | .osl _ k' es | .bsl k' es | .nsl k' es=>if k'=k then some es else none
 | .str s=>if k=1 then some (s.map λb=>[.int .u8 b.toNat]) else none
 | _=>none
def aMM (mx:Bool):AV->List AV->Option AV
 | v,[]=>some v
 | .int k a,.int k' b::r=>if k=k' then aMM mx (.int k (if mx then (if b > a then b else a) else (if b < a then b else a))) r else none
 | _,_=>none

def aBuiltin (P:Program) (h:AH) (b:Builtin) (ts:List TypeId) (args:List AV):Res :=
 match b,ts,args with
 | .len,[t],[x]=>match P.underlying t with
  | some .string=>match x with
   | .str s=>.len s.length (.int .i64 s.length) h
   | _=>.fail
  | some (.slice _)=>match aLen x with
   | some n=>.len n (.int .i64 n) h
   | none=>.fail
  | some (.map _ _)=>match x with
   | .map id=>match h.blk id with
    | some (.mapo es _)=>.any λv h'=>h'=h/\v=.int .i64 es.length
    | _=>.fail
   | _=>.fail
  | _=>.fail
 | .append,[t,u],[s,x]=>match P.underlying t,P.underlying u with
  | some (.slice e),some (.slice _) | some (.slice e),some .string=>match P.info? e with
   | some i=>if i.bytes<=65536/\0 < i.size/\(i.zero.map (·.cells.size))=some i.size then (match aNews i.size (tyfix P u x) with
    | some ys=>ovh (aAppend h i.size (tyfix P t s) ys)
    | none=>.fail) else .fail
   | none=>.fail
  | _,_=>.fail
 | .min,_,x::r=>oo h (aMM false x r)
 | .max,_,x::r=>oo h (aMM true x r)
 | _,_,_=>.fail

def fieldOff (P:Program) (t:TypeId) (f:Nat):Option (Nat×TypeId) :=
 match P.underlying t with
 | some (.struct fs)=>(fs[f]?).map λx=>(x.offset,x.type)
 | _=>none
def leafTys (P:Program):Nat->TypeId->List TypeId
 | 0,_=>[]
 | d+1,t=>match P.underlying t with
  | some (.struct fs)=>fs.toList.flatMap λf=>leafTys P d f.type
  | some (.array n e)=>(List.replicate n (leafTys P d e)).flatten
  | _=>[t]
def fixCells (P:Program):List TypeId->List AV->List AV
 | t::ts,a::a5=>tyfix P t a::fixCells P ts a5
 | _,a5=>a5
def xl (P:Program) (t:TypeId):Option (List AV) :=
 match P.info? t with
 | some i=>match i.zero with
  | some z=>if okc z then (match (cv z).cells? with
   | some cs=>some (fixCells P (leafTys P 6 t) cs)
   | none=>none) else none
  | none=>none
 | none=>none
def vq (P:Program) (fs:Array Field):Option (List (Nat×Nat)):=fs.toList.mapM λf=>(P.info? f.type).map λi=>(f.offset,i.size)
def partTy (d:TypeDesc) (i:Nat):TypeId :=
 match d with
 | .struct fs=>((fs[i]?).map (·.type)).getD 0
 | .array _ e | .slice e=>e
 | _=>0
def xA (P:Program) (d:TypeDesc) (env:List AV) (parts:Array (Nat×Operand)):List (Nat×AV):=parts.toList.map λp=>(p.1,tyfix P (partTy d p.1) (ev env p.2))

def dec (s:List UInt8) (pos:Nat):Nat×Nat:=Utf8.decode ⟨s.toArray⟩ pos
def aNext (h:AH):AV->Res
 | .ptr id 0=>match h.blk id with
  | some (.siter s pos)=>if pos < s.length then .ok (.tup [.bool true,.int .i64 pos,.int .i32 (dec s pos).1]) (h.put id (.siter s (pos+(dec s pos).2))) else .ok (.tup [.bool false]) h
  | _=>.fail
 | _=>.fail

def xe (P:Program) (kt:TypeId) (a b:AV):Option Bool :=
 match P.underlying kt with
 | some .bool=>aEq1 .b a b
 | some (.int _)=>aEq1 .i a b
 | some .string=>aEq1 .s a b
 | some (.struct _)=>match a,b with
  | .agg cs,.agg ds=>(match wh P 6 kt with
   | some ks=>aEqL ks cs ds
   | none=>none)
  | _,_=>none
 | _=>none
def aFind (P:Program) (kt:TypeId) (k:AV):List (AV×AV)->Nat->Option (Option (Nat×AV))
 | [],_=>some none
 | e::r,i=>match xe P kt k e.1 with
  | some true=>some (some (i,e.2))
  | some false=>aFind P kt k r (i+1)
  | none=>none
def aZero (P:Program) (t:TypeId):Option AV :=
 match P.info? t with
 | some i=>match i.zero with
  | some z=>if okc z then (match cv z with
   | .agg cs=>some (.agg (fixCells P (leafTys P 6 t) cs))
   | v=>some (tyfix P t v)) else none
  | none=>none
 | none=>none
def AV.zc1:AV->AV
 | .osl _ k es=>.sl k es
 | v=>v
def AV.zcl:AV->AV
 | .agg cs=>.agg (cs.map AV.zc1)
 | v=>v
def aZeroM (P:Program) (t:TypeId):Option AV:=(aZero P t).map AV.zcl
def withOk (ok:Bool) (v:AV) (b:Bool):AV:=if ok then .tup [v,.bool b] else v
def aLookup (P:Program) (h:AH) (kt et:TypeId) (ok:Bool) (m k:AV):Option AV :=
 if xe P kt k k=some true then (match m with
  | .nilm=>(aZeroM P et).map λz=>withOk ok z false
  | .map id=>match h.blk id with
   | some (.mapo es _)=>match aFind P kt k es 0,aZeroM P et with
    | some (some (_,v)),_=>some (withOk ok v true)
    | some none,some z=>some (withOk ok z false)
    | _,_=>none
   | _=>none
  | _=>none) else none
def aEntry (P:Program) (h:AH) (kt et:TypeId) (m k:AV):Option (AV×AH) :=
 if xe P kt k k=some true then (match m with
  | .map id=>match h.blk id with
   | some (.mapo es 0)=>match aFind P kt k es 0,aZeroM P et with
    | some (some (i,v)),_=>some (.tup [v,.int .i64 i],h)
    | some none,some z=>some (.tup [z,.int .i64 es.length],h.put id (.mapo (es++[(k,z)]) 0))
    | _,_=>none
   | _=>none
  | _=>none) else none
def aEntryStore (h:AH) (m s x:AV):Option AH :=
 match m,s with
 | .map id,.int _ n=>match h.blk id with
  | some (.mapo es 0)=>if 0<=n then (match es[n.toNat]? with
   | some e=>some (h.put id (.mapo (es.set n.toNat (e.1,x.zcl)) 0))
   | none=>none) else none
  | _=>none
 | _,_=>none
def aMapPut (P:Program) (h:AH) (kt:TypeId) (m k x:AV):Option AH :=
 if xe P kt k k=some true then (match m with
  | .map id=>match h.blk id with
   | some (.mapo es c)=>match aFind P kt k es 0 with
    | some (some (i,_))=>some (h.put id (.mapo (es.set i (k,x.zcl)) c))
    | some none=>some (h.put id (.mapo (es++[(k,x.zcl)]) c))
    | none=>none
   | _=>none
  | _=>none) else none

def aRecv (P:Program) (h:AH) (t:TypeId) (v:AV) (name:String):Option (FuncId×AV) :=
 match P.info? t with
 | some i=>match i.methods.toList.find? (λm=>m.name==name) with
  | some m=>if m.path.isEmpty then (match m.func with
   | some (f,p)=>match P.underlying t,p with
    | some (.pointer _),true=>some (f,v)
    | some (.pointer e),false=>match v,P.underlying e,P.info? e with
     | .ptr id off,some d,some j=>(aLoad h (yA d) j.size (.ptr id off)).map λx=>(f,tyfix P e x)
     | _,_,_=>none
    | some _,false=>some (f,v)
    | _,_=>none
   | none=>none) else none
  | none=>none
 | none=>none
def zF (P:Program) (o:Oper) (env:List AV) (h:AH):Res :=
 match o.op with
 | .move x | .assign x=>if yv x then .ok (tyfix P o.type (ev env x)) h else .fail
 | .pick c a b=>if yv a&&yv b&&yv c then (match ev env c with
  | .bool t=>.ok (if t then ev env a else ev env b) h
  | _=>.fail) else .fail
 | .alloc t=>match xl P t with
  | some cs=>.ok (.ptr h.blks.length 0) (h.new (.cells cs))
  | none=>.fail
 | .box t x=>if yv x then (match (tyfix P t (ev env x)).cells? with
  | some cs=>.ok (.ptr h.blks.length 0) (h.new (.cells cs))
  | none=>.fail) else .fail
 | .build t parts=>if parts.all λp=>yv p.2 then (match P.underlying t,xl P t with
  | some (.struct fs),some z=>match vq P fs with
   | some pl=>oo h ((qd (λi=>pl[i]?) z (xA P (.struct fs) env parts)).map .agg)
   | none=>.fail
  | some (.array n e),some z=>match P.info? e with
   | some j=>oo h ((qd (λi=>some (i * j.size,j.size)) z (xA P (.array n e) env parts)).map .agg)
   | none=>.fail
  | _,_=>.fail) else .fail
 | .load t a=>match P.underlying t,P.info? t with
  | some d,some i=>oo h ((aLoad h (yA d) i.size (ev env a)).map (tyfix P t))
  | _,_=>.fail
 | .store t a x=>if yv x then (match P.info? t with
  | some i=>oh (aStore h i.size (ev env a) (tyfix P t (ev env x)))
  | none=>.fail) else .fail
 | .nilCheck x=>if yv x then (match ev env x with
  | .ptr id o=>.ok (.ptr id o) h
  | .fptr cs=>.ok (.fptr cs) h
  | .rptr id t k n p=>.ok (.rptr id t k n p) h
  | .hfp cs=>.ok (.hfp cs) h
  | .fn (.func f) a b=>.ok (.fn (.func f) a b) h
  | _=>.fail) else .fail
 | .binOp op t x y _=>if yv x&&yv y then (match aNilq P op t h (ev env x) (ev env y) with
  | some S=>.any S
  | none=>oo h ((yV P op t (ev env x) (ev env y)).or (aIfc P op t y (ev env x) (ev env y)))) else .fail
 | .unOp op _ x=>if yv x then oo h (aUn op (ev env x)) else .fail
 | .convert s t x=>if yv x then (match P.underlying s,P.underlying t with
  | some _,some d=>oo h (aConvert d (ev env x))
  | _,_=>.fail) else .fail
 | .makeFunc f a b=>if a.all yv&&b.all yv then .ok (.fn f (a.toList.map (ev env)) (b.toList.map (ev env))) h else .fail
 | .slice t x lo hi mx=>if yv x&&lo.all yv&&hi.all yv&&mx.all yv then (match P.underlying t with
  | some .string=>match ev env x with
   | .str s=>oo h (aSlice (.str s) (lo.map (ev env)) (hi.map (ev env)) (mx.map (ev env)))
   | _=>.fail
  | some (.slice e)=>match P.info? e with
   | some i=>match tyfix P t (ev env x) with
    | .sl k es=>if k=i.size then oo h (aSlice (.sl k es) (lo.map (ev env)) (hi.map (ev env)) (mx.map (ev env))) else .fail
    | .osl q k es=>if k=i.size then oo h (aSlice (.osl q k es) (lo.map (ev env)) (hi.map (ev env)) (mx.map (ev env))) else .fail
    | _=>.fail
   | none=>.fail
  | some (.array n e)=>match P.info? e with
   | some i=>match ev env x,lo.map (ev env),hi,mx with
    | .ptr id off,some (.int _ l),none,none=>if 0<=l/\l < n/\n<=maxLen then .ok (.msl i.size id (off+l.toNat * i.size) (n - l.toNat)) h else .fail
    | _,_,_,_=>.fail
   | none=>.fail
  | _=>.fail) else .fail
 | .fieldAddr t x f=>match fieldOff P t f with
  | some (off,u)=>match P.info? u with
   | some i=>if i.size=0 \/ yv x=false then .fail else oo h (qA off (ev env x))
   | none=>.fail
  | none=>.fail
 | .field t x f=>match fieldOff P t f with
  | some (off,u)=>match P.underlying u,P.info? u with
   | some d,some i=>if yv x then oo h ((aPart (yA d) off i.size (ev env x)).map (tyfix P u)) else .fail
   | _,_=>.fail
  | none=>.fail
 | .indexAddr t x i=>if yv x&&yv i then (match P.underlying t with
  | some (.slice e)=>match P.info? e with
   | some j=>oo h (vO j.size (ev env x) (ev env i))
   | none=>.fail
  | some (.array n e)=>match P.info? e with
   | some j=>oo h (aIndexArr n j.size (ev env x) (ev env i))
   | none=>.fail
  | _=>.fail) else .fail
 | .index t x i=>if yv x&&yv i then (match P.underlying t with
  | some .string=>oo h (aIndexStr (ev env x) (ev env i))
  | some (.array n e)=>match P.underlying e,P.info? e with
   | some d,some j=>oo h ((aIndexAgg (yA d) n j.size (ev env x) (ev env i)).map (tyfix P e))
   | _,_=>.fail
  | _=>.fail) else .fail
 | .extract t i=>if yv t then (match ev env t with
  | .tup vs=>oo h ((vs[i]?).map (tyfix P o.type))
  | _=>.fail) else .fail
 | .buildSlice t n parts=>if parts.all λp=>yv p.2 then (match P.underlying t with
  | some (.slice e)=>match P.info? e,xl P e with
   | some i,some z=>if 0 < i.size/\n * i.size<=65536/\z.length=i.size then
     (match (qd (λj=>some (j * i.size,i.size)) ((List.replicate n z).flatten) (xA P (.slice e) env parts)) with
           | some cs=>match xB cs with
             | some cs=>.ok (.osl none i.size (rows i.size n cs)) h
             | none=>.fail
           | none=>.fail) else .fail
   | _,_=>.fail
  | _=>.fail) else .fail
 | .call c=>if c.args.all yv&&c.args.size==c.argTypes.size then (match c.callee with
  | .builtin b=>aBuiltin P h b c.argTypes.toList (c.args.toList.map (ev env))
  | .value f=>if yv f=false then .fail else match ev env f with
   | .fn (.func g) first caps=>.call g (first++(c.args.toList.zip c.argTypes.toList).map (λp=>tyfix P p.2 (ev env p.1))++caps)
   | .yld id=>.round id ((c.args.toList.zip c.argTypes.toList).map (λp=>tyfix P p.2 (ev env p.1)))
   | _=>.fail
  | .invoke x name=>if yv x=false then .fail else match ev env x with
   | .iface t v=>match aRecv P h t v name with
    | some (g,b)=>.call g (b::(c.args.toList.zip c.argTypes.toList).map (λp=>tyfix P p.2 (ev env p.1)))
    | none=>.fail
   | _=>.fail) else .fail
 | .range t x=>if yv x then (match P.underlying t,ev env x with
  | some .string,.str s=>.ok (.ptr h.blks.length 0) (h.new (.siter s 0))
  | _,_=>.fail) else .fail
 | .next x str=>if yv x&&str then aNext h (ev env x) else .fail
 | .makeMap _ none=>.ok (.map h.blks.length) (h.new (.mapo [] 0))
 | .lookup t x i ok=>if yv x&&yv i then (match P.underlying t with
  | some (.map kt et)=>oo h (aLookup P h kt et ok (ev env x) (ev env i))
  | _=>.fail) else .fail
 | .mapEntry t x i=>if yv x&&yv i then (match P.underlying t with
  | some (.map kt et)=>ovh (aEntry P h kt et (ev env x) (ev env i))
  | _=>.fail) else .fail
 | .entryStore _ x i y=>if yv x&&yv i&&yv y then oh (aEntryStore h (ev env x) (ev env i) (ev env y)) else .fail
 | .mapUpdate t x i y=>if yv x&&yv i&&yv y then (match P.underlying t with
  | some (.map kt _)=>oh (aMapPut P h kt (ev env x) (ev env i) (ev env y))
  | _=>.fail) else .fail
 | _=>.fail

end Go.Vv
