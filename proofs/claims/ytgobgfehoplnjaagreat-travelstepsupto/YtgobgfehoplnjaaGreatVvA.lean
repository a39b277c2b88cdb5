/- The abstract domain of this proof: values that hold the contents of unchanging memory, a small heap of boxed variables, and how they stand to the model's values. -/
import Derived.WalkKit
import Derived.RangeFuncLeaves
set_option linter.all false
namespace Go.Vv
def tb:=@Option.bind_some
def tm:=@List.getElem?_eq_some_iff
def tr:=@Bool.and_eq_true
def tx:=@Bool.false_eq_true
def so:=@decide_eq_true_eq
def s5:=@List.getElem?_eq_getElem
def pa:=@List.getElem?_append_right
def p3:=@Option.some.injEq
def oA:=@Nat.le_refl
def oS:=@List.length_map
def o4:=@List.getElem?_append_left
def o5:=@Nat.lt_of_lt_of_le
def ng:=@List.length_append
def nr:=@Int.toNat_natCast
def nv:=@if_true
def nK:=@List.all_eq_true
def n4:=@Nat.le_add_right
def m3:=@List.length_cons
def m4:=@List.getElem?_take
def la:=@Nat.add_sub_cancel_left
def lc:=@if_pos
def ld:=@List.map_cons
def lf:=@List.mem_of_getElem?
def lg:=@if_false
def lh:=@List.mem_singleton
def li:=@List.append_assoc
def lj:=@List.mem_append
def ll:=@List.pairwise_cons
def lm:=@List.take_of_length_le
def lq:=@if_neg
def lr:=@List.getElem?_set_self
def lu:=@Nat.le_trans
def lx:=@List.getElem?_drop
def ly:=@List.length_set
def lz:=@List.getD_eq_getElem?_getD
def lA:=@Bool.true_and
def lB:=@Array.getElem?_toList
def lC:=@List.nil_append
def lD:=@List.mem_iff_getElem?
def lE:=@List.eq_nil_of_length_eq_zero
def lF:=@List.length_nil
def lG:=@List.mem_cons
def lH:=@Bool.not_true
def lI:=@Bool.and_self
def lJ:=@Array.getElem?_eq_getElem
def lK:=@List.pairwise_iff_getElem
def lL:=@beq_self_eq_true
def lM:=@Option.map_some
def lN:=@decide_eq_true
def lO:=@List.takeWhile_append_dropWhile
def lP:=@decide_eq_false
def lQ:=@Bool.eq_iff_iff
def lR:=@Bool.false_or
def lT:=@List.flatten_cons
def lU:=@Array.getD_eq_getD_getElem?
def lV:=@List.getElem?_set_ne
def lW:=@List.ext_getElem?
def lX:=@Nat.zero_le
def lY:=@List.take_append_of_le_length
def lZ:=@List.drop_of_length_le
def l4:=@List.mem_map
def l5:=@Nat.mul_le_mul_right
def l6:=@Nat.zero_add
def l7:=@Nat.le_of_ble_eq_true
def l8:=@List.all_cons
def l9:=@Array.getElem?_eq_some_iff
def ka:=@List.take_add_one
def kb:=@List.map_nil
def kc:=@Nat.add_mul
def ke:=@of_decide_eq_true
def kf:=@List.set_cons_succ
def kg:=@List.cons_append
def kh:=@List.length_take
def ki:=@List.map_append
def kj:=@Bool.or_eq_true
def ko:=@List.append_nil
def kp:=@List.drop_drop
def kq:=@List.pairwise_append
def ku:=@Option.bind_eq_some_iff
def kw:=@List.filter_eq_self
def kx:=@List.takeWhile_cons
def ky:=@Bool.or_eq_false_iff
def kz:=@List.take_append
def kA:=@Bool.not_eq_true'
def kE:=@List.set_cons_zero
def kF:=@List.nodup_iff_pairwise_ne
def kG:=@List.length_singleton
def kH:=@List.takeWhile_prefix
def kI:=@Int.le_refl
def kJ:=@and_true
def kK:=@Option.some.inj
def kL:=@List.mem_filter
def kM:=@List.filter_append
def kN:=@List.getElem?_eq_none
def kO:=@Eq.symm
def kP:=@decide_eq_decide
def kQ:=@List.mem_cons_of_mem
def kR:=@Nat.lt_or_ge
def kS:=@List.filter_eq_nil_iff
def kT:=@Prod.mk.injEq
def kU:=@Bool.and_true
def kV:=@Array.toList_append
def kW:=@Classical.choose_spec
def kX:=@List.take_append_drop
def kY:=@Array.all_eq_true_iff_forall_mem
def kZ:=@List.pairwise_map
def k8:=@List.any_eq_false
def k9:=@List.drop_zero
def ja:=@List.mem_cons_self
def jc:=@Nat.add_zero
def jd:=@decide_false
def je:=@List.getElem_of_mem
def jf:=@List.flatMap_cons
def jg:=@List.set_append_right
def jh:=@List.foldl_cons
def ji:=@List.map_map
def jk:=@Bool.or_self
def jl:=@Nat.lt_irrefl
def jm:=@Bool.not_false
def jn:=@bne_self_eq_false
def jo:=@List.flatten_append
def jp:=@List.all_append
def jq:=@decide_true
def js:=@List.mem_or_eq_of_mem_set
def jt:=@List.mem_of_find?_eq_some
def ju:=@beq_iff_eq
def jv:=@Nat.lt_succ_self
def jw:=@Nat.add_assoc
def jx:=@Nat.succ_mul
def jy:=@List.drop_append_of_le_length
def jz:=@List.prefix_iff_eq_take
def jA:=@List.mem_zipIdx_iff_getElem?
def jB:=@Array.length_toList
def jC:=@List.length_drop
def jD:=@Bool.not_eq_true
def jE:=@Option.getD_some
def jF:=@List.drop_append
def jG:=@List.filter_cons
def jH:=@List.getElem?_toArray
def jI:=@Nat.ble_eq_true_of_le
def jJ:=@List.findIdx?_eq_some_iff_getElem
def jK:=@and_assoc
def jL:=@BEq.rfl
def jM:=@Nat.le_succ_of_le
def jN:=@Nat.lt_trichotomy
def jO:=@List.sum_cons
def jP:=@List.take_succ_cons
def jQ:=@List.take_set_of_le
def jR:=@List.drop_set_of_lt
def jS:=@List.replicate_succ
def jT:=@List.map_congr_left
def jU:=@Option.bind_eq_bind
def jV:=@List.flatMap_append
def jW:=@List.drop_left
def jX:=@Nat.mul_le_mul
def jY:=@List.mapM_cons
def jZ:=@and_self
def j0:=@List.getElem_mem
def j3:=@List.take_length
def j4:=@Option.map_eq_some_iff
def j5:=@List.getElem_cons_drop
def j6:=@List.find?_eq_none
def j7:=@Nat.min_eq_left
def j8:=@Array.getElem?_modify
def j9:=@List.singleton_append
def ia:=@List.length_filter_le
def ib:=@List.getElem?_map
def ic:=@List.filter_congr
def ie:=@Function.comp_def
def ig:=@Array.toList_setIfInBounds
def ii:=@Bool.false_and
def ij:=@List.set_append_left
def ik:=@Array.toList_map
def il:=@Int.natCast_zero
def im:=@List.mem_flatMap
def io:=@List.flatMap_nil
def ip:=@List.extract_eq_take_drop
def iq:=@List.drop_eq_getElem_cons
def ir:=@Classical.byContradiction
def iu:=@List.map_eq_nil_iff
def iv:=@List.length_pos_iff
def iw:=@Option.isSome_iff_exists
def iy:=@List.eq_of_mem_replicate
def iA:=@List.nodup_cons
def iB:=@Option.pure_def
def iC:=@Array.foldl_toList
def iD:=@Nat.eq_zero_or_pos
def iE:=@Array.toList_range
def iF:=@Array.ext_getElem?
def iG:=@Nat.add_sub_cancel
def iH:=@List.filter_filter
def iI:=@Nat.le_mul_of_pos_right
def iJ:=@decide_eq_false_iff_not
def iK:=@List.getElem?_cons_succ
def iL:=@List.filter_append_perm
def iM:=@Array.size_append
def iN:=@List.size_toArray
def iO:=@Array.getElem?_eq_none
def iP:=@Option.some_or
def iQ:=@Int.toNat_zero
def iS:=@List.all_nil
def iT:=@Int.toNat_le
def iU:=@UInt8.lt_iff_toNat_lt
def iV:=@List.flatten_nil
def iW:=@List.zipIdx_cons
def iX:=@List.any_cons
def iY:=@Bool.or_false
def iZ:=@Nat.mul_pos
def i3:=@List.contains_eq_mem
def i5:=@List.drop_left'
def i6:=@Array.getElem?_setIfInBounds
def i7:=@Except.ok.injEq
def i8:=@Array.getElem?_push
def hJ:=@List.getElem?_range
def hL:=@List.drop_succ_cons
def hM:=@List.mergeSort_perm
def hP:=@Nat.sub_self
def hU:=@Bool.or_true
def hY:=@implies_true
def hZ:=@List.take_left
def ga:=@List.drop_take
def gh:=@List.zip_cons_cons
def gi:=@List.Perm.refl
def gj:=@List.take_zero
def gl:=@Array.getElem?_append_left
def gm:=@List.append_of_mem
def gn:=@List.getLast?_eq_none_iff
def gp:=@Bool.not_eq_false
def gq:=@not_false_eq_true
def gt:=@List.map_take
def gu:=@List.Pairwise.imp_of_mem
def gw:=@Nat.mod_eq_of_lt
def gy:=@List.mem_flatten
def gA:=@List.getElem?_cons_zero
def gB:=@List.filter_cons_of_pos
def gC:=@Nat.succ_le_succ
def gD:=@true_and
def gE:=@List.getLast?_singleton
def gF:=@List.pairwise_mergeSort
def gG:=@List.any_eq_true
def gH:=@Array.ext'
def gI:=@dif_pos
def gJ:=@Bool.true_or
def gK:=@List.dropWhile_sublist
def gL:=@List.take_left'
def gM:=@List.find?_cons
def gN:=@Nat.le_succ
def gO:=@Nat.add_comm
def gP:=@Nat.le_of_eq
def gQ:=@List.any_nil
def gR:=@List.set_set
def gS:=@Int.le_of_lt
def gT:=@gt_iff_lt
open Go
variable {vs:List Value}

inductive AV where
 | bool (b:Bool)
 | int (k:IntKind) (n:Int)
 | str (s:List UInt8)
 | em | ea | fy | eP | fP
 | ptr (id off:Nat)
 | fI (cs:List AV)
 | sl (k:Nat) (es:List (List AV))
 | gW (o:Option Nat) (k:Nat) (es:List (List AV))
 | d8 (k id off len:Nat)
 | fm (id t k n:Nat)
 | fU (id t k n p:Nat)
 | el (id t k n i:Nat)
 | map (id:Nat)
 | fn (f:Fn) (first caps:List AV)
 | iface (t:TypeId) (v:AV)
 | agg (cs:List AV)
 | fk (vs:List AV)
 | e7 (g:Nat)
 | dG (id:Nat)
 | any
 | d7
 deriving Inhabited

def xo:AV:=.fk []

def AV.one:AV->Bool
 | .agg _ | .fk _ | .any=>false
 | _=>true

def AV.pure:AV->Bool
 | .bool _ | .int _ _ | .str _ | .em | .ea | .fy | .eP | .sl _ _ | .fn _ [] []=>true
 | _=>false
theorem AV.dB {a:AV} (h:a.pure=true):a.one=true:=by
 unfold AV.pure at h;split at h <;> first | rfl | cases h

def AV.cells?:AV->Option (List AV)
 | .agg cs=>some cs
 | .fk _ | .any=>none
 | v=>some [v]

inductive q6 where
 | cells (cs:List AV)
 | f7 (s:List UInt8) (pos:Nat)
 | loop (st:LoopState) (pe:Option Code) (env:List AV) (ps:Array Tmp) (assign body:Code)
 | q7 (es:List (AV×AV)) (clock:Nat)
 | fB (id n:Nat) (seen:List Nat)
 | eK
 | row (t k:Nat) (es:List (List AV))
 | other
 | dead
 deriving Inhabited

structure AH where
 zh:List q6
 zs:List Nat
 deriving Inhabited

structure TI where
 n:Nat
 loc:Option (Nat×Nat×Nat)
 row:Bool:=false

structure Gh where
 Φ:Nat->Nat->Option Value
 σ:List (Option Nat)
 τ:List TI
 δ:List Nat

def di (t:TI) (a:Option Addr) (n c k:Nat):Prop :=
 t.row=false/\n<=t.n/\(n=t.n->c=n \/ ∃b o,a=some ⟨b,o,none⟩/\t.loc=some (b,o+n * k,o+c * k))

def d6 (t:TI) (a:Option Addr) (n c k:Nat):Prop :=
 t.row=true/\n<=t.n/\((n=0/\c=0) \/ ∃b o,a=some ⟨b,o,none⟩/\(n=t.n->t.loc=some (b,o+n * k,o+c * k)))
def dA (t:TI) (b q n k p:Nat):Prop :=
 t.row=true/\n<=t.n/\(n=t.n->∃o e,q=o+p/\t.loc=some (b,o+n * k,e))

mutual
def V (g:Gh):AV->Value->Prop
 | .bool b,v=>v=.bool b
 | .int k n,v=>v=.int k n
 | .str s,v=>v=.string ⟨s.toArray⟩/\s.length<=maxLen
 | .em,v=>v=.pointer none
 | .ea,v=>v=.map none
 | .fy,v=>v=.nilFunc
 | .eP,v=>v=.nilIface
 | .fP,v=>v=.slice none 0 0
 | .ptr id off,v=>∃c,g.σ[id]?=some (some c)/\v=.pointer (some ⟨c,off,none⟩)
 | .fI cs,v=>∃b o,v=.pointer (some ⟨b,o,none⟩)/\VC g b o cs
 | .sl k es,v=>∃a c,v=.slice a es.length c/\es.length<=c/\c<=maxLen/\(es=[] \/ ∃b o,a=some ⟨b,o,none⟩/\VE g b k o es)
 | .gW q k es,v=>∃a c,v=.slice a es.length c/\es.length<=c/\c<=maxLen/\(es=[] \/ ∃b o,a=some ⟨b,o,none⟩/\VE g b k o es) /\
   (match q with
       | none=>c=es.length
       | some id=>∃t,g.τ[id]?=some t/\di t a es.length c k)
 | .d8 _ id off len,v=>∃c cap,g.σ[id]?=some (some c)/\v=.slice (some ⟨c,off,none⟩) len cap/\len<=cap/\cap<=maxLen
 | .fm _ i k n,v=>∃a c,v=.slice a n c/\n<=c/\c<=maxLen/\∃t,g.τ[i]?=some t/\d6 t a n c k
 | .fU _ i k n p,v=>∃b q,v=.pointer (some ⟨b,q,none⟩)/\∃t,g.τ[i]?=some t/\dA t b q n k p
 | .el _ i k n p,v=>∃a c,v=.slice a (n - p) c/\(p<=n/\n<=maxLen)/\∃t,g.τ[i]?=some t/\(n - p=0 \/ ∃b q,a=some ⟨b,q,none⟩/\dA t b q n k (p * k))
 | .map id,v=>∃c,g.σ[id]?=some (some c)/\v=.map (some c)
 | .fn f first caps,v=>∃fs cs,v=.func f fs cs/\VL g first fs.toList/\VL g caps cs.toList
 | .iface t x,v=>∃u,v=.iface t u/\V g x u
 | .agg cs,v=>∃vs,v=.agg vs/\VA g cs vs.toList
 | .fk xs,v=>∃vs,v=.tuple vs/\VL g xs vs.toList
 | .e7 n,v=>v=.pointer (some ⟨n,0,none⟩)
 | .dG id,v=>∃c,g.σ[id]?=some (some c)/\v=.func (.yield c) #[] #[]
 | .any,_=>True
 | .d7,v=>v.oneCell'=true
def VL (g:Gh):List AV->List Value->Prop
 | [],vs=>vs=[]
 | a::r,vs=>∃v s,vs=v::s/\V g a v/\VL g r s
def VA (g:Gh):List AV->List Value->Prop
 | [],vs=>vs=[]
 | a::r,vs=>∃v s,vs=v::s/\(a.one=true/\V g a v)/\VA g r s
def VC (g:Gh) (b:Nat):Nat->List AV->Prop
 | _,[]=>True
 | o,a::r=>(∃v,g.Φ b o=some v/\a.pure=true/\V g a v)/\VC g b (o+1) r
def VE (g:Gh) (b k:Nat):Nat->List (List AV)->Prop
 | _,[]=>True
 | o,e::r=>(e.length=k/\VC g b o e)/\VE g b k (o+k) r
end


structure Gh.lv (g g':Gh):Prop where
 eF:∀b j v,g.Φ b j=some v->g'.Φ b j=some v
 sig:∀(i:Nat) (c:Option Nat),g.σ[i]?=some c->g'.σ[i]?=some c
 bP:∀(i:Nat) (t:TI),g.τ[i]?=some t->∃t',g'.τ[i]?=some t'/\t.n<=t'.n/\(t.n=t'.n->t'=t)/\t'.row=t.row
structure Gh.le (g g':Gh):Prop where
 eF:∀b j v,g.Φ b j=some v->g'.Φ b j=some v
 sig:∀(i:Nat) (c:Option Nat),g.σ[i]?=some c->g'.σ[i]?=some c
 bP:∀(i:Nat) (t:TI),g.τ[i]?=some t->∃t',g'.τ[i]?=some t'/\t.n<=t'.n/\(t.n=t'.n->t'=t)/\t'.row=t.row
 del:∀c,c ∈ g.δ->c ∈ g'.δ
theorem Gh.le.lv {g g':Gh} (h:g.le g'):g.lv g':=⟨h.eF,h.sig,h.bP⟩

theorem Gh.le.refl (g:Gh):g.le g:=⟨λ_ _ _ h=>h,λ_ _ h=>h,λ_ t h=>⟨t,h,oA _,λ_=>rfl,rfl⟩,λ_ h=>h⟩
theorem Gh.le.trans {a b c:Gh} (h:a.le b) (k:b.le c):a.le c :=
 ⟨λx y v e=>k.eF _ _ _ (h.eF x y v e),λi x e=>k.sig _ _ (h.sig i x e),λi t e=>by
  obtain ⟨d,p,r,l,o⟩:=h.bP i t e;obtain ⟨f,m,s,w,s2⟩:=k.bP i d p;refine ⟨f,m,lu r s,λq=>?_,s2.trans o⟩;have j:t.n=d.n:=by omega
  have:=l j;subst this;exact w q,λc u=>k.del c (h.del c u)⟩

theorem di.fl {g g':Gh} (h:g.lv g') {id:Nat} {a:Option Addr} {n c k:Nat} (i:∃t,g.τ[id]?=some t/\di t a n c k) :
  ∃t,g'.τ[id]?=some t/\di t a n c k:=by
 obtain ⟨t,d,h0,e,j⟩:=i;obtain ⟨t',b,f,l,hs⟩:=h.bP _ _ d;refine ⟨t',b,hs.trans h0,lu e f,λm=>?_⟩
 grind

theorem d6.fl {g g':Gh} (h:g.lv g') {id:Nat} {a:Option Addr} {n c k:Nat} (m:∃t,g.τ[id]?=some t/\d6 t a n c k) :
  ∃t,g'.τ[id]?=some t/\d6 t a n c k:=by
 obtain ⟨t,f,h0,i,e⟩:=m;obtain ⟨t',d,j,p,hs⟩:=h.bP _ _ f;refine ⟨t',d,hs.trans h0,lu i j,e.imp (λh=>h) λ⟨b,o,l,q⟩=>⟨b,o,l,λr=>?_⟩⟩
 grind
theorem dA.fl {g g':Gh} (h:g.lv g') {id:Nat} {b q n k p:Nat} (f:∃t,g.τ[id]?=some t/\dA t b q n k p) :
  ∃t,g'.τ[id]?=some t/\dA t b q n k p:=by
 obtain ⟨t,c,h0,d,i⟩:=f;obtain ⟨t',a,e,j,hs⟩:=h.bP _ _ c;refine ⟨t',a,hs.trans h0,lu d e,λl=>?_⟩
 grind

mutual
theorem V.fl {g g':Gh} (h:g.lv g'):∀(a:AV) (v:Value),V g a v->V g' a v
 | .bool _,_,hv=>by simpa only [V] using hv
 | .int _ _,_,hv=>by simpa only [V] using hv
 | .str _,_,hv=>by simpa only [V] using hv
 | .em,_,hv=>by simpa only [V] using hv
 | .ea,_,hv=>by simpa only [V] using hv
 | .fy,_,hv=>by simpa only [V] using hv
 | .eP,_,hv=>by simpa only [V] using hv
 | .fP,_,hv=>by simpa only [V] using hv
 | .ptr _ _,_,hv=>by
  simp only [V] at hv ⊢;obtain ⟨c,m,e⟩:=hv;exact ⟨c,h.sig _ _ m,e⟩
 | .fI cs,_,hv=>by
  simp only [V] at hv ⊢;obtain ⟨b,o,e,m⟩:=hv;exact ⟨b,o,e,VC.fl h b o cs m⟩
 | .sl k es,_,hv=>by
  simp only [V] at hv ⊢;obtain ⟨a,c,e,d,j,l⟩:=hv;exact ⟨a,c,e,d,j,l.imp id λ⟨b,o,e,hh⟩=>⟨b,o,e,VE.fl h b k o es hh⟩⟩
 | .gW q k es,_,hv=>by
  simp only [V] at hv ⊢;obtain ⟨a,c,e,d,j,l,w⟩:=hv;refine ⟨a,c,e,d,j,l.imp id λ⟨b,o,e,hh⟩=>⟨b,o,e,VE.fl h b k o es hh⟩,?_⟩;cases q with
  | none=>exact w
  | some id=>exact di.fl h w
 | .d8 _ _ _ _,_,hv=>by
  simp only [V] at hv ⊢;obtain ⟨c,cap,m,e⟩:=hv;exact ⟨c,cap,h.sig _ _ m,e⟩
 | .fm _ _ _ _,_,hv=>by
  simp only [V] at hv ⊢;obtain ⟨a,c,e,d,j,l⟩:=hv;exact ⟨a,c,e,d,j,d6.fl h l⟩
 | .el _ i k n p,_,hv=>by
  simp only [V] at hv ⊢;obtain ⟨a,c,e,d,t,z,l⟩:=hv;rcases l with l | ⟨b,q,A,l⟩
  ·obtain ⟨t',y,_⟩:=h.bP _ _ z
   simp_all
  ·obtain ⟨t',y,w⟩:=dA.fl h ⟨t,z,l⟩
   grind
 | .fU _ _ _ _ _,_,hv=>by
  simp only [V] at hv ⊢;obtain ⟨b,q,e,l⟩:=hv;exact ⟨b,q,e,dA.fl h l⟩
 | .map _,_,hv=>by
  simp only [V] at hv ⊢;obtain ⟨c,m,e⟩:=hv;exact ⟨c,h.sig _ _ m,e⟩
 | .fn f a5 bs,_,hv=>by
  simp only [V] at hv ⊢;obtain ⟨fs,cs,e,d,j⟩:=hv;exact ⟨fs,cs,e,VL.fl h a5 _ d,VL.fl h bs _ j⟩
 | .iface t x,_,hv=>by
  simp only [V] at hv ⊢;obtain ⟨u,e,d⟩:=hv;exact ⟨u,e,V.fl h x u d⟩
 | .agg cs,_,hv=>by
  simp only [V] at hv ⊢;obtain ⟨vs,e,d⟩:=hv;exact ⟨vs,e,VA.fl h cs _ d⟩
 | .fk xs,_,hv=>by
  simp only [V] at hv ⊢;obtain ⟨vs,e,d⟩:=hv;exact ⟨vs,e,VL.fl h xs _ d⟩
 | .e7 _,_,hv=>by simpa only [V] using hv
 | .dG _,_,hv=>by
  simp only [V] at hv ⊢;obtain ⟨c,m,e⟩:=hv;exact ⟨c,h.sig _ _ m,e⟩
 | .any,_,_=>by simp only [V]
 | .d7,_,hv=>by simpa only [V] using hv
theorem VL.fl {g g':Gh} (h:g.lv g'):∀(a5:List AV) (vs:List Value),VL g a5 vs->VL g' a5 vs
 | [],_,hv=>by simpa only [VL] using hv
 | a::r,_,hv=>by
  simp only [VL] at hv ⊢;obtain ⟨v,s,e,d,j⟩:=hv;exact ⟨v,s,e,V.fl h a v d,VL.fl h r s j⟩
theorem VA.fl {g g':Gh} (h:g.lv g'):∀(a5:List AV) (vs:List Value),VA g a5 vs->VA g' a5 vs
 | [],_,hv=>by simpa only [VA] using hv
 | a::r,_,hv=>by
  simp only [VA] at hv ⊢;obtain ⟨v,s,e,⟨h0,d⟩,j⟩:=hv;exact ⟨v,s,e,⟨h0,V.fl h a v d⟩,VA.fl h r s j⟩
theorem VC.fl {g g':Gh} (h:g.lv g') (b:Nat):∀(o:Nat) (a5:List AV),VC g b o a5->VC g' b o a5
 | _,[],_=>by simp only [VC]
 | o,a::r,hv=>by
  simp only [VC] at hv ⊢;obtain ⟨⟨v,h0,d,j⟩,l⟩:=hv;exact ⟨⟨v,h.eF _ _ _ h0,d,V.fl h a v j⟩,VC.fl h b (o+1) r l⟩
theorem VE.fl {g g':Gh} (h:g.lv g') (b k:Nat):∀(o:Nat) (a5:List (List AV)),VE g b k o a5->VE g' b k o a5
 | _,[],_=>by simp only [VE]
 | o,e::r,hv=>by
  simp only [VE] at hv ⊢;obtain ⟨⟨h0,d⟩,j⟩:=hv;exact ⟨⟨h0,VC.fl h b o e d⟩,VE.fl h b k (o+k) r j⟩
end

theorem di.mono {g g':Gh} (h:g.le g') {id:Nat} {a:Option Addr} {n c k:Nat} (b:∃t,g.τ[id]?=some t/\di t a n c k):∃t,g'.τ[id]?=some t/\di t a n c k:=di.fl h.lv b
theorem V.mono {g g':Gh} (h:g.le g') (a:AV) (v:Value) (b:V g a v):V g' a v:=V.fl h.lv a v b
theorem VL.mono {g g':Gh} (h:g.le g') (a5:List AV) (vs:List Value) (a:VL g a5 vs):VL g' a5 vs:=VL.fl h.lv a5 vs a
theorem VA.mono {g g':Gh} (h:g.le g') (a5:List AV) (vs:List Value) (a:VA g a5 vs):VA g' a5 vs:=VA.fl h.lv a5 vs a
theorem VC.mono {g g':Gh} (h:g.le g') (b:Nat) (o:Nat) (a5:List AV) (a:VC g b o a5):VC g' b o a5:=VC.fl h.lv b o a5 a
theorem VE.mono {g g':Gh} (h:g.le g') (b k:Nat) (o:Nat) (es:List (List AV)) (a:VE g b k o es):VE g' b k o es:=VE.fl h.lv b k o es a
theorem Gh.bj (g:Gh) (d:List Nat):g.lv { g with δ:=d }:=⟨λ_ _ _ e=>e,λ_ _ e=>e,λ_ t e=>⟨t,e,oA _,λ_=>rfl,rfl⟩⟩
theorem VL.dd {g:Gh} {d:List Nat} {a5:List AV} (h:VL g a5 vs):VL { g with δ:=d } a5 vs:=VL.fl (g.bj d) _ _ h

section
variable {g:Gh}
theorem VL.length:∀{a5:List AV} {vs:List Value},VL g a5 vs->a5.length=vs.length
 | [],_,h=>by simp only [VL] at h;subst h;rfl
 | _::r,_,h=>by
  simp only [VL] at h;obtain ⟨v,s,rfl,_,a⟩:=h;simp [VL.length a]
theorem VA.f4:∀{a5:List AV} {vs:List Value},VA g a5 vs->VL g a5 vs
 | [],_,h=>by simp only [VA] at h;simp only [VL];exact h
 | _::r,_,h=>by
  simp only [VA] at h;obtain ⟨v,s,rfl,⟨_,b⟩,a⟩:=h;simp only [VL];exact ⟨v,s,rfl,b,VA.f4 a⟩
theorem VA.db:∀{a5:List AV} {vs:List Value},VA g a5 vs->a5.all AV.one=true
 | [],_,_=>rfl
 | _::r,_,h=>by
  simp only [VA] at h;obtain ⟨v,s,rfl,⟨h0,_⟩,a⟩:=h;simp [h0,VA.db a]
theorem VA.mk:∀{a5:List AV} {vs:List Value},VL g a5 vs->a5.all AV.one=true->VA g a5 vs
 | [],_,h,_=>by simp only [VL] at h;simp only [VA];exact h
 | _::r,_,h,ho=>by
  simp only [VL] at h;obtain ⟨v,s,rfl,b,a⟩:=h;simp only [l8,tr] at ho;simp only [VA];exact ⟨v,s,rfl,⟨ho.1,b⟩,VA.mk a ho.2⟩
theorem VL.get:∀{a5:List AV} {vs:List Value},VL g a5 vs->∀(i:Nat) (a:AV),a5[i]?=some a->∃v,vs[i]?=some v/\V g a v
 | [],_,_,i,a,hi=>by simp at hi
 | _::r,_,h,i,a,hi=>by
  simp only [VL] at h;obtain ⟨v,s,rfl,c,b⟩:=h;cases i with
  | zero=>simp at hi;subst hi;exact ⟨v,rfl,c⟩
  | succ i=>simpa using VL.get b i a (by simp_all)
theorem VL.aR:∀{a5:List AV} {vs:List Value},VL g a5 vs->∀(i:Nat) (v:Value),vs[i]?=some v->∃a,a5[i]?=some a/\V g a v
 | [],_,h,i,v,hi=>by simp only [VL] at h;subst h;simp at hi
 | a::r,_,h,i,v,hi=>by
  simp only [VL] at h;obtain ⟨d,s,rfl,c,b⟩:=h;cases i with
  | zero=>simp at hi;subst hi;exact ⟨a,rfl,c⟩
  | succ i=>simpa using VL.aR b i v (by simp_all)
theorem VL.set:∀{a5:List AV} {vs:List Value},VL g a5 vs->∀(i:Nat) (a:AV) (v:Value),V g a v->VL g (a5.set i a) (vs.set i v)
 | [],_,h,i,a,v,_=>by simp only [VL] at h;subst h;simp [VL]
 | _::r,_,h,i,a,v,hv=>by
  simp only [VL] at h;obtain ⟨c,s,rfl,d,b⟩:=h;cases i with
  | zero=>simp only [kE,VL];exact ⟨v,s,rfl,hv,b⟩
  | succ i=>simp only [kf,VL];exact ⟨c,_,rfl,d,VL.set b i a v hv⟩
theorem VL.append:∀{a5 bs:List AV} {vs ws:List Value},VL g a5 vs->VL g bs ws->VL g (a5++bs) (vs++ws)
 | [],_,_,_,h,k=>by simp only [VL] at h;subst h;simpa using k
 | _::r,_,_,_,h,k=>by
  simp only [VL] at h;obtain ⟨a,s,rfl,c,b⟩:=h;simp only [kg,VL];exact ⟨a,_,rfl,c,VL.append b k⟩
theorem VL.take:∀{a5:List AV} {vs:List Value} (n:Nat),VL g a5 vs->VL g (a5.take n) (vs.take n)
 | [],_,n,h=>by simp only [VL] at h;subst h;simp [VL]
 | _::r,_,n,h=>by
  simp only [VL] at h;obtain ⟨a,s,rfl,c,b⟩:=h;cases n with
  | zero=>simp [VL]
  | succ n=>simp only [jP,VL];exact ⟨a,_,rfl,c,VL.take n b⟩
theorem VL.drop:∀{a5:List AV} {vs:List Value} (n:Nat),VL g a5 vs->VL g (a5.drop n) (vs.drop n)
 | [],_,n,h=>by simp only [VL] at h;subst h;simp [VL]
 | _::r,_,n,h=>by
  have a:=h;simp only [VL] at h;obtain ⟨c,s,rfl,d,b⟩:=h;cases n with
  | zero=>simpa using a
  | succ n=>simpa using VL.drop n b
theorem VL.cons {a:AV} {v:Value} {a5:List AV} (h:V g a v) (k:VL g a5 vs):VL g (a::a5) (v::vs):=by
 simp only [VL];exact ⟨v,vs,rfl,h,k⟩
theorem zjq {α:Type} {p:α->Bool} {l:List α} (n:Nat) (h:l.all p=true):(l.take n).all p=true:=by
 grind
theorem zjs {α:Type} {p:α->Bool} {l:List α} (n:Nat) (h:l.all p=true):(l.drop n).all p=true:=by
 grind
theorem VA.append {a5 bs:List AV} {vs ws:List Value} (h:VA g a5 vs) (k:VA g bs ws):VA g (a5++bs) (vs++ws) :=
 VA.mk (VL.append h.f4 k.f4) (by rw [jp,h.db,k.db];rfl)
theorem VA.take {a5:List AV} {vs:List Value} (n:Nat) (h:VA g a5 vs):VA g (a5.take n) (vs.take n):=VA.mk (VL.take n h.f4) (zjq n h.db)
theorem VA.drop {a5:List AV} {vs:List Value} (n:Nat) (h:VA g a5 vs):VA g (a5.drop n) (vs.drop n):=VA.mk (VL.drop n h.f4) (zjs n h.db)

theorem VC.get {b:Nat}:∀{o:Nat} {a5:List AV},VC g b o a5->∀(i:Nat) (a:AV),a5[i]?=some a->∃v,g.Φ b (o+i)=some v/\a.pure=true/\V g a v
 | _,[],_,i,a,hi=>by simp at hi
 | o,_::r,h,i,a,hi=>by
  simp only [VC] at h;obtain ⟨⟨v,h0,d,c⟩,e⟩:=h;cases i with
  | zero=>simp at hi;subst hi;exact ⟨v,h0,d,c⟩
  | succ i =>
   obtain ⟨k,f,l,j⟩:=VC.get e i a (by simp_all)
   grind
theorem VC.mk {b:Nat}:∀{o:Nat} {a5:List AV},(∀(i:Nat) (a:AV),a5[i]?=some a->∃v,g.Φ b (o+i)=some v/\a.pure=true/\V g a v)->VC g b o a5
 | _,[],_=>by simp only [VC]
 | o,a::r,h=>by
  simp only [VC];refine ⟨by simpa using h 0 a rfl,VC.mk (o:=o+1) λi x f=>?_⟩;obtain ⟨v,c,e,d⟩:=h (i+1) x (by simp_all)
  grind
theorem VC.drop {b o:Nat} {a5:List AV} (n:Nat) (h:VC g b o a5):VC g b (o+n) (a5.drop n):=VC.mk λi a c=>by
 rw [lx] at c;obtain ⟨v,d,e⟩:=h.get _ _ c
 grind
theorem VC.take {b o:Nat} {a5:List AV} (n:Nat) (h:VC g b o a5):VC g b o (a5.take n):=VC.mk λi a c=>by
 rw [m4] at c;split at c
 ·exact h.get _ _ c
 ·cases c
theorem VC.append {b o:Nat} {a5 bs:List AV} (h:VC g b o a5) (k:VC g b (o+a5.length) bs):VC g b o (a5++bs):=VC.mk λi a c=>by
 by_cases hi:i < a5.length
 ·rw [o4 hi] at c;exact h.get _ _ c
 ·rw [pa (by omega)] at c;obtain ⟨v,d,e⟩:=k.get _ _ c
  grind
theorem VE.get {b k:Nat}:∀{o:Nat} {es:List (List AV)},VE g b k o es->∀(i:Nat) (e:List AV),es[i]?=some e->e.length=k/\VC g b (o+i * k) e
 | _,[],_,i,e,hi=>by simp at hi
 | o,_::r,h,i,e,hi=>by
  simp only [VE] at h;obtain ⟨⟨h0,d⟩,a⟩:=h;cases i with
  | zero=>simp at hi;subst hi;exact ⟨h0,by simp_all⟩
  | succ i =>
   obtain ⟨c,f⟩:=VE.get a i e (by simp_all)
   grind
theorem VE.mk {b k:Nat}:∀{o:Nat} {es:List (List AV)},(∀(i:Nat) (e:List AV),es[i]?=some e->e.length=k/\VC g b (o+i * k) e)->VE g b k o es
 | _,[],_=>by simp only [VE]
 | o,e::r,h=>by
  simp only [VE];refine ⟨by simpa using h 0 e rfl,VE.mk (o:=o+k) λi x d=>?_⟩;obtain ⟨a,c⟩:=h (i+1) x (by simp_all)
  grind
theorem VE.drop {b k o:Nat} {es:List (List AV)} (n:Nat) (h:VE g b k o es):VE g b k (o+n * k) (es.drop n):=VE.mk λi a c=>by
 rw [lx] at c;obtain ⟨d,e⟩:=h.get _ _ c
 grind
theorem VE.take {b k o:Nat} {es:List (List AV)} (n:Nat) (h:VE g b k o es):VE g b k o (es.take n):=VE.mk λi a c=>by
 rw [m4] at c;split at c
 ·exact h.get _ _ c
 ·cases c
theorem VE.append {b k o:Nat} {es fs:List (List AV)} (h:VE g b k o es) (d:VE g b k (o+es.length * k) fs):VE g b k o (es++fs):=VE.mk λi a c=>by
 by_cases hi:i < es.length
 ·rw [o4 hi] at c;exact h.get _ _ c
 ·rw [pa (by omega)] at c;obtain ⟨e,f⟩:=d.get _ _ c;refine ⟨e,?_⟩;have:o+i * k=o+es.length * k+(i - es.length) * k:=by
   rw [jw,<- kc];congr 2;omega
  simp_all
end
end Go.Vv
namespace Go.Vv
open Go

def bG:Value->AV
 | .bool b=>.bool b
 | .int k n=>.int k n
 | .string s=>.str s.data.toList
 | .pointer none=>.em
 | .slice none 0 0=>.fP
 | .map none=>.ea
 | .nilFunc=>.fy
 | .nilIface=>.eP
 | _=>xo
def aB:Value->Bool
 | .bool _ | .int _ _ | .pointer none | .slice none 0 0 | .map none | .nilFunc | .nilIface=>true
 | .string s=>decide (s.size<=maxLen)
 | _=>false
def cv:Value->AV
 | .agg cs=>.agg (cs.toList.map bG)
 | .tuple _=>xo
 | v=>bG v
def okc:Value->Bool
 | .agg cs=>cs.toList.all aB
 | .tuple vs=>vs.isEmpty
 | v=>aB v

def ev (env:List AV):Operand->AV
 | .tmp t=>env.getD t xo
 | .const v=>cv v
 | .global g=>.e7 g
 | .func f=>.fn (.func f) [] []
def yl:Operand->Bool
 | .const v=>okc v
 | _=>true

def ye:TypeDesc->Bool
 | .struct _ | .array _ _=>true
 | _=>false
def w6 (P:Program) (t:TypeId):AV->AV
 | .fP=>match P.underlying t with
  | some (.slice e)=>.gW none (P.cellsOf e) []
  | _=>.fP
 | v=>v
def ft (env:List AV):Option Tmp->AV->List AV
 | some d,v=>env.set d v
 | none,_=>env

inductive aV where
 | ok (v:AV) (h:AH)
 | len (n:Nat) (v:AV) (h:AH)
 | call (f:FuncId) (args:List AV)
 | round (id:Nat) (args:List AV)
 | any (S:AV->AH->Prop)
 | fail

def oo (h:AH):Option AV->aV
 | some v=>.ok v h
 | none=>.fail
def oh (h:Option AH):aV :=
 match h with
 | some h=>.ok xo h
 | none=>.fail
def ovh:Option (AV×AH)->aV
 | some (v,h)=>.ok v h
 | none=>.fail

def AH.gZ (h:AH) (id:Nat):Option q6:=h.zh[id]?
def AH.new (h:AH) (b:q6):AH:={ h with zh:=h.zh++[b] }
def AH.put (h:AH) (id:Nat) (b:q6):AH:={ h with zh:=h.zh.set id b }

def tU (h:AH) (ag:Bool) (n:Nat):AV->Option AV
 | .ptr id off=>match h.gZ id with
  | some (.cells cs)=>if ag then (if off+n<=cs.length then some (.agg ((cs.drop off).take n)) else none) else cs[off]?
  | _=>none
 | .fI cs=>if ag then (if n<=cs.length then some (.agg (cs.take n)) else none) else cs[0]?
 | .fU id t k m p=>match h.gZ id with
  | some (.row t' k' es)=>if t'=t/\k'=k/\es.length=m then (if ag then (if p+n<=es.flatten.length then some (.agg ((es.flatten.drop p).take n)) else none) else es.flatten[p]?) else none
  | _=>none
 | _=>none
def yI (cs:List AV) (off:Nat) (vs:List AV):List AV:=cs.take off++vs++cs.drop (off+vs.length)
def zmF:AV->Option AV
 | .gW _ k es=>some (.sl k es)
 | .fP=>none
 | v=>if v.pure then some v else none
def xH:List AV->Option (List AV)
 | []=>some []
 | a::r=>match zmF a,xH r with
  | some a,some r=>some (a::r)
  | _,_=>none
def rows (k:Nat):Nat->List AV->List (List AV)
 | 0,_=>[]
 | n+1,cs=>cs.take k::rows k n (cs.drop k)
def p7 (h:AH) (n:Nat) (p v:AV):Option AH :=
 match p,v.cells? with
 | .ptr id off,some vs=>match h.gZ id with
  | some (.cells cs)=>if vs.length=n/\off+n<=cs.length then some (h.put id (.cells (yI cs off vs))) else none
  | _=>none
 | .fU id t k m p,some vs=>match h.gZ id with
  | some (.row t' k' es)=>if t'=t/\k'=k/\es.length=m/\vs.length=n/\p+n<=es.flatten.length then (match xH vs with
   | some vs=>some (h.put id (.row t k (rows k m (yI es.flatten p vs))))
   | none=>none) else none
  | _=>none
 | _,_=>none
def uM (off:Nat):AV->Option AV
 | .ptr id o=>some (.ptr id (o+off))
 | .fI cs=>some (.fI (cs.drop off))
 | .fU id t k n p=>some (.fU id t k n (p+off))
 | _=>none
def zh5 (ag:Bool) (off n:Nat):AV->Option AV
 | .agg cs=>if ag then some (.agg ((cs.drop off).take n)) else cs[off]?
 | _=>none
def qq (place:Nat->Option (Nat×Nat)):List AV->List (Nat×AV)->Option (List AV)
 | cs,[]=>some cs
 | cs,(i,v)::r =>
  match place i,v.cells? with
  | some (off,size),some vs=>if vs.length=size/\off+size<=cs.length then qq place (yI cs off vs) r else none
  | _,_=>none
def ay:AV->Option Nat
 | .sl _ es | .gW _ _ es=>some es.length
 | .d8 _ _ _ n | .fm _ _ _ n=>some n
 | .el _ _ _ n p=>some (n - p)
 | .fP=>some 0
 | _=>none
def uL (k:Nat) (x i:AV):Option AV :=
 match x,i with
 | .sl k' es,.int _ n | .gW _ k' es,.int _ n=>if k'=k/\0<=n then (es[n.toNat]?).map .fI else none
 | .d8 k' id off len,.int _ n=>if k'=k/\0<=n/\n < len then some (.ptr id (off+n.toNat * k)) else none
 | .fm id t k' m,.int _ n=>if k'=k/\0<=n/\n < m then some (.fU id t k m (n.toNat * k)) else none
 | .el id t k' m p,.int _ n=>if k'=k/\0<=n/\n < (m - p:Nat) then some (.fU id t k m ((p+n.toNat) * k)) else none
 | _,_=>none
def zaz (len k:Nat) (x i:AV):Option AV :=
 match x,i with
 | .ptr id off,.int _ n=>if 0<=n/\n < len then some (.ptr id (off+n.toNat * k)) else none
 | .fI cs,.int _ n=>if 0<=n/\n < len then some (.fI (cs.drop (n.toNat * k))) else none
 | _,_=>none
def o6 (x i:AV):Option AV :=
 match x,i with
 | .str s,.int _ n=>if 0<=n then (s[n.toNat]?).map λb=>.int .u8 b.toNat else none
 | _,_=>none
def o7 (ag:Bool) (len k:Nat) (x i:AV):Option AV :=
 match i with
 | .int _ n=>if 0<=n/\n < len then zh5 ag (n.toNat * k) k x else none
 | _=>none
def pJ (d:Nat):Option AV->Option Nat
 | none=>some d
 | some (.int _ n)=>if 0<=n then some n.toNat else none
 | _=>none
def zgP (s:List UInt8) (lo hi:Option AV):Option AV :=
 match pJ 0 lo,pJ s.length hi with
 | some l,some h=>if l<=h/\h<=s.length then some (.str ((s.take h).drop l)) else none
 | _,_=>none
def oZ (full:Bool) (k:Nat) (es:List (List AV)) (lo hi mx:Option AV):Option AV :=
 match pJ 0 lo,pJ es.length hi with
 | some l,some h =>
  if l<=h/\h<=es.length then
   match mx with
   | none=>some (if full&&hi.isNone then .gW none k (es.drop l) else .sl k ((es.take h).drop l))
   | some (.int _ m)=>if m=h/\hi.isSome then some (.gW none k ((es.take h).drop l)) else none
   | _=>none
  else none
 | _,_=>none
def zc3 (x:AV) (lo hi mx:Option AV):Option AV :=
 match x with
 | .str s=>if mx.isNone then zgP s lo hi else none
 | .sl k es=>oZ false k es lo hi mx
 | .gW o k es=>oZ o.isNone k es lo hi mx
 | _=>none

def xy (op:BinOp) (k:IntKind) (a b:Int):Option AV :=
 match op with
 | .add=>some (.int k (k.wrap (a+b)))
 | .sub=>some (.int k (k.wrap (a - b)))
 | .mul=>some (.int k (k.wrap (a * b)))
 | .quo=>if b=0 then none else some (.int k (k.wrap (a.tdiv b)))
 | .rem=>if b=0 then none else some (.int k (a.tmod b))
 | .and=>some (.int k (k.wrap ((BitVec.ofInt k.bits a &&& BitVec.ofInt k.bits b).toNat)))
 | .or=>some (.int k (k.wrap ((BitVec.ofInt k.bits a ||| BitVec.ofInt k.bits b).toNat)))
 | .xor=>some (.int k (k.wrap ((BitVec.ofInt k.bits a ^^^ BitVec.ofInt k.bits b).toNat)))
 | .andNot=>some (.int k (k.wrap ((BitVec.ofInt k.bits a &&& ~~~(BitVec.ofInt k.bits b)).toNat)))
 | .eql=>some (.bool (a==b))
 | .neq=>some (.bool (a != b))
 | .lss=>some (.bool (decide (a < b)))
 | .leq=>some (.bool (decide (a<=b)))
 | .gtr=>some (.bool (decide (a > b)))
 | .geq=>some (.bool (decide (a >= b)))
 | .shl=>if b < 0 then none else some (.int k (k.wrap (a * 2 ^ min b.toNat k.bits)))
 | .shr=>if b < 0 then none else some (.int k (a.fdiv (2 ^ min b.toNat k.bits)))
def ztb (op:BinOp) (x y:List UInt8):Option AV :=
 match op with
 | .add=>if x.length+y.length<=maxLen then some (.str (x++y)) else none
 | .eql=>some (.bool (x==y))
 | .neq=>some (.bool !(x==y))
 | .lss=>some (.bool (Op.bytesLess x y))
 | .leq=>some (.bool (Op.bytesLess x y || x==y))
 | .gtr=>some (.bool !(Op.bytesLess x y || x==y))
 | .geq=>some (.bool !(Op.bytesLess x y))
 | _=>none
inductive Kd where
 | b | i | s
 deriving DecidableEq
def n9:Kd->AV->AV->Option Bool
 | .b,.bool a,.bool b=>some (a==b)
 | .i,.int k a,.int k' b=>if k=k' then some (a==b) else none
 | .s,.str a,.str b=>some (a==b)
 | _,_,_=>none
def tY:List Kd->List AV->List AV->Option Bool
 | [],[],[]=>some true
 | k::ks,a::r,b::s=>match n9 k a b,tY ks r s with
  | some x,some y=>some (x&&y)
  | _,_=>none
 | _,_,_=>none
def b8:TypeDesc->AV->AV->Option Bool
 | .pointer _,.em,.em | .func _ _ _,.fy,.fy | .map _ _,.ea,.ea=>some true
 | .pointer _,.em,.ptr _ _ | .pointer _,.em,.fI _ | .pointer _,.ptr _ _,.em | .pointer _,.fI _,.em=>some false
 | .func _ _ _,.fy,.fn _ _ _ | .func _ _ _,.fn _ _ _,.fy=>some false
 | .map _ _,.ea,.map _ | .map _ _,.map _,.ea=>some false
 | .slice _,.d8 _ _ _ _,.fP=>some false
 | _,_,_=>none
def rQ (P:Program) (f:TypeId->Option (List Kd)):List Field->Nat->Option (List Kd)
 | [],_=>some []
 | x :: fs, acc => if x.name ≠ "_" ∧ x.offset = acc then (match f x.type, P.info? x.type with
   | some ks,some i=>if i.size=ks.length then (match rQ P f fs (acc+i.size) with
    | some r=>some (ks++r)
    | none=>none) else none
   | _,_=>none) else none
def wA (P:Program):Nat->TypeId->Option (List Kd)
 | 0,_=>none
 | d+1,t=>match P.underlying t with
  | some .bool=>some [.b]
  | some (.int _)=>some [.i]
  | some .string=>some [.s]
  | some (.struct fs)=>if P.stoodInHeld t then none else rQ P (wA P d) fs.toList 0
  | _=>none
abbrev zcd (P:Program) (d:Nat) (fs:List Field) (acc:Nat):Option (List Kd):=rQ P (wA P d) fs acc
def zoi (P:Program) (t:TypeId):Option (List Kd) :=
 match P.underlying t with
 | some (.array n e)=>match P.underlying e,P.info? e with
  | some (.int _),some i=>if i.size=1 then some (List.replicate n .i) else none
  | _,_=>none
 | _=>none
def cN (P:Program) (t:TypeId) (x y:AV):Option Bool :=
 match x,y with
 | .agg cs,.agg ds=>if P.eqGuardType P.depth t=false/\(P.underlying t).any ye then (match (wA P 6 t).or (zoi P t) with
  | some ks=>tY ks cs ds
  | none=>none) else none
 | .bool a,.bool b=>match P.underlying t with
  | some .bool=>some (a==b)
  | _=>none
 | x,y=>match P.underlying t with
  | some d=>b8 d x y
  | none=>none
def yF (P:Program) (op:BinOp) (t:TypeId) (x y:AV):Option AV :=
 match x,y with
 | .int k a,.int k' b=>if k=k' \/ op=.shl \/ op=.shr then xy op k a b else none
 | .str a,.str b=>ztb op a b
 | x,y=>match op with
  | .eql=>(cN P t x y).map .bool
  | .neq=>(cN P t x y).map λb=>.bool !b
  | _=>none
def nW (P:Program) (op:BinOp) (t:TypeId) (h:AH):AV->AV->Option (AV->AH->Prop)
 | .sl _ es,.fP | .gW _ _ es,.fP=>match P.underlying t,op with
  | some (.slice _),.eql=>some λv h'=>h'=h/\∃b,v=.bool b/\(b=true->es=[])
  | some (.slice _),.neq=>some λv h'=>h'=h/\∃b,v=.bool (!b)/\(b=true->es=[])
  | _,_=>none
 | _,_=>none
theorem zkk {P:Program} {op:BinOp} {t:TypeId} {h:AH} {x y v:AV} (b:yF P op t x y=some v):nW P op t h x y=none:=by
 unfold nW;split
 ·rename_i k es;split
  ·rename_i a;simp [yF,cN,a,b8] at b
  ·rename_i a;simp [yF,cN,a,b8] at b
  ·rfl
 ·rename_i q k es;split
  ·rename_i a;simp [yF,cN,a,b8] at b
  ·rename_i a;simp [yF,cN,a,b8] at b
  ·rfl
 ·rfl
def zvs (P:Program) (op:BinOp) (t:TypeId) (oy:Operand) (a b:AV):Option AV :=
 match P.underlying t,oy,a,b with
 | some (.interface _),.const .nilIface,.eP,.eP=>(match op with
  | .eql=>some (.bool true)
  | .neq=>some (.bool false)
  | _=>none)
 | some (.interface _),.const .nilIface,.iface _ _,.eP=>(match op with
  | .eql=>some (.bool false)
  | .neq=>some (.bool true)
  | _=>none)
 | _,_,_,_=>none
def aUn (op:UnOp):AV->Option AV
 | .int k n=>match op with
  | .neg=>some (.int k (k.wrap (0 - n)))
  | .xor=>some (.int k (k.wrap ((BitVec.ofInt k.bits (if k.signed then -1 else k.max) ^^^ BitVec.ofInt k.bits n).toNat)))
  | _=>none
 | .bool b=>match op with
  | .not=>some (.bool !b)
  | _=>none
 | _=>none
def zbR (d:TypeDesc):AV->Option AV
 | .int _ n=>match d with
  | .int k=>some (.int k (k.wrap n))
  | _=>none
 | .str s=>match d with
  | .string=>some (.str s)
  | _=>none
 | _=>none

def lim:Nat:=2147483648
def AH.grow (h:AH) (o:Option Nat) (n m:Nat):Option (Nat×AH) :=
 match o with
 | none=>some (h.zs.length,{ h with zs:=h.zs++[n+m] })
 | some id=>if h.zs[id]?=some n then some (id,{ h with zs:=h.zs.set id (n+m) }) else none
def rH (h:AH) (k:Nat) (s:AV) (ys:List (List AV)):Option (AV×AH) :=
 match s with
 | .gW o k' es =>
  if ys.length=0 then (match o with
   | none=>some (.gW (some h.zs.length) k' es,{ h with zs:=h.zs++[es.length] })
   | some id=>some (.gW (some id) k' es,h)) else
  if k'=k/\es.length+ys.length<=lim then
   match h.grow o es.length ys.length with
   | some (id,h')=>some (.gW (some id) k (es++ys),h')
   | none=>none
  else none
 | .fm id t k' n=>if ys.length=0 then some (.fm id t k' n,h) else (match h.gZ id with
  | some (.row t' k'' es)=>if (t'=t/\k'=k/\k''=k)/\es.length=n/\h.zs[t]?=some n/\n+ys.length<=lim then
    some (.fm id t k (n+ys.length),{ h.put id (.row t k (es++ys)) with zs:=h.zs.set t (n+ys.length) }) else none
  | _=>none)
 | _=>none
def pI (k:Nat):AV->Option (List (List AV))
 | .sl k' es | .gW _ k' es=>if k'=k then some es else none
 | .str s=>if k=1 then some (s.map λb=>[.int .u8 b.toNat]) else none
 | _=>none
def aMM (mx:Bool):AV->List AV->Option AV
 | v,[]=>some v
 | .int k a,.int k' b::r=>if k=k' then aMM mx (.int k (if mx then (if b > a then b else a) else (if b < a then b else a))) r else none
 | _,_=>none

def qW (P:Program) (h:AH) (b:Builtin) (ts:List TypeId) (args:List AV):aV :=
 match b,ts,args with
 | .len,[t],[x]=>match P.underlying t with
  | some .string=>match x with
   | .str s=>.len s.length (.int .i64 s.length) h
   | _=>.fail
  | some (.slice _)=>match ay x with
   | some n=>.len n (.int .i64 n) h
   | none=>.fail
  | some (.map _ _)=>match x with
   | .map id=>match h.gZ id with
    | some (.q7 es _)=>.any λv h'=>h'=h/\v=.int .i64 es.length
    | _=>.fail
   | _=>.fail
  | _=>.fail
 | .append,[t,u],[s,x]=>match P.underlying t,P.underlying u with
  | some (.slice e),some (.slice _) | some (.slice e),some .string=>match P.info? e with
   | some i=>if i.bytes<=65536/\0 < i.size/\(i.zero.map (·.cells.size))=some i.size then (match pI i.size (w6 P u x) with
    | some ys=>ovh (rH h i.size (w6 P t s) ys)
    | none=>.fail) else .fail
   | none=>.fail
  | _,_=>.fail
 | .min,_,x::r=>oo h (aMM false x r)
 | .max,_,x::r=>oo h (aMM true x r)
 | _,_,_=>.fail

def rf (P:Program) (t:TypeId) (f:Nat):Option (Nat×TypeId) :=
 match P.underlying t with
 | some (.struct fs)=>(fs[f]?).map λx=>(x.offset,x.type)
 | _=>none
def zeV (P:Program):Nat->TypeId->List TypeId
 | 0,_=>[]
 | d+1,t=>match P.underlying t with
  | some (.struct fs)=>fs.toList.flatMap λf=>zeV P d f.type
  | some (.array n e)=>(List.replicate n (zeV P d e)).flatten
  | _=>[t]
def pu (P:Program):List TypeId->List AV->List AV
 | t::ts,a::a5=>w6 P t a::pu P ts a5
 | _,a5=>a5
def yX (P:Program) (t:TypeId):Option (List AV) :=
 match P.info? t with
 | some i=>match i.zero with
  | some z=>if okc z then (match (cv z).cells? with
   | some cs=>some (pu P (zeV P 6 t) cs)
   | none=>none) else none
  | none=>none
 | none=>none
def zaK (P:Program) (fs:Array Field):Option (List (Nat×Nat)):=fs.toList.mapM λf=>(P.info? f.type).map λi=>(f.offset,i.size)
def ziz (d:TypeDesc) (i:Nat):TypeId :=
 match d with
 | .struct fs=>((fs[i]?).map (·.type)).getD 0
 | .array _ e | .slice e=>e
 | _=>0
def xO (P:Program) (d:TypeDesc) (env:List AV) (parts:Array (Nat×Operand)):List (Nat×AV):=parts.toList.map λp=>(p.1,w6 P (ziz d p.1) (ev env p.2))

def dec (s:List UInt8) (pos:Nat):Nat×Nat:=Utf8.decode ⟨s.toArray⟩ pos
def zop (h:AH):AV->aV
 | .ptr id 0=>match h.gZ id with
  | some (.f7 s pos)=>if pos < s.length then .ok (.fk [.bool true,.int .i64 pos,.int .i32 (dec s pos).1]) (h.put id (.f7 s (pos+(dec s pos).2))) else .ok (.fk [.bool false]) h
  | _=>.fail
 | _=>.fail

def xk (P:Program) (kt:TypeId) (a b:AV):Option Bool :=
 match P.underlying kt with
 | some .bool=>n9 .b a b
 | some (.int _)=>n9 .i a b
 | some .string=>n9 .s a b
 | some (.struct _)=>match a,b with
  | .agg cs,.agg ds=>(match wA P 6 kt with
   | some ks=>tY ks cs ds
   | none=>none)
  | _,_=>none
 | _=>none
def tV (P:Program) (kt:TypeId) (k:AV):List (AV×AV)->Nat->Option (Option (Nat×AV))
 | [],_=>some none
 | e::r,i=>match xk P kt k e.1 with
  | some true=>some (some (i,e.2))
  | some false=>tV P kt k r (i+1)
  | none=>none
def zon (P:Program) (t:TypeId):Option AV :=
 match P.info? t with
 | some i=>match i.zero with
  | some z=>if okc z then (match cv z with
   | .agg cs=>some (.agg (pu P (zeV P 6 t) cs))
   | v=>some (w6 P t v)) else none
  | none=>none
 | none=>none
def AV.aK:AV->AV
 | .gW _ k es=>.sl k es
 | v=>v
def AV.cy:AV->AV
 | .agg cs=>.agg (cs.map AV.aK)
 | v=>v
def qV (P:Program) (t:TypeId):Option AV:=(zon P t).map AV.cy
def tu (ok:Bool) (v:AV) (b:Bool):AV:=if ok then .fk [v,.bool b] else v
def pW (P:Program) (h:AH) (kt et:TypeId) (ok:Bool) (m k:AV):Option AV :=
 if xk P kt k k=some true then (match m with
  | .ea=>(qV P et).map λz=>tu ok z false
  | .map id=>match h.gZ id with
   | some (.q7 es _)=>match tV P kt k es 0,qV P et with
    | some (some (_,v)),_=>some (tu ok v true)
    | some none,some z=>some (tu ok z false)
    | _,_=>none
   | _=>none
  | _=>none) else none
def zgR (P:Program) (h:AH) (kt et:TypeId) (m k:AV):Option (AV×AH) :=
 if xk P kt k k=some true then (match m with
  | .map id=>match h.gZ id with
   | some (.q7 es 0)=>match tV P kt k es 0,qV P et with
    | some (some (i,v)),_=>some (.fk [v,.int .i64 i],h)
    | some none,some z=>some (.fk [z,.int .i64 es.length],h.put id (.q7 (es++[(k,z)]) 0))
    | _,_=>none
   | _=>none
  | _=>none) else none
def rn (h:AH) (m s x:AV):Option AH :=
 match m,s with
 | .map id,.int _ n=>match h.gZ id with
  | some (.q7 es 0)=>if 0<=n then (match es[n.toNat]? with
   | some e=>some (h.put id (.q7 (es.set n.toNat (e.1,x.cy)) 0))
   | none=>none) else none
  | _=>none
 | _,_=>none
def za7 (P:Program) (h:AH) (kt:TypeId) (m k x:AV):Option AH :=
 if xk P kt k k=some true then (match m with
  | .map id=>match h.gZ id with
   | some (.q7 es c)=>match tV P kt k es 0 with
    | some (some (i,_))=>some (h.put id (.q7 (es.set i (k,x.cy)) c))
    | some none=>some (h.put id (.q7 (es++[(k,x.cy)]) c))
    | none=>none
   | _=>none
  | _=>none) else none

def zgQ (P:Program) (h:AH) (t:TypeId) (v:AV) (name:String):Option (FuncId×AV) :=
 match P.info? t with
 | some i=>match i.methods.toList.find? (λm=>m.name==name) with
  | some m=>if m.path.isEmpty then (match m.func with
   | some (f,p)=>match P.underlying t,p with
    | some (.pointer _),true=>some (f,v)
    | some (.pointer e),false=>match v,P.underlying e,P.info? e with
     | .ptr id off,some d,some j=>(tU h (ye d) j.size (.ptr id off)).map λx=>(f,w6 P e x)
     | _,_,_=>none
    | some _,false=>some (f,v)
    | _,_=>none
   | none=>none) else none
  | none=>none
 | none=>none
def zj (P:Program) (o:Oper) (env:List AV) (h:AH):aV :=
 match o.op with
 | .move x | .assign x=>if yl x then .ok (w6 P o.type (ev env x)) h else .fail
 | .pick c a b=>if yl a&&yl b&&yl c then (match ev env c with
  | .bool t=>.ok (if t then ev env a else ev env b) h
  | _=>.fail) else .fail
 | .alloc t=>match yX P t with
  | some cs=>.ok (.ptr h.zh.length 0) (h.new (.cells cs))
  | none=>.fail
 | .box t x=>if yl x then (match (w6 P t (ev env x)).cells? with
  | some cs=>.ok (.ptr h.zh.length 0) (h.new (.cells cs))
  | none=>.fail) else .fail
 | .build t parts=>if parts.all λp=>yl p.2 then (match P.underlying t,yX P t with
  | some (.struct fs),some z=>match zaK P fs with
   | some pl=>oo h ((qq (λi=>pl[i]?) z (xO P (.struct fs) env parts)).map .agg)
   | none=>.fail
  | some (.array n e),some z=>match P.info? e with
   | some j=>oo h ((qq (λi=>some (i * j.size,j.size)) z (xO P (.array n e) env parts)).map .agg)
   | none=>.fail
  | _,_=>.fail) else .fail
 | .load t a=>match P.underlying t,P.info? t with
  | some d,some i=>oo h ((tU h (ye d) i.size (ev env a)).map (w6 P t))
  | _,_=>.fail
 | .store t a x=>if yl x then (match P.info? t with
  | some i=>oh (p7 h i.size (ev env a) (w6 P t (ev env x)))
  | none=>.fail) else .fail
 | .nilCheck x=>if yl x then (match ev env x with
  | .ptr id o=>.ok (.ptr id o) h
  | .fI cs=>.ok (.fI cs) h
  | .fU id t k n p=>.ok (.fU id t k n p) h
  | .fn (.func f) a b=>.ok (.fn (.func f) a b) h
  | _=>.fail) else .fail
 | .binOp op t x y _=>if yl x&&yl y then (match nW P op t h (ev env x) (ev env y) with
  | some S=>.any S
  | none=>oo h ((yF P op t (ev env x) (ev env y)).or (zvs P op t y (ev env x) (ev env y)))) else .fail
 | .unOp op _ x=>if yl x then oo h (aUn op (ev env x)) else .fail
 | .convert s t x=>if yl x then (match P.underlying s,P.underlying t with
  | some _,some d=>oo h (zbR d (ev env x))
  | _,_=>.fail) else .fail
 | .makeFunc f a b=>if a.all yl&&b.all yl then .ok (.fn f (a.toList.map (ev env)) (b.toList.map (ev env))) h else .fail
 | .slice t x lo hi mx=>if yl x&&lo.all yl&&hi.all yl&&mx.all yl then (match P.underlying t with
  | some .string=>match ev env x with
   | .str s=>oo h (zc3 (.str s) (lo.map (ev env)) (hi.map (ev env)) (mx.map (ev env)))
   | _=>.fail
  | some (.slice e)=>match P.info? e with
   | some i=>match w6 P t (ev env x) with
    | .sl k es=>if k=i.size then oo h (zc3 (.sl k es) (lo.map (ev env)) (hi.map (ev env)) (mx.map (ev env))) else .fail
    | .gW q k es=>if k=i.size then oo h (zc3 (.gW q k es) (lo.map (ev env)) (hi.map (ev env)) (mx.map (ev env))) else .fail
    | _=>.fail
   | none=>.fail
  | some (.array n e)=>match P.info? e with
   | some i=>match ev env x,lo.map (ev env),hi,mx with
    | .ptr id off,some (.int _ l),none,none=>if 0<=l/\l < n/\n<=maxLen then .ok (.d8 i.size id (off+l.toNat * i.size) (n - l.toNat)) h else .fail
    | _,_,_,_=>.fail
   | none=>.fail
  | _=>.fail) else .fail
 | .fieldAddr t x f=>match rf P t f with
  | some (off,u)=>match P.info? u with
   | some i=>if i.size=0 \/ yl x=false then .fail else oo h (uM off (ev env x))
   | none=>.fail
  | none=>.fail
 | .field t x f=>match rf P t f with
  | some (off,u)=>match P.underlying u,P.info? u with
   | some d,some i=>if yl x then oo h ((zh5 (ye d) off i.size (ev env x)).map (w6 P u)) else .fail
   | _,_=>.fail
  | none=>.fail
 | .indexAddr t x i=>if yl x&&yl i then (match P.underlying t with
  | some (.slice e)=>match P.info? e with
   | some j=>oo h (uL j.size (ev env x) (ev env i))
   | none=>.fail
  | some (.array n e)=>match P.info? e with
   | some j=>oo h (zaz n j.size (ev env x) (ev env i))
   | none=>.fail
  | _=>.fail) else .fail
 | .index t x i=>if yl x&&yl i then (match P.underlying t with
  | some .string=>oo h (o6 (ev env x) (ev env i))
  | some (.array n e)=>match P.underlying e,P.info? e with
   | some d,some j=>oo h ((o7 (ye d) n j.size (ev env x) (ev env i)).map (w6 P e))
   | _,_=>.fail
  | _=>.fail) else .fail
 | .extract t i=>if yl t then (match ev env t with
  | .fk vs=>oo h ((vs[i]?).map (w6 P o.type))
  | _=>.fail) else .fail
 | .buildSlice t n parts=>if parts.all λp=>yl p.2 then (match P.underlying t with
  | some (.slice e)=>match P.info? e,yX P e with
   | some i,some z=>if 0 < i.size/\n * i.size<=65536/\z.length=i.size then
     (match (qq (λj=>some (j * i.size,i.size)) ((List.replicate n z).flatten) (xO P (.slice e) env parts)) with
           | some cs=>match xH cs with
             | some cs=>.ok (.gW none i.size (rows i.size n cs)) h
             | none=>.fail
           | none=>.fail) else .fail
   | _,_=>.fail
  | _=>.fail) else .fail
 | .call c=>if c.args.all yl&&c.args.size==c.argTypes.size then (match c.callee with
  | .builtin b=>qW P h b c.argTypes.toList (c.args.toList.map (ev env))
  | .value f=>if yl f=false then .fail else match ev env f with
   | .fn (.func g) first caps=>.call g (first++(c.args.toList.zip c.argTypes.toList).map (λp=>w6 P p.2 (ev env p.1))++caps)
   | .dG id=>.round id ((c.args.toList.zip c.argTypes.toList).map (λp=>w6 P p.2 (ev env p.1)))
   | _=>.fail
  | .invoke x name=>if yl x=false then .fail else match ev env x with
   | .iface t v=>match zgQ P h t v name with
    | some (g,b)=>.call g (b::(c.args.toList.zip c.argTypes.toList).map (λp=>w6 P p.2 (ev env p.1)))
    | none=>.fail
   | _=>.fail) else .fail
 | .range t x=>if yl x then (match P.underlying t,ev env x with
  | some .string,.str s=>.ok (.ptr h.zh.length 0) (h.new (.f7 s 0))
  | _,_=>.fail) else .fail
 | .next x str=>if yl x&&str then zop h (ev env x) else .fail
 | .makeMap _ none=>.ok (.map h.zh.length) (h.new (.q7 [] 0))
 | .lookup t x i ok=>if yl x&&yl i then (match P.underlying t with
  | some (.map kt et)=>oo h (pW P h kt et ok (ev env x) (ev env i))
  | _=>.fail) else .fail
 | .mapEntry t x i=>if yl x&&yl i then (match P.underlying t with
  | some (.map kt et)=>ovh (zgR P h kt et (ev env x) (ev env i))
  | _=>.fail) else .fail
 | .entryStore _ x i y=>if yl x&&yl i&&yl y then oh (rn h (ev env x) (ev env i) (ev env y)) else .fail
 | .mapUpdate t x i y=>if yl x&&yl i&&yl y then (match P.underlying t with
  | some (.map kt _)=>oh (za7 P h kt (ev env x) (ev env i) (ev env y))
  | _=>.fail) else .fail
 | _=>.fail

end Go.Vv
namespace Go.Vv
open Go Go.RowKit

def ME (g:Gh):List (AV×AV)->List MapEntry->Prop
 | [],es=>es=[]
 | (k,x)::r,es=>∃e s,es=e::s/\V g k e.key/\V g x e.val/\ME g r s

theorem ME.mono {g g':Gh} (h:g.le g'):∀(a5:List (AV×AV)) (vs:List MapEntry),ME g a5 vs->ME g' a5 vs
 | [],_,hv=>by simpa only [ME] using hv
 | (k,x)::r,_,hv=>by
  simp only [ME] at hv ⊢;obtain ⟨e,s,rfl,b,a,c⟩:=hv;exact ⟨e,s,rfl,b.mono h,a.mono h,ME.mono h r s c⟩

theorem VA.dd {g:Gh} {d:List Nat} {a5:List AV} {vs:List Value} (h:VA g a5 vs):VA { g with δ:=d } a5 vs:=VA.fl (g.bj d) _ _ h
theorem ME.dd {g:Gh} {d:List Nat}:∀{a5:List (AV×AV)} {vs:List MapEntry},ME g a5 vs->ME { g with δ:=d } a5 vs
 | [],_,hv=>by simpa only [ME] using hv
 | (k,x)::r,_,hv=>by
  simp only [ME] at hv ⊢;obtain ⟨e,s,rfl,b,a,c⟩:=hv;exact ⟨e,s,rfl,V.fl (g.bj d) _ _ b,V.fl (g.bj d) _ _ a,ME.dd c⟩
def ey (g:Gh) (w:World) (c:Nat):q6->Prop
 | .cells cs=>∃vs t,w.heap[c]?=some (.cells vs t (0,0))/\VA g cs vs.toList
 | .f7 s pos=>w.heap[c]?=some (.stringIter ⟨s.toArray⟩ pos)
 | .q7 es clock=>∃ents n,w.heap[c]?=some (.map ents n)/\ME g es ents.toList/\(clock=0->n=ents.size/\∀(i:Nat) (e:MapEntry),ents[i]?=some e->e.born=i)
 | .loop st pe env ps assign body=>∃fn tmps d,w.heap[c]?=some (.loop { state:=st,pending:=pe,fn,tmps,params:=ps,assign,body,defers:=d })/\VL g env tmps.toList
 | .row _ _ _=>False
 | .fB id n seen=>∃m,g.σ[id]?=some (some m)/\w.heap[c]?=some (.mapIter (some m) n seen.toArray n)
 | .eK=>w.heap[c]?=some (.mapIter none 0 #[] 0)
 | .other | .dead=>True
def ep (g:Gh) (w:World) (i k:Nat) (es:List (List AV)):Prop :=
 ∃t,g.τ[i]?=some t/\t.row=true/\t.n=es.length/\(∀e ∈ es,e.length=k)/\es.flatten.all AV.pure=true/\(es=[] \/ ∃b o e cs ty,t.loc=some (b,o+es.length * k,e) /\
  w.heap[b]?=some (.cells cs ty (0,0))/\VA g es.flatten ((cs.toList.drop o).take (es.length * k))/\o+es.length * k<=cs.size/\∀j,o<=j->g.Φ b j=none)
def dE (g:Gh) (w:World):q6->Prop
 | .row i k es=>ep g w i k es
 | .dead=>True
 | _=>False

theorem ey.mono {g g':Gh} {w w':World} {c:Nat} {k:q6} (h:g.le g') (f:w'.heap[c]?=w.heap[c]?) (b:ey g w c k):ey g' w' c k:=by
 cases k with
 | cells cs=>obtain ⟨vs,t,e,a⟩:=b;exact ⟨vs,t,f.trans e,a.mono h⟩
 | f7 s pos=>exact f.trans b
 | q7 es clock=>obtain ⟨ents,n,e,a,i⟩:=b;exact ⟨ents,n,f.trans e,a.mono h,i⟩
 | loop st pe env ps assign body=>obtain ⟨fn,tmps,d,e,a⟩:=b;exact ⟨fn,tmps,d,f.trans e,a.mono h⟩
 | row _ _ _=>exact b
 | fB id n seen=>obtain ⟨m,e,a⟩:=b;exact ⟨m,h.sig _ _ e,f.trans a⟩
 | eK=>exact f.trans b
 | other=>trivial
 | dead=>trivial
theorem ep.mono {g g':Gh} {w w':World} {i k:Nat} {es:List (List AV)} (h:g.le g') (d:g'.τ[i]?=g.τ[i]?)
  (p:∀t b x,g.τ[i]?=some t->t.row=true->t.loc=some (b,x)->w'.heap[b]?=w.heap[b]?/\∀j,g'.Φ b j=g.Φ b j) (q:ep g w i k es):ep g' w' i k es:=by
 obtain ⟨t,c,a,r,f,m,s⟩:=q;refine ⟨t,d.trans c,a,r,f,m,s.imp id ?_⟩
 rintro ⟨b,o,e,cs,ty,k1,k2,k3,v,n⟩
 obtain ⟨l,y⟩:=p t b _ c a k1;exact ⟨b,o,e,cs,ty,k1,l.trans k2,k3.mono h,v,λj u=>(y j).trans (n j u)⟩
theorem dE.mono {g g':Gh} {w w':World} {k:q6} (h:g.le g') (f:∀(i:Nat) (t:TI),g.τ[i]?=some t->t.row=true->g'.τ[i]?=some t)
  (d:∀(i:Nat) t b x,g.τ[i]?=some t->t.row=true->t.loc=some (b,x)->w'.heap[b]?=w.heap[b]?/\∀j,g'.Φ b j=g.Φ b j) (a:dE g w k):dE g' w' k:=by
 cases k with
 | row i k es =>
  have a:ep g w i k es:=a;obtain ⟨t,c,e,_⟩:=id a;exact a.mono h ((f i t c e).trans c.symm) (d i)
 | dead=>trivial
 | _=>exact a.elim

structure f8 (Φ:Nat->Nat->Option Value) (B:Nat) (w:World) (b l e:Nat):Prop where
 lo:B<=b
 lt:b < w.heap.size
 cells:∃cs ty,w.heap[b]?=some (.cells cs ty (0,0))/\e<=cs.size
 free:∀j,l<=j->Φ b j=none

theorem f8.mono {Φ Φ':Nat->Nat->Option Value} {B:Nat} {w w':World} {b l e:Nat} (h:f8 Φ B w b l e) (k:w.heap.size<=w'.heap.size) (c:w'.heap[b]?=w.heap[b]?)
  (d:∀j,l<=j->Φ' b j=Φ b j):f8 Φ' B w' b l e :=
 ⟨h.lo,o5 h.lt k,by obtain ⟨cs,ty,i,f⟩:=h.cells;exact ⟨cs,ty,c.trans i,f⟩,λj a=>(d j a).trans (h.free j a)⟩

structure Rel (B:Nat) (w0:World) (g:Gh) (h:AH) (w:World):Prop where
 below:Below B w0 w
 dp:B<=w.heap.size
 eF:∀b j v,g.Φ b j=some v->w.cell? ⟨b,j,none⟩=some v
 fh:g.σ.length=h.zh.length
 gZ:∀(i c:Nat) (k:q6),g.σ[i]?=some (some c)->h.zh[i]?=some k->B<=c/\c < w.heap.size/\ey g w c k/\(k ≠ .dead->∀j,g.Φ c j=none)
 fw:g.τ.length=h.zs.length
 tok:∀(i:Nat) (t:TI),g.τ[i]?=some t->h.zs[i]?=some t.n/\∀b l e,t.loc=some (b,l,e)->f8 g.Φ B w b l e
 eA:∀(i j c:Nat),g.σ[i]?=some (some c)->g.σ[j]?=some (some c)->i=j
 fO:∀(i j:Nat) (t t':TI) (b:Nat) (x y:Nat×Nat),g.τ[i]?=some t->g.τ[j]?=some t'->t.loc=some (b,x)->t'.loc=some (b,y)->i=j
 sep:∀(i c j:Nat) (t:TI) (b:Nat) (x:Nat×Nat),g.σ[i]?=some (some c)->g.τ[j]?=some t->t.loc=some (b,x)->b ≠ c
 eE:∀c,c ∈ g.δ->B<=c/\w.heap[c]?=some (.deferred (some []))/\∀i:Nat,g.σ[i]? ≠ some (some c)
 row:∀(i:Nat) (k:q6),g.σ[i]?=some none->h.zh[i]?=some k->dE g w k
 fW:∀(i j t k k':Nat) (es es':List (List AV)),h.zh[i]?=some (.row t k es)->h.zh[j]?=some (.row t k' es')->i=j

section
variable {B:Nat} {w0 w:World} {g:Gh} {h:AH}

theorem Rel.ef (r:Rel B w0 g h w) {b j:Nat} {v:Value} (e:g.Φ b j=some v):b < w.heap.size:=World.block_lt_of_cell? w ⟨b,j,none⟩ (r.eF b j v e)

theorem Rel.drew (r:Rel B w0 g h w):Rel B w0 g h w.drew :=
 ⟨r.below.drew,r.dp,r.eF,r.fh,λi c k p d=>by obtain ⟨f,a,o,m⟩:=r.gZ i c k p d;exact ⟨f,a,o.mono (Gh.le.refl g) rfl,m⟩,r.fw,
   λi t j=>by obtain ⟨f,a⟩:=r.tok i t j;exact ⟨f,λb l e n=>(a b l e n).mono (oA _) rfl λ_ _=>rfl⟩,r.eA,r.fO,r.sep,r.eE,λi k hi d=>(r.row i k hi d).mono (Gh.le.refl g) (λ_ _ h _=>h) (λ_ _ _ _ _ _ _=>⟨rfl,λ_=>rfl⟩),r.fW⟩
theorem Rel.dP (r:Rel B w0 g h w) {c:Nat} (a:c ∈ g.δ):c < w.heap.size:=(l9.1 (r.eE c a).2.1).1

theorem Rel.eL (r:Rel B w0 g h w) (o:Obj):Rel B w0 g h (w.alloc o) :=
 ⟨r.below.alloc r.dp o,by have:=r.dp;simp;omega,λb j v e=>(World.cell?_alloc_lt w o ⟨b,j,none⟩ (r.ef e)).trans (r.eF b j v e),r.fh,
   λi c k a n=>by
     obtain ⟨p,d,s,q⟩:=r.gZ i c k a n;exact ⟨p,by simp;omega,s.mono (Gh.le.refl g) (Below.heap_alloc w o c d),q⟩,r.fw,
   λi t m=>by
     obtain ⟨p,d⟩:=r.tok i t m;exact ⟨p,λb l e f=>(d b l e f).mono (by simp) (Below.heap_alloc w o b (d b l e f).lt) λ_ _=>rfl⟩,r.eA,r.fO,r.sep,λc a=>⟨(r.eE c a).1,(Below.heap_alloc w o c (r.dP a)).trans (r.eE c a).2.1,(r.eE c a).2.2⟩,λi k hi n=>(r.row i k hi n).mono (Gh.le.refl g) (λ_ _ h _=>h) (λi t b x m _ f=>⟨Below.heap_alloc w o b ((r.tok i t m).2 b x.1 x.2 f).lt,λ_=>rfl⟩),r.fW⟩

def Gh.fp (g:Gh) (c:Option Nat):Gh:={ g with σ:=g.σ++[c] }
theorem Gh.fc (g:Gh) (c:Option Nat):g.le (g.fp c) :=
 ⟨λ_ _ _ e=>e,λi x e=>by
  have:i < g.σ.length:=(tm.1 e).1;simp only [Gh.fp];rw [o4 this];exact e,λ_ t e=>⟨t,e,oA _,λ_=>rfl,rfl⟩,λ_ h=>h⟩
theorem fK {g:Gh} {c x:Option Nat} {i:Nat} (e:(g.fp c).σ[i]?=some x):g.σ[i]?=some x \/ (i=g.σ.length/\x=c):=by
 simp only [Gh.fp] at e
 grind

theorem Rel.zx1 (r:Rel B w0 g h w) {c:Nat} (k:q6) (E:B<=c) (F:c < w.heap.size) (s:ey (g.fp (some c)) w c k) (l:∀j,g.Φ c j=none)
  (hs:∀(i x:Nat),g.σ[i]?=some (some x)->x ≠ c) (z:∀(i:Nat) (t:TI) (b:Nat) (x:Nat×Nat),g.τ[i]?=some t->t.loc=some (b,x)->b ≠ c) (q:c ∉ g.δ) :
  Rel B w0 (g.fp (some c)) (h.new k) w :=
 ⟨r.below,r.dp,r.eF,by simp [Gh.fp,AH.new,r.fh],λi x k' d a=>by
   have f:=r.fh;rcases fK d with d | ⟨rfl,n⟩
   ·have hi:i < h.zh.length:=by rw [<- f];exact (tm.1 d).1
    simp only [AH.new] at a;rw [o4 hi] at a;obtain ⟨C,v,D,A⟩:=r.gZ i x k' d a;exact ⟨C,v,D.mono (g.fc _) rfl,A⟩
   ·obtain rfl:=kK n;simp only [AH.new] at a;rw [f,pa (oA _)] at a;simp at a;subst a;exact ⟨E,F,s,λ_=>l⟩,r.fw,r.tok,
  λi j x hi m=>by
   rcases fK hi with hi | ⟨rfl,u⟩ <;> rcases fK m with m | ⟨rfl,e⟩
   ·exact r.eA i j x hi m
   ·exact absurd (kK e) (hs i x hi)
   ·exact absurd (kK u) (hs j _ m)
   ·rfl,
  r.fO,λi x j t b y d o p=>by
   rcases fK d with d | ⟨rfl,n⟩
   ·exact r.sep i x j t b y d o p
   ·obtain rfl:=kK n;exact z j t b y o p,
  λx d=>⟨(r.eE x d).1,(r.eE x d).2.1,λi hi=>by
   rcases fK hi with hi | ⟨_,n⟩
   ·exact (r.eE x d).2.2 i hi
   ·obtain rfl:=kK n;exact q d⟩,
  λi k' hi a=>by
   rcases fK hi with hi | ⟨_,n⟩
   ·have p:i < h.zh.length:=by rw [<- r.fh];exact (tm.1 hi).1
    simp only [AH.new] at a;rw [o4 p] at a;exact (r.row i k' hi a).mono (g.fc _) (λ_ _ h _=>h) (λ_ _ _ _ _ _ _=>⟨rfl,λ_=>rfl⟩)
   ·exact absurd n (by simp),
  λi j t k1 k2 es es' hi m=>by
   have G:∀t k1 es,k ≠ .row t k1 es:=by rintro t k1 es rfl;exact s
   simp only [AH.new] at hi m;have key:∀(i t k1:Nat) (es:List (List AV)),(h.zh++[k])[i]?=some (.row t k1 es)->h.zh[i]?=some (.row t k1 es):=by
    intro i t k1 es hi
    grind
   exact r.fW i j t k1 k2 es es' (key _ _ _ _ hi) (key _ _ _ _ m)⟩

theorem Rel.dv (r:Rel B w0 g h w) (o:Obj) (k:q6) (c:ey (g.fp (some w.heap.size)) (w.alloc o) w.heap.size k):Rel B w0 (g.fp (some w.heap.size)) (h.new k) (w.alloc o) :=
 (r.eL o).zx1 k r.dp (by simp) c
  (λj=>by
   rcases he:g.Φ w.heap.size j with _ | v
   ·rfl
   ·exact absurd (r.ef he) (jl _))
  (λi x a e=>by
   have hi:i < h.zh.length:=by rw [<- r.fh];exact (tm.1 a).1
   have:=(r.gZ i x _ a (s5 hi)).2.1;omega)
  (λi t b x f d e=>by
   have:=((r.tok i t f).2 b x.1 x.2 d).lt;omega)
  (λl=>jl _ (r.dP l))

theorem Rel.dN (r:Rel B w0 g h w) {cs:List AV} {vs:Array Value} (t:TypeId) (a:VA g cs vs.toList) :
  Rel B w0 (g.fp (some w.heap.size)) (h.new (.cells cs)) (w.alloc (.cells vs t)) :=
 r.dv _ _ ⟨vs,t,heap_alloc_new w _,a.mono (g.fc _)⟩

def Gh.cz (g:Gh) (b:Nat) (f:Nat->Option Value):Gh:={ g with Φ:=λb' j=>if b'=b then (match g.Φ b j with | some v=>some v | none=>f j) else g.Φ b' j }
theorem Gh.dw (g:Gh) (b:Nat) (f:Nat->Option Value):g.le (g.cz b f) :=
 ⟨λa j v e=>by
  simp only [Gh.cz];by_cases hb:a=b
  ·subst hb;simp [e]
  ·simp [hb,e],λ_ _ e=>e,λ_ t e=>⟨t,e,oA _,λ_=>rfl,rfl⟩,λ_ h=>h⟩

theorem Rel.cz (r:Rel B w0 g h w) {b:Nat} {f:Nat->Option Value} (A:∀j v,f j=some v->w.cell? ⟨b,j,none⟩=some v)
  (hs:∀(i c:Nat),g.σ[i]?=some (some c)->h.zh[i]? ≠ some .dead->c ≠ b)
  (u:∀(i:Nat) (t:TI) (l e:Nat),g.τ[i]?=some t->t.loc=some (b,l,e)->t.row=false/\∀j,l<=j->f j=none):Rel B w0 (g.cz b f) h w :=
 ⟨r.below,r.dp,λd j v e=>by
   simp only [Gh.cz] at e;by_cases hb:d=b
   ·subst hb;simp only [nv] at e;split at e
    ·rename_i E D;cases e;exact r.eF _ _ _ D
    ·exact A j v e
   ·simp only [hb,lg] at e;exact r.eF _ _ _ e,r.fh,
  λi c k s n=>by
   obtain ⟨p,m,C,y⟩:=r.gZ i c k s n;refine ⟨p,m,C.mono (g.dw b f) rfl,λhd j=>?_⟩;have a:c ≠ b:=hs i c s (by rw [n];intro e;injection e with e;exact hd e);simp only [Gh.cz,a,lg];exact y hd j,r.fw,
  λi t hi=>by
   obtain ⟨p,m⟩:=r.tok i t hi;refine ⟨p,λd l e o=>(m d l e o).mono (oA _) rfl λj q=>?_⟩;simp only [Gh.cz];by_cases hb:d=b
   ·subst hb;simp only [nv,(m d l e o).free j q];exact (u i t l e hi o).2 j q
   ·simp only [hb,lg],r.eA,r.fO,r.sep,r.eE,
  λi k hi n=>(r.row i k hi n).mono (g.dw b f) (λ_ _ h _=>h) (λi t d x z F o=>⟨rfl,λj=>by
   have a:d ≠ b:=by
    rintro rfl
    grind
   simp only [Gh.cz,a,lg]⟩),r.fW⟩

theorem Rel.newRow (r:Rel B w0 g h w) (vs:Array Value) (t:TypeId) (n:Nat) :
  Rel B w0 (g.cz w.heap.size λj=>if j < n then vs[j]? else none) h (w.alloc (.cells vs t)) :=
 (r.eL _).cz (λj v e=>by
   split at e
   ·simp_all
   ·cases e)
  (λi c a _ e=>by
   have hi:i < h.zh.length:=by rw [<- r.fh];exact (tm.1 a).1
   have:=(r.gZ i c _ a (s5 hi)).2.1;omega)
  (λi t l e d b=>by
   have:=((r.tok i t d).2 _ l e b).lt;omega)

theorem Rel.putObj (r:Rel B w0 g h w) {i c:Nat} {k k':q6} (y:g.σ[i]?=some (some c)) (O:h.zh[i]?=some k) (hd:k ≠ .dead) {w':World} (N:w'.os=w.os) (L:w'.tape=w.tape)
  (F:w'.output=w.output) (K:w'.heap.size=w.heap.size) (d:∀b,b ≠ c->w'.heap[b]?=w.heap[b]?) (M:ey g w' c k'):Rel B w0 g (h.put i k') w':=by
 obtain ⟨T,P,_,p⟩:=r.gZ i c k y O;refine ⟨⟨N.trans r.below.os,L.trans r.below.tape,F.trans r.below.output,by rw [K];exact r.below.size,λb Q=>(d b (by omega)).trans (r.below.block b Q)⟩,
  by omega,λb j v e=>?_,by simp [AH.put,r.fh],λn G I z f=>?_,r.fw,λn t C=>?_,r.eA,r.fO,r.sep,λx E=>⟨(r.eE x E).1,(d x (by rintro rfl;exact (r.eE x E).2.2 i y)).trans (r.eE x E).2.1,(r.eE x E).2.2⟩,λn q s J=>?_,λu H t k1 k2 es es' m A=>?_⟩
 ·have o:b ≠ c:=by rintro rfl;rw [p hd j] at e;cases e
  exact (World.cell?_of_block (w:=w) (w':=w') (a:=⟨b,j,none⟩) (d b o)).trans (r.eF b j v e)
 ·simp only [AH.put] at f;by_cases hi:n=i
  ·grind
  ·rw [lV (λe=>hi e.symm)] at f;obtain ⟨m,A,S,R⟩:=r.gZ n G I z f;have o:G ≠ c:=by rintro rfl;exact hi (r.eA _ _ _ z y)
   exact ⟨m,by omega,S.mono (Gh.le.refl g) (d G o),R⟩
 ·obtain ⟨m,A⟩:=r.tok n t C;refine ⟨m,λb l e D=>(A b l e D).mono (by omega) (d b ?_) λ_ _=>rfl⟩;exact r.sep i c n t b (l,e) y C D
 ·have hi:n ≠ i:=by rintro rfl;rw [y] at s;cases s
  simp only [AH.put] at J;rw [lV (λe=>hi e.symm)] at J;exact (r.row n q s J).mono (Gh.le.refl g) (λ_ _ h _=>h) (λH t b x C _ D=>⟨d b (r.sep i c H t b x y C D),λ_=>rfl⟩)
 ·have key:∀(u t k1:Nat) (es:List (List AV)),(h.zh.set i k')[u]?=some (.row t k1 es)->h.zh[u]?=some (.row t k1 es):=by
   intro u t k1 es m;by_cases hi:u=i
   ·subst hi;rw [lr (tm.1 O).1] at m;injection m with m;subst m;exact M.elim
   ·grind
  exact r.fW u H t k1 k2 es es' (key _ _ _ _ m) (key _ _ _ _ A)
end
end Go.Vv
