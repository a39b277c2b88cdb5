/- The abstract domain of this proof: values that hold the contents of unchanging memory, a small heap of boxed variables, and how they stand to the model's values. -/
import Derived.WalkKit
import Derived.RangeFuncLeaves
namespace Go.Vv
open Go

inductive AV where
 | bool (b:Bool)
 | int (k:IntKind) (n:Int)
 | str (s:List UInt8)
 | nilp | nilm | nilf | nili | nilsl
 | ptr (id off:Nat)
 | fptr (cs:List AV)
 | sl (k:Nat) (es:List (List AV))
 | osl (o:Option Nat) (k:Nat) (es:List (List AV))
 | msl (k id off len:Nat)
 | rsl (id t k n:Nat)
 | rptr (id t k n p:Nat)
 | rsuf (id t k n i:Nat)
 | map (id:Nat)
 | fn (f:Fn) (first caps:List AV)
 | iface (t:TypeId) (v:AV)
 | agg (cs:List AV)
 | tup (vs:List AV)
 | glob (g:Nat)
 | yld (id:Nat)
 | any
 | opq
 deriving Inhabited

def aundef:AV:=.tup []

def AV.one:AV->Bool
 | .agg _ | .tup _ | .any=>false
 | _=>true

def AV.pure:AV->Bool
 | .bool _ | .int _ _ | .str _ | .nilp | .nilm | .nilf | .nili | .sl _ _ | .fn _ [] []=>true
 | _=>false
theorem AV.one_of_pure {a:AV} (h:a.pure=true):a.one=true:=by
 unfold AV.pure at h;split at h <;> first | rfl | cases h

def AV.cells?:AV->Option (List AV)
 | .agg cs=>some cs
 | .tup _ | .any=>none
 | v=>some [v]

inductive Blk where
 | cells (cs:List AV)
 | siter (s:List UInt8) (pos:Nat)
 | loop (st:LoopState) (pe:Option Code) (env:List AV) (ps:Array Tmp) (assign body:Code)
 | mapo (es:List (AV×AV)) (clock:Nat)
 | miter (id n:Nat) (seen:List Nat)
 | miter0
 | row (t k:Nat) (es:List (List AV))
 | other
 | dead
 deriving Inhabited

structure AH where
 blks:List Blk
 toks:List Nat
 deriving Inhabited

structure TI where
 n:Nat
 loc:Option (Nat×Nat×Nat)
 row:Bool:=false

structure Gh where
 Φ:Nat->Nat->Option Value
 σ:List (Option Nat)
 τ:List TI
 δ:List Nat

def capOk (t:TI) (a:Option Addr) (n c k:Nat):Prop :=
 t.row=false/\n<=t.n/\(n=t.n->c=n \/ ∃b o,a=some ⟨b,o,none⟩/\t.loc=some (b,o+n * k,o+c * k))

def rowHd (t:TI) (a:Option Addr) (n c k:Nat):Prop :=
 t.row=true/\n<=t.n/\((n=0/\c=0) \/ ∃b o,a=some ⟨b,o,none⟩/\(n=t.n->t.loc=some (b,o+n * k,o+c * k)))
def rowPt (t:TI) (b q n k p:Nat):Prop :=
 t.row=true/\n<=t.n/\(n=t.n->∃o e,q=o+p/\t.loc=some (b,o+n * k,e))

mutual
def V (g:Gh):AV->Value->Prop
 | .bool b,v=>v=.bool b
 | .int k n,v=>v=.int k n
 | .str s,v=>v=.string ⟨s.toArray⟩/\s.length<=maxLen
 | .nilp,v=>v=.pointer none
 | .nilm,v=>v=.map none
 | .nilf,v=>v=.nilFunc
 | .nili,v=>v=.nilIface
 | .nilsl,v=>v=.slice none 0 0
 | .ptr id off,v=>∃c,g.σ[id]?=some (some c)/\v=.pointer (some ⟨c,off,none⟩)
 | .fptr cs,v=>∃b o,v=.pointer (some ⟨b,o,none⟩)/\VC g b o cs
 | .sl k es,v=>∃a c,v=.slice a es.length c/\es.length<=c/\c<=maxLen/\(es=[] \/ ∃b o,a=some ⟨b,o,none⟩/\VE g b k o es)
 | .osl q k es,v=>∃a c,v=.slice a es.length c/\es.length<=c/\c<=maxLen/\(es=[] \/ ∃b o,a=some ⟨b,o,none⟩/\VE g b k o es) /\
   (match q with
       | none=>c=es.length
       | some id=>∃t,g.τ[id]?=some t/\capOk t a es.length c k)
 | .msl _ id off len,v=>∃c cap,g.σ[id]?=some (some c)/\v=.slice (some ⟨c,off,none⟩) len cap/\len<=cap/\cap<=maxLen
 | .rsl _ i k n,v=>∃a c,v=.slice a n c/\n<=c/\c<=maxLen/\∃t,g.τ[i]?=some t/\rowHd t a n c k
 | .rptr _ i k n p,v=>∃b q,v=.pointer (some ⟨b,q,none⟩)/\∃t,g.τ[i]?=some t/\rowPt t b q n k p
 | .rsuf _ i k n p,v=>∃a c,v=.slice a (n - p) c/\(p<=n/\n<=maxLen)/\∃t,g.τ[i]?=some t/\(n - p=0 \/ ∃b q,a=some ⟨b,q,none⟩/\rowPt t b q n k (p * k))
 | .map id,v=>∃c,g.σ[id]?=some (some c)/\v=.map (some c)
 | .fn f first caps,v=>∃fs cs,v=.func f fs cs/\VL g first fs.toList/\VL g caps cs.toList
 | .iface t x,v=>∃u,v=.iface t u/\V g x u
 | .agg cs,v=>∃vs,v=.agg vs/\VA g cs vs.toList
 | .tup xs,v=>∃vs,v=.tuple vs/\VL g xs vs.toList
 | .glob n,v=>v=.pointer (some ⟨n,0,none⟩)
 | .yld id,v=>∃c,g.σ[id]?=some (some c)/\v=.func (.yield c) #[] #[]
 | .any,_=>True
 | .opq,v=>v.oneCell'=true
def VL (g:Gh):List AV->List Value->Prop
 | [],vs=>vs=[]
 | a::r,vs=>∃v s,vs=v::s/\V g a v/\VL g r s
def VA (g:Gh):List AV->List Value->Prop
 | [],vs=>vs=[]
 | a::r,vs=>∃v s,vs=v::s/\(a.one=true/\V g a v)/\VA g r s
def VC (g:Gh) (b:Nat):Nat->List AV->Prop
 | _,[]=>True
 | o,a::r=>(∃v,g.Φ b o=some v/\a.pure=true/\V g a v)/\VC g b (o+1) r
def VE (g:Gh) (b k:Nat):Nat->List (List AV)->Prop
 | _,[]=>True
 | o,e::r=>(e.length=k/\VC g b o e)/\VE g b k (o+k) r
end


structure Gh.lv (g g':Gh):Prop where
 phi:∀b j v,g.Φ b j=some v->g'.Φ b j=some v
 sig:∀(i:Nat) (c:Option Nat),g.σ[i]?=some c->g'.σ[i]?=some c
 tau:∀(i:Nat) (t:TI),g.τ[i]?=some t->∃t',g'.τ[i]?=some t'/\t.n<=t'.n/\(t.n=t'.n->t'=t)/\t'.row=t.row
structure Gh.le (g g':Gh):Prop where
 phi:∀b j v,g.Φ b j=some v->g'.Φ b j=some v
 sig:∀(i:Nat) (c:Option Nat),g.σ[i]?=some c->g'.σ[i]?=some c
 tau:∀(i:Nat) (t:TI),g.τ[i]?=some t->∃t',g'.τ[i]?=some t'/\t.n<=t'.n/\(t.n=t'.n->t'=t)/\t'.row=t.row
 del:∀c,c ∈ g.δ->c ∈ g'.δ
theorem Gh.le.lv {g g':Gh} (h:g.le g'):g.lv g':=⟨h.phi,h.sig,h.tau⟩

theorem Gh.le.refl (g:Gh):g.le g:=⟨λ_ _ _ h=>h,λ_ _ h=>h,λ_ t h=>⟨t,h,Nat.le_refl _,λ_=>rfl,rfl⟩,λ_ h=>h⟩
theorem Gh.le.trans {a b c:Gh} (h:a.le b) (k:b.le c):a.le c :=
 ⟨λx y v e=>k.phi _ _ _ (h.phi x y v e),λi x e=>k.sig _ _ (h.sig i x e),λi t e=>by
  obtain ⟨d,u,o,p,z⟩:=h.tau i t e;obtain ⟨m,l,j,s,r⟩:=k.tau i d u;refine ⟨m,l,Nat.le_trans o j,λq=>?_,r.trans z⟩;have f:t.n=d.n:=by omega
  have:=p f;subst this;exact s q,λc w=>k.del c (h.del c w)⟩

theorem capOk.monoV {g g':Gh} (h:g.lv g') {id:Nat} {a:Option Addr} {n c k:Nat} (m:∃t,g.τ[id]?=some t/\capOk t a n c k) :
  ∃t,g'.τ[id]?=some t/\capOk t a n c k:=by
 obtain ⟨t,i,h0,l,f⟩:=m;obtain ⟨t',b,j,d,hs⟩:=h.tau _ _ i;refine ⟨t',b,hs.trans h0,Nat.le_trans l j,λe=>?_⟩;have:t.n=t'.n:=by omega
 have:=d this;subst this;exact f e

theorem rowHd.monoV {g g':Gh} (h:g.lv g') {id:Nat} {a:Option Addr} {n c k:Nat} (r:∃t,g.τ[id]?=some t/\rowHd t a n c k) :
  ∃t,g'.τ[id]?=some t/\rowHd t a n c k:=by
 obtain ⟨t,m,h0,q,j⟩:=r;obtain ⟨t',d,p,e,hs⟩:=h.tau _ _ m;refine ⟨t',d,hs.trans h0,Nat.le_trans q p,j.imp (λh=>h) λ⟨b,o,i,l⟩=>⟨b,o,i,λf=>?_⟩⟩;have:t.n=t'.n:=by omega
 have:=e this;subst this;exact l f
theorem rowPt.monoV {g g':Gh} (h:g.lv g') {id:Nat} {b q n k p:Nat} (l:∃t,g.τ[id]?=some t/\rowPt t b q n k p) :
  ∃t,g'.τ[id]?=some t/\rowPt t b q n k p:=by
 obtain ⟨t,f,h0,j,e⟩:=l;obtain ⟨t',a,i,c,hs⟩:=h.tau _ _ f;refine ⟨t',a,hs.trans h0,Nat.le_trans j i,λd=>?_⟩;have:t.n=t'.n:=by omega
 have:=c this;subst this;exact e d

mutual
theorem V.monoV {g g':Gh} (h:g.lv g'):∀(a:AV) (v:Value),V g a v->V g' a v
 | .bool _,_,hv=>by simpa only [V] using hv
 | .int _ _,_,hv=>by simpa only [V] using hv
 | .str _,_,hv=>by simpa only [V] using hv
 | .nilp,_,hv=>by simpa only [V] using hv
 | .nilm,_,hv=>by simpa only [V] using hv
 | .nilf,_,hv=>by simpa only [V] using hv
 | .nili,_,hv=>by simpa only [V] using hv
 | .nilsl,_,hv=>by simpa only [V] using hv
 | .ptr _ _,_,hv=>by
  simp only [V] at hv ⊢;obtain ⟨c,w,e⟩:=hv;exact ⟨c,h.sig _ _ w,e⟩
 | .fptr cs,_,hv=>by
  simp only [V] at hv ⊢;obtain ⟨b,o,e,w⟩:=hv;exact ⟨b,o,e,VC.monoV h b o cs w⟩
 | .sl k es,_,hv=>by
  simp only [V] at hv ⊢;obtain ⟨a,c,e,d,l,j⟩:=hv;exact ⟨a,c,e,d,l,j.imp id λ⟨b,o,e,hh⟩=>⟨b,o,e,VE.monoV h b k o es hh⟩⟩
 | .osl q k es,_,hv=>by
  simp only [V] at hv ⊢;obtain ⟨a,c,e,d,l,j,z⟩:=hv;refine ⟨a,c,e,d,l,j.imp id λ⟨b,o,e,hh⟩=>⟨b,o,e,VE.monoV h b k o es hh⟩,?_⟩;cases q with
  | none=>exact z
  | some id=>exact capOk.monoV h z
 | .msl _ _ _ _,_,hv=>by
  simp only [V] at hv ⊢;obtain ⟨c,cap,w,e⟩:=hv;exact ⟨c,cap,h.sig _ _ w,e⟩
 | .rsl _ _ _ _,_,hv=>by
  simp only [V] at hv ⊢;obtain ⟨a,c,e,d,l,j⟩:=hv;exact ⟨a,c,e,d,l,rowHd.monoV h j⟩
 | .rsuf _ i k n p,_,hv=>by
  simp only [V] at hv ⊢;obtain ⟨a,c,e,d,t,A,j⟩:=hv;rcases j with j | ⟨b,q,B,j⟩
  ·obtain ⟨t',y,_⟩:=h.tau _ _ A;exact ⟨a,c,e,d,t',y,.inl j⟩
  ·obtain ⟨t',y,z⟩:=rowPt.monoV h ⟨t,A,j⟩;exact ⟨a,c,e,d,t',y,.inr ⟨b,q,B,z⟩⟩
 | .rptr _ _ _ _ _,_,hv=>by
  simp only [V] at hv ⊢;obtain ⟨b,q,e,j⟩:=hv;exact ⟨b,q,e,rowPt.monoV h j⟩
 | .map _,_,hv=>by
  simp only [V] at hv ⊢;obtain ⟨c,w,e⟩:=hv;exact ⟨c,h.sig _ _ w,e⟩
 | .fn f m bs,_,hv=>by
  simp only [V] at hv ⊢;obtain ⟨fs,cs,e,d,l⟩:=hv;exact ⟨fs,cs,e,VL.monoV h m _ d,VL.monoV h bs _ l⟩
 | .iface t x,_,hv=>by
  simp only [V] at hv ⊢;obtain ⟨u,e,d⟩:=hv;exact ⟨u,e,V.monoV h x u d⟩
 | .agg cs,_,hv=>by
  simp only [V] at hv ⊢;obtain ⟨vs,e,d⟩:=hv;exact ⟨vs,e,VA.monoV h cs _ d⟩
 | .tup xs,_,hv=>by
  simp only [V] at hv ⊢;obtain ⟨vs,e,d⟩:=hv;exact ⟨vs,e,VL.monoV h xs _ d⟩
 | .glob _,_,hv=>by simpa only [V] using hv
 | .yld _,_,hv=>by
  simp only [V] at hv ⊢;obtain ⟨c,w,e⟩:=hv;exact ⟨c,h.sig _ _ w,e⟩
 | .any,_,_=>by simp only [V]
 | .opq,_,hv=>by simpa only [V] using hv
theorem VL.monoV {g g':Gh} (h:g.lv g'):∀(m:List AV) (vs:List Value),VL g m vs->VL g' m vs
 | [],_,hv=>by simpa only [VL] using hv
 | a::r,_,hv=>by
  simp only [VL] at hv ⊢;obtain ⟨v,s,e,d,l⟩:=hv;exact ⟨v,s,e,V.monoV h a v d,VL.monoV h r s l⟩
theorem VA.monoV {g g':Gh} (h:g.lv g'):∀(m:List AV) (vs:List Value),VA g m vs->VA g' m vs
 | [],_,hv=>by simpa only [VA] using hv
 | a::r,_,hv=>by
  simp only [VA] at hv ⊢;obtain ⟨v,s,e,⟨h0,d⟩,l⟩:=hv;exact ⟨v,s,e,⟨h0,V.monoV h a v d⟩,VA.monoV h r s l⟩
theorem VC.monoV {g g':Gh} (h:g.lv g') (b:Nat):∀(o:Nat) (m:List AV),VC g b o m->VC g' b o m
 | _,[],_=>by simp only [VC]
 | o,a::r,hv=>by
  simp only [VC] at hv ⊢;obtain ⟨⟨v,h0,d,l⟩,j⟩:=hv;exact ⟨⟨v,h.phi _ _ _ h0,d,V.monoV h a v l⟩,VC.monoV h b (o+1) r j⟩
theorem VE.monoV {g g':Gh} (h:g.lv g') (b k:Nat):∀(o:Nat) (m:List (List AV)),VE g b k o m->VE g' b k o m
 | _,[],_=>by simp only [VE]
 | o,e::r,hv=>by
  simp only [VE] at hv ⊢;obtain ⟨⟨h0,d⟩,l⟩:=hv;exact ⟨⟨h0,VC.monoV h b o e d⟩,VE.monoV h b k (o+k) r l⟩
end

theorem capOk.mono {g g':Gh} (h:g.le g') {id:Nat} {a:Option Addr} {n c k:Nat} (b:∃t,g.τ[id]?=some t/\capOk t a n c k):∃t,g'.τ[id]?=some t/\capOk t a n c k:=capOk.monoV h.lv b
theorem V.mono {g g':Gh} (h:g.le g') (a:AV) (v:Value) (b:V g a v):V g' a v:=V.monoV h.lv a v b
theorem VL.mono {g g':Gh} (h:g.le g') (a:List AV) (vs:List Value) (b:VL g a vs):VL g' a vs:=VL.monoV h.lv a vs b
theorem VA.mono {g g':Gh} (h:g.le g') (a:List AV) (vs:List Value) (b:VA g a vs):VA g' a vs:=VA.monoV h.lv a vs b
theorem VC.mono {g g':Gh} (h:g.le g') (b:Nat) (o:Nat) (a:List AV) (c:VC g b o a):VC g' b o a:=VC.monoV h.lv b o a c
theorem VE.mono {g g':Gh} (h:g.le g') (b k:Nat) (o:Nat) (es:List (List AV)) (a:VE g b k o es):VE g' b k o es:=VE.monoV h.lv b k o es a
theorem Gh.lv_dd (g:Gh) (d:List Nat):g.lv { g with δ:=d }:=⟨λ_ _ _ e=>e,λ_ _ e=>e,λ_ t e=>⟨t,e,Nat.le_refl _,λ_=>rfl,rfl⟩⟩
theorem VL.dd {g:Gh} {d:List Nat} {a:List AV} {vs:List Value} (h:VL g a vs):VL { g with δ:=d } a vs:=VL.monoV (g.lv_dd d) _ _ h

section
variable {g:Gh}
theorem VL.length:∀{a:List AV} {vs:List Value},VL g a vs->a.length=vs.length
 | [],_,h=>by simp only [VL] at h;subst h;rfl
 | _::r,_,h=>by
  simp only [VL] at h;obtain ⟨v,s,rfl,_,b⟩:=h;simp [VL.length b]
theorem VA.toVL:∀{a:List AV} {vs:List Value},VA g a vs->VL g a vs
 | [],_,h=>by simp only [VA] at h;simp only [VL];exact h
 | _::r,_,h=>by
  simp only [VA] at h;obtain ⟨v,s,rfl,⟨_,b⟩,c⟩:=h;simp only [VL];exact ⟨v,s,rfl,b,VA.toVL c⟩
theorem VA.ones:∀{a:List AV} {vs:List Value},VA g a vs->a.all AV.one=true
 | [],_,_=>rfl
 | _::r,_,h=>by
  simp only [VA] at h;obtain ⟨v,s,rfl,⟨h0,_⟩,b⟩:=h;simp [h0,VA.ones b]
theorem VA.mk:∀{a:List AV} {vs:List Value},VL g a vs->a.all AV.one=true->VA g a vs
 | [],_,h,_=>by simp only [VL] at h;simp only [VA];exact h
 | _::r,_,h,ho=>by
  simp only [VL] at h;obtain ⟨v,s,rfl,b,c⟩:=h;simp only [List.all_cons,Bool.and_eq_true] at ho;simp only [VA];exact ⟨v,s,rfl,⟨ho.1,b⟩,VA.mk c ho.2⟩
theorem VL.get:∀{b:List AV} {vs:List Value},VL g b vs->∀(i:Nat) (a:AV),b[i]?=some a->∃v,vs[i]?=some v/\V g a v
 | [],_,_,i,a,hi=>by simp at hi
 | _::r,_,h,i,a,hi=>by
  simp only [VL] at h;obtain ⟨v,s,rfl,c,d⟩:=h;cases i with
  | zero=>simp at hi;subst hi;exact ⟨v,rfl,c⟩
  | succ i=>simpa using VL.get d i a (by simpa using hi)
theorem VL.getR:∀{b:List AV} {vs:List Value},VL g b vs->∀(i:Nat) (v:Value),vs[i]?=some v->∃a,b[i]?=some a/\V g a v
 | [],_,h,i,v,hi=>by simp only [VL] at h;subst h;simp at hi
 | a::r,_,h,i,v,hi=>by
  simp only [VL] at h;obtain ⟨v',s,rfl,c,d⟩:=h;cases i with
  | zero=>simp at hi;subst hi;exact ⟨a,rfl,c⟩
  | succ i=>simpa using VL.getR d i v (by simpa using hi)
theorem VL.set:∀{b:List AV} {vs:List Value},VL g b vs->∀(i:Nat) (a:AV) (v:Value),V g a v->VL g (b.set i a) (vs.set i v)
 | [],_,h,i,a,v,_=>by simp only [VL] at h;subst h;simp [VL]
 | _::r,_,h,i,a,v,hv=>by
  simp only [VL] at h;obtain ⟨v',s,rfl,d,c⟩:=h;cases i with
  | zero=>simp only [List.set_cons_zero,VL];exact ⟨v,s,rfl,hv,c⟩
  | succ i=>simp only [List.set_cons_succ,VL];exact ⟨v',_,rfl,d,VL.set c i a v hv⟩
theorem VL.append:∀{a b:List AV} {vs ws:List Value},VL g a vs->VL g b ws->VL g (a++b) (vs++ws)
 | [],_,_,_,h,k=>by simp only [VL] at h;subst h;simpa using k
 | _::r,_,_,_,h,k=>by
  simp only [VL] at h;obtain ⟨v',s,rfl,c,d⟩:=h;simp only [List.cons_append,VL];exact ⟨v',_,rfl,c,VL.append d k⟩
theorem VL.take:∀{a:List AV} {vs:List Value} (n:Nat),VL g a vs->VL g (a.take n) (vs.take n)
 | [],_,n,h=>by simp only [VL] at h;subst h;simp [VL]
 | _::r,_,n,h=>by
  simp only [VL] at h;obtain ⟨v',s,rfl,b,c⟩:=h;cases n with
  | zero=>simp [VL]
  | succ n=>simp only [List.take_succ_cons,VL];exact ⟨v',_,rfl,b,VL.take n c⟩
theorem VL.drop:∀{a:List AV} {vs:List Value} (n:Nat),VL g a vs->VL g (a.drop n) (vs.drop n)
 | [],_,n,h=>by simp only [VL] at h;subst h;simp [VL]
 | _::r,_,n,h=>by
  have b:=h;simp only [VL] at h;obtain ⟨v',s,rfl,d,c⟩:=h;cases n with
  | zero=>simpa using b
  | succ n=>simpa using VL.drop n c
theorem VL.cons {a:AV} {v:Value} {b:List AV} {vs:List Value} (h:V g a v) (k:VL g b vs):VL g (a::b) (v::vs):=by
 simp only [VL];exact ⟨v,vs,rfl,h,k⟩
theorem all_take {α:Type} {p:α->Bool} {l:List α} (n:Nat) (h:l.all p=true):(l.take n).all p=true:=by
 rw [List.all_eq_true] at h ⊢;exact λx a=>h x (List.mem_of_mem_take a)
theorem all_drop {α:Type} {p:α->Bool} {l:List α} (n:Nat) (h:l.all p=true):(l.drop n).all p=true:=by
 rw [List.all_eq_true] at h ⊢;exact λx a=>h x (List.mem_of_mem_drop a)
theorem VA.append {a b:List AV} {vs ws:List Value} (h:VA g a vs) (k:VA g b ws):VA g (a++b) (vs++ws) :=
 VA.mk (VL.append h.toVL k.toVL) (by rw [List.all_append,h.ones,k.ones];rfl)
theorem VA.take {a:List AV} {vs:List Value} (n:Nat) (h:VA g a vs):VA g (a.take n) (vs.take n):=VA.mk (VL.take n h.toVL) (all_take n h.ones)
theorem VA.drop {a:List AV} {vs:List Value} (n:Nat) (h:VA g a vs):VA g (a.drop n) (vs.drop n):=VA.mk (VL.drop n h.toVL) (all_drop n h.ones)

theorem VC.get {b:Nat}:∀{o:Nat} {c:List AV},VC g b o c->∀(i:Nat) (a:AV),c[i]?=some a->∃v,g.Φ b (o+i)=some v/\a.pure=true/\V g a v
 | _,[],_,i,a,hi=>by simp at hi
 | o,_::r,h,i,a,hi=>by
  simp only [VC] at h;obtain ⟨⟨v,h0,f,k⟩,d⟩:=h;cases i with
  | zero=>simp at hi;subst hi;exact ⟨v,h0,f,k⟩
  | succ i =>
   obtain ⟨v',j,l,e⟩:=VC.get d i a (by simpa using hi);exact ⟨v',by rw [show o+(i+1)=o+1+i by omega];exact j,l,e⟩
theorem VC.mk {b:Nat}:∀{o:Nat} {c:List AV},(∀(i:Nat) (a:AV),c[i]?=some a->∃v,g.Φ b (o+i)=some v/\a.pure=true/\V g a v)->VC g b o c
 | _,[],_=>by simp only [VC]
 | o,a::r,h=>by
  simp only [VC];refine ⟨by simpa using h 0 a rfl,VC.mk (o:=o+1) λi x f=>?_⟩;obtain ⟨v,e,j,d⟩:=h (i+1) x (by simpa using f);exact ⟨v,by rw [show o+1+i=o+(i+1) by omega];exact e,j,d⟩
theorem VC.drop {b o:Nat} {c:List AV} (n:Nat) (h:VC g b o c):VC g b (o+n) (c.drop n):=VC.mk λi a d=>by
 rw [List.getElem?_drop] at d;obtain ⟨v,e,f⟩:=h.get _ _ d;exact ⟨v,by rw [show o+n+i=o+(n+i) by omega];exact e,f⟩
theorem VC.take {b o:Nat} {d:List AV} (n:Nat) (h:VC g b o d):VC g b o (d.take n):=VC.mk λi a c=>by
 rw [List.getElem?_take] at c;split at c
 ·exact h.get _ _ c
 ·cases c
theorem VC.append {b o:Nat} {c e:List AV} (h:VC g b o c) (k:VC g b (o+c.length) e):VC g b o (c++e):=VC.mk λi a d=>by
 by_cases hi:i < c.length
 ·rw [List.getElem?_append_left hi] at d;exact h.get _ _ d
 ·rw [List.getElem?_append_right (by omega)] at d;obtain ⟨v,f,j⟩:=k.get _ _ d;exact ⟨v,by rw [show o+i=o+c.length+(i - c.length) by omega];exact f,j⟩
theorem VE.get {b k:Nat}:∀{o:Nat} {es:List (List AV)},VE g b k o es->∀(i:Nat) (e:List AV),es[i]?=some e->e.length=k/\VC g b (o+i * k) e
 | _,[],_,i,e,hi=>by simp at hi
 | o,_::r,h,i,e,hi=>by
  simp only [VE] at h;obtain ⟨⟨h0,a⟩,d⟩:=h;cases i with
  | zero=>simp at hi;subst hi;exact ⟨h0,by simpa using a⟩
  | succ i =>
   obtain ⟨c,f⟩:=VE.get d i e (by simpa using hi);exact ⟨c,by rw [show o+(i+1) * k=o+k+i * k by rw [Nat.succ_mul];omega];exact f⟩
theorem VE.mk {b k:Nat}:∀{o:Nat} {es:List (List AV)},(∀(i:Nat) (e:List AV),es[i]?=some e->e.length=k/\VC g b (o+i * k) e)->VE g b k o es
 | _,[],_=>by simp only [VE]
 | o,e::r,h=>by
  simp only [VE];refine ⟨by simpa using h 0 e rfl,VE.mk (o:=o+k) λi x c=>?_⟩;obtain ⟨a,d⟩:=h (i+1) x (by simpa using c);exact ⟨a,by rw [show o+k+i * k=o+(i+1) * k by rw [Nat.succ_mul];omega];exact d⟩
theorem VE.drop {b k o:Nat} {es:List (List AV)} (n:Nat) (h:VE g b k o es):VE g b k (o+n * k) (es.drop n):=VE.mk λi a c=>by
 rw [List.getElem?_drop] at c;obtain ⟨d,e⟩:=h.get _ _ c;exact ⟨d,by rw [show o+n * k+i * k=o+(n+i) * k by rw [Nat.add_mul];omega];exact e⟩
theorem VE.take {b k o:Nat} {es:List (List AV)} (n:Nat) (h:VE g b k o es):VE g b k o (es.take n):=VE.mk λi a c=>by
 rw [List.getElem?_take] at c;split at c
 ·exact h.get _ _ c
 ·cases c
theorem VE.append {b k o:Nat} {es fs:List (List AV)} (h:VE g b k o es) (d:VE g b k (o+es.length * k) fs):VE g b k o (es++fs):=VE.mk λi a c=>by
 by_cases hi:i < es.length
 ·rw [List.getElem?_append_left hi] at c;exact h.get _ _ c
 ·rw [List.getElem?_append_right (by omega)] at c;obtain ⟨e,f⟩:=d.get _ _ c;refine ⟨e,?_⟩;have:o+i * k=o+es.length * k+(i - es.length) * k:=by
   rw [Nat.add_assoc,<- Nat.add_mul];congr 2;omega
  rw [this];exact f
end
end Go.Vv
