/- The abstract domain of this proof: values that hold the contents of unchanging memory, a small heap of boxed variables, and how they stand to the model's values. -/
import Derived.WalkKit
import Derived.RangeFuncLeaves
namespace Go.Vv
open Go

inductive AV where
 | bool (b:Bool)
 | int (k:IntKind) (n:Int)
 | str (s:List UInt8)
 | nilp | nilm | nilf | nili | nilsl
 | ptr (id off:Nat)
 | fptr (cs:List AV)
 | sl (k:Nat) (es:List (List AV))
 | osl (o:Option Nat) (k:Nat) (es:List (List AV))
 | msl (k id off len:Nat)
 | rsl (id t k n:Nat)
 | rptr (id t k n p:Nat)
 | rsuf (id t k n i:Nat)
 | map (id:Nat)
 | fn (f:Fn) (first caps:List AV)
 | iface (t:TypeId) (v:AV)
 | agg (cs:List AV)
 | tup (vs:List AV)
 | glob (g:Nat)
 | yld (id:Nat)
 | bsl (k:Nat) (es:List (List AV))
 | nsl (k:Nat) (es:List (List AV))
 | gsl (k n:Nat)
 | gptr (m:Nat)
 | any
 | opq
 deriving Inhabited

def za:AV:=.tup []

def AV.one:AV→Bool
 | .agg _ | .tup _ | .any=>false
 | _=>true

def AV.pure:AV→Bool
 | .bool _ | .int _ _ | .str _ | .nilp | .nilm | .nilf | .nili | .sl _ _ | .bsl _ _ | .nsl _ _ | .gsl _ _ | .fn _ [] []=>true
 | _=>false
theorem AV.one_of_pure {a:AV} (h:a.pure=true):a.one=true:=by
 unfold AV.pure at h
 split at h <;> first | rfl | cases h

def AV.cells?:AV→Option (List AV)
 | .agg cs=>some cs
 | .tup _ | .any=>none
 | v=>some [v]

inductive Blk where
 | cells (cs:List AV)
 | siter (s:List UInt8) (pos:Nat)
 | loop (st:LoopState) (pe:Option Code) (env:List AV) (ps:Array Tmp) (assign body:Code)
 | mapo (es:List (AV×AV)) (clock:Nat)
 | miter (id n:Nat) (seen:List Nat)
 | miter0
 | row (t k:Nat) (es:List (List AV))
 | other
 | dead
 deriving Inhabited

structure AH where
 blks:List Blk
 toks:List Nat
 deriving Inhabited

structure TI where
 n:Nat
 loc:Option (Nat×Nat×Nat)
 row:Bool:=false

inductive BK where
 | new (s:Nat)
 | gar (s:Nat)
 | shut (o:Obj)
 | frz (o:Obj)
structure Gh where
 Φ:Nat→Nat→Option Value
 σ:List (Option Nat)
 τ:List TI
 δ:List Nat
 N:Nat→Option BK:=fun _=>none
 O:Nat→Prop:=fun _=>False

def capOk (t:TI) (a:Option Addr) (n c k:Nat):Prop :=
 t.row=false∧n≤t.n∧(n=t.n→c=n ∨ ∃ b o,a=some ⟨b,o,none⟩∧t.loc=some (b,o+n * k,o+c * k))

def rowHd (t:TI) (a:Option Addr) (n c k:Nat):Prop :=
 t.row=true∧n≤t.n∧((n=0∧c=0) ∨ ∃ b o,a=some ⟨b,o,none⟩∧(n=t.n→t.loc=some (b,o+n * k,o+c * k)))
def rowPt (t:TI) (b q n k p:Nat):Prop :=
 t.row=true∧n≤t.n∧(n=t.n→∃ o e,q=o+p∧t.loc=some (b,o+n * k,e))

mutual
def V (g:Gh):AV→Value→Prop
 | .bool b,v=>v=.bool b
 | .int k n,v=>v=.int k n
 | .str s,v=>v=.string ⟨s.toArray⟩∧s.length≤maxLen
 | .nilp,v=>v=.pointer none
 | .nilm,v=>v=.map none
 | .nilf,v=>v=.nilFunc
 | .nili,v=>v=.nilIface
 | .nilsl,v=>v=.slice none 0 0
 | .ptr id off,v=>∃ c,g.σ[id]?=some (some c)∧v=.pointer (some ⟨c,off,none⟩)
 | .fptr cs,v=>∃ b o,v=.pointer (some ⟨b,o,none⟩)∧VC g b o cs
 | .sl k es,v=>∃ a c,v=.slice a es.length c∧es.length≤c∧c≤maxLen∧(es=[] ∨ ∃ b o,a=some ⟨b,o,none⟩∧VE g b k o es)
 | .osl q k es,v=>∃ a c,v=.slice a es.length c∧es.length≤c∧c≤maxLen∧(es=[] ∨ ∃ b o,a=some ⟨b,o,none⟩∧VE g b k o es) ∧
   (match q with
       | none=>c=es.length
       | some id=>∃ t,g.τ[id]?=some t∧capOk t a es.length c k)
 | .msl _ id off len,v=>∃ c cap,g.σ[id]?=some (some c)∧v=.slice (some ⟨c,off,none⟩) len cap∧len≤cap∧cap≤maxLen
 | .rsl _ i k n,v=>∃ a c,v=.slice a n c∧n≤c∧c≤maxLen∧∃ t,g.τ[i]?=some t∧rowHd t a n c k
 | .rptr _ i k n p,v=>∃ b q,v=.pointer (some ⟨b,q,none⟩)∧∃ t,g.τ[i]?=some t∧rowPt t b q n k p
 | .rsuf _ i k n p,v=>∃ a c,v=.slice a (n - p) c∧(p≤n∧n≤maxLen)∧∃ t,g.τ[i]?=some t∧(n - p=0 ∨ ∃ b q,a=some ⟨b,q,none⟩∧rowPt t b q n k (p * k))
 | .map id,v=>∃ c,g.σ[id]?=some (some c)∧v=.map (some c)
 | .fn f first caps,v=>∃ fs cs,v=.func f fs cs∧VL g first fs.toList∧VL g caps cs.toList
 | .iface t x,v=>∃ u,v=.iface t u∧V g x u
 | .agg cs,v=>∃ vs,v=.agg vs∧VA g cs vs.toList
 | .tup xs,v=>∃ vs,v=.tuple vs∧VL g xs vs.toList
 | .glob n,v=>v=.pointer (some ⟨n,0,none⟩)
 | .yld id,v=>∃ c,g.σ[id]?=some (some c)∧v=.func (.yield c) #[] #[]
 | .bsl k es,v=>∃ a c,v=.slice a es.length c∧es.length≤c∧c≤maxLen∧(es=[] ∨ ∃ b o,a=some ⟨b,o,none⟩∧VE g b k o es∧g.O b)
 | .nsl k es,v=>∃ a c,v=.slice a es.length c∧es.length≤c∧c≤maxLen∧(es=[] ∨ ∃ b o,a=some ⟨b,o,none⟩∧VE g b k o es∧∃ s,g.N b=some (.new s))
 | .gsl k n,v=>∃ a c,v=.slice a n c∧n≤c∧c≤maxLen∧(n=0 ∨ ∃ b o s,a=some ⟨b,o,none⟩∧g.N b=some (.gar s)∧o+n * k≤s)
 | .gptr m,v=>∃ b o s,v=.pointer (some ⟨b,o,none⟩)∧g.N b=some (.gar s)∧o+m≤s
 | .any,_=>True
 | .opq,v=>v.oneCell'=true
def VL (g:Gh):List AV→List Value→Prop
 | [],vs=>vs=[]
 | a::r,vs=>∃ v s,vs=v::s∧V g a v∧VL g r s
def VA (g:Gh):List AV→List Value→Prop
 | [],vs=>vs=[]
 | a::r,vs=>∃ v s,vs=v::s∧(a.one=true∧V g a v)∧VA g r s
def VC (g:Gh) (b:Nat):Nat→List AV→Prop
 | _,[]=>True
 | o,a::r=>(∃ v,g.Φ b o=some v∧a.pure=true∧V g a v)∧VC g b (o+1) r
def VE (g:Gh) (b k:Nat):Nat→List (List AV)→Prop
 | _,[]=>True
 | o,e::r=>(e.length=k∧VC g b o e)∧VE g b k (o+k) r
end


structure Gh.lv (g g':Gh):Prop where
 phi:∀ b j v,g.Φ b j=some v→g'.Φ b j=some v
 sig:∀ (i:Nat) (c:Option Nat),g.σ[i]?=some c→g'.σ[i]?=some c
 tau:∀ (i:Nat) (t:TI),g.τ[i]?=some t→∃ t',g'.τ[i]?=some t'∧t.n≤t'.n∧(t.n=t'.n→t'=t)∧t'.row=t.row
 new:∀ (b:Nat) (x:BK),g.N b=some x→g'.N b=some x
 old:∀ b:Nat,g.O b→g'.O b
structure Gh.le (g g':Gh):Prop where
 phi:∀ b j v,g.Φ b j=some v→g'.Φ b j=some v
 sig:∀ (i:Nat) (c:Option Nat),g.σ[i]?=some c→g'.σ[i]?=some c
 tau:∀ (i:Nat) (t:TI),g.τ[i]?=some t→∃ t',g'.τ[i]?=some t'∧t.n≤t'.n∧(t.n=t'.n→t'=t)∧t'.row=t.row
 del:∀ c,c ∈ g.δ→c ∈ g'.δ
 new:∀ (b:Nat) (x:BK),g.N b=some x→g'.N b=some x
 old:∀ b:Nat,g.O b→g'.O b
theorem Gh.le.lv {g g':Gh} (h:g.le g'):g.lv g':=⟨h.phi,h.sig,h.tau,h.new,h.old⟩

theorem Gh.le.refl (g:Gh):g.le g:=⟨fun _ _ _ h=>h,fun _ _ h=>h,fun _ t h=>⟨t,h,Nat.le_refl _,fun _=>rfl,rfl⟩,fun _ h=>h,fun _ _ h=>h,fun _ h=>h⟩
theorem Gh.le.trans {a b c:Gh} (h:a.le b) (k:b.le c):a.le c :=
 ⟨fun x y v e=>k.phi _ _ _ (h.phi x y v e),fun i x e=>k.sig _ _ (h.sig i x e),fun i t e=>by
  obtain ⟨t1,e1,l1,q1,s1⟩:=h.tau i t e
  obtain ⟨t2,e2,l2,q2,s2⟩:=k.tau i t1 e1
  refine ⟨t2,e2,Nat.le_trans l1 l2,fun q=>?_,s2.trans s1⟩
  have hq:t.n=t1.n:=by omega
  have:=q1 hq
  subst this
  exact q2 q,fun c hc=>k.del c (h.del c hc),fun b x e=>k.new b x (h.new b x e),fun b e=>k.old b (h.old b e)⟩

theorem capOk.monoV {g g':Gh} (h:g.lv g') {id:Nat} {a:Option Addr} {n c k:Nat} (hc:∃ t,g.τ[id]?=some t∧capOk t a n c k) :
  ∃ t,g'.τ[id]?=some t∧capOk t a n c k:=by
 obtain ⟨t,ht,h0,h1,h2⟩:=hc
 obtain ⟨t',ht',hl,hq,hs⟩:=h.tau _ _ ht
 refine ⟨t',ht',hs.trans h0,Nat.le_trans h1 hl,fun he=>?_⟩
 have:t.n=t'.n:=by omega
 have:=hq this
 subst this
 exact h2 he

theorem rowHd.monoV {g g':Gh} (h:g.lv g') {id:Nat} {a:Option Addr} {n c k:Nat} (hc:∃ t,g.τ[id]?=some t∧rowHd t a n c k) :
  ∃ t,g'.τ[id]?=some t∧rowHd t a n c k:=by
 obtain ⟨t,ht,h0,h1,h2⟩:=hc
 obtain ⟨t',ht',hl,hq,hs⟩:=h.tau _ _ ht
 refine ⟨t',ht',hs.trans h0,Nat.le_trans h1 hl,h2.imp (fun h=>h) fun ⟨b,o,h3,h4⟩=>⟨b,o,h3,fun he=>?_⟩⟩
 have:t.n=t'.n:=by omega
 have:=hq this
 subst this
 exact h4 he
theorem rowPt.monoV {g g':Gh} (h:g.lv g') {id:Nat} {b q n k p:Nat} (hc:∃ t,g.τ[id]?=some t∧rowPt t b q n k p) :
  ∃ t,g'.τ[id]?=some t∧rowPt t b q n k p:=by
 obtain ⟨t,ht,h0,h1,h2⟩:=hc
 obtain ⟨t',ht',hl,hq,hs⟩:=h.tau _ _ ht
 refine ⟨t',ht',hs.trans h0,Nat.le_trans h1 hl,fun he=>?_⟩
 have:t.n=t'.n:=by omega
 have:=hq this
 subst this
 exact h2 he

mutual
theorem V.monoV {g g':Gh} (h:g.lv g'):∀ (a:AV) (v:Value),V g a v→V g' a v
 | .bool _,_,hv=>by simpa only [V] using hv
 | .int _ _,_,hv=>by simpa only [V] using hv
 | .str _,_,hv=>by simpa only [V] using hv
 | .nilp,_,hv=>by simpa only [V] using hv
 | .nilm,_,hv=>by simpa only [V] using hv
 | .nilf,_,hv=>by simpa only [V] using hv
 | .nili,_,hv=>by simpa only [V] using hv
 | .nilsl,_,hv=>by simpa only [V] using hv
 | .ptr _ _,_,hv=>by
  simp only [V] at hv ⊢
  obtain ⟨c,hc,e⟩:=hv
  exact ⟨c,h.sig _ _ hc,e⟩
 | .fptr cs,_,hv=>by
  simp only [V] at hv ⊢
  obtain ⟨b,o,e,hc⟩:=hv
  exact ⟨b,o,e,VC.monoV h b o cs hc⟩
 | .sl k es,_,hv=>by
  simp only [V] at hv ⊢
  obtain ⟨a,c,e,h1,h2,h3⟩:=hv
  exact ⟨a,c,e,h1,h2,h3.imp id fun ⟨b,o,e,hh⟩=>⟨b,o,e,VE.monoV h b k o es hh⟩⟩
 | .osl q k es,_,hv=>by
  simp only [V] at hv ⊢
  obtain ⟨a,c,e,h1,h2,h3,h4⟩:=hv
  refine ⟨a,c,e,h1,h2,h3.imp id fun ⟨b,o,e,hh⟩=>⟨b,o,e,VE.monoV h b k o es hh⟩,?_⟩
  cases q with
  | none=>exact h4
  | some id=>exact capOk.monoV h h4
 | .msl _ _ _ _,_,hv=>by
  simp only [V] at hv ⊢
  obtain ⟨c,cap,hc,e⟩:=hv
  exact ⟨c,cap,h.sig _ _ hc,e⟩
 | .rsl _ _ _ _,_,hv=>by
  simp only [V] at hv ⊢
  obtain ⟨a,c,e,h1,h2,h3⟩:=hv
  exact ⟨a,c,e,h1,h2,rowHd.monoV h h3⟩
 | .rsuf _ i k n p,_,hv=>by
  simp only [V] at hv ⊢
  obtain ⟨a,c,e,h1,t,ht,h3⟩:=hv
  rcases h3 with h3 | ⟨b,q,e2,h3⟩
  ·obtain ⟨t',ht',_⟩:=h.tau _ _ ht
   exact ⟨a,c,e,h1,t',ht',.inl h3⟩
  ·obtain ⟨t',ht',h4⟩:=rowPt.monoV h ⟨t,ht,h3⟩
   exact ⟨a,c,e,h1,t',ht',.inr ⟨b,q,e2,h4⟩⟩
 | .rptr _ _ _ _ _,_,hv=>by
  simp only [V] at hv ⊢
  obtain ⟨b,q,e,h3⟩:=hv
  exact ⟨b,q,e,rowPt.monoV h h3⟩
 | .map _,_,hv=>by
  simp only [V] at hv ⊢
  obtain ⟨c,hc,e⟩:=hv
  exact ⟨c,h.sig _ _ hc,e⟩
 | .fn f as bs,_,hv=>by
  simp only [V] at hv ⊢
  obtain ⟨fs,cs,e,h1,h2⟩:=hv
  exact ⟨fs,cs,e,VL.monoV h as _ h1,VL.monoV h bs _ h2⟩
 | .iface t x,_,hv=>by
  simp only [V] at hv ⊢
  obtain ⟨u,e,h1⟩:=hv
  exact ⟨u,e,V.monoV h x u h1⟩
 | .agg cs,_,hv=>by
  simp only [V] at hv ⊢
  obtain ⟨vs,e,h1⟩:=hv
  exact ⟨vs,e,VA.monoV h cs _ h1⟩
 | .tup xs,_,hv=>by
  simp only [V] at hv ⊢
  obtain ⟨vs,e,h1⟩:=hv
  exact ⟨vs,e,VL.monoV h xs _ h1⟩
 | .glob _,_,hv=>by simpa only [V] using hv
 | .yld _,_,hv=>by
  simp only [V] at hv ⊢
  obtain ⟨c,hc,e⟩:=hv
  exact ⟨c,h.sig _ _ hc,e⟩
 | .bsl k es,_,hv=>by
  simp only [V] at hv ⊢
  obtain ⟨a,c,e,h1,h2,h3⟩:=hv
  exact ⟨a,c,e,h1,h2,h3.imp id fun ⟨b,o,e,hh,hn⟩=>⟨b,o,e,VE.monoV h b k o es hh,h.old _ hn⟩⟩
 | .nsl k es,_,hv=>by
  simp only [V] at hv ⊢
  obtain ⟨a,c,e,h1,h2,h3⟩:=hv
  exact ⟨a,c,e,h1,h2,h3.imp id fun ⟨b,o,e,hh,s,hn⟩=>⟨b,o,e,VE.monoV h b k o es hh,s,h.new _ _ hn⟩⟩
 | .gsl k n,_,hv=>by
  simp only [V] at hv ⊢
  obtain ⟨a,c,e,h1,h2,h3⟩:=hv
  exact ⟨a,c,e,h1,h2,h3.imp id fun ⟨b,o,s,e,hn,hs⟩=>⟨b,o,s,e,h.new _ _ hn,hs⟩⟩
 | .gptr m,_,hv=>by
  simp only [V] at hv ⊢
  obtain ⟨b,o,s,e,hn,hs⟩:=hv
  exact ⟨b,o,s,e,h.new _ _ hn,hs⟩
 | .any,_,_=>by simp only [V]
 | .opq,_,hv=>by simpa only [V] using hv
theorem VL.monoV {g g':Gh} (h:g.lv g'):∀ (as:List AV) (vs:List Value),VL g as vs→VL g' as vs
 | [],_,hv=>by simpa only [VL] using hv
 | a::r,_,hv=>by
  simp only [VL] at hv ⊢
  obtain ⟨v,s,e,h1,h2⟩:=hv
  exact ⟨v,s,e,V.monoV h a v h1,VL.monoV h r s h2⟩
theorem VA.monoV {g g':Gh} (h:g.lv g'):∀ (as:List AV) (vs:List Value),VA g as vs→VA g' as vs
 | [],_,hv=>by simpa only [VA] using hv
 | a::r,_,hv=>by
  simp only [VA] at hv ⊢
  obtain ⟨v,s,e,⟨h0,h1⟩,h2⟩:=hv
  exact ⟨v,s,e,⟨h0,V.monoV h a v h1⟩,VA.monoV h r s h2⟩
theorem VC.monoV {g g':Gh} (h:g.lv g') (b:Nat):∀ (o:Nat) (as:List AV),VC g b o as→VC g' b o as
 | _,[],_=>by simp only [VC]
 | o,a::r,hv=>by
  simp only [VC] at hv ⊢
  obtain ⟨⟨v,h0,h1,h2⟩,h3⟩:=hv
  exact ⟨⟨v,h.phi _ _ _ h0,h1,V.monoV h a v h2⟩,VC.monoV h b (o+1) r h3⟩
theorem VE.monoV {g g':Gh} (h:g.lv g') (b k:Nat):∀ (o:Nat) (as:List (List AV)),VE g b k o as→VE g' b k o as
 | _,[],_=>by simp only [VE]
 | o,e::r,hv=>by
  simp only [VE] at hv ⊢
  obtain ⟨⟨h0,h1⟩,h2⟩:=hv
  exact ⟨⟨h0,VC.monoV h b o e h1⟩,VE.monoV h b k (o+k) r h2⟩
end

theorem capOk.mono {g g':Gh} (h:g.le g') {id:Nat} {a:Option Addr} {n c k:Nat} (hc:∃ t,g.τ[id]?=some t∧capOk t a n c k):∃ t,g'.τ[id]?=some t∧capOk t a n c k:=capOk.monoV h.lv hc
theorem V.mono {g g':Gh} (h:g.le g') (a:AV) (v:Value) (hv:V g a v):V g' a v:=V.monoV h.lv a v hv
theorem VL.mono {g g':Gh} (h:g.le g') (as:List AV) (vs:List Value) (hv:VL g as vs):VL g' as vs:=VL.monoV h.lv as vs hv
theorem VA.mono {g g':Gh} (h:g.le g') (as:List AV) (vs:List Value) (hv:VA g as vs):VA g' as vs:=VA.monoV h.lv as vs hv
theorem VC.mono {g g':Gh} (h:g.le g') (b:Nat) (o:Nat) (as:List AV) (hv:VC g b o as):VC g' b o as:=VC.monoV h.lv b o as hv
theorem VE.mono {g g':Gh} (h:g.le g') (b k:Nat) (o:Nat) (es:List (List AV)) (hv:VE g b k o es):VE g' b k o es:=VE.monoV h.lv b k o es hv
theorem Gh.lv_dd (g:Gh) (d:List Nat):g.lv { g with δ:=d }:=⟨fun _ _ _ e=>e,fun _ _ e=>e,fun _ t e=>⟨t,e,Nat.le_refl _,fun _=>rfl,rfl⟩,fun _ _ e=>e,fun _ e=>e⟩
theorem VL.dd {g:Gh} {d:List Nat} {as:List AV} {vs:List Value} (h:VL g as vs):VL { g with δ:=d } as vs:=VL.monoV (g.lv_dd d) _ _ h

section
variable {g:Gh}
theorem VL.length:∀ {as:List AV} {vs:List Value},VL g as vs→as.length=vs.length
 | [],_,h=>by simp only [VL] at h;subst h;rfl
 | _::r,_,h=>by
  simp only [VL] at h
  obtain ⟨v,s,rfl,_,h2⟩:=h
  simp [VL.length h2]
theorem VA.toVL:∀ {as:List AV} {vs:List Value},VA g as vs→VL g as vs
 | [],_,h=>by simp only [VA] at h;simp only [VL];exact h
 | _::r,_,h=>by
  simp only [VA] at h
  obtain ⟨v,s,rfl,⟨_,h1⟩,h2⟩:=h
  simp only [VL]
  exact ⟨v,s,rfl,h1,VA.toVL h2⟩
theorem VA.ones:∀ {as:List AV} {vs:List Value},VA g as vs→as.all AV.one=true
 | [],_,_=>rfl
 | _::r,_,h=>by
  simp only [VA] at h
  obtain ⟨v,s,rfl,⟨h0,_⟩,h2⟩:=h
  simp [h0,VA.ones h2]
theorem VA.mk:∀ {as:List AV} {vs:List Value},VL g as vs→as.all AV.one=true→VA g as vs
 | [],_,h,_=>by simp only [VL] at h;simp only [VA];exact h
 | _::r,_,h,ho=>by
  simp only [VL] at h
  obtain ⟨v,s,rfl,h1,h2⟩:=h
  simp only [List.all_cons,Bool.and_eq_true] at ho
  simp only [VA]
  exact ⟨v,s,rfl,⟨ho.1,h1⟩,VA.mk h2 ho.2⟩
theorem VL.get:∀ {as:List AV} {vs:List Value},VL g as vs→∀ (i:Nat) (a:AV),as[i]?=some a→∃ v,vs[i]?=some v∧V g a v
 | [],_,_,i,a,hi=>by simp at hi
 | _::r,_,h,i,a,hi=>by
  simp only [VL] at h
  obtain ⟨v,s,rfl,h1,h2⟩:=h
  cases i with
  | zero=>simp at hi;subst hi;exact ⟨v,rfl,h1⟩
  | succ i=>simpa using VL.get h2 i a (by simpa using hi)
theorem VL.getR:∀ {as:List AV} {vs:List Value},VL g as vs→∀ (i:Nat) (v:Value),vs[i]?=some v→∃ a,as[i]?=some a∧V g a v
 | [],_,h,i,v,hi=>by simp only [VL] at h;subst h;simp at hi
 | a::r,_,h,i,v,hi=>by
  simp only [VL] at h
  obtain ⟨v',s,rfl,h1,h2⟩:=h
  cases i with
  | zero=>simp at hi;subst hi;exact ⟨a,rfl,h1⟩
  | succ i=>simpa using VL.getR h2 i v (by simpa using hi)
theorem VL.set:∀ {as:List AV} {vs:List Value},VL g as vs→∀ (i:Nat) (a:AV) (v:Value),V g a v→VL g (as.set i a) (vs.set i v)
 | [],_,h,i,a,v,_=>by simp only [VL] at h;subst h;simp [VL]
 | _::r,_,h,i,a,v,hv=>by
  simp only [VL] at h
  obtain ⟨v',s,rfl,h1,h2⟩:=h
  cases i with
  | zero=>simp only [List.set_cons_zero,VL];exact ⟨v,s,rfl,hv,h2⟩
  | succ i=>simp only [List.set_cons_succ,VL];exact ⟨v',_,rfl,h1,VL.set h2 i a v hv⟩
theorem VL.append:∀ {as bs:List AV} {vs ws:List Value},VL g as vs→VL g bs ws→VL g (as++bs) (vs++ws)
 | [],_,_,_,h,k=>by simp only [VL] at h;subst h;simpa using k
 | _::r,_,_,_,h,k=>by
  simp only [VL] at h
  obtain ⟨v',s,rfl,h1,h2⟩:=h
  simp only [List.cons_append,VL]
  exact ⟨v',_,rfl,h1,VL.append h2 k⟩
theorem VL.take:∀ {as:List AV} {vs:List Value} (n:Nat),VL g as vs→VL g (as.take n) (vs.take n)
 | [],_,n,h=>by simp only [VL] at h;subst h;simp [VL]
 | _::r,_,n,h=>by
  simp only [VL] at h
  obtain ⟨v',s,rfl,h1,h2⟩:=h
  cases n with
  | zero=>simp [VL]
  | succ n=>simp only [List.take_succ_cons,VL];exact ⟨v',_,rfl,h1,VL.take n h2⟩
theorem VL.drop:∀ {as:List AV} {vs:List Value} (n:Nat),VL g as vs→VL g (as.drop n) (vs.drop n)
 | [],_,n,h=>by simp only [VL] at h;subst h;simp [VL]
 | _::r,_,n,h=>by
  have h':=h
  simp only [VL] at h
  obtain ⟨v',s,rfl,h1,h2⟩:=h
  cases n with
  | zero=>simpa using h'
  | succ n=>simpa using VL.drop n h2
theorem VL.cons {a:AV} {v:Value} {as:List AV} {vs:List Value} (h:V g a v) (k:VL g as vs):VL g (a::as) (v::vs):=by
 simp only [VL];exact ⟨v,vs,rfl,h,k⟩
theorem all_take {α:Type} {p:α→Bool} {l:List α} (n:Nat) (h:l.all p=true):(l.take n).all p=true:=by
 rw [List.all_eq_true] at h ⊢
 exact fun x hx=>h x (List.mem_of_mem_take hx)
theorem all_drop {α:Type} {p:α→Bool} {l:List α} (n:Nat) (h:l.all p=true):(l.drop n).all p=true:=by
 rw [List.all_eq_true] at h ⊢
 exact fun x hx=>h x (List.mem_of_mem_drop hx)
theorem VA.append {as bs:List AV} {vs ws:List Value} (h:VA g as vs) (k:VA g bs ws):VA g (as++bs) (vs++ws) :=
 VA.mk (VL.append h.toVL k.toVL) (by rw [List.all_append,h.ones,k.ones];rfl)
theorem VA.take {as:List AV} {vs:List Value} (n:Nat) (h:VA g as vs):VA g (as.take n) (vs.take n):=VA.mk (VL.take n h.toVL) (all_take n h.ones)
theorem VA.drop {as:List AV} {vs:List Value} (n:Nat) (h:VA g as vs):VA g (as.drop n) (vs.drop n):=VA.mk (VL.drop n h.toVL) (all_drop n h.ones)

theorem VC.get {b:Nat}:∀ {o:Nat} {as:List AV},VC g b o as→∀ (i:Nat) (a:AV),as[i]?=some a→∃ v,g.Φ b (o+i)=some v∧a.pure=true∧V g a v
 | _,[],_,i,a,hi=>by simp at hi
 | o,_::r,h,i,a,hi=>by
  simp only [VC] at h
  obtain ⟨⟨v,h0,h1,h2⟩,h3⟩:=h
  cases i with
  | zero=>simp at hi;subst hi;exact ⟨v,h0,h1,h2⟩
  | succ i =>
   obtain ⟨v',e1,e2,e3⟩:=VC.get h3 i a (by simpa using hi)
   exact ⟨v',by rw [show o+(i+1)=o+1+i by omega];exact e1,e2,e3⟩
theorem VC.mk {b:Nat}:∀ {o:Nat} {as:List AV},(∀ (i:Nat) (a:AV),as[i]?=some a→∃ v,g.Φ b (o+i)=some v∧a.pure=true∧V g a v)→VC g b o as
 | _,[],_=>by simp only [VC]
 | o,a::r,h=>by
  simp only [VC]
  refine ⟨by simpa using h 0 a rfl,VC.mk (o:=o+1) fun i x hx=>?_⟩
  obtain ⟨v,e1,e2,e3⟩:=h (i+1) x (by simpa using hx)
  exact ⟨v,by rw [show o+1+i=o+(i+1) by omega];exact e1,e2,e3⟩
theorem VC.drop {b o:Nat} {as:List AV} (n:Nat) (h:VC g b o as):VC g b (o+n) (as.drop n):=VC.mk fun i a ha=>by
 rw [List.getElem?_drop] at ha
 obtain ⟨v,e1,e2⟩:=h.get _ _ ha
 exact ⟨v,by rw [show o+n+i=o+(n+i) by omega];exact e1,e2⟩
theorem VC.take {b o:Nat} {as:List AV} (n:Nat) (h:VC g b o as):VC g b o (as.take n):=VC.mk fun i a ha=>by
 rw [List.getElem?_take] at ha
 split at ha
 ·exact h.get _ _ ha
 ·cases ha
theorem VC.append {b o:Nat} {as bs:List AV} (h:VC g b o as) (k:VC g b (o+as.length) bs):VC g b o (as++bs):=VC.mk fun i a ha=>by
 by_cases hi:i < as.length
 ·rw [List.getElem?_append_left hi] at ha
  exact h.get _ _ ha
 ·rw [List.getElem?_append_right (by omega)] at ha
  obtain ⟨v,e1,e2⟩:=k.get _ _ ha
  exact ⟨v,by rw [show o+i=o+as.length+(i - as.length) by omega];exact e1,e2⟩
theorem VE.get {b k:Nat}:∀ {o:Nat} {es:List (List AV)},VE g b k o es→∀ (i:Nat) (e:List AV),es[i]?=some e→e.length=k∧VC g b (o+i * k) e
 | _,[],_,i,e,hi=>by simp at hi
 | o,_::r,h,i,e,hi=>by
  simp only [VE] at h
  obtain ⟨⟨h0,h1⟩,h2⟩:=h
  cases i with
  | zero=>simp at hi;subst hi;exact ⟨h0,by simpa using h1⟩
  | succ i =>
   obtain ⟨e1,e2⟩:=VE.get h2 i e (by simpa using hi)
   exact ⟨e1,by rw [show o+(i+1) * k=o+k+i * k by rw [Nat.succ_mul];omega];exact e2⟩
theorem VE.mk {b k:Nat}:∀ {o:Nat} {es:List (List AV)},(∀ (i:Nat) (e:List AV),es[i]?=some e→e.length=k∧VC g b (o+i * k) e)→VE g b k o es
 | _,[],_=>by simp only [VE]
 | o,e::r,h=>by
  simp only [VE]
  refine ⟨by simpa using h 0 e rfl,VE.mk (o:=o+k) fun i x hx=>?_⟩
  obtain ⟨e1,e2⟩:=h (i+1) x (by simpa using hx)
  exact ⟨e1,by rw [show o+k+i * k=o+(i+1) * k by rw [Nat.succ_mul];omega];exact e2⟩
theorem VE.drop {b k o:Nat} {es:List (List AV)} (n:Nat) (h:VE g b k o es):VE g b k (o+n * k) (es.drop n):=VE.mk fun i a ha=>by
 rw [List.getElem?_drop] at ha
 obtain ⟨e1,e2⟩:=h.get _ _ ha
 exact ⟨e1,by rw [show o+n * k+i * k=o+(n+i) * k by rw [Nat.add_mul];omega];exact e2⟩
theorem VE.take {b k o:Nat} {es:List (List AV)} (n:Nat) (h:VE g b k o es):VE g b k o (es.take n):=VE.mk fun i a ha=>by
 rw [List.getElem?_take] at ha
 split at ha
 ·exact h.get _ _ ha
 ·cases ha
theorem VE.append {b k o:Nat} {es fs:List (List AV)} (h:VE g b k o es) (h':VE g b k (o+es.length * k) fs):VE g b k o (es++fs):=VE.mk fun i a ha=>by
 by_cases hi:i < es.length
 ·rw [List.getElem?_append_left hi] at ha
  exact h.get _ _ ha
 ·rw [List.getElem?_append_right (by omega)] at ha
  obtain ⟨e1,e2⟩:=h'.get _ _ ha
  refine ⟨e1,?_⟩
  have:o+i * k=o+es.length * k+(i - es.length) * k:=by
   rw [Nat.add_assoc,← Nat.add_mul];congr 2;omega
  rw [this];exact e2
end
end Go.Vv
