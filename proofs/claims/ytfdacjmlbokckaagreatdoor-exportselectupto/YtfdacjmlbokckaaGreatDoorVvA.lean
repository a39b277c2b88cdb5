/- The abstract domain of this proof: values that hold the contents of unchanging memory, a small heap of boxed variables, and how they stand to the model's values. -/
import Derived.WalkKit
import Derived.RangeFuncLeaves
set_option linter.all false
namespace Go.Vv
open Go

inductive AV where
 | bool (b:Bool)
 | int (k:IntKind) (n:Int)
 | str (s:List UInt8)
 | nilp | nilm | nilf | nili | nilsl
 | ptr (id off:Nat)
 | fptr (cs:List AV)
 | sl (k:Nat) (es:List (List AV))
 | osl (o:Option Nat) (k:Nat) (es:List (List AV))
 | msl (k id off len:Nat)
 | rsl (id t k n:Nat)
 | rptr (id t k n p:Nat)
 | rsuf (id t k n i:Nat)
 | map (id:Nat)
 | fn (f:Fn) (first caps:List AV)
 | iface (t:TypeId) (v:AV)
 | agg (cs:List AV)
 | tup (vs:List AV)
 | glob (g:Nat)
 | yld (id:Nat)
 | bsl (k:Nat) (es:List (List AV))
 | nsl (k:Nat) (es:List (List AV))
 | gsl (k n:Nat)
 | gptr (m:Nat)
 | any
 | opq
 deriving Inhabited

def za:AV:=.tup []

def AV.one:AV→Bool
 | .agg _ | .tup _ | .any=>false
 | _=>true

def AV.pure:AV→Bool
 | .bool _ | .int _ _ | .str _ | .nilp | .nilm | .nilf | .nili | .sl _ _ | .bsl _ _ | .nsl _ _ | .gsl _ _ | .fn _ [] []=>true
 | _=>false
theorem AV.one_of_pure {a:AV} (h:a.pure=true):a.one=true:=by
 unfold AV.pure at h
 split at h <;> first | rfl | cases h

def AV.cells?:AV→Option (List AV)
 | .agg cs=>some cs
 | .tup _ | .any=>none
 | v=>some [v]

inductive Blk where
 | cells (cs:List AV)
 | siter (s:List UInt8) (pos:Nat)
 | loop (st:LoopState) (pe:Option Code) (env:List AV) (ps:Array Tmp) (assign body:Code)
 | mapo (es:List (AV×AV)) (clock:Nat)
 | miter (id n:Nat) (seen:List Nat)
 | miter0
 | row (t k:Nat) (es:List (List AV))
 | bld (T:TypeId) (x:AV)
 | other
 | dead
 deriving Inhabited

structure AH where
 blks:List Blk
 toks:List Nat
 deriving Inhabited

structure TI where
 n:Nat
 loc:Option (Nat×Nat×Nat)
 row:Bool:=false

inductive BK where
 | new (s:Nat)
 | gar (s:Nat)
 | shut (o:Obj)
 | frz (o:Obj)
structure Gh where
 Φ:Nat→Nat→Option Value
 σ:List (Option Nat)
 τ:List TI
 δ:List Nat
 N:Nat→Option BK:=fun _=>none
 O:Nat→Prop:=fun _=>False

def capOk (t:TI) (a:Option Addr) (n c k:Nat):Prop :=
 t.row=false∧n≤t.n∧(n=t.n→c=n ∨ ∃ b o,a=some ⟨b,o,none⟩∧t.loc=some (b,o+n * k,o+c * k))

def rowHd (t:TI) (a:Option Addr) (n c k:Nat):Prop :=
 t.row=true∧n≤t.n∧((n=0∧c=0) ∨ ∃ b o,a=some ⟨b,o,none⟩∧(n=t.n→t.loc=some (b,o+n * k,o+c * k)))
def rowPt (t:TI) (b q n k p:Nat):Prop :=
 t.row=true∧n≤t.n∧(n=t.n→∃ o e,q=o+p∧t.loc=some (b,o+n * k,e))

mutual
def V (g:Gh):AV→Value→Prop
 | .bool b,v=>v=.bool b
 | .int k n,v=>v=.int k n
 | .str s,v=>v=.string ⟨s.toArray⟩∧s.length≤maxLen
 | .nilp,v=>v=.pointer none
 | .nilm,v=>v=.map none
 | .nilf,v=>v=.nilFunc
 | .nili,v=>v=.nilIface
 | .nilsl,v=>v=.slice none 0 0
 | .ptr id off,v=>∃ c,g.σ[id]?=some (some c)∧v=.pointer (some ⟨c,off,none⟩)
 | .fptr cs,v=>∃ b o,v=.pointer (some ⟨b,o,none⟩)∧VC g b o cs
 | .sl k es,v=>∃ a c,v=.slice a es.length c∧es.length≤c∧c≤maxLen∧(es=[] ∨ ∃ b o,a=some ⟨b,o,none⟩∧VE g b k o es)
 | .osl q k es,v=>∃ a c,v=.slice a es.length c∧es.length≤c∧c≤maxLen∧(es=[] ∨ ∃ b o,a=some ⟨b,o,none⟩∧VE g b k o es) ∧
   (match q with
       | none=>c=es.length
       | some id=>∃ t,g.τ[id]?=some t∧capOk t a es.length c k)
 | .msl _ id off len,v=>∃ c cap,g.σ[id]?=some (some c)∧v=.slice (some ⟨c,off,none⟩) len cap∧len≤cap∧cap≤maxLen
 | .rsl _ i k n,v=>∃ a c,v=.slice a n c∧n≤c∧c≤maxLen∧∃ t,g.τ[i]?=some t∧rowHd t a n c k
 | .rptr _ i k n p,v=>∃ b q,v=.pointer (some ⟨b,q,none⟩)∧∃ t,g.τ[i]?=some t∧rowPt t b q n k p
 | .rsuf _ i k n p,v=>∃ a c,v=.slice a (n - p) c∧(p≤n∧n≤maxLen)∧∃ t,g.τ[i]?=some t∧(n - p=0 ∨ ∃ b q,a=some ⟨b,q,none⟩∧rowPt t b q n k (p * k))
 | .map id,v=>∃ c,g.σ[id]?=some (some c)∧v=.map (some c)
 | .fn f first caps,v=>∃ fs cs,v=.func f fs cs∧VL g first fs.toList∧VL g caps cs.toList
 | .iface t x,v=>∃ u,v=.iface t u∧V g x u
 | .agg cs,v=>∃ vs,v=.agg vs∧VA g cs vs.toList
 | .tup xs,v=>∃ vs,v=.tuple vs∧VL g xs vs.toList
 | .glob n,v=>v=.pointer (some ⟨n,0,none⟩)
 | .yld id,v=>∃ c,g.σ[id]?=some (some c)∧v=.func (.yield c) #[] #[]
 | .bsl k es,v=>∃ a c,v=.slice a es.length c∧es.length≤c∧c≤maxLen∧(es=[] ∨ ∃ b o,a=some ⟨b,o,none⟩∧VE g b k o es∧g.O b)
 | .nsl k es,v=>∃ a c,v=.slice a es.length c∧es.length≤c∧c≤maxLen∧(es=[] ∨ ∃ b o,a=some ⟨b,o,none⟩∧VE g b k o es∧∃ s,g.N b=some (.new s))
 | .gsl k n,v=>∃ a c,v=.slice a n c∧n≤c∧c≤maxLen∧(n=0 ∨ ∃ b o s,a=some ⟨b,o,none⟩∧g.N b=some (.gar s)∧o+n * k≤s)
 | .gptr m,v=>∃ b o s,v=.pointer (some ⟨b,o,none⟩)∧g.N b=some (.gar s)∧o+m≤s
 | .any,_=>True
 | .opq,v=>v.oneCell'=true
def VL (g:Gh):List AV→List Value→Prop
 | [],vs=>vs=[]
 | a::r,vs=>∃ v s,vs=v::s∧V g a v∧VL g r s
def VA (g:Gh):List AV→List Value→Prop
 | [],vs=>vs=[]
 | a::r,vs=>∃ v s,vs=v::s∧(a.one=true∧V g a v)∧VA g r s
def VC (g:Gh) (b:Nat):Nat→List AV→Prop
 | _,[]=>True
 | o,a::r=>(∃ v,g.Φ b o=some v∧a.pure=true∧V g a v)∧VC g b (o+1) r
def VE (g:Gh) (b k:Nat):Nat→List (List AV)→Prop
 | _,[]=>True
 | o,e::r=>(e.length=k∧VC g b o e)∧VE g b k (o+k) r
end


structure Gh.lv (g g':Gh):Prop where
 phi:∀ b j v,g.Φ b j=some v→g'.Φ b j=some v
 sig:∀ (i:Nat) (c:Option Nat),g.σ[i]?=some c→g'.σ[i]?=some c
 tau:∀ (i:Nat) (t:TI),g.τ[i]?=some t→∃ t',g'.τ[i]?=some t'∧t.n≤t'.n∧(t.n=t'.n→t'=t)∧t'.row=t.row
 new:∀ (b:Nat) (x:BK),g.N b=some x→g'.N b=some x
 old:∀ b:Nat,g.O b→g'.O b
structure Gh.le (g g':Gh):Prop where
 phi:∀ b j v,g.Φ b j=some v→g'.Φ b j=some v
 sig:∀ (i:Nat) (c:Option Nat),g.σ[i]?=some c→g'.σ[i]?=some c
 tau:∀ (i:Nat) (t:TI),g.τ[i]?=some t→∃ t',g'.τ[i]?=some t'∧t.n≤t'.n∧(t.n=t'.n→t'=t)∧t'.row=t.row
 del:∀ c,c ∈ g.δ→c ∈ g'.δ
 new:∀ (b:Nat) (x:BK),g.N b=some x→g'.N b=some x
 old:∀ b:Nat,g.O b→g'.O b
theorem Gh.le.lv {g g':Gh} (h:g.le g'):g.lv g':=⟨h.phi,h.sig,h.tau,h.new,h.old⟩

theorem Gh.le.refl (g:Gh):g.le g:=⟨fun _ _ _ h=>h,fun _ _ h=>h,fun _ t h=>⟨t,h,Nat.le_refl _,fun _=>rfl,rfl⟩,fun _ h=>h,fun _ _ h=>h,fun _ h=>h⟩
theorem Gh.le.trans {a b c:Gh} (h:a.le b) (k:b.le c):a.le c :=
 ⟨fun x y v e=>k.phi _ _ _ (h.phi x y v e),fun i x e=>k.sig _ _ (h.sig i x e),fun i t e=>by
  obtain ⟨t1,e1,l1,q1,s1⟩:=h.tau i t e
  obtain ⟨t2,e2,l2,q2,s2⟩:=k.tau i t1 e1
  refine ⟨t2,e2,Nat.le_trans l1 l2,fun q=>?_,s2.trans s1⟩
  have hq:t.n=t1.n:=by omega
  have:=q1 hq
  subst this
  exact q2 q,fun c hc=>k.del c (h.del c hc),fun b x e=>k.new b x (h.new b x e),fun b e=>k.old b (h.old b e)⟩

theorem capOk.monoV {g g':Gh} (h:g.lv g') {id:Nat} {a:Option Addr} {n c k:Nat} (hc:∃ t,g.τ[id]?=some t∧capOk t a n c k) :
  ∃ t,g'.τ[id]?=some t∧capOk t a n c k:=by
 obtain ⟨t,ht,h0,h1,h2⟩:=hc
 obtain ⟨t',ht',hl,hq,hs⟩:=h.tau _ _ ht
 refine ⟨t',ht',hs.trans h0,Nat.le_trans h1 hl,fun he=>?_⟩
 grind

theorem rowHd.monoV {g g':Gh} (h:g.lv g') {id:Nat} {a:Option Addr} {n c k:Nat} (hc:∃ t,g.τ[id]?=some t∧rowHd t a n c k) :
  ∃ t,g'.τ[id]?=some t∧rowHd t a n c k:=by
 obtain ⟨t,ht,h0,h1,h2⟩:=hc
 obtain ⟨t',ht',hl,hq,hs⟩:=h.tau _ _ ht
 refine ⟨t',ht',hs.trans h0,Nat.le_trans h1 hl,h2.imp (fun h=>h) fun ⟨b,o,h3,h4⟩=>⟨b,o,h3,fun he=>?_⟩⟩
 grind
theorem rowPt.monoV {g g':Gh} (h:g.lv g') {id:Nat} {b q n k p:Nat} (hc:∃ t,g.τ[id]?=some t∧rowPt t b q n k p) :
  ∃ t,g'.τ[id]?=some t∧rowPt t b q n k p:=by
 obtain ⟨t,ht,h0,h1,h2⟩:=hc
 obtain ⟨t',ht',hl,hq,hs⟩:=h.tau _ _ ht
 refine ⟨t',ht',hs.trans h0,Nat.le_trans h1 hl,fun he=>?_⟩
 grind

mutual
theorem V.monoV {g g':Gh} (h:g.lv g'):∀ (a:AV) (v:Value),V g a v→V g' a v
 | .bool _,_,hv=>by simpa only [V] using hv
 | .int _ _,_,hv=>by simpa only [V] using hv
 | .str _,_,hv=>by simpa only [V] using hv
 | .nilp,_,hv=>by simpa only [V] using hv
 | .nilm,_,hv=>by simpa only [V] using hv
 | .nilf,_,hv=>by simpa only [V] using hv
 | .nili,_,hv=>by simpa only [V] using hv
 | .nilsl,_,hv=>by simpa only [V] using hv
 | .ptr _ _,_,hv=>by
  simp only [V] at hv ⊢
  obtain ⟨c,hc,e⟩:=hv
  exact ⟨c,h.sig _ _ hc,e⟩
 | .fptr cs,_,hv=>by
  simp only [V] at hv ⊢
  obtain ⟨b,o,e,hc⟩:=hv
  exact ⟨b,o,e,VC.monoV h b o cs hc⟩
 | .sl k es,_,hv=>by
  simp only [V] at hv ⊢
  obtain ⟨a,c,e,h1,h2,h3⟩:=hv
  exact ⟨a,c,e,h1,h2,h3.imp id fun ⟨b,o,e,hh⟩=>⟨b,o,e,VE.monoV h b k o es hh⟩⟩
 | .osl q k es,_,hv=>by
  simp only [V] at hv ⊢
  obtain ⟨a,c,e,h1,h2,h3,h4⟩:=hv
  refine ⟨a,c,e,h1,h2,h3.imp id fun ⟨b,o,e,hh⟩=>⟨b,o,e,VE.monoV h b k o es hh⟩,?_⟩
  cases q with
  | none=>exact h4
  | some id=>exact capOk.monoV h h4
 | .msl _ _ _ _,_,hv=>by
  simp only [V] at hv ⊢
  obtain ⟨c,cap,hc,e⟩:=hv
  exact ⟨c,cap,h.sig _ _ hc,e⟩
 | .rsl _ _ _ _,_,hv=>by
  simp only [V] at hv ⊢
  obtain ⟨a,c,e,h1,h2,h3⟩:=hv
  exact ⟨a,c,e,h1,h2,rowHd.monoV h h3⟩
 | .rsuf _ i k n p,_,hv=>by
  simp only [V] at hv ⊢
  obtain ⟨a,c,e,h1,t,ht,h3⟩:=hv
  rcases h3 with h3 | ⟨b,q,e2,h3⟩
  ·obtain ⟨t',ht',_⟩:=h.tau _ _ ht
   simp_all
  ·obtain ⟨t',ht',h4⟩:=rowPt.monoV h ⟨t,ht,h3⟩
   grind
 | .rptr _ _ _ _ _,_,hv=>by
  simp only [V] at hv ⊢
  obtain ⟨b,q,e,h3⟩:=hv
  exact ⟨b,q,e,rowPt.monoV h h3⟩
 | .map _,_,hv=>by
  simp only [V] at hv ⊢
  obtain ⟨c,hc,e⟩:=hv
  exact ⟨c,h.sig _ _ hc,e⟩
 | .fn f a5 bs,_,hv=>by
  simp only [V] at hv ⊢
  obtain ⟨fs,cs,e,h1,h2⟩:=hv
  exact ⟨fs,cs,e,VL.monoV h a5 _ h1,VL.monoV h bs _ h2⟩
 | .iface t x,_,hv=>by
  simp only [V] at hv ⊢
  obtain ⟨u,e,h1⟩:=hv
  exact ⟨u,e,V.monoV h x u h1⟩
 | .agg cs,_,hv=>by
  simp only [V] at hv ⊢
  obtain ⟨vs,e,h1⟩:=hv
  exact ⟨vs,e,VA.monoV h cs _ h1⟩
 | .tup xs,_,hv=>by
  simp only [V] at hv ⊢
  obtain ⟨vs,e,h1⟩:=hv
  exact ⟨vs,e,VL.monoV h xs _ h1⟩
 | .glob _,_,hv=>by simpa only [V] using hv
 | .yld _,_,hv=>by
  simp only [V] at hv ⊢
  obtain ⟨c,hc,e⟩:=hv
  exact ⟨c,h.sig _ _ hc,e⟩
 | .bsl k es,_,hv=>by
  simp only [V] at hv ⊢
  obtain ⟨a,c,e,h1,h2,h3⟩:=hv
  exact ⟨a,c,e,h1,h2,h3.imp id fun ⟨b,o,e,hh,hn⟩=>⟨b,o,e,VE.monoV h b k o es hh,h.old _ hn⟩⟩
 | .nsl k es,_,hv=>by
  simp only [V] at hv ⊢
  obtain ⟨a,c,e,h1,h2,h3⟩:=hv
  exact ⟨a,c,e,h1,h2,h3.imp id fun ⟨b,o,e,hh,s,hn⟩=>⟨b,o,e,VE.monoV h b k o es hh,s,h.new _ _ hn⟩⟩
 | .gsl k n,_,hv=>by
  simp only [V] at hv ⊢
  obtain ⟨a,c,e,h1,h2,h3⟩:=hv
  exact ⟨a,c,e,h1,h2,h3.imp id fun ⟨b,o,s,e,hn,hs⟩=>⟨b,o,s,e,h.new _ _ hn,hs⟩⟩
 | .gptr m,_,hv=>by
  simp only [V] at hv ⊢
  obtain ⟨b,o,s,e,hn,hs⟩:=hv
  exact ⟨b,o,s,e,h.new _ _ hn,hs⟩
 | .any,_,_=>by simp only [V]
 | .opq,_,hv=>by simpa only [V] using hv
theorem VL.monoV {g g':Gh} (h:g.lv g'):∀ (a5:List AV) (vs:List Value),VL g a5 vs→VL g' a5 vs
 | [],_,hv=>by simpa only [VL] using hv
 | a::r,_,hv=>by
  simp only [VL] at hv ⊢
  obtain ⟨v,s,e,h1,h2⟩:=hv
  exact ⟨v,s,e,V.monoV h a v h1,VL.monoV h r s h2⟩
theorem VA.monoV {g g':Gh} (h:g.lv g'):∀ (a5:List AV) (vs:List Value),VA g a5 vs→VA g' a5 vs
 | [],_,hv=>by simpa only [VA] using hv
 | a::r,_,hv=>by
  simp only [VA] at hv ⊢
  obtain ⟨v,s,e,⟨h0,h1⟩,h2⟩:=hv
  exact ⟨v,s,e,⟨h0,V.monoV h a v h1⟩,VA.monoV h r s h2⟩
theorem VC.monoV {g g':Gh} (h:g.lv g') (b:Nat):∀ (o:Nat) (a5:List AV),VC g b o a5→VC g' b o a5
 | _,[],_=>by simp only [VC]
 | o,a::r,hv=>by
  simp only [VC] at hv ⊢
  obtain ⟨⟨v,h0,h1,h2⟩,h3⟩:=hv
  exact ⟨⟨v,h.phi _ _ _ h0,h1,V.monoV h a v h2⟩,VC.monoV h b (o+1) r h3⟩
theorem VE.monoV {g g':Gh} (h:g.lv g') (b k:Nat):∀ (o:Nat) (a5:List (List AV)),VE g b k o a5→VE g' b k o a5
 | _,[],_=>by simp only [VE]
 | o,e::r,hv=>by
  simp only [VE] at hv ⊢
  obtain ⟨⟨h0,h1⟩,h2⟩:=hv
  exact ⟨⟨h0,VC.monoV h b o e h1⟩,VE.monoV h b k (o+k) r h2⟩
end

theorem capOk.mono {g g':Gh} (h:g.le g') {id:Nat} {a:Option Addr} {n c k:Nat} (hc:∃ t,g.τ[id]?=some t∧capOk t a n c k):∃ t,g'.τ[id]?=some t∧capOk t a n c k:=capOk.monoV h.lv hc
theorem V.mono {g g':Gh} (h:g.le g') (a:AV) (v:Value) (hv:V g a v):V g' a v:=V.monoV h.lv a v hv
theorem VL.mono {g g':Gh} (h:g.le g') (a5:List AV) (vs:List Value) (hv:VL g a5 vs):VL g' a5 vs:=VL.monoV h.lv a5 vs hv
theorem VA.mono {g g':Gh} (h:g.le g') (a5:List AV) (vs:List Value) (hv:VA g a5 vs):VA g' a5 vs:=VA.monoV h.lv a5 vs hv
theorem VC.mono {g g':Gh} (h:g.le g') (b:Nat) (o:Nat) (a5:List AV) (hv:VC g b o a5):VC g' b o a5:=VC.monoV h.lv b o a5 hv
theorem VE.mono {g g':Gh} (h:g.le g') (b k:Nat) (o:Nat) (es:List (List AV)) (hv:VE g b k o es):VE g' b k o es:=VE.monoV h.lv b k o es hv
theorem Gh.lv_dd (g:Gh) (d:List Nat):g.lv { g with δ:=d }:=⟨fun _ _ _ e=>e,fun _ _ e=>e,fun _ t e=>⟨t,e,Nat.le_refl _,fun _=>rfl,rfl⟩,fun _ _ e=>e,fun _ e=>e⟩
theorem VL.dd {g:Gh} {d:List Nat} {a5:List AV} {vs:List Value} (h:VL g a5 vs):VL { g with δ:=d } a5 vs:=VL.monoV (g.lv_dd d) _ _ h

section
variable {g:Gh}
theorem VL.length:∀ {a5:List AV} {vs:List Value},VL g a5 vs→a5.length=vs.length
 | [],_,h=>by simp only [VL] at h;subst h;rfl
 | _::r,_,h=>by
  simp only [VL] at h
  obtain ⟨v,s,rfl,_,h2⟩:=h
  simp [VL.length h2]
theorem VA.toVL:∀ {a5:List AV} {vs:List Value},VA g a5 vs→VL g a5 vs
 | [],_,h=>by simp only [VA] at h;simp only [VL];exact h
 | _::r,_,h=>by
  simp only [VA] at h
  obtain ⟨v,s,rfl,⟨_,h1⟩,h2⟩:=h
  simp only [VL]
  exact ⟨v,s,rfl,h1,VA.toVL h2⟩
theorem VA.ones:∀ {a5:List AV} {vs:List Value},VA g a5 vs→a5.all AV.one=true
 | [],_,_=>rfl
 | _::r,_,h=>by
  simp only [VA] at h
  obtain ⟨v,s,rfl,⟨h0,_⟩,h2⟩:=h
  simp [h0,VA.ones h2]
theorem VA.mk:∀ {a5:List AV} {vs:List Value},VL g a5 vs→a5.all AV.one=true→VA g a5 vs
 | [],_,h,_=>by simp only [VL] at h;simp only [VA];exact h
 | _::r,_,h,ho=>by
  simp only [VL] at h
  obtain ⟨v,s,rfl,h1,h2⟩:=h
  simp only [List.all_cons,Bool.and_eq_true] at ho
  simp only [VA]
  exact ⟨v,s,rfl,⟨ho.1,h1⟩,VA.mk h2 ho.2⟩
theorem VL.get:∀ {a5:List AV} {vs:List Value},VL g a5 vs→∀ (i:Nat) (a:AV),a5[i]?=some a→∃ v,vs[i]?=some v∧V g a v
 | [],_,_,i,a,hi=>by simp at hi
 | _::r,_,h,i,a,hi=>by
  simp only [VL] at h
  obtain ⟨v,s,rfl,h1,h2⟩:=h
  cases i with
  | zero=>simp at hi;subst hi;exact ⟨v,rfl,h1⟩
  | succ i=>simpa using VL.get h2 i a (by simp_all)
theorem VL.getR:∀ {a5:List AV} {vs:List Value},VL g a5 vs→∀ (i:Nat) (v:Value),vs[i]?=some v→∃ a,a5[i]?=some a∧V g a v
 | [],_,h,i,v,hi=>by simp only [VL] at h;subst h;simp at hi
 | a::r,_,h,i,v,hi=>by
  simp only [VL] at h
  obtain ⟨v',s,rfl,h1,h2⟩:=h
  cases i with
  | zero=>simp at hi;subst hi;exact ⟨a,rfl,h1⟩
  | succ i=>simpa using VL.getR h2 i v (by simp_all)
theorem VL.set:∀ {a5:List AV} {vs:List Value},VL g a5 vs→∀ (i:Nat) (a:AV) (v:Value),V g a v→VL g (a5.set i a) (vs.set i v)
 | [],_,h,i,a,v,_=>by simp only [VL] at h;subst h;simp [VL]
 | _::r,_,h,i,a,v,hv=>by
  simp only [VL] at h
  obtain ⟨v',s,rfl,h1,h2⟩:=h
  cases i with
  | zero=>simp only [List.set_cons_zero,VL];exact ⟨v,s,rfl,hv,h2⟩
  | succ i=>simp only [List.set_cons_succ,VL];exact ⟨v',_,rfl,h1,VL.set h2 i a v hv⟩
theorem VL.append:∀ {a5 bs:List AV} {vs ws:List Value},VL g a5 vs→VL g bs ws→VL g (a5++bs) (vs++ws)
 | [],_,_,_,h,k=>by simp only [VL] at h;subst h;simpa using k
 | _::r,_,_,_,h,k=>by
  simp only [VL] at h
  obtain ⟨v',s,rfl,h1,h2⟩:=h
  simp only [List.cons_append,VL]
  exact ⟨v',_,rfl,h1,VL.append h2 k⟩
theorem VL.take:∀ {a5:List AV} {vs:List Value} (n:Nat),VL g a5 vs→VL g (a5.take n) (vs.take n)
 | [],_,n,h=>by simp only [VL] at h;subst h;simp [VL]
 | _::r,_,n,h=>by
  simp only [VL] at h
  obtain ⟨v',s,rfl,h1,h2⟩:=h
  cases n with
  | zero=>simp [VL]
  | succ n=>simp only [List.take_succ_cons,VL];exact ⟨v',_,rfl,h1,VL.take n h2⟩
theorem VL.drop:∀ {a5:List AV} {vs:List Value} (n:Nat),VL g a5 vs→VL g (a5.drop n) (vs.drop n)
 | [],_,n,h=>by simp only [VL] at h;subst h;simp [VL]
 | _::r,_,n,h=>by
  have h':=h
  simp only [VL] at h
  obtain ⟨v',s,rfl,h1,h2⟩:=h
  cases n with
  | zero=>simpa using h'
  | succ n=>simpa using VL.drop n h2
theorem VL.cons {a:AV} {v:Value} {a5:List AV} {vs:List Value} (h:V g a v) (k:VL g a5 vs):VL g (a::a5) (v::vs):=by
 simp only [VL];exact ⟨v,vs,rfl,h,k⟩
theorem all_take {α:Type} {p:α→Bool} {l:List α} (n:Nat) (h:l.all p=true):(l.take n).all p=true:=by
 grind
theorem all_drop {α:Type} {p:α→Bool} {l:List α} (n:Nat) (h:l.all p=true):(l.drop n).all p=true:=by
 grind
theorem VA.append {a5 bs:List AV} {vs ws:List Value} (h:VA g a5 vs) (k:VA g bs ws):VA g (a5++bs) (vs++ws) :=
 VA.mk (VL.append h.toVL k.toVL) (by rw [List.all_append,h.ones,k.ones];rfl)
theorem VA.take {a5:List AV} {vs:List Value} (n:Nat) (h:VA g a5 vs):VA g (a5.take n) (vs.take n):=VA.mk (VL.take n h.toVL) (all_take n h.ones)
theorem VA.drop {a5:List AV} {vs:List Value} (n:Nat) (h:VA g a5 vs):VA g (a5.drop n) (vs.drop n):=VA.mk (VL.drop n h.toVL) (all_drop n h.ones)

theorem VC.get {b:Nat}:∀ {o:Nat} {a5:List AV},VC g b o a5→∀ (i:Nat) (a:AV),a5[i]?=some a→∃ v,g.Φ b (o+i)=some v∧a.pure=true∧V g a v
 | _,[],_,i,a,hi=>by simp at hi
 | o,_::r,h,i,a,hi=>by
  simp only [VC] at h
  obtain ⟨⟨v,h0,h1,h2⟩,h3⟩:=h
  cases i with
  | zero=>simp at hi;subst hi;exact ⟨v,h0,h1,h2⟩
  | succ i =>
   obtain ⟨v',e1,e2,e3⟩:=VC.get h3 i a (by simp_all)
   grind
theorem VC.mk {b:Nat}:∀ {o:Nat} {a5:List AV},(∀ (i:Nat) (a:AV),a5[i]?=some a→∃ v,g.Φ b (o+i)=some v∧a.pure=true∧V g a v)→VC g b o a5
 | _,[],_=>by simp only [VC]
 | o,a::r,h=>by
  simp only [VC]
  refine ⟨by simpa using h 0 a rfl,VC.mk (o:=o+1) fun i x hx=>?_⟩
  obtain ⟨v,e1,e2,e3⟩:=h (i+1) x (by simp_all)
  grind
theorem VC.drop {b o:Nat} {a5:List AV} (n:Nat) (h:VC g b o a5):VC g b (o+n) (a5.drop n):=VC.mk fun i a ha=>by
 rw [List.getElem?_drop] at ha
 obtain ⟨v,e1,e2⟩:=h.get _ _ ha
 grind
theorem VC.take {b o:Nat} {a5:List AV} (n:Nat) (h:VC g b o a5):VC g b o (a5.take n):=VC.mk fun i a ha=>by
 rw [List.getElem?_take] at ha
 split at ha
 ·exact h.get _ _ ha
 ·cases ha
theorem VC.append {b o:Nat} {a5 bs:List AV} (h:VC g b o a5) (k:VC g b (o+a5.length) bs):VC g b o (a5++bs):=VC.mk fun i a ha=>by
 by_cases hi:i < a5.length
 ·rw [List.getElem?_append_left hi] at ha
  exact h.get _ _ ha
 ·rw [List.getElem?_append_right (by omega)] at ha
  obtain ⟨v,e1,e2⟩:=k.get _ _ ha
  grind
theorem VE.get {b k:Nat}:∀ {o:Nat} {es:List (List AV)},VE g b k o es→∀ (i:Nat) (e:List AV),es[i]?=some e→e.length=k∧VC g b (o+i * k) e
 | _,[],_,i,e,hi=>by simp at hi
 | o,_::r,h,i,e,hi=>by
  simp only [VE] at h
  obtain ⟨⟨h0,h1⟩,h2⟩:=h
  cases i with
  | zero=>simp at hi;subst hi;exact ⟨h0,by simp_all⟩
  | succ i =>
   obtain ⟨e1,e2⟩:=VE.get h2 i e (by simp_all)
   grind
theorem VE.mk {b k:Nat}:∀ {o:Nat} {es:List (List AV)},(∀ (i:Nat) (e:List AV),es[i]?=some e→e.length=k∧VC g b (o+i * k) e)→VE g b k o es
 | _,[],_=>by simp only [VE]
 | o,e::r,h=>by
  simp only [VE]
  refine ⟨by simpa using h 0 e rfl,VE.mk (o:=o+k) fun i x hx=>?_⟩
  obtain ⟨e1,e2⟩:=h (i+1) x (by simp_all)
  grind
theorem VE.drop {b k o:Nat} {es:List (List AV)} (n:Nat) (h:VE g b k o es):VE g b k (o+n * k) (es.drop n):=VE.mk fun i a ha=>by
 rw [List.getElem?_drop] at ha
 obtain ⟨e1,e2⟩:=h.get _ _ ha
 grind
theorem VE.take {b k o:Nat} {es:List (List AV)} (n:Nat) (h:VE g b k o es):VE g b k o (es.take n):=VE.mk fun i a ha=>by
 rw [List.getElem?_take] at ha
 split at ha
 ·exact h.get _ _ ha
 ·cases ha
theorem VE.append {b k o:Nat} {es fs:List (List AV)} (h:VE g b k o es) (h':VE g b k (o+es.length * k) fs):VE g b k o (es++fs):=VE.mk fun i a ha=>by
 by_cases hi:i < es.length
 ·rw [List.getElem?_append_left hi] at ha
  exact h.get _ _ ha
 ·rw [List.getElem?_append_right (by omega)] at ha
  obtain ⟨e1,e2⟩:=h'.get _ _ ha
  refine ⟨e1,?_⟩
  have:o+i * k=o+es.length * k+(i - es.length) * k:=by
   rw [Nat.add_assoc,← Nat.add_mul];congr 2;omega
  simp_all
end
end Go.Vv
namespace Go.Vv
open Go

def cv1:Value→AV
 | .bool b=>.bool b
 | .int k n=>.int k n
 | .string s=>.str s.data.toList
 | .pointer none=>.nilp
 | .slice none 0 0=>.nilsl
 | .map none=>.nilm
 | .nilFunc=>.nilf
 | .nilIface=>.nili
 | _=>za
def okc1:Value→Bool
 | .bool _ | .int _ _ | .pointer none | .slice none 0 0 | .map none | .nilFunc | .nilIface=>true
 | .string s=>decide (s.size≤maxLen)
 | _=>false
def cv:Value→AV
 | .agg cs=>.agg (cs.toList.map cv1)
 | .tuple _=>za
 | v=>cv1 v
def okc:Value→Bool
 | .agg cs=>cs.toList.all okc1
 | .tuple vs=>vs.isEmpty
 | v=>okc1 v

def ev (env:List AV):Operand→AV
 | .tmp t=>env.getD t za
 | .const v=>cv v
 | .global g=>.glob g
 | .func f=>.fn (.func f) [] []
def yo:Operand→Bool
 | .const v=>okc v
 | _=>true

def yq:TypeDesc→Bool
 | .struct _ | .array _ _=>true
 | _=>false
def tyfix (P:Program) (t:TypeId):AV→AV
 | .nilsl=>match P.underlying t with
  | some (.slice e)=>.osl none (P.cellsOf e) []
  | _=>.nilsl
 | v=>v
def setd (env:List AV):Option Tmp→AV→List AV
 | some d,v=>env.set d v
 | none,_=>env

inductive Res where
 | ok (v:AV) (h:AH)
 | len (n:Nat) (v:AV) (h:AH)
 | call (f:FuncId) (args:List AV)
 | round (id:Nat) (args:List AV)
 | any (S:AV→AH→Prop)
 | fail

def oo (h:AH):Option AV→Res
 | some v=>.ok v h
 | none=>.fail
def oh (h:Option AH):Res :=
 match h with
 | some h=>.ok za h
 | none=>.fail
def ovh:Option (AV×AH)→Res
 | some (v,h)=>.ok v h
 | none=>.fail

def AH.blk (h:AH) (id:Nat):Option Blk:=h.blks[id]?
def AH.new (h:AH) (b:Blk):AH:={ h with blks:=h.blks++[b] }
def AH.put (h:AH) (id:Nat) (b:Blk):AH:={ h with blks:=h.blks.set id b }

def aLoad (h:AH) (ag:Bool) (n:Nat):AV→Option AV
 | .ptr id off=>match h.blk id with
  | some (.cells cs)=>if ag then (if off+n≤cs.length then some (.agg ((cs.drop off).take n)) else none) else cs[off]?
  | some (.bld _ x)=>if ag=false∧off=1 then some x else none
  | _=>none
 | .fptr cs=>if ag then (if n≤cs.length then some (.agg (cs.take n)) else none) else cs[0]?
 | .rptr id t k m p=>match h.blk id with
  | some (.row t' k' es)=>if t'=t∧k'=k∧es.length=m then (if ag then (if p+n≤es.flatten.length then some (.agg ((es.flatten.drop p).take n)) else none) else es.flatten[p]?) else none
  | _=>none
 | _=>none
def xw (cs:List AV) (off:Nat) (vs:List AV):List AV:=cs.take off++vs++cs.drop (off+vs.length)
def aClean:AV→Option AV
 | .osl _ k es=>some (.sl k es)
 | .nilsl=>none
 | v=>if v.pure then some v else none
def xJ:List AV→Option (List AV)
 | []=>some []
 | a::r=>match aClean a,xJ r with
  | some a,some r=>some (a::r)
  | _,_=>none
def rows (k:Nat):Nat→List AV→List (List AV)
 | 0,_=>[]
 | n+1,cs=>cs.take k::rows k n (cs.drop k)
def aStore (h:AH) (n:Nat) (p v:AV):Option AH :=
 match p,v.cells? with
 | .ptr id off,some vs=>match h.blk id with
  | some (.cells cs)=>if vs.length=n∧off+n≤cs.length then some (h.put id (.cells (xw cs off vs))) else none
  | some (.bld T _)=>match vs with
   | [y]=>if n=1∧off=1 then some (h.put id (.bld T y)) else none
   | _=>none
  | _=>none
 | .rptr id t k m p,some vs=>match h.blk id with
  | some (.row t' k' es)=>if t'=t∧k'=k∧es.length=m∧vs.length=n∧p+n≤es.flatten.length then (match xJ vs with
   | some vs=>some (h.put id (.row t k (rows k m (xw es.flatten p vs))))
   | none=>none) else none
  | _=>none
 | .gptr m,some vs=>if vs.length=n∧n≤m then some h else none
 | _,_=>none
def aFieldAddr (off:Nat):AV→Option AV
 | .ptr id o=>some (.ptr id (o+off))
 | .fptr cs=>some (.fptr (cs.drop off))
 | .rptr id t k n p=>some (.rptr id t k n (p+off))
 | .gptr m=>if off≤m then some (.gptr (m - off)) else none
 | _=>none
def aPart (ag:Bool) (off n:Nat):AV→Option AV
 | .agg cs=>if ag then some (.agg ((cs.drop off).take n)) else cs[off]?
 | _=>none
def vg (place:Nat→Option (Nat×Nat)):List AV→List (Nat×AV)→Option (List AV)
 | cs,[]=>some cs
 | cs,(i,v)::r =>
  match place i,v.cells? with
  | some (off,size),some vs=>if vs.length=size∧off+size≤cs.length then vg place (xw cs off vs) r else none
  | _,_=>none
def aLen:AV→Option Nat
 | .sl _ es | .osl _ _ es | .bsl _ es | .nsl _ es=>some es.length
 | .msl _ _ _ n | .rsl _ _ _ n | .gsl _ n=>some n
 | .rsuf _ _ _ n p=>some (n - p)
 | .nilsl=>some 0
 | _=>none
def aIndexAddr (k:Nat) (x i:AV):Option AV :=
 match x,i with
 | .sl k' es,.int _ n | .osl _ k' es,.int _ n | .bsl k' es,.int _ n | .nsl k' es,.int _ n=>if k'=k∧0≤n then (es[n.toNat]?).map .fptr else none
 | .gsl k' m,.int _ n=>if k'=k∧0≤n∧n < m then some (.gptr k) else none
 | .msl k' id off len,.int _ n=>if k'=k∧0≤n∧n < len then some (.ptr id (off+n.toNat * k)) else none
 | .rsl id t k' m,.int _ n=>if k'=k∧0≤n∧n < m then some (.rptr id t k m (n.toNat * k)) else none
 | .rsuf id t k' m p,.int _ n=>if k'=k∧0≤n∧n < (m - p:Nat) then some (.rptr id t k m ((p+n.toNat) * k)) else none
 | _,_=>none
def aIndexArr (len k:Nat) (x i:AV):Option AV :=
 match x,i with
 | .ptr id off,.int _ n=>if 0≤n∧n < len then some (.ptr id (off+n.toNat * k)) else none
 | .fptr cs,.int _ n=>if 0≤n∧n < len then some (.fptr (cs.drop (n.toNat * k))) else none
 | _,_=>none
def aIndexStr (x i:AV):Option AV :=
 match x,i with
 | .str s,.int _ n=>if 0≤n then (s[n.toNat]?).map fun b=>.int .u8 b.toNat else none
 | _,_=>none
def aIndexAgg (ag:Bool) (len k:Nat) (x i:AV):Option AV :=
 match i with
 | .int _ n=>if 0≤n∧n < len then aPart ag (n.toNat * k) k x else none
 | _=>none
def aBound (d:Nat):Option AV→Option Nat
 | none=>some d
 | some (.int _ n)=>if 0≤n then some n.toNat else none
 | _=>none
def aSliceStr (s:List UInt8) (lo hi:Option AV):Option AV :=
 match aBound 0 lo,aBound s.length hi with
 | some l,some h=>if l≤h∧h≤s.length then some (.str ((s.take h).drop l)) else none
 | _,_=>none
def aSliceSl (full:Bool) (k:Nat) (es:List (List AV)) (lo hi mx:Option AV):Option AV :=
 match aBound 0 lo,aBound es.length hi with
 | some l,some h =>
  if l≤h∧h≤es.length then
   match mx with
   | none=>some (if full&&hi.isNone then .osl none k (es.drop l) else .sl k ((es.take h).drop l))
   | some (.int _ m)=>if m=h∧hi.isSome then some (.osl none k ((es.take h).drop l)) else none
   | _=>none
  else none
 | _,_=>none
def aSlice (x:AV) (lo hi mx:Option AV):Option AV :=
 match x with
 | .str s=>if mx.isNone then aSliceStr s lo hi else none
 | .sl k es=>aSliceSl false k es lo hi mx
 | .osl o k es=>aSliceSl o.isNone k es lo hi mx
 | _=>none

def aInt (op:BinOp) (k:IntKind) (a b:Int):Option AV :=
 match op with
 | .add=>some (.int k (k.wrap (a+b)))
 | .sub=>some (.int k (k.wrap (a - b)))
 | .mul=>some (.int k (k.wrap (a * b)))
 | .quo=>if b=0 then none else some (.int k (k.wrap (a.tdiv b)))
 | .rem=>if b=0 then none else some (.int k (a.tmod b))
 | .and=>some (.int k (k.wrap ((BitVec.ofInt k.bits a &&& BitVec.ofInt k.bits b).toNat)))
 | .or=>some (.int k (k.wrap ((BitVec.ofInt k.bits a ||| BitVec.ofInt k.bits b).toNat)))
 | .xor=>some (.int k (k.wrap ((BitVec.ofInt k.bits a ^^^ BitVec.ofInt k.bits b).toNat)))
 | .andNot=>some (.int k (k.wrap ((BitVec.ofInt k.bits a &&& ~~~(BitVec.ofInt k.bits b)).toNat)))
 | .eql=>some (.bool (a==b))
 | .neq=>some (.bool (a != b))
 | .lss=>some (.bool (decide (a < b)))
 | .leq=>some (.bool (decide (a≤b)))
 | .gtr=>some (.bool (decide (a > b)))
 | .geq=>some (.bool (decide (a ≥ b)))
 | .shl=>if b < 0 then none else some (.int k (k.wrap (a * 2 ^ min b.toNat k.bits)))
 | .shr=>if b < 0 then none else some (.int k (a.fdiv (2 ^ min b.toNat k.bits)))
def aStr (op:BinOp) (x y:List UInt8):Option AV :=
 match op with
 | .add=>if x.length+y.length≤maxLen then some (.str (x++y)) else none
 | .eql=>some (.bool (x==y))
 | .neq=>some (.bool !(x==y))
 | .lss=>some (.bool (Op.bytesLess x y))
 | .leq=>some (.bool (Op.bytesLess x y || x==y))
 | .gtr=>some (.bool !(Op.bytesLess x y || x==y))
 | .geq=>some (.bool !(Op.bytesLess x y))
 | _=>none
inductive Kd where
 | b | i | s
 deriving DecidableEq
def aEq1:Kd→AV→AV→Option Bool
 | .b,.bool a,.bool b=>some (a==b)
 | .i,.int k a,.int k' b=>if k=k' then some (a==b) else none
 | .s,.str a,.str b=>some (a==b)
 | _,_,_=>none
def qa:List Kd→List AV→List AV→Option Bool
 | [],[],[]=>some true
 | k::ks,a::r,b::s=>match aEq1 k a b,qa ks r s with
  | some x,some y=>some (x&&y)
  | _,_=>none
 | _,_,_=>none
def aNil:TypeDesc→AV→AV→Option Bool
 | .pointer _,.nilp,.nilp | .func _ _ _,.nilf,.nilf | .map _ _,.nilm,.nilm=>some true
 | .pointer _,.nilp,.ptr _ _ | .pointer _,.nilp,.fptr _ | .pointer _,.ptr _ _,.nilp | .pointer _,.fptr _,.nilp=>some false
 | .func _ _ _,.nilf,.fn _ _ _ | .func _ _ _,.fn _ _ _,.nilf=>some false
 | .map _ _,.nilm,.map _ | .map _ _,.map _,.nilm=>some false
 | .slice _,.msl _ _ _ _,.nilsl=>some false
 | _,_,_=>none
def plainFsOf (P:Program) (f:TypeId→Option (List Kd)):List Field→Nat→Option (List Kd)
 | [],_=>some []
 | x :: fs, acc => if x.name ≠ "_" ∧ x.offset = acc then (match f x.type, P.info? x.type with
   | some ks,some i=>if i.size=ks.length then (match plainFsOf P f fs (acc+i.size) with
    | some r=>some (ks++r)
    | none=>none) else none
   | _,_=>none) else none
def xy (P:Program):Nat→TypeId→Option (List Kd)
 | 0,_=>none
 | d+1,t=>match P.underlying t with
  | some .bool=>some [.b]
  | some (.int _)=>some [.i]
  | some .string=>some [.s]
  | some (.struct fs)=>if P.stoodInHeld t then none else plainFsOf P (xy P d) fs.toList 0
  | _=>none
abbrev plainFs (P:Program) (d:Nat) (fs:List Field) (acc:Nat):Option (List Kd):=plainFsOf P (xy P d) fs acc
def arrKs (P:Program) (t:TypeId):Option (List Kd) :=
 match P.underlying t with
 | some (.array n e)=>match P.underlying e,P.info? e with
  | some (.int _),some i=>if i.size=1 then some (List.replicate n .i) else none
  | _,_=>none
 | _=>none
def aEq (P:Program) (t:TypeId) (x y:AV):Option Bool :=
 match x,y with
 | .agg cs,.agg ds=>if P.eqGuardType P.depth t=false∧(P.underlying t).any yq then (match (xy P 6 t).or (arrKs P t) with
  | some ks=>qa ks cs ds
  | none=>none) else none
 | .bool a,.bool b=>match P.underlying t with
  | some .bool=>some (a==b)
  | _=>none
 | x,y=>match P.underlying t with
  | some d=>aNil d x y
  | none=>none
def aBin (P:Program) (op:BinOp) (t:TypeId) (x y:AV):Option AV :=
 match x,y with
 | .int k a,.int k' b=>if k=k' ∨ op=.shl ∨ op=.shr then aInt op k a b else none
 | .str a,.str b=>aStr op a b
 | x,y=>match op with
  | .eql=>(aEq P t x y).map .bool
  | .neq=>(aEq P t x y).map fun b=>.bool !b
  | _=>none
def aNilq (P:Program) (op:BinOp) (t:TypeId) (h:AH):AV→AV→Option (AV→AH→Prop)
 | .sl _ es,.nilsl | .osl _ _ es,.nilsl=>match P.underlying t,op with
  | some (.slice _),.eql=>some fun v h'=>h'=h∧∃ b,v=.bool b∧(b=true→es=[])
  | some (.slice _),.neq=>some fun v h'=>h'=h∧∃ b,v=.bool (!b)∧(b=true→es=[])
  | _,_=>none
 | _,_=>none
theorem aNilq_none {P:Program} {op:BinOp} {t:TypeId} {h:AH} {x y v:AV} (hv:aBin P op t x y=some v):aNilq P op t h x y=none:=by
 unfold aNilq
 split
 ·rename_i k es
  split
  ·rename_i hu
   simp [aBin,aEq,hu,aNil] at hv
  ·rename_i hu
   simp [aBin,aEq,hu,aNil] at hv
  ·rfl
 ·rename_i q k es
  split
  ·rename_i hu
   simp [aBin,aEq,hu,aNil] at hv
  ·rename_i hu
   simp [aBin,aEq,hu,aNil] at hv
  ·rfl
 ·rfl
def aUn (op:UnOp):AV→Option AV
 | .int k n=>match op with
  | .neg=>some (.int k (k.wrap (0 - n)))
  | .xor=>some (.int k (k.wrap ((BitVec.ofInt k.bits (if k.signed then -1 else k.max) ^^^ BitVec.ofInt k.bits n).toNat)))
  | _=>none
 | .bool b=>match op with
  | .not=>some (.bool !b)
  | _=>none
 | _=>none
def aConvert (d:TypeDesc):AV→Option AV
 | .int _ n=>match d with
  | .int k=>some (.int k (k.wrap n))
  | _=>none
 | .str s=>match d with
  | .string=>some (.str s)
  | _=>none
 | _=>none

def vQ:Nat:=2147483648
def AH.grow (h:AH) (o:Option Nat) (n m:Nat):Option (Nat×AH) :=
 match o with
 | none=>some (h.toks.length,{ h with toks:=h.toks++[n+m] })
 | some id=>if h.toks[id]?=some n then some (id,{ h with toks:=h.toks.set id (n+m) }) else none
def aAppend (h:AH) (k:Nat) (s:AV) (ys:List (List AV)):Option (AV×AH) :=
 match s with
 | .osl o k' es =>
  if ys.length=0 then (match o with
   | none=>some (.osl (some h.toks.length) k' es,{ h with toks:=h.toks++[es.length] })
   | some id=>some (.osl (some id) k' es,h)) else
  if k'=k∧es.length+ys.length≤vQ then
   match h.grow o es.length ys.length with
   | some (id,h')=>some (.osl (some id) k (es++ys),h')
   | none=>none
  else none
 | .rsl id t k' n=>if ys.length=0 then some (.rsl id t k' n,h) else (match h.blk id with
  | some (.row t' k'' es)=>if (t'=t∧k'=k∧k''=k)∧es.length=n∧h.toks[t]?=some n∧n+ys.length≤vQ then
    some (.rsl id t k (n+ys.length),{ h.put id (.row t k (es++ys)) with toks:=h.toks.set t (n+ys.length) }) else none
  | _=>none)
 | _=>none
def q7 (k:Nat):AV→Option (List (List AV))
 | .sl k' es | .osl _ k' es | .bsl k' es | .nsl k' es=>if k'=k then some es else none
 | .str s=>if k=1 then some (s.map fun b=>[.int .u8 b.toNat]) else none
 | _=>none
def aMM (mx:Bool):AV→List AV→Option AV
 | v,[]=>some v
 | .int k a,.int k' b::r=>if k=k' then aMM mx (.int k (if mx then (if b > a then b else a) else (if b < a then b else a))) r else none
 | _,_=>none

def qP (P:Program) (h:AH) (b:Builtin) (ts:List TypeId) (args:List AV):Res :=
 match b,ts,args with
 | .len,[t],[x]=>match P.underlying t with
  | some .string=>match x with
   | .str s=>.len s.length (.int .i64 s.length) h
   | _=>.fail
  | some (.slice _)=>match aLen x with
   | some n=>.len n (.int .i64 n) h
   | none=>.fail
  | some (.map _ _)=>match x with
   | .map id=>match h.blk id with
    | some (.mapo es _)=>.any fun v h'=>h'=h∧v=.int .i64 es.length
    | _=>.fail
   | _=>.fail
  | _=>.fail
 | .append,[t,u],[s,x]=>match P.underlying t,P.underlying u with
  | some (.slice e),some (.slice _) | some (.slice e),some .string=>match P.info? e with
   | some i=>if i.bytes≤65536∧0 < i.size∧(i.zero.map (·.cells.size))=some i.size then (match q7 i.size (tyfix P u x) with
    | some ys=>ovh (aAppend h i.size (tyfix P t s) ys)
    | none=>.fail) else .fail
   | none=>.fail
  | _,_=>.fail
 | .min,_,x::r=>oo h (aMM false x r)
 | .max,_,x::r=>oo h (aMM true x r)
 | _,_,_=>.fail

def qJ (P:Program) (t:TypeId) (f:Nat):Option (Nat×TypeId) :=
 match P.underlying t with
 | some (.struct fs)=>(fs[f]?).map fun x=>(x.offset,x.type)
 | _=>none
def leafTys (P:Program):Nat→TypeId→List TypeId
 | 0,_=>[]
 | d+1,t=>match P.underlying t with
  | some (.struct fs)=>fs.toList.flatMap fun f=>leafTys P d f.type
  | some (.array n e)=>(List.replicate n (leafTys P d e)).flatten
  | _=>[t]
def fixCells (P:Program):List TypeId→List AV→List AV
 | t::ts,a::a5=>tyfix P t a::fixCells P ts a5
 | _,a5=>a5
def xO (P:Program) (t:TypeId):Option (List AV) :=
 match P.info? t with
 | some i=>match i.zero with
  | some z=>if okc z then (match (cv z).cells? with
   | some cs=>some (fixCells P (leafTys P 6 t) cs)
   | none=>none) else none
  | none=>none
 | none=>none
def vU (P:Program) (fs:Array Field):Option (List (Nat×Nat)):=fs.toList.mapM fun f=>(P.info? f.type).map fun i=>(f.offset,i.size)
def partTy (d:TypeDesc) (i:Nat):TypeId :=
 match d with
 | .struct fs=>((fs[i]?).map (·.type)).getD 0
 | .array _ e | .slice e=>e
 | _=>0
def y8 (P:Program) (d:TypeDesc) (env:List AV) (parts:Array (Nat×Operand)):List (Nat×AV):=parts.toList.map fun p=>(p.1,tyfix P (partTy d p.1) (ev env p.2))

def dec (s:List UInt8) (pos:Nat):Nat×Nat:=Utf8.decode ⟨s.toArray⟩ pos
def aNext (h:AH):AV→Res
 | .ptr id 0=>match h.blk id with
  | some (.siter s pos)=>if pos < s.length then .ok (.tup [.bool true,.int .i64 pos,.int .i32 (dec s pos).1]) (h.put id (.siter s (pos+(dec s pos).2))) else .ok (.tup [.bool false]) h
  | _=>.fail
 | _=>.fail

def xM (P:Program) (kt:TypeId) (a b:AV):Option Bool :=
 match P.underlying kt with
 | some .bool=>aEq1 .b a b
 | some (.int _)=>aEq1 .i a b
 | some .string=>aEq1 .s a b
 | some (.struct _)=>match a,b with
  | .agg cs,.agg ds=>(match xy P 6 kt with
   | some ks=>qa ks cs ds
   | none=>none)
  | _,_=>none
 | _=>none
def aFind (P:Program) (kt:TypeId) (k:AV):List (AV×AV)→Nat→Option (Option (Nat×AV))
 | [],_=>some none
 | e::r,i=>match xM P kt k e.1 with
  | some true=>some (some (i,e.2))
  | some false=>aFind P kt k r (i+1)
  | none=>none
def aZero (P:Program) (t:TypeId):Option AV :=
 match P.info? t with
 | some i=>match i.zero with
  | some z=>if okc z then (match cv z with
   | .agg cs=>some (.agg (fixCells P (leafTys P 6 t) cs))
   | v=>some (tyfix P t v)) else none
  | none=>none
 | none=>none
def AV.zc1:AV→AV
 | .osl _ k es=>.sl k es
 | v=>v
def AV.zcl:AV→AV
 | .agg cs=>.agg (cs.map AV.zc1)
 | v=>v
def aZeroM (P:Program) (t:TypeId):Option AV:=(aZero P t).map AV.zcl
def withOk (ok:Bool) (v:AV) (b:Bool):AV:=if ok then .tup [v,.bool b] else v
def aLookup (P:Program) (h:AH) (kt et:TypeId) (ok:Bool) (m k:AV):Option AV :=
 if xM P kt k k=some true then (match m with
  | .nilm=>(aZeroM P et).map fun z=>withOk ok z false
  | .map id=>match h.blk id with
   | some (.mapo es _)=>match aFind P kt k es 0,aZeroM P et with
    | some (some (_,v)),_=>some (withOk ok v true)
    | some none,some z=>some (withOk ok z false)
    | _,_=>none
   | _=>none
  | _=>none) else none
def aEntry (P:Program) (h:AH) (kt et:TypeId) (m k:AV):Option (AV×AH) :=
 if xM P kt k k=some true then (match m with
  | .map id=>match h.blk id with
   | some (.mapo es 0)=>match aFind P kt k es 0,aZeroM P et with
    | some (some (i,v)),_=>some (.tup [v,.int .i64 i],h)
    | some none,some z=>some (.tup [z,.int .i64 es.length],h.put id (.mapo (es++[(k,z)]) 0))
    | _,_=>none
   | _=>none
  | _=>none) else none
def qO (h:AH) (m s x:AV):Option AH :=
 match m,s with
 | .map id,.int _ n=>match h.blk id with
  | some (.mapo es 0)=>if 0≤n then (match es[n.toNat]? with
   | some e=>some (h.put id (.mapo (es.set n.toNat (e.1,x.zcl)) 0))
   | none=>none) else none
  | _=>none
 | _,_=>none
def aMapPut (P:Program) (h:AH) (kt:TypeId) (m k x:AV):Option AH :=
 if xM P kt k k=some true then (match m with
  | .map id=>match h.blk id with
   | some (.mapo es c)=>match aFind P kt k es 0 with
    | some (some (i,_))=>some (h.put id (.mapo (es.set i (k,x.zcl)) c))
    | some none=>some (h.put id (.mapo (es++[(k,x.zcl)]) c))
    | none=>none
   | _=>none
  | _=>none) else none

def aRecv (P:Program) (h:AH) (t:TypeId) (v:AV) (name:String):Option (FuncId×AV) :=
 match P.info? t with
 | some i=>match i.methods.toList.find? (fun m=>m.name==name) with
  | some m=>if m.path.isEmpty then (match m.func with
   | some (f,p)=>match P.underlying t,p with
    | some (.pointer _),true=>some (f,v)
    | some (.pointer e),false=>match v,P.underlying e,P.info? e with
     | .ptr id off,some d,some j=>(aLoad h (yq d) j.size (.ptr id off)).map fun x=>(f,tyfix P e x)
     | _,_,_=>none
    | some _,false=>some (f,v)
    | _,_=>none
   | none=>none) else none
  | none=>none
 | none=>none
def zK (P:Program) (o:Oper) (env:List AV) (h:AH):Res :=
 match o.op with
 | .move x | .assign x=>if yo x then .ok (tyfix P o.type (ev env x)) h else .fail
 | .pick c a b=>if yo a&&yo b&&yo c then (match ev env c with
  | .bool t=>.ok (if t then ev env a else ev env b) h
  | _=>.fail) else .fail
 | .alloc t=>match xO P t with
  | some cs=>.ok (.ptr h.blks.length 0) (h.new (.cells cs))
  | none=>.fail
 | .box t x=>if yo x then (match (tyfix P t (ev env x)).cells? with
  | some cs=>.ok (.ptr h.blks.length 0) (h.new (.cells cs))
  | none=>.fail) else .fail
 | .build t parts=>if parts.all fun p=>yo p.2 then (match P.underlying t,xO P t with
  | some (.struct fs),some z=>match vU P fs with
   | some pl=>oo h ((vg (fun i=>pl[i]?) z (y8 P (.struct fs) env parts)).map .agg)
   | none=>.fail
  | some (.array n e),some z=>match P.info? e with
   | some j=>oo h ((vg (fun i=>some (i * j.size,j.size)) z (y8 P (.array n e) env parts)).map .agg)
   | none=>.fail
  | _,_=>.fail) else .fail
 | .load t a=>match P.underlying t,P.info? t with
  | some d,some i=>oo h ((aLoad h (yq d) i.size (ev env a)).map (tyfix P t))
  | _,_=>.fail
 | .store t a x=>if yo x then (match P.info? t with
  | some i=>oh (aStore h i.size (ev env a) (tyfix P t (ev env x)))
  | none=>.fail) else .fail
 | .nilCheck x=>if yo x then (match ev env x with
  | .ptr id o=>.ok (.ptr id o) h
  | .fptr cs=>.ok (.fptr cs) h
  | .rptr id t k n p=>.ok (.rptr id t k n p) h
  | .gptr m=>.ok (.gptr m) h
  | .fn (.func f) a b=>.ok (.fn (.func f) a b) h
  | _=>.fail) else .fail
 | .binOp op t x y _=>if yo x&&yo y then (match aNilq P op t h (ev env x) (ev env y) with
  | some S=>.any S
  | none=>oo h (aBin P op t (ev env x) (ev env y))) else .fail
 | .unOp op _ x=>if yo x then oo h (aUn op (ev env x)) else .fail
 | .convert s t x=>if yo x then (match P.underlying s,P.underlying t with
  | some _,some d=>oo h (aConvert d (ev env x))
  | _,_=>.fail) else .fail
 | .makeFunc f a b=>if a.all yo&&b.all yo then .ok (.fn f (a.toList.map (ev env)) (b.toList.map (ev env))) h else .fail
 | .slice t x lo hi mx=>if yo x&&lo.all yo&&hi.all yo&&mx.all yo then (match P.underlying t with
  | some .string=>match ev env x with
   | .str s=>oo h (aSlice (.str s) (lo.map (ev env)) (hi.map (ev env)) (mx.map (ev env)))
   | _=>.fail
  | some (.slice e)=>match P.info? e with
   | some i=>match tyfix P t (ev env x) with
    | .sl k es=>if k=i.size then oo h (aSlice (.sl k es) (lo.map (ev env)) (hi.map (ev env)) (mx.map (ev env))) else .fail
    | .osl q k es=>if k=i.size then oo h (aSlice (.osl q k es) (lo.map (ev env)) (hi.map (ev env)) (mx.map (ev env))) else .fail
    | _=>.fail
   | none=>.fail
  | _=>.fail) else .fail
 | .fieldAddr t x f=>match qJ P t f with
  | some (off,u)=>match P.info? u with
   | some i=>if i.size=0 ∨ yo x=false then .fail else oo h (aFieldAddr off (ev env x))
   | none=>.fail
  | none=>.fail
 | .field t x f=>match qJ P t f with
  | some (off,u)=>match P.underlying u,P.info? u with
   | some d,some i=>if yo x then oo h ((aPart (yq d) off i.size (ev env x)).map (tyfix P u)) else .fail
   | _,_=>.fail
  | none=>.fail
 | .indexAddr t x i=>if yo x&&yo i then (match P.underlying t with
  | some (.slice e)=>match P.info? e with
   | some j=>oo h (aIndexAddr j.size (ev env x) (ev env i))
   | none=>.fail
  | some (.array n e)=>match P.info? e with
   | some j=>oo h (aIndexArr n j.size (ev env x) (ev env i))
   | none=>.fail
  | _=>.fail) else .fail
 | .index t x i=>if yo x&&yo i then (match P.underlying t with
  | some .string=>oo h (aIndexStr (ev env x) (ev env i))
  | some (.array n e)=>match P.underlying e,P.info? e with
   | some d,some j=>oo h ((aIndexAgg (yq d) n j.size (ev env x) (ev env i)).map (tyfix P e))
   | _,_=>.fail
  | _=>.fail) else .fail
 | .extract t i=>if yo t then (match ev env t with
  | .tup vs=>oo h ((vs[i]?).map (tyfix P o.type))
  | _=>.fail) else .fail
 | .buildSlice t n parts=>if parts.all fun p=>yo p.2 then (match P.underlying t with
  | some (.slice e)=>match P.info? e,xO P e with
   | some i,some z=>if 0 < i.size∧n * i.size≤65536∧z.length=i.size then
     (match (vg (fun j=>some (j * i.size,i.size)) ((List.replicate n z).flatten) (y8 P (.slice e) env parts)) with
           | some cs=>match xJ cs with
             | some cs=>.ok (.osl none i.size (rows i.size n cs)) h
             | none=>.fail
           | none=>.fail) else .fail
   | _,_=>.fail
  | _=>.fail) else .fail
 | .call c=>if c.args.all yo&&c.args.size==c.argTypes.size then (match c.callee with
  | .builtin b=>qP P h b c.argTypes.toList (c.args.toList.map (ev env))
  | .value f=>if yo f=false then .fail else match ev env f with
   | .fn (.func g) first caps=>.call g (first++(c.args.toList.zip c.argTypes.toList).map (fun p=>tyfix P p.2 (ev env p.1))++caps)
   | .yld id=>.round id ((c.args.toList.zip c.argTypes.toList).map (fun p=>tyfix P p.2 (ev env p.1)))
   | _=>.fail
  | .invoke x name=>if yo x=false then .fail else match ev env x with
   | .iface t v=>match aRecv P h t v name with
    | some (g,b)=>.call g (b::(c.args.toList.zip c.argTypes.toList).map (fun p=>tyfix P p.2 (ev env p.1)))
    | none=>.fail
   | _=>.fail) else .fail
 | .range t x=>if yo x then (match P.underlying t,ev env x with
  | some .string,.str s=>.ok (.ptr h.blks.length 0) (h.new (.siter s 0))
  | _,_=>.fail) else .fail
 | .next x str=>if yo x&&str then aNext h (ev env x) else .fail
 | .makeMap _ none=>.ok (.map h.blks.length) (h.new (.mapo [] 0))
 | .lookup t x i ok=>if yo x&&yo i then (match P.underlying t with
  | some (.map kt et)=>oo h (aLookup P h kt et ok (ev env x) (ev env i))
  | _=>.fail) else .fail
 | .mapEntry t x i=>if yo x&&yo i then (match P.underlying t with
  | some (.map kt et)=>ovh (aEntry P h kt et (ev env x) (ev env i))
  | _=>.fail) else .fail
 | .entryStore _ x i y=>if yo x&&yo i&&yo y then oh (qO h (ev env x) (ev env i) (ev env y)) else .fail
 | .mapUpdate t x i y=>if yo x&&yo i&&yo y then (match P.underlying t with
  | some (.map kt _)=>oh (aMapPut P h kt (ev env x) (ev env i) (ev env y))
  | _=>.fail) else .fail
 | _=>.fail

end Go.Vv
namespace Go.Vv
open Go Go.RowKit

def ME (g:Gh):List (AV×AV)→List MapEntry→Prop
 | [],es=>es=[]
 | (k,x)::r,es=>∃ e s,es=e::s∧V g k e.key∧V g x e.val∧ME g r s

theorem ME.mono {g g':Gh} (h:g.le g'):∀ (a5:List (AV×AV)) (vs:List MapEntry),ME g a5 vs→ME g' a5 vs
 | [],_,hv=>by simpa only [ME] using hv
 | (k,x)::r,_,hv=>by
  simp only [ME] at hv ⊢
  obtain ⟨e,s,rfl,h1,h2,h3⟩:=hv
  exact ⟨e,s,rfl,h1.mono h,h2.mono h,ME.mono h r s h3⟩

theorem VA.dd {g:Gh} {d:List Nat} {a5:List AV} {vs:List Value} (h:VA g a5 vs):VA { g with δ:=d } a5 vs:=VA.monoV (g.lv_dd d) _ _ h
theorem ME.dd {g:Gh} {d:List Nat}:∀ {a5:List (AV×AV)} {vs:List MapEntry},ME g a5 vs→ME { g with δ:=d } a5 vs
 | [],_,hv=>by simpa only [ME] using hv
 | (k,x)::r,_,hv=>by
  simp only [ME] at hv ⊢
  obtain ⟨e,s,rfl,h1,h2,h3⟩:=hv
  exact ⟨e,s,rfl,V.monoV (g.lv_dd d) _ _ h1,V.monoV (g.lv_dd d) _ _ h2,ME.dd h3⟩
def BlkOk (g:Gh) (w:World) (c:Nat):Blk→Prop
 | .cells cs=>∃ vs t,w.heap[c]?=some (.cells vs t (0,0))∧VA g cs vs.toList
 | .siter s pos=>w.heap[c]?=some (.stringIter ⟨s.toArray⟩ pos)
 | .mapo es clock=>∃ ents n,w.heap[c]?=some (.map ents n)∧ME g es ents.toList∧(clock=0→n=ents.size∧∀ (i:Nat) (e:MapEntry),ents[i]?=some e→e.born=i)
 | .loop st pe env ps assign body=>∃ fn tmps d,w.heap[c]?=some (.loop { state:=st,pending:=pe,fn,tmps,params:=ps,assign,body,defers:=d })∧VL g env tmps.toList
 | .row _ _ _=>False
 | .bld T x=>∃ a v,w.heap[c]?=some (.cells #[a,v] T (0,0))∧(a=.pointer none ∨ a=.pointer (some ⟨c,0,none⟩))∧x.one=true∧V g x v
 | .miter id n seen=>∃ m,g.σ[id]?=some (some m)∧w.heap[c]?=some (.mapIter (some m) n seen.toArray n)
 | .miter0=>w.heap[c]?=some (.mapIter none 0 #[] 0)
 | .other | .dead=>True
def RowOk (g:Gh) (w:World) (i k:Nat) (es:List (List AV)):Prop :=
 ∃ t,g.τ[i]?=some t∧t.row=true∧t.n=es.length∧(∀ e ∈ es,e.length=k)∧es.flatten.all AV.pure=true∧(es=[] ∨ ∃ b o e cs ty,t.loc=some (b,o+es.length * k,e) ∧
  w.heap[b]?=some (.cells cs ty (0,0))∧VA g es.flatten ((cs.toList.drop o).take (es.length * k))∧o+es.length * k≤cs.size∧∀ j,o≤j→g.Φ b j=none)
def RowB (g:Gh) (w:World):Blk→Prop
 | .row i k es=>RowOk g w i k es
 | .dead=>True
 | _=>False

theorem BlkOk.mono {g g':Gh} {w w':World} {c:Nat} {k:Blk} (h:g.le g') (hw:w'.heap[c]?=w.heap[c]?) (hb:BlkOk g w c k):BlkOk g' w' c k:=by
 cases k with
 | cells cs=>obtain ⟨vs,t,h1,h2⟩:=hb;exact ⟨vs,t,hw.trans h1,h2.mono h⟩
 | bld T x=>obtain ⟨a,v,h1,h2,h3,h4⟩:=hb;exact ⟨a,v,hw.trans h1,h2,h3,V.mono h _ _ h4⟩
 | siter s pos=>exact hw.trans hb
 | mapo es clock=>obtain ⟨ents,n,h1,h2,h3⟩:=hb;exact ⟨ents,n,hw.trans h1,h2.mono h,h3⟩
 | loop st pe env ps assign body=>obtain ⟨fn,tmps,d,h1,h2⟩:=hb;exact ⟨fn,tmps,d,hw.trans h1,h2.mono h⟩
 | row _ _ _=>exact hb
 | miter id n seen=>obtain ⟨m,h1,h2⟩:=hb;exact ⟨m,h.sig _ _ h1,hw.trans h2⟩
 | miter0=>exact hw.trans hb
 | other=>trivial
 | dead=>trivial
theorem RowOk.mono {g g':Gh} {w w':World} {i k:Nat} {es:List (List AV)} (h:g.le g') (ht:g'.τ[i]?=g.τ[i]?)
  (hw:∀ t b x,g.τ[i]?=some t→t.row=true→t.loc=some (b,x)→w'.heap[b]?=w.heap[b]?∧∀ j,g'.Φ b j=g.Φ b j) (hr:RowOk g w i k es):RowOk g' w' i k es:=by
 obtain ⟨t,h1,h2,h3,h4,h5,h6⟩:=hr
 refine ⟨t,ht.trans h1,h2,h3,h4,h5,h6.imp id ?_⟩
 rintro ⟨b,o,e,cs,ty,k1,k2,k3,k4,k5⟩
 obtain ⟨q1,q2⟩:=hw t b _ h1 h2 k1
 exact ⟨b,o,e,cs,ty,k1,q1.trans k2,k3.mono h,k4,fun j hj=>(q2 j).trans (k5 j hj)⟩
theorem RowB.mono {g g':Gh} {w w':World} {k:Blk} (h:g.le g') (ht:∀ (i:Nat) (t:TI),g.τ[i]?=some t→t.row=true→g'.τ[i]?=some t)
  (hw:∀ (i:Nat) t b x,g.τ[i]?=some t→t.row=true→t.loc=some (b,x)→w'.heap[b]?=w.heap[b]?∧∀ j,g'.Φ b j=g.Φ b j) (hr:RowB g w k):RowB g' w' k:=by
 cases k with
 | row i k es =>
  have hr:RowOk g w i k es:=hr
  obtain ⟨t,h1,h2,_⟩:=id hr
  exact hr.mono h ((ht i t h1 h2).trans h1.symm) (hw i)
 | dead=>trivial
 | _=>exact hr.elim

structure LocOk (Φ:Nat→Nat→Option Value) (B:Nat) (w:World) (b l e:Nat):Prop where
 lo:B≤b
 lt:b < w.heap.size
 cells:∃ cs ty,w.heap[b]?=some (.cells cs ty (0,0))∧e≤cs.size
 free:∀ j,l≤j→Φ b j=none

theorem LocOk.mono {Φ Φ':Nat→Nat→Option Value} {B:Nat} {w w':World} {b l e:Nat} (h:LocOk Φ B w b l e) (hz:w.heap.size≤w'.heap.size) (hw:w'.heap[b]?=w.heap[b]?)
  (hf:∀ j,l≤j→Φ' b j=Φ b j):LocOk Φ' B w' b l e :=
 ⟨h.lo,Nat.lt_of_lt_of_le h.lt hz,by obtain ⟨cs,ty,h1,h2⟩:=h.cells;exact ⟨cs,ty,hw.trans h1,h2⟩,fun j hj=>(hf j hj).trans (h.free j hj)⟩

def Apart (g:Gh) (b:Nat):Prop:=(∀ i:Nat,g.σ[i]? ≠ some (some b))∧b ∉ g.δ∧∀ (i:Nat) (t:TI) (x:Nat×Nat),g.τ[i]?=some t→t.loc ≠ some (b,x)
def NOk (B:Nat) (g:Gh) (w:World) (b:Nat):BK→Prop
 | .new s=>B≤b∧Apart g b∧∃ cs ty,w.heap[b]?=some (.cells cs ty (0,0))∧cs.size=s
 | .gar s=>B≤b∧Apart g b∧(∃ cs ty,w.heap[b]?=some (.cells cs ty (0,0))∧cs.size=s)∧∀ j,g.Φ b j=none
 | .shut o=>B≤b∧Apart g b∧w.heap[b]?=some o∧∀ j,g.Φ b j=none
 | .frz o=>B≤b∧Apart g b∧w.heap[b]?=some o
theorem NOk.mono {B:Nat} {g g':Gh} {w w':World} {b:Nat} {x:BK} (h:NOk B g w b x)
  (k:B≤b→b < w.heap.size→Apart g b→w'.heap[b]?=w.heap[b]?∧Apart g' b∧((∀ j,g.Φ b j=none)→∀ j,g'.Φ b j=none)):NOk B g' w' b x:=by
 cases x with
 | new s =>
  obtain ⟨h1,h2,cs,ty,h3,h4⟩:=h
  obtain ⟨k1,k2,_⟩:=k h1 (Array.getElem?_eq_some_iff.1 h3).1 h2
  exact ⟨h1,k2,cs,ty,k1.trans h3,h4⟩
 | gar s =>
  obtain ⟨h1,h2,⟨cs,ty,h3,h4⟩,h5⟩:=h
  obtain ⟨k1,k2,k3⟩:=k h1 (Array.getElem?_eq_some_iff.1 h3).1 h2
  exact ⟨h1,k2,⟨cs,ty,k1.trans h3,h4⟩,k3 h5⟩
 | shut o =>
  obtain ⟨h1,h2,h3,h5⟩:=h
  obtain ⟨k1,k2,k3⟩:=k h1 (Array.getElem?_eq_some_iff.1 h3).1 h2
  exact ⟨h1,k2,k1.trans h3,k3 h5⟩
 | frz o =>
  obtain ⟨h1,h2,h3⟩:=h
  obtain ⟨k1,k2,_⟩:=k h1 (Array.getElem?_eq_some_iff.1 h3).1 h2
  exact ⟨h1,k2,k1.trans h3⟩

structure Rel (B:Nat) (w0:World) (g:Gh) (h:AH) (w:World):Prop where
 below:Below B w0 w
 bsz:B≤w.heap.size
 phi:∀ b j v,g.Φ b j=some v→w.cell? ⟨b,j,none⟩=some v
 slen:g.σ.length=h.blks.length
 blk:∀ (i c:Nat) (k:Blk),g.σ[i]?=some (some c)→h.blks[i]?=some k→B≤c∧c < w.heap.size∧BlkOk g w c k∧(k ≠ .dead→∀ j,g.Φ c j=none)
 tlen:g.τ.length=h.toks.length
 tok:∀ (i:Nat) (t:TI),g.τ[i]?=some t→h.toks[i]?=some t.n∧∀ b l e,t.loc=some (b,l,e)→LocOk g.Φ B w b l e
 sinj:∀ (i j c:Nat),g.σ[i]?=some (some c)→g.σ[j]?=some (some c)→i=j
 tinj:∀ (i j:Nat) (t t':TI) (b:Nat) (x y:Nat×Nat),g.τ[i]?=some t→g.τ[j]?=some t'→t.loc=some (b,x)→t'.loc=some (b,y)→i=j
 sep:∀ (i c j:Nat) (t:TI) (b:Nat) (x:Nat×Nat),g.σ[i]?=some (some c)→g.τ[j]?=some t→t.loc=some (b,x)→b ≠ c
 dfr:∀ c,c ∈ g.δ→B≤c∧w.heap[c]?=some (.deferred (some []))∧∀ i:Nat,g.σ[i]? ≠ some (some c)
 row:∀ (i:Nat) (k:Blk),g.σ[i]?=some none→h.blks[i]?=some k→RowB g w k
 rinj:∀ (i j t k k':Nat) (es es':List (List AV)),h.blks[i]?=some (.row t k es)→h.blks[j]?=some (.row t k' es')→i=j
 nb:∀ (b:Nat) (x:BK),g.N b=some x→NOk B g w b x
 ob:∀ b:Nat,g.O b→b < w.heap.size∧∀ s,g.N b ≠ some (.new s)∧g.N b ≠ some (.gar s)
 oa:∀ b:Nat,g.O b→Apart g b

section
variable {B:Nat} {w0 w:World} {g:Gh} {h:AH}

theorem Rel.phi_lt (r:Rel B w0 g h w) {b j:Nat} {v:Value} (e:g.Φ b j=some v):b < w.heap.size:=World.block_lt_of_cell? w ⟨b,j,none⟩ (r.phi b j v e)

theorem Rel.drew (r:Rel B w0 g h w):Rel B w0 g h w.drew :=
 ⟨r.below.drew,r.bsz,r.phi,r.slen,fun i c k hc hk=>by obtain ⟨h1,h2,h3,h4⟩:=r.blk i c k hc hk;exact ⟨h1,h2,h3.mono (Gh.le.refl g) rfl,h4⟩,r.tlen,
   fun i t ht=>by obtain ⟨h1,h2⟩:=r.tok i t ht;exact ⟨h1,fun b l e hl=>(h2 b l e hl).mono (Nat.le_refl _) rfl fun _ _=>rfl⟩,r.sinj,r.tinj,r.sep,r.dfr,fun i k hi hk=>(r.row i k hi hk).mono (Gh.le.refl g) (fun _ _ h _=>h) (fun _ _ _ _ _ _ _=>⟨rfl,fun _=>rfl⟩),r.rinj,fun b x hb=>(r.nb b x hb).mono fun _ _ ha=>⟨rfl,ha,fun h=>h⟩,r.ob,r.oa⟩
theorem Rel.nlt (r:Rel B w0 g h w) {b:Nat} {x:BK} (hb:g.N b=some x):b < w.heap.size:=by
 have:=r.nb b x hb
 cases x with
 | new s=>obtain ⟨_,_,cs,ty,h3,_⟩:=this;exact (Array.getElem?_eq_some_iff.1 h3).1
 | gar s=>obtain ⟨_,_,⟨cs,ty,h3,_⟩,_⟩:=this;exact (Array.getElem?_eq_some_iff.1 h3).1
 | shut o=>exact (Array.getElem?_eq_some_iff.1 this.2.2.1).1
 | frz o=>exact (Array.getElem?_eq_some_iff.1 this.2.2).1
theorem Rel.nnew (r:Rel B w0 g h w) {b:Nat} (hb:w.heap.size≤b):g.N b=none:=by
 rcases hx:g.N b with _ | x
 ·rfl
 ·exact absurd (r.nlt hx) (by omega)
theorem Rel.ntok (r:Rel B w0 g h w) {i:Nat} {t:TI} {b:Nat} {y:Nat×Nat} (ht:g.τ[i]?=some t) (hl:t.loc=some (b,y)):g.N b=none:=by
 rcases hx:g.N b with _ | x
 ·rfl
 ·have:=r.nb b x hx
  cases x <;> exact absurd hl (this.2.1.2.2 i t y ht)
theorem Rel.nsig (r:Rel B w0 g h w) {i c:Nat} (hi:g.σ[i]?=some (some c)):g.N c=none:=by
 rcases hx:g.N c with _ | x
 ·rfl
 ·have:=r.nb c x hx
  cases x <;> exact absurd hi (this.2.1.1 i)
theorem Rel.otok (r:Rel B w0 g h w) {i:Nat} {t:TI} {b:Nat} {y:Nat×Nat} (ht:g.τ[i]?=some t) (hl:t.loc=some (b,y)):¬ g.O b:=fun h=>(r.oa b h).2.2 i t y ht hl
theorem Rel.nold (r:Rel B w0 g h w) {b:Nat} (hb:w.heap.size≤b):¬ g.O b:=fun h=>absurd (r.ob b h).1 (by omega)
theorem Rel.dfr_lt (r:Rel B w0 g h w) {c:Nat} (hc:c ∈ g.δ):c < w.heap.size:=(Array.getElem?_eq_some_iff.1 (r.dfr c hc).2.1).1

theorem Rel.alloc0 (r:Rel B w0 g h w) (o:Obj):Rel B w0 g h (w.alloc o) :=
 ⟨r.below.alloc r.bsz o,by have:=r.bsz;simp;omega,fun b j v e=>(World.cell?_alloc_lt w o ⟨b,j,none⟩ (r.phi_lt e)).trans (r.phi b j v e),r.slen,
   fun i c k hc hk=>by
     obtain ⟨h1,h2,h3,h4⟩:=r.blk i c k hc hk
     exact ⟨h1,by simp;omega,h3.mono (Gh.le.refl g) (Below.heap_alloc w o c h2),h4⟩,r.tlen,
   fun i t ht=>by
     obtain ⟨h1,h2⟩:=r.tok i t ht
     exact ⟨h1,fun b l e hl=>(h2 b l e hl).mono (by simp) (Below.heap_alloc w o b (h2 b l e hl).lt) fun _ _=>rfl⟩,r.sinj,r.tinj,r.sep,fun c hc=>⟨(r.dfr c hc).1,(Below.heap_alloc w o c (r.dfr_lt hc)).trans (r.dfr c hc).2.1,(r.dfr c hc).2.2⟩,fun i k hi hk=>(r.row i k hi hk).mono (Gh.le.refl g) (fun _ _ h _=>h) (fun i t b x ht _ hl=>⟨Below.heap_alloc w o b ((r.tok i t ht).2 b x.1 x.2 hl).lt,fun _=>rfl⟩),r.rinj,fun b x hb=>(r.nb b x hb).mono fun _ hl ha=>⟨Below.heap_alloc w o b hl,ha,fun h=>h⟩,fun b hb=>⟨by have:=(r.ob b hb).1;simp;omega,(r.ob b hb).2⟩,r.oa⟩

def Gh.addS (g:Gh) (c:Option Nat):Gh:={ g with σ:=g.σ++[c] }
theorem Gh.le_addS (g:Gh) (c:Option Nat):g.le (g.addS c) :=
 ⟨fun _ _ _ e=>e,fun i x e=>by
  have:i < g.σ.length:=(List.getElem?_eq_some_iff.1 e).1
  simp only [Gh.addS];rw [List.getElem?_append_left this];exact e,fun _ t e=>⟨t,e,Nat.le_refl _,fun _=>rfl,rfl⟩,fun _ h=>h,fun _ _ h=>h,fun _ h=>h⟩
theorem addS_get {g:Gh} {c x:Option Nat} {i:Nat} (e:(g.addS c).σ[i]?=some x):g.σ[i]?=some x ∨ (i=g.σ.length∧x=c):=by
 simp only [Gh.addS] at e
 grind

theorem Rel.adopt (r:Rel B w0 g h w) {c:Nat} (k:Blk) (hB:B≤c) (hc:c < w.heap.size) (hk:BlkOk (g.addS (some c)) w c k) (hfree:∀ j,g.Φ c j=none)
  (hs:∀ (i x:Nat),g.σ[i]?=some (some x)→x ≠ c) (ht:∀ (i:Nat) (t:TI) (b:Nat) (x:Nat×Nat),g.τ[i]?=some t→t.loc=some (b,x)→b ≠ c) (hdl:c ∉ g.δ) (hnb:g.N c=none) (hno:¬ g.O c) :
  Rel B w0 (g.addS (some c)) (h.new k) w :=
 ⟨r.below,r.bsz,r.phi,by simp [Gh.addS,AH.new,r.slen],fun i x k' hx hk'=>by
   have hlen:=r.slen
   rcases addS_get hx with hx | ⟨rfl,he⟩
   ·have hi:i < h.blks.length:=by rw [← hlen];exact (List.getElem?_eq_some_iff.1 hx).1
    simp only [AH.new] at hk'
    rw [List.getElem?_append_left hi] at hk'
    obtain ⟨h1,h2,h3,h4⟩:=r.blk i x k' hx hk'
    exact ⟨h1,h2,h3.mono (g.le_addS _) rfl,h4⟩
   ·obtain rfl:=Option.some.inj he
    simp only [AH.new] at hk'
    rw [hlen,List.getElem?_append_right (Nat.le_refl _)] at hk'
    simp at hk';subst hk'
    exact ⟨hB,hc,hk,fun _=>hfree⟩,r.tlen,r.tok,
  fun i j x hi hj=>by
   rcases addS_get hi with hi | ⟨rfl,e0⟩ <;> rcases addS_get hj with hj | ⟨rfl,e⟩
   ·exact r.sinj i j x hi hj
   ·exact absurd (Option.some.inj e) (hs i x hi)
   ·exact absurd (Option.some.inj e0) (hs j _ hj)
   ·rfl,
  r.tinj,fun i x j t b y hx ht' hl=>by
   rcases addS_get hx with hx | ⟨rfl,he⟩
   ·exact r.sep i x j t b y hx ht' hl
   ·obtain rfl:=Option.some.inj he
    exact ht j t b y ht' hl,
  fun x hx=>⟨(r.dfr x hx).1,(r.dfr x hx).2.1,fun i hi=>by
   rcases addS_get hi with hi | ⟨_,he⟩
   ·exact (r.dfr x hx).2.2 i hi
   ·obtain rfl:=Option.some.inj he
    exact hdl hx⟩,
  fun i k' hi hk'=>by
   rcases addS_get hi with hi | ⟨_,he⟩
   ·have hl:i < h.blks.length:=by rw [← r.slen];exact (List.getElem?_eq_some_iff.1 hi).1
    simp only [AH.new] at hk'
    rw [List.getElem?_append_left hl] at hk'
    exact (r.row i k' hi hk').mono (g.le_addS _) (fun _ _ h _=>h) (fun _ _ _ _ _ _ _=>⟨rfl,fun _=>rfl⟩)
   ·exact absurd he (by simp),
  fun i j t k1 k2 es es' hi hj=>by
   have nr:∀ t k1 es,k ≠ .row t k1 es:=by rintro t k1 es rfl;exact hk
   simp only [AH.new] at hi hj
   have key:∀ (i t k1:Nat) (es:List (List AV)),(h.blks++[k])[i]?=some (.row t k1 es)→h.blks[i]?=some (.row t k1 es):=by
    intro i t k1 es hi
    grind
   exact r.rinj i j t k1 k2 es es' (key _ _ _ _ hi) (key _ _ _ _ hj),
  fun b x hb=>by
   by_cases hbc:b=c
   ·subst hbc
    have hb:g.N b=some x:=hb
    rw [hnb] at hb;cases hb
   ·exact (r.nb b x hb).mono fun _ _ ha=>⟨rfl,⟨fun i hi=>by
     rcases addS_get hi with hi | ⟨_,he⟩
     ·exact ha.1 i hi
     ·exact hbc (Option.some.inj he),ha.2⟩,fun h=>h⟩,r.ob,
  fun b hb=>by
   have ha:=r.oa b hb
   refine ⟨fun i hi=>?_,ha.2⟩
   rcases addS_get hi with hi | ⟨_,he⟩
   ·exact ha.1 i hi
   ·obtain rfl:=Option.some.inj he
    exact hno hb⟩

theorem Rel.newBlk (r:Rel B w0 g h w) (o:Obj) (k:Blk) (hk:BlkOk (g.addS (some w.heap.size)) (w.alloc o) w.heap.size k):Rel B w0 (g.addS (some w.heap.size)) (h.new k) (w.alloc o) :=
 (r.alloc0 o).adopt k r.bsz (by simp) hk
  (fun j=>by
   rcases he:g.Φ w.heap.size j with _ | v
   ·rfl
   ·exact absurd (r.phi_lt he) (Nat.lt_irrefl _))
  (fun i x hx e=>by
   have hi:i < h.blks.length:=by rw [← r.slen];exact (List.getElem?_eq_some_iff.1 hx).1
   have:=(r.blk i x _ hx (List.getElem?_eq_getElem hi)).2.1
   omega)
  (fun i t b x ht hl e=>by
   have:=((r.tok i t ht).2 b x.1 x.2 hl).lt
   omega)
  (fun hc=>Nat.lt_irrefl _ (r.dfr_lt hc)) (r.nnew (Nat.le_refl _)) (r.nold (Nat.le_refl _))

theorem Rel.newCells (r:Rel B w0 g h w) {cs:List AV} {vs:Array Value} (t:TypeId) (hv:VA g cs vs.toList) :
  Rel B w0 (g.addS (some w.heap.size)) (h.new (.cells cs)) (w.alloc (.cells vs t)) :=
 r.newBlk _ _ ⟨vs,t,heap_alloc_new w _,hv.mono (g.le_addS _)⟩

def Gh.vow (g:Gh) (b:Nat) (f:Nat→Option Value):Gh:={ g with Φ:=fun b' j=>if b'=b then (match g.Φ b j with | some v=>some v | none=>f j) else g.Φ b' j }
theorem Gh.le_vow (g:Gh) (b:Nat) (f:Nat→Option Value):g.le (g.vow b f) :=
 ⟨fun b' j v e=>by
  simp only [Gh.vow]
  by_cases hb:b'=b
  ·subst hb;simp [e]
  ·simp [hb,e],fun _ _ e=>e,fun _ t e=>⟨t,e,Nat.le_refl _,fun _=>rfl,rfl⟩,fun _ h=>h,fun _ _ h=>h,fun _ h=>h⟩

theorem Rel.vow (r:Rel B w0 g h w) {b:Nat} {f:Nat→Option Value} (hf:∀ j v,f j=some v→w.cell? ⟨b,j,none⟩=some v)
  (hs:∀ (i c:Nat),g.σ[i]?=some (some c)→h.blks[i]? ≠ some .dead→c ≠ b)
  (ht:∀ (i:Nat) (t:TI) (l e:Nat),g.τ[i]?=some t→t.loc=some (b,l,e)→t.row=false∧∀ j,l≤j→f j=none) (hnb:g.N b=none):Rel B w0 (g.vow b f) h w :=
 ⟨r.below,r.bsz,fun b' j v e=>by
   simp only [Gh.vow] at e
   by_cases hb:b'=b
   ·subst hb
    simp only [if_true] at e
    split at e
    ·rename_i v' he;cases e;exact r.phi _ _ _ he
    ·exact hf j v e
   ·simp only [hb,if_false] at e;exact r.phi _ _ _ e,r.slen,
  fun i c k hc hk=>by
   obtain ⟨h1,h2,h3,h4⟩:=r.blk i c k hc hk
   refine ⟨h1,h2,h3.mono (g.le_vow b f) rfl,fun hd j=>?_⟩
   have hne:c ≠ b:=hs i c hc (by rw [hk];intro e;injection e with e;exact hd e)
   simp only [Gh.vow,hne,if_false]
   exact h4 hd j,r.tlen,
  fun i t hi=>by
   obtain ⟨h1,h2⟩:=r.tok i t hi
   refine ⟨h1,fun b' l e hl=>(h2 b' l e hl).mono (Nat.le_refl _) rfl fun j hj=>?_⟩
   simp only [Gh.vow]
   by_cases hb:b'=b
   ·subst hb
    simp only [if_true,(h2 b' l e hl).free j hj]
    exact (ht i t l e hi hl).2 j hj
   ·simp only [hb,if_false],r.sinj,r.tinj,r.sep,r.dfr,
  fun i k hi hk=>(r.row i k hi hk).mono (g.le_vow b f) (fun _ _ h _=>h) (fun i t b' x ht' hr hl=>⟨rfl,fun j=>by
   have hne:b' ≠ b:=by
    rintro rfl
    grind
   simp only [Gh.vow,hne,if_false]⟩),r.rinj,
  fun b' x hb'=>by
   by_cases hbb:b'=b
   ·subst hbb
    have hb':g.N b'=some x:=hb'
    rw [hnb] at hb';cases hb'
   ·exact (r.nb b' x hb').mono fun _ _ ha=>⟨rfl,ha,fun h j=>by simp only [Gh.vow,hbb,if_false];exact h j⟩,r.ob,r.oa⟩

theorem Rel.newRow (r:Rel B w0 g h w) (vs:Array Value) (t:TypeId) (n:Nat) :
  Rel B w0 (g.vow w.heap.size fun j=>if j < n then vs[j]? else none) h (w.alloc (.cells vs t)) :=
 (r.alloc0 _).vow (fun j v e=>by
   split at e
   ·simp_all
   ·cases e)
  (fun i c hc _ e=>by
   have hi:i < h.blks.length:=by rw [← r.slen];exact (List.getElem?_eq_some_iff.1 hc).1
   have:=(r.blk i c _ hc (List.getElem?_eq_getElem hi)).2.1
   omega)
  (fun i t l e ht hl=>by
   have:=((r.tok i t ht).2 _ l e hl).lt
   omega) (r.nnew (Nat.le_refl _))

theorem Rel.putObj (r:Rel B w0 g h w) {i c:Nat} {k k':Blk} (hc:g.σ[i]?=some (some c)) (hk:h.blks[i]?=some k) (hd:k ≠ .dead) {w':World} (hos:w'.os=w.os) (htp:w'.tape=w.tape)
  (hou:w'.output=w.output) (hsz:w'.heap.size=w.heap.size) (hoth:∀ b,b ≠ c→w'.heap[b]?=w.heap[b]?) (hok:BlkOk g w' c k'):Rel B w0 g (h.put i k') w':=by
 obtain ⟨hB,hlt,_,hfree⟩:=r.blk i c k hc hk
 refine ⟨⟨hos.trans r.below.os,htp.trans r.below.tape,hou.trans r.below.output,by rw [hsz];exact r.below.size,fun b hb=>(hoth b (by omega)).trans (r.below.block b hb)⟩,
  by omega,fun b j v e=>?_,by simp [AH.put,r.slen],fun i' c' k'' hc' hk''=>?_,r.tlen,fun i' t ht=>?_,r.sinj,r.tinj,r.sep,fun x hx=>⟨(r.dfr x hx).1,(hoth x (by rintro rfl;exact (r.dfr x hx).2.2 i hc)).trans (r.dfr x hx).2.1,(r.dfr x hx).2.2⟩,fun i' q hi' hq=>?_,fun i1 i2 t k1 k2 es es' h1 h2=>?_,
  fun b x hb=>(r.nb b x hb).mono fun _ _ ha=>⟨hoth b (by rintro rfl;exact ha.1 i hc),ha,fun h=>h⟩,fun b hb=>⟨by rw [hsz];exact (r.ob b hb).1,(r.ob b hb).2⟩,r.oa⟩
 ·have hne:b ≠ c:=by rintro rfl;rw [hfree hd j] at e;cases e
  exact (World.cell?_of_block (w:=w) (w':=w') (a:=⟨b,j,none⟩) (hoth b hne)).trans (r.phi b j v e)
 ·simp only [AH.put] at hk''
  by_cases hi:i'=i
  ·grind
  ·rw [List.getElem?_set_ne (fun e=>hi e.symm)] at hk''
   obtain ⟨h1,h2,h3,h4⟩:=r.blk i' c' k'' hc' hk''
   have hne:c' ≠ c:=by rintro rfl;exact hi (r.sinj _ _ _ hc' hc)
   exact ⟨h1,by omega,h3.mono (Gh.le.refl g) (hoth c' hne),h4⟩
 ·obtain ⟨h1,h2⟩:=r.tok i' t ht
  refine ⟨h1,fun b l e hl=>(h2 b l e hl).mono (by omega) (hoth b ?_) fun _ _=>rfl⟩
  exact r.sep i c i' t b (l,e) hc ht hl
 ·have hi:i' ≠ i:=by rintro rfl;rw [hc] at hi';cases hi'
  simp only [AH.put] at hq
  rw [List.getElem?_set_ne (fun e=>hi e.symm)] at hq
  exact (r.row i' q hi' hq).mono (Gh.le.refl g) (fun _ _ h _=>h) (fun i2 t b x ht _ hl=>⟨hoth b (r.sep i c i2 t b x hc ht hl),fun _=>rfl⟩)
 ·have key:∀ (i1 t k1:Nat) (es:List (List AV)),(h.blks.set i k')[i1]?=some (.row t k1 es)→h.blks[i1]?=some (.row t k1 es):=by
   intro i1 t k1 es h1
   by_cases hi:i1=i
   ·subst hi
    rw [List.getElem?_set_self (List.getElem?_eq_some_iff.1 hk).1] at h1
    injection h1 with h1;subst h1
    exact hok.elim
   ·grind
  exact r.rinj i1 i2 t k1 k2 es es' (key _ _ _ _ h1) (key _ _ _ _ h2)
end
end Go.Vv
