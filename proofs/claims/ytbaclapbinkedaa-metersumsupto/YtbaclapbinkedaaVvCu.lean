/- What is told may be written over: kinds of slices are forgotten, or known at the beginning; a cut, behind which what was new may hold anything. -/
import Derived.Test.YtbaclapbinkedaaVvRd
import Derived.Test.YtbaclapbinkedaaVvR1
namespace Go.Vv
open Go Go.RowKit Go.Lib

def leG (p:Gh→Prop) (a b:AV):Prop:=∀ g v,p g→V g a v→V g b v
inductive leGR (p:Gh→Prop):List AV→List AV→Prop
 | nil:leGR p [] []
 | cons {a b:AV} {as bs:List AV} (hp:b.pure=true) (h:leG p a b) (t:leGR p as bs):leGR p (a::as) (b::bs)
inductive leGE (p:Gh→Prop):List (List AV)→List (List AV)→Prop
 | nil:leGE p [] []
 | cons {a b:List AV} {as bs:List (List AV)} (h:leGR p a b) (t:leGE p as bs):leGE p (a::as) (b::bs)
def AnyG (_:Gh):Prop:=True
def OldG (g:Gh):Prop:=∀ b j v,g.Φ b j=some v→g.O b
section
variable {p:Gh→Prop}
theorem leG.refl {a:AV}:leG p a a:=fun _ _ _ h=>h
theorem leGR.refl:∀ {as:List AV},as.all AV.pure=true→leGR p as as
 | [],_=>.nil
 | a::r,h=>by
  simp only [List.all_cons,Bool.and_eq_true] at h
  exact .cons h.1 leG.refl (leGR.refl h.2)
theorem leGR.len:∀ {as bs:List AV},leGR p as bs→as.length=bs.length
 | _,_,.nil=>rfl
 | _,_,.cons _ _ t=>by simp [t.len]
theorem leGE.len:∀ {as bs:List (List AV)},leGE p as bs→as.length=bs.length
 | _,_,.nil=>rfl
 | _,_,.cons _ t=>by simp [t.len]
theorem leGE.map {α:Type} {row row':α→List AV} (h:∀ x,leGR p (row x) (row' x)):∀ L:List α,leGE p (L.map row) (L.map row')
 | []=>.nil
 | x::r=>.cons (h x) (leGE.map h r)
theorem VC.leG {g:Gh} (hp:p g) {b:Nat}:∀ {o:Nat} {as bs:List AV},leGR p as bs→VC g b o as→VC g b o bs
 | _,_,_,.nil,_=>by simp only [VC]
 | _,_,_,.cons q h t,hv=>by
  simp only [VC] at hv ⊢
  obtain ⟨⟨v,h1,_,h3⟩,h4⟩:=hv
  exact ⟨⟨v,h1,q,h _ _ hp h3⟩,VC.leG hp t h4⟩
theorem VE.leG {g:Gh} (hp:p g) {b k:Nat}:∀ {o:Nat} {as bs:List (List AV)},leGE p as bs→VE g b k o as→VE g b k o bs
 | _,_,_,.nil,_=>by simp only [VE]
 | _,_,_,.cons h t,hv=>by
  simp only [VE] at hv ⊢
  obtain ⟨⟨h1,h2⟩,h3⟩:=hv
  exact ⟨⟨h.len.symm.trans h1,VC.leG hp h h2⟩,VE.leG hp t h3⟩
theorem leG.sl {k:Nat} {es es':List (List AV)} (h:leGE p es es'):leG p (.sl k es) (.sl k es'):=fun g v hp hv=>by
 simp only [V] at hv ⊢
 obtain ⟨a,c,e,h1,h2,h3⟩:=hv
 refine ⟨a,c,by rw [← h.len];exact e,by rw [← h.len];exact h1,h2,h3.imp (fun e=>?_) fun ⟨b,o,e,hh⟩=>⟨b,o,e,VE.leG hp h hh⟩⟩
 subst e;cases h;rfl
theorem leG.bsl {k:Nat} {es es':List (List AV)} (h:leGE p es es'):leG p (.bsl k es) (.sl k es'):=fun g v hp hv=>by
 simp only [V] at hv ⊢
 obtain ⟨a,c,e,h1,h2,h3⟩:=hv
 refine ⟨a,c,by rw [← h.len];exact e,by rw [← h.len];exact h1,h2,h3.imp (fun e=>?_) fun ⟨b,o,e,hh,_⟩=>⟨b,o,e,VE.leG hp h hh⟩⟩
 subst e;cases h;rfl
theorem leG.nsl {k:Nat} {es es':List (List AV)} (h:leGE p es es'):leG p (.nsl k es) (.sl k es'):=fun g v hp hv=>by
 simp only [V] at hv ⊢
 obtain ⟨a,c,e,h1,h2,h3⟩:=hv
 refine ⟨a,c,by rw [← h.len];exact e,by rw [← h.len];exact h1,h2,h3.imp (fun e=>?_) fun ⟨b,o,e,hh,_⟩=>⟨b,o,e,VE.leG hp h hh⟩⟩
 subst e;cases h;rfl
theorem leG.old {k:Nat} {es es':List (List AV)} (hk:0 < k) (h:leGE OldG es es'):leG OldG (.sl k es) (.bsl k es'):=fun g v hp hv=>by
 simp only [V] at hv ⊢
 obtain ⟨a,c,e,h1,h2,h3⟩:=hv
 refine ⟨a,c,by rw [← h.len];exact e,by rw [← h.len];exact h1,h2,?_⟩
 rcases h3 with rfl | ⟨b,o,e2,hh⟩
 ·left;cases h;rfl
 ·cases es with
  | nil=>left;cases h;rfl
  | cons x r =>
   refine .inr ⟨b,o,e2,VE.leG hp h hh,?_⟩
   simp only [VE] at hh
   obtain ⟨⟨h4,h5⟩,_⟩:=hh
   cases x with
   | nil=>simp at h4;omega
   | cons y q =>
    simp only [VC] at h5
    obtain ⟨⟨v,h6,_⟩,_⟩:=h5
    exact hp b o v h6
end
theorem leG.v {a b:AV} (h:leG AnyG a b):leV a b:=fun g v hv=>h g v trivial hv
def Gh.gv (g:Gh):Gh :=
 { g with Φ:=fun b j=>match g.N b with | some (.new _)=>none | _=>g.Φ b j,N:=fun b=>match g.N b with | some (.new s)=>some (.gar s) | x=>x }
def ctV (a b:AV):Prop:=∀ (B:Nat) (w0:World) (g:Gh) (h:AH) (w:World) (v:Value),Rel B w0 g h w→V g a v→V g.gv b v
inductive ctR:List AV→List AV→Prop
 | nil:ctR [] []
 | cons {a b:AV} {as bs:List AV} (hp:b.pure=true) (h:ctV a b) (t:ctR as bs):ctR (a::as) (b::bs)
inductive ctE:List (List AV)→List (List AV)→Prop
 | nil:ctE [] []
 | cons {a b:List AV} {as bs:List (List AV)} (h:ctR a b) (t:ctE as bs):ctE (a::as) (b::bs)
def AV.plain:AV→Bool
 | .bool _ | .int _ _ | .str _ | .any | .nilp | .nilm | .nilf | .nili | .nilsl | .glob _ | .tup []=>true
 | _=>false
theorem ctV.plain {a:AV} (h:a.plain=true):ctV a a:=fun B w0 g hh w v _ hv=>by
 unfold AV.plain at h
 split at h <;> first | (simp only [V];done) | (simp only [V,VL] at hv ⊢;exact hv) | cases h
theorem ctR.plain:∀ {as:List AV},as.all AV.plain=true→as.all AV.pure=true→ctR as as
 | [],_,_=>.nil
 | a::r,h,k=>by
  simp only [List.all_cons,Bool.and_eq_true] at h k
  exact .cons k.1 (.plain h.1) (ctR.plain h.2 k.2)
theorem ctR.len:∀ {as bs:List AV},ctR as bs→as.length=bs.length
 | _,_,.nil=>rfl
 | _,_,.cons _ _ t=>by simp [t.len]
theorem ctE.len:∀ {as bs:List (List AV)},ctE as bs→as.length=bs.length
 | _,_,.nil=>rfl
 | _,_,.cons _ t=>by simp [t.len]
theorem ctE.map {α:Type} {row row':α→List AV} (h:∀ x,ctR (row x) (row' x)):∀ L:List α,ctE (L.map row) (L.map row')
 | []=>.nil
 | x::r=>.cons (h x) (ctE.map h r)
section
variable {B:Nat} {w0 w:World} {g:Gh} {h:AH}
theorem VC.ct (r:Rel B w0 g h w) {b:Nat} (hb:∀ j v,g.Φ b j=some v→g.gv.Φ b j=some v):∀ {o:Nat} {as bs:List AV},ctR as bs→VC g b o as→VC g.gv b o bs
 | _,_,_,.nil,_=>by simp only [VC]
 | _,_,_,.cons q h t,hv=>by
  simp only [VC] at hv ⊢
  obtain ⟨⟨v,h1,_,h3⟩,h4⟩:=hv
  exact ⟨⟨v,hb _ _ h1,q,h _ _ _ _ _ _ r h3⟩,VC.ct r hb t h4⟩
theorem VE.ct (r:Rel B w0 g h w) {b k:Nat} (hb:∀ j v,g.Φ b j=some v→g.gv.Φ b j=some v):∀ {o:Nat} {as bs:List (List AV)},ctE as bs→VE g b k o as→VE g.gv b k o bs
 | _,_,_,.nil,_=>by simp only [VE]
 | _,_,_,.cons h t,hv=>by
  simp only [VE] at hv ⊢
  obtain ⟨⟨h1,h2⟩,h3⟩:=hv
  exact ⟨⟨h.len.symm.trans h1,VC.ct r hb h h2⟩,VE.ct r hb t h3⟩
theorem VA.ct (r:Rel B w0 g h w):∀ {as bs:List AV} {vs:List Value},ctR as bs→VA g as vs→VA g.gv bs vs
 | _,_,_,.nil,hv=>by simpa only [VA] using hv
 | _,_,_,.cons q h t,hv=>by
  simp only [VA] at hv ⊢
  obtain ⟨v,s,rfl,⟨_,h1⟩,h2⟩:=hv
  exact ⟨v,s,rfl,⟨AV.one_of_pure q,h _ _ _ _ _ _ r h1⟩,VA.ct r t h2⟩
theorem ctR.append:∀ {as bs cs ds:List AV},ctR as bs→ctR cs ds→ctR (as++cs) (bs++ds)
 | _,_,_,_,.nil,k=>k
 | _,_,_,_,.cons q h t,k=>.cons q h (t.append k)
theorem ctE.flat:∀ {as bs:List (List AV)},ctE as bs→ctR as.flatten bs.flatten
 | _,_,.nil=>.nil
 | _,_,.cons h t=>by simp only [List.flatten_cons];exact h.append t.flat
theorem ctR.pure:∀ {as bs:List AV},ctR as bs→bs.all AV.pure=true
 | _,_,.nil=>rfl
 | _,_,.cons q _ t=>by simp [q,t.pure]
end
theorem ctV.bsl {k:Nat} {es es':List (List AV)} (h:ctE es es'):ctV (.bsl k es) (.bsl k es'):=fun B w0 g hh w v r hv=>by
 simp only [V] at hv ⊢
 obtain ⟨a,c,e,h1,h2,h3⟩:=hv
 refine ⟨a,c,by rw [← h.len];exact e,by rw [← h.len];exact h1,h2,h3.imp (fun e=>?_) fun ⟨b,o,e,hh,hn⟩=>⟨b,o,e,VE.ct r (fun j v hv=>?_) h hh,?_⟩⟩
 ·subst e;cases h;rfl
 ·have:=(r.ob b hn).2
  simp only [Gh.gv]
  split
  ·rename_i s hs;exact absurd hs (this s).1
  ·exact hv
 ·exact hn
theorem ctV.nsl {k n:Nat} {es:List (List AV)} (hk:0 < k) (hn:es.length=n):ctV (.nsl k es) (.gsl k n):=fun B w0 g hh w v r hv=>by
 subst hn
 simp only [V] at hv ⊢
 obtain ⟨a,c,e,h1,h2,h3⟩:=hv
 refine ⟨a,c,e,h1,h2,?_⟩
 rcases Nat.eq_zero_or_pos es.length with h0 | h0
 ·exact .inl h0
 ·rcases h3 with rfl | ⟨b,o,e,hh,s,hs⟩
  ·exact absurd h0 (by simp)
  ·refine .inr ⟨b,o,s,e,by simp only [Gh.gv,hs],?_⟩
   obtain ⟨_,_,cs,ty,hc,hsz⟩:=r.nb b _ hs
   obtain ⟨e1,h5⟩:=hh.get (es.length - 1) (es[es.length - 1]'(by omega)) (List.getElem?_eq_getElem _)
   obtain ⟨u,h6,_⟩:=h5.get (k - 1) _ (List.getElem?_eq_getElem (by rw [e1];omega))
   have h7:=r.phi _ _ _ h6
   rw [cell_of_row w b _ cs ty (0,0) hc] at h7
   have h8:=(Array.getElem?_eq_some_iff.1 h7).1
   have h9:(es.length - 1) * k+k=es.length * k:=by
    rw [← Nat.succ_mul];congr 1;omega
   omega
theorem ctV.rsl {id t k n:Nat}:ctV (.rsl id t k n) (.rsl id t k n):=fun _ _ _ _ _ _ _ hv=>by simp only [V] at hv ⊢;exact hv
inductive ctL:List AV→List AV→Prop
 | nil:ctL [] []
 | cons {a b:AV} {as bs:List AV} (h:ctV a b) (t:ctL as bs):ctL (a::as) (b::bs)
 | away {a:AV} {as bs:List AV} (t:ctL as bs):ctL (a::as) (.any::bs)
theorem VL.ct {B:Nat} {w0 w:World} {g:Gh} {h:AH} (r:Rel B w0 g h w):∀ {as bs:List AV} {vs:List Value},ctL as bs→VL g as vs→VL g.gv bs vs
 | _,_,_,.nil,hv=>by simpa only [VL] using hv
 | _,_,_,.cons h t,hv=>by
  simp only [VL] at hv ⊢
  obtain ⟨v,s,rfl,h1,h2⟩:=hv
  exact ⟨v,s,rfl,h _ _ _ _ _ _ r h1,VL.ct r t h2⟩
 | _,_,_,.away t,hv=>by
  simp only [VL] at hv ⊢
  obtain ⟨v,s,rfl,h1,h2⟩:=hv
  exact ⟨v,s,rfl,by simp only [V],VL.ct r t h2⟩
inductive ctB:List Blk→List Blk→Prop
 | nil:ctB [] []
 | dead {b:Blk} {as bs:List Blk} (t:ctB as bs):ctB (b::as) (.dead::bs)
 | row {i k:Nat} {es es':List (List AV)} {as bs:List Blk} (h:ctE es es') (t:ctB as bs):ctB (.row i k es::as) (.row i k es'::bs)
theorem ctB.len:∀ {as bs:List Blk},ctB as bs→as.length=bs.length
 | _,_,.nil=>rfl
 | _,_,.dead t=>by simp [t.len]
 | _,_,.row _ t=>by simp [t.len]
theorem ctB.get:∀ {as bs:List Blk},ctB as bs→∀ (i:Nat) (b:Blk),bs[i]?=some b→∃ a,as[i]?=some a∧(b=.dead ∨ ∃ t k es es',a=.row t k es∧b=.row t k es'∧ctE es es')
 | _,_,.nil,i,b,hi=>by simp at hi
 | _,_,.dead t,i,b,hi=>by
  cases i with
  | zero=>simp at hi;exact ⟨_,rfl,.inl hi.symm⟩
  | succ i=>simpa using t.get i b (by simpa using hi)
 | _,_,.row h t,i,b,hi=>by
  cases i with
  | zero=>simp at hi;exact ⟨_,rfl,.inr ⟨_,_,_,_,rfl,hi.symm,h⟩⟩
  | succ i=>simpa using t.get i b (by simpa using hi)
theorem Rel.gv {B:Nat} {w0 w:World} {g:Gh} {bs bs':List Blk} {T:List Nat} (r:Rel B w0 g ⟨bs,T⟩ w) (hb:ctB bs bs'):Rel B w0 g.gv ⟨bs',T⟩ w:=by
 have hΦ:∀ b j v,g.gv.Φ b j=some v→g.Φ b j=some v:=fun b j v e=>by
  simp only [Gh.gv] at e
  split at e
  ·cases e
  ·exact e
 have hΦn:∀ b j,g.Φ b j=none→g.gv.Φ b j=none:=fun b j e=>by
  rcases hx:g.gv.Φ b j with _ | v
  ·rfl
  ·rw [hΦ _ _ _ hx] at e;cases e
 have hap:∀ b,Apart g b→Apart g.gv b:=fun b h=>h
 refine ⟨r.below,r.bsz,fun b j v e=>r.phi b j v (hΦ _ _ _ e),r.slen.trans hb.len,fun i c k hc hk=>?_,r.tlen,fun i t ht=>?_,r.sinj,r.tinj,r.sep,r.dfr,fun i k hi hk=>?_,fun i j t k k' es es' hi hj=>?_,fun b x hx=>?_,fun b hb=>⟨(r.ob b hb).1,fun s=>?_⟩⟩
 ·obtain ⟨a,ha,h | ⟨t,k1,es,es',rfl,rfl,_⟩⟩:=hb.get i k hk
  ·subst h
   obtain ⟨h1,h2,_,_⟩:=r.blk i c a hc ha
   exact ⟨h1,h2,trivial,fun h=>absurd rfl h⟩
  ·exact (r.blk i c _ hc ha).2.2.1.elim
 ·obtain ⟨h1,h2⟩:=r.tok i t ht
  exact ⟨h1,fun b l e hl=>⟨(h2 b l e hl).lo,(h2 b l e hl).lt,(h2 b l e hl).cells,fun j hj=>hΦn b j ((h2 b l e hl).free j hj)⟩⟩
 ·obtain ⟨a,ha,h | ⟨t,k1,es,es',rfl,rfl,he⟩⟩:=hb.get i k hk
  ·subst h;trivial
  ·obtain ⟨t1,h1,h2,h3,h4,h5,h6⟩:=r.row i _ hi ha
   refine ⟨t1,h1,h2,h3.trans he.len,?_,he.flat.pure,?_⟩
   ·intro e hm
    obtain ⟨n,hn⟩:=List.mem_iff_getElem?.1 hm
    have:∀ {as bs:List (List AV)},ctE as bs→(∀ e ∈ as,e.length=k1)→∀ (n:Nat) (e:List AV),bs[n]?=some e→e.length=k1:=by
     intro as bs hab
     induction hab with
     | nil=>intro _ n e h;simp at h
     | cons h _ ih =>
      intro hl n e hn
      cases n with
      | zero=>simp at hn;subst hn;exact h.len.symm.trans (hl _ (by simp))
      | succ n=>exact ih (fun e he=>hl e (by simp [he])) n e (by simpa using hn)
    exact this he h4 n e hn
   ·refine h6.imp (fun e=>?_) ?_
    ·subst e;cases he;rfl
    ·rintro ⟨b,o,e,cs,ty,q1,q2,q3,q4,q5⟩
     have hn:es.length=es'.length:=he.len
     exact ⟨b,o,e,cs,ty,by rw [← hn];exact q1,q2,by rw [← hn];exact VA.ct r he.flat q3,by rw [← hn];exact q4,fun j hj=>hΦn b j (q5 j hj)⟩
 ·obtain ⟨a,ha,h | ⟨t1,k1,e1,e1',rfl,h,_⟩⟩:=hb.get i _ hi
  ·cases h
  ·obtain ⟨a',ha',h' | ⟨t2,k2,e2,e2',rfl,h',_⟩⟩:=hb.get j _ hj
   ·cases h'
   ·injection h with q1 _ _;injection h' with q2 _ _
    subst q1 q2
    exact r.rinj _ _ _ _ _ _ _ ha ha'
 ·simp only [Gh.gv] at hx
  have key:∀ y,g.N b=some y→(∀ s,y ≠ .new s)→NOk B g.gv w b y:=fun y hy hs=>by
   have:=r.nb b y hy
   cases y with
   | new s=>exact absurd rfl (hs s)
   | gar s=>exact ⟨this.1,hap b this.2.1,this.2.2.1,fun j=>hΦn b j (this.2.2.2 j)⟩
   | shut o=>exact ⟨this.1,hap b this.2.1,this.2.2.1,fun j=>hΦn b j (this.2.2.2 j)⟩
   | frz o=>exact ⟨this.1,hap b this.2.1,this.2.2⟩
  split at hx
  ·rename_i s hs
   injection hx with hx
   subst hx
   have:=r.nb b _ hs
   exact ⟨this.1,hap b this.2.1,this.2.2,fun j=>by simp only [Gh.gv,hs]⟩
  ·rename_i hs
   exact key x hx fun s e=>hs s (by rw [hx,e])
 ·have:=(r.ob b hb).2 s
  have h2:=(r.ob b hb).2
  simp only [Gh.gv]
  split
  ·rename_i s' hs;exact absurd hs (h2 s').1
  ·exact this

def gBot:Gh:={ Φ:=fun _ _=>none,σ:=[],τ:=[],δ:=[] }
theorem gBot_le (g:Gh):gBot.le g:=⟨fun _ _ _ e=>(by cases e),fun i c e=>(by simp [gBot] at e),fun i t e=>(by simp [gBot] at e),fun c e=>(by simp [gBot] at e),fun b x e=>(by cases e),fun b h=>h.elim⟩
def awpC (P:Program) (T:Exit→List AV→AH→Prop):Nat→Code→List AV→AH→Prop
 | n+1,.seq a b,env,h=>qU P a (fun x env' h'=>match x with
  | .normal=>∃ env2 h2,wk h env' h' env2 h2∧awpC P T n b env2 h2
  | x=>T x env' h') env h
 | 0,c,env,h=>∃ env2 bs',ctL env env2∧ctB h.blks bs'∧qU P c T env2 ⟨bs',h.toks⟩
 | _+1,_,_,_=>False
section
variable {P:Program} {B:Nat} {w0:World} [GOk P B w0] {n0:Nat}
theorem awpC_sound {T:Exit→List AV→AH→Prop}:∀ (n:Nat) (c:Code) {env:List AV} {h:AH} {a:Act} {w:World},awpC P T n c env h→StM B w0 gBot gBot env h a w→∀ {Q:Exit→Act→World→Prop},
  (∀ x env' h' a' w',T x env' h'→StM B w0 gBot gBot env' h' a' w'→Q x a' w')→c.wpIn (WF none) n0 P Q a w
 | 0,c,env,h,a,w,hw,hs,Q,hQ=>by
  obtain ⟨g,_,r,he,hm,_⟩:=hs
  obtain ⟨env2,bs',hl,hb,hw⟩:=(show ∃ env2 bs',ctL env env2∧ctB h.blks bs'∧qU P c T env2 ⟨bs',h.toks⟩ by cases c <;> exact hw)
  exact vj (gb:=gBot) (g0:=gBot) c (.inl rfl) hw ⟨g.gv,gBot_le _,r.gv hb,VL.ct r hl he,hm.mono fun _ h=>h,gBot_le _⟩ hQ
 | n+1,c,env,h,a,w,hw,hs,Q,hQ=>by
  cases c with
  | seq x y =>
   obtain ⟨g,hg,r,he,hm,hgb⟩:=hs
   refine wpIn_seq (vj (gb:=gBot) (g0:=g) x (.inl rfl) hw ⟨g,Gh.le.refl g,r,he,hm,hgb⟩ fun e env' h' a' w' hq hs'=>?_)
   obtain ⟨g1,hg1,r1,he1,hm1,hgb1⟩:=hs'
   cases e with
   | normal =>
    obtain ⟨env2,h2,hk,hq⟩:=hq
    obtain ⟨g2,hg2,r2,he2,hd2⟩:=hk B w0 w' w g g1 _ r hg1 r1 he1
    exact awpC_sound n y hq ⟨g2,gBot_le _,r2,he2,hm1.mono hd2,gBot_le _⟩ hQ
   | _=>exact hQ _ _ _ _ _ hq ⟨g1,gBot_le _,r1,he1,hm1,hgb1⟩
  | _=>exact hw.elim
end
def SpecT (P:Program) (f:FuncId) (args:List AV) (h:AH) (K:AV→Prop):Prop :=
 ∀ (B:Nat) (w0:World) [GOk P B w0] (g:Gh) (w:World) (vs:Array Value),Rel B w0 g h w→VL g args vs.toList →
  Calls P f vs w fun e w'=>∃ v r h' g',e=.returned v∧K r∧Rel B w0 g' h' w'∧V g' r v
def bodyT (P:Program) (fn:Func) (K:AV→Prop) (x:Exit) (env:List AV) (h:AH):Prop :=
 match x with
 | .normal | .ret=>match aRes P fn env h with
  | some r=>K r
  | none=>False
 | _=>False
theorem specT_of_body {P:Program} {f:FuncId} {fn:Func} {c:Code} (hf:P.funcs[f]?=some fn) (hb:fn.body=some c) (n:Nat) {args:List AV} {h:AH} {K:AV→Prop}
  (hw:awpC P (bodyT P fn K) n c (args++List.replicate (fn.ntmps - args.length) za) h):SpecT P f args h K:=by
 intro B w0 _ g w vs r hv
 refine callsIn_wide.1 (callsIn_of_wp_marks (F:=WF none) (n:=0) hf hb trivial ?_ rfl)
 have hlen:args.length=vs.size:=by rw [hv.length];rfl
 refine awpC_sound (B:=B) (w0:=w0) n c hw ⟨g,gBot_le g,r,?_,Marks.nil _ _,gBot_le g⟩ fun x env' h' a' w' hq hs=>?_
 ·simp only [Array.toList_append,Array.toList_replicate,hlen]
  exact VL.append hv (VL.undefs _)
 ·obtain ⟨g',_,r',he,hm,_⟩:=hs
  have fin:(match aRes P fn env' h' with | some r=>K r | none=>False) →
    LeavesInM (WF none) 0 P fn a'.tmps (fun e w''=>∃ v' r h2 g2,e=.returned v'∧K r∧Rel B w0 g2 h2 w''∧V g2 r v') a'.defers .returning w':=by
   intro hfin
   split at hfin
   ·rename_i rv hr
    obtain ⟨cs,hD,hnd,hcs⟩:=hm
    refine leaves_marks a'.defers cs w' hD hnd ?_ (gBot_le g') r' he (fun c hc=>(hcs c hc).1) (fun c hc=>(hcs c hc).2)
    intro w'' g'' hg'' r'' he''
    obtain ⟨u,h1,h2⟩:=res_sound r'' he'' hr
    exact ⟨u,h1,u,rv,h',g'',rfl,hfin,r'',h2⟩
   ·exact hfin.elim
  cases x with
  | normal=>exact fin hq
  | ret=>exact fin hq
  | _=>exact hq.elim
end Go.Vv
