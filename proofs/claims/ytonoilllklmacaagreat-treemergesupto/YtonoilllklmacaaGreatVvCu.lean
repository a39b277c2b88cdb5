/- What is told may be written over: kinds of slices are forgotten, or known at the beginning; a cut, behind which what was new may hold anything. -/
import Derived.Test.YtonoilllklmacaaGreatVvY
import Derived.Test.YtonoilllklmacaaGreatVvRb
set_option linter.all false
namespace Go.Vv
open Go Go.RowKit Go.Lib
variable {k:Nat} {α:Type}

def leG (p:Gh->Prop) (a b:AV):Prop:=∀g v,p g->V g a v->V g b v
inductive leGR (p:Gh->Prop):List AV->List AV->Prop
 | nil:leGR p [] []
 | cons {a b:AV} {a5 bs:List AV} (hp:b.pure=true) (h:leG p a b) (t:leGR p a5 bs):leGR p (a::a5) (b::bs)
inductive leGE (p:Gh->Prop):List (List AV)->List (List AV)->Prop
 | nil:leGE p [] []
 | cons {a b:List AV} {a5 bs:List (List AV)} (h:leGR p a b) (t:leGE p a5 bs):leGE p (a::a5) (b::bs)
def AnyG (_:Gh):Prop:=True
def OldG (g:Gh):Prop:=∀b j v,g.Φ b j=some v->g.O b
section
variable {p:Gh->Prop}
theorem leG.refl {a:AV}:leG p a a:=λ_ _ _ h=>h
theorem leGR.refl:∀{a5:List AV},a5.all AV.pure=true->leGR p a5 a5
 | [],_=>.nil
 | a::r,h=>by
  simp only [tf,ud] at h;exact .cons h.1 leG.refl (leGR.refl h.2)
theorem leGR.len:∀{a5 bs:List AV},leGR p a5 bs->a5.length=bs.length
 | _,_,.nil=>rfl
 | _,_,.cons _ _ t=>by simp [t.len]
theorem leGE.len:∀{a5 bs:List (List AV)},leGE p a5 bs->a5.length=bs.length
 | _,_,.nil=>rfl
 | _,_,.cons _ t=>by simp [t.len]
theorem leGE.map {α:Type} {row a:α->List AV} (h:∀x,leGR p (row x) (a x)):∀L:List α,leGE p (L.map row) (L.map a)
 | []=>.nil
 | x::r=>.cons (h x) (leGE.map h r)
theorem VC.leG {g:Gh} (a:p g) {b:Nat}:∀{o:Nat} {a5 bs:List AV},leGR p a5 bs->VC g b o a5->VC g b o bs
 | _,_,_,.nil,_=>by omega
 | _,_,_,.cons q h t,hv=>by
  simp only [VC] at hv ⊢;obtain ⟨⟨v,d,_,e⟩,c⟩:=hv;exact ⟨⟨v,d,q,h _ _ a e⟩,VC.leG a t c⟩
theorem VE.leG {g:Gh} (a:p g) {b k:Nat}:∀{o:Nat} {a5 bs:List (List AV)},leGE p a5 bs->VE g b k o a5->VE g b k o bs
 | _,_,_,.nil,_=>by omega
 | _,_,_,.cons h t,hv=>by
  simp only [VE] at hv ⊢;obtain ⟨⟨d,c⟩,e⟩:=hv;exact ⟨⟨h.len.symm.trans d,VC.leG a h c⟩,VE.leG a t e⟩
theorem leG.sl {k:Nat} {es es':List (List AV)} (h:leGE p es es'):leG p (.sl k es) (.sl k es'):=λg v f d=>by
 simp only [V] at d ⊢;obtain ⟨a,c,e,j,i,l⟩:=d;refine ⟨a,c,by rw [<- h.len];exact e,by rw [<- h.len];exact j,i,l.imp (λe=>?_) λ⟨b,o,e,hh⟩=>⟨b,o,e,VE.leG f h hh⟩⟩;subst e;cases h;rfl
theorem leG.bsl {k:Nat} {es es':List (List AV)} (h:leGE p es es'):leG p (.bsl k es) (.sl k es'):=λg v f d=>by
 simp only [V] at d ⊢;obtain ⟨a,c,e,j,i,l⟩:=d;refine ⟨a,c,by rw [<- h.len];exact e,by rw [<- h.len];exact j,i,l.imp (λe=>?_) λ⟨b,o,e,hh,_⟩=>⟨b,o,e,VE.leG f h hh⟩⟩;subst e;cases h;rfl
theorem leG.nsl {k:Nat} {es es':List (List AV)} (h:leGE p es es'):leG p (.nsl k es) (.sl k es'):=λg v f d=>by
 simp only [V] at d ⊢;obtain ⟨a,c,e,j,i,l⟩:=d;refine ⟨a,c,by rw [<- h.len];exact e,by rw [<- h.len];exact j,i,l.imp (λe=>?_) λ⟨b,o,e,hh,_⟩=>⟨b,o,e,VE.leG f h hh⟩⟩;subst e;cases h;rfl
theorem leG.old {es es':List (List AV)} (u:0 < k) (h:leGE OldG es es'):leG OldG (.sl k es) (.bsl k es'):=λg v f i=>by
 simp only [V] at i ⊢;obtain ⟨a,c,e,m,j,s⟩:=i;refine ⟨a,c,by rw [<- h.len];exact e,by rw [<- h.len];exact m,j,?_⟩;rcases s with rfl | ⟨b,o,n,hh⟩
 ·left;cases h;rfl
 ·cases es with
  | nil=>left;cases h;rfl
  | cons x r =>
   refine .inr ⟨b,o,n,VE.leG f h hh,?_⟩;simp only [VE] at hh;obtain ⟨⟨l,d⟩,_⟩:=hh;cases x with
   | nil=>simp at l;omega
   | cons y q =>
    simp only [VC] at d;obtain ⟨⟨v,t,_⟩,_⟩:=d;exact f b o v t
theorem leG.slM {row a:α->List AV} {L:List α} (h:∀x,leGR p (row x) (a x)):leG p (.sl k (L.map row)) (.sl k (L.map a)):=leG.sl (leGE.map h L)
theorem leG.bslM {row a:α->List AV} {L:List α} (h:∀x,leGR p (row x) (a x)):leG p (.bsl k (L.map row)) (.sl k (L.map a)):=leG.bsl (leGE.map h L)
theorem leG.nslM {row a:α->List AV} {L:List α} (h:∀x,leGR p (row x) (a x)):leG p (.nsl k (L.map row)) (.sl k (L.map a)):=leG.nsl (leGE.map h L)
theorem leG.oldM {row a:α->List AV} {L:List α} (b:0 < k) (h:∀x,leGR OldG (row x) (a x)):leG OldG (.sl k (L.map row)) (.bsl k (L.map a)):=leG.old b (leGE.map h L)
end
theorem leG.v {a b:AV} (h:leG AnyG a b):leV a b:=λg v c=>h g v trivial c
def hkOf:Value->Option HK
 | .int k _=>some (.i k)
 | .string _=>some .s
 | _=>none
theorem hkOf_ok {v:Value} {k:HK} (h:hkOf v=some k):k.ok v:=by
 unfold hkOf at h;split at h
 ·cases h;exact ⟨_,rfl⟩
 ·cases h;exact ⟨_,rfl⟩
 ·cases h
def Gh.gv (g:Gh):Gh :=
 { g with Φ:=λb j=>match g.N b with | some (.new _)=>(match g.Φ b j with | some v=>if (hkOf v).isSome then none else some v | none=>none) | _=>g.Φ b j,N:=λb=>match g.N b with | some (.new s)=>some (.gar s λj=>(g.Φ b j).bind hkOf) | x=>x }
def ctV (a b:AV):Prop:=∀(B:Nat) (w0:World) (g:Gh) (h:AH) (w:World) (v:Value),Rel B w0 g h w->V g a v->V g.gv b v
inductive ctR:List AV->List AV->Prop
 | nil:ctR [] []
 | cons {a b:AV} {a5 bs:List AV} (hp:b.pure=true) (h:ctV a b) (t:ctR a5 bs):ctR (a::a5) (b::bs)
inductive ctE:List (List AV)->List (List AV)->Prop
 | nil:ctE [] []
 | cons {a b:List AV} {a5 bs:List (List AV)} (h:ctR a b) (t:ctE a5 bs):ctE (a::a5) (b::bs)
def AV.plain:AV->Bool
 | .bool _ | .int _ _ | .str _ | .any | .nilp | .nilm | .nilf | .nili | .nilsl | .glob _ | .tup []=>true
 | _=>false
theorem ctV.plain {a:AV} (h:a.plain=true):ctV a a:=λB w0 g hh w v _ b=>by
 unfold AV.plain at h;split at h <;> first | (simp only [V];done) | (simp only [V,VL] at b ⊢;exact b) | cases h
theorem ctR.plain:∀{a5:List AV},a5.all AV.plain=true->a5.all AV.pure=true->ctR a5 a5
 | [],_,_=>.nil
 | a::r,h,k=>by
  simp only [tf,ud] at h k;exact .cons k.1 (.plain h.1) (ctR.plain h.2 k.2)
theorem ctR.len:∀{a5 bs:List AV},ctR a5 bs->a5.length=bs.length
 | _,_,.nil=>rfl
 | _,_,.cons _ _ t=>by simp [t.len]
theorem ctE.len:∀{a5 bs:List (List AV)},ctE a5 bs->a5.length=bs.length
 | _,_,.nil=>rfl
 | _,_,.cons _ t=>by simp [t.len]
theorem ctE.map {α:Type} {row a:α->List AV} (h:∀x,ctR (row x) (a x)):∀L:List α,ctE (L.map row) (L.map a)
 | []=>.nil
 | x::r=>.cons (h x) (ctE.map h r)
section
variable {B:Nat} {w0 w:World} {g:Gh} {h:AH}
theorem VC.ct (r:Rel B w0 g h w) {b:Nat} (a:∀j v,g.Φ b j=some v->g.gv.Φ b j=some v):∀{o:Nat} {a5 bs:List AV},ctR a5 bs->VC g b o a5->VC g.gv b o bs
 | _,_,_,.nil,_=>by simp only [VC]
 | _,_,_,.cons q h t,hv=>by
  simp only [VC] at hv ⊢;obtain ⟨⟨v,d,_,e⟩,c⟩:=hv;exact ⟨⟨v,a _ _ d,q,h _ _ _ _ _ _ r e⟩,VC.ct r a t c⟩
theorem VE.ct (r:Rel B w0 g h w) {b k:Nat} (a:∀j v,g.Φ b j=some v->g.gv.Φ b j=some v):∀{o:Nat} {a5 bs:List (List AV)},ctE a5 bs->VE g b k o a5->VE g.gv b k o bs
 | _,_,_,.nil,_=>by simp only [VE]
 | _,_,_,.cons h t,hv=>by
  simp only [VE] at hv ⊢;obtain ⟨⟨d,c⟩,e⟩:=hv;exact ⟨⟨h.len.symm.trans d,VC.ct r a h c⟩,VE.ct r a t e⟩
theorem VA.ct (r:Rel B w0 g h w):∀{a5 bs:List AV} {vs:List Value},ctR a5 bs->VA g a5 vs->VA g.gv bs vs
 | _,_,_,.nil,hv=>by simpa only [VA] using hv
 | _,_,_,.cons q h t,hv=>by
  simp only [VA] at hv ⊢;obtain ⟨v,s,rfl,⟨_,b⟩,a⟩:=hv;exact ⟨v,s,rfl,⟨AV.one_of_pure q,h _ _ _ _ _ _ r b⟩,VA.ct r t a⟩
theorem ctR.append:∀{a5 bs cs ds:List AV},ctR a5 bs->ctR cs ds->ctR (a5++cs) (bs++ds)
 | _,_,_,_,.nil,k=>k
 | _,_,_,_,.cons q h t,k=>.cons q h (t.append k)
theorem ctE.flat:∀{a5 bs:List (List AV)},ctE a5 bs->ctR a5.flatten bs.flatten
 | _,_,.nil=>.nil
 | _,_,.cons h t=>by simp only [uU];exact h.append t.flat
theorem ctR.pure:∀{a5 bs:List AV},ctR a5 bs->bs.all AV.pure=true
 | _,_,.nil=>rfl
 | _,_,.cons q _ t=>by simp [q,t.pure]
end
theorem ctV.bsl {k:Nat} {es es':List (List AV)} (h:ctE es es'):ctV (.bsl k es) (.bsl k es'):=λB w0 g hh w v r d=>by
 simp only [V] at d ⊢;obtain ⟨a,c,e,l,i,m⟩:=d;refine ⟨a,c,by rw [<- h.len];exact e,by rw [<- h.len];exact l,i,m.imp (λe=>?_) λ⟨b,o,e,hh,f⟩=>⟨b,o,e,VE.ct r (λj v d=>?_) h hh,?_⟩⟩
 ·subst e;cases h;rfl
 ·have:=(r.ob b f).2;simp only [Gh.gv]
  simp_all
 ·exact f
theorem ctV.bslM {row a:α->List AV} {L:List α} (h:∀x,ctR (row x) (a x)):ctV (.bsl k (L.map row)) (.bsl k (L.map a)):=ctV.bsl (ctE.map h L)
inductive hcR:List AV->List AV->Prop
 | nil:hcR [] []
 | int {k:IntKind} {n:Int} {a5 bs:List AV} (t:hcR a5 bs):hcR (.int k n::a5) (.hol (.i k)::bs)
 | str {s:List UInt8} {a5 bs:List AV} (t:hcR a5 bs):hcR (.str s::a5) (.hol .s::bs)
 | sl {k:Nat} {es:List (List AV)} {b:AV} {a5 bs:List AV} (hp:b.pure=true) (h:ctV (.nsl k es) b) (t:hcR a5 bs):hcR (.nsl k es::a5) (b::bs)
inductive hcE:List (List AV)->List (List AV)->Prop
 | nil:hcE [] []
 | cons {a b:List AV} {a5 bs:List (List AV)} (h:hcR a b) (t:hcE a5 bs):hcE (a::a5) (b::bs)
theorem hcR.len:∀{a5 bs:List AV},hcR a5 bs->a5.length=bs.length
 | _,_,.nil=>rfl
 | _,_,.int t | _,_,.str t | _,_,.sl _ _ t=>by simp [t.len]
theorem hcE.len:∀{a5 bs:List (List AV)},hcE a5 bs->a5.length=bs.length
 | _,_,.nil=>rfl
 | _,_,.cons _ t=>by simp [t.len]
theorem hcE.map {α:Type} {row a:α->List AV} (h:∀x,hcR (row x) (a x)):∀L:List α,hcE (L.map row) (L.map a)
 | []=>.nil
 | x::r=>.cons (h x) (hcE.map h r)
section
variable {B:Nat} {w0 w:World} {g:Gh} {h:AH}
theorem VC.hc (r:Rel B w0 g h w) {b s:Nat} (e:g.N b=some (.new s)):∀{o:Nat} {a5 bs:List AV},hcR a5 bs->VC g b o a5->VCh g.gv b o bs
 | _,_,_,.nil,_=>by simp only [VCh]
 | o,_,_,.int (k:=k) (n:=n) t,hv=>by
  simp only [VC] at hv;simp only [VCh];obtain ⟨⟨v,i,_,d⟩,f⟩:=hv;simp only [V] at d;exact ⟨.inl ⟨s,λj=>(g.Φ b j).bind hkOf,by simp only [Gh.gv,e],by simp [i,d,hkOf]⟩,VC.hc r e t f⟩
 | o,_,_,.str (s:=x) t,hv=>by
  simp only [VC] at hv;simp only [VCh];obtain ⟨⟨v,i,_,d⟩,f⟩:=hv;simp only [V] at d;exact ⟨.inl ⟨s,λj=>(g.Φ b j).bind hkOf,by simp only [Gh.gv,e],by simp [i,d.1,hkOf]⟩,VC.hc r e t f⟩
 | o,_,_,.sl hp h t,hv=>by
  simp only [VC] at hv;simp only [VCh];obtain ⟨⟨v,i,_,d⟩,f⟩:=hv;have l:=h _ _ _ _ _ _ r d;simp only [V] at d;obtain ⟨a,c,rfl,_⟩:=d;exact ⟨.inr ⟨_,by simp [Gh.gv,e,i,hkOf],hp,l⟩,VC.hc r e t f⟩
theorem VE.hc (r:Rel B w0 g h w) {b s k:Nat} (a:g.N b=some (.new s)):∀{o:Nat} {a5 bs:List (List AV)},hcE a5 bs->VE g b k o a5->VEh g.gv b k o bs
 | _,_,_,.nil,_=>by simp only [VEh]
 | _,_,_,.cons h t,hv=>by
  simp only [VE] at hv;simp only [VEh];obtain ⟨⟨d,c⟩,e⟩:=hv;exact ⟨⟨h.len.symm.trans d,VC.hc r a h c⟩,VE.hc r a t e⟩
end
theorem ctV.nsl {k:Nat} {es es':List (List AV)} (h:hcE es es'):ctV (.nsl k es) (.hsl k es'):=λB w0 g hh w v r d=>by
 simp only [V] at d ⊢;obtain ⟨a,c,e,i,f,j⟩:=d;refine ⟨a,c,by rw [<- h.len];exact e,by rw [<- h.len];exact i,f,j.imp (λe=>?_) λ⟨b,o,e,hh,s,hs⟩=>⟨b,o,e,VE.hc r hs h hh⟩⟩;subst e;cases h;rfl
theorem ctV.nslM {row a:α->List AV} {L:List α} (h:∀x,hcR (row x) (a x)):ctV (.nsl k (L.map row)) (.hsl k (L.map a)):=ctV.nsl (hcE.map h L)
theorem ctV.rsl {id t k n:Nat}:ctV (.rsl id t k n) (.rsl id t k n):=λ_ _ _ _ _ _ _ a=>by simp only [V] at a ⊢;exact a
inductive ctL:List AV->List AV->Prop
 | nil:ctL [] []
 | cons {a b:AV} {a5 bs:List AV} (h:ctV a b) (t:ctL a5 bs):ctL (a::a5) (b::bs)
 | away {a:AV} {a5 bs:List AV} (t:ctL a5 bs):ctL (a::a5) (.any::bs)
theorem VL.ct {B:Nat} {w0 w:World} {g:Gh} {h:AH} (r:Rel B w0 g h w):∀{a5 bs:List AV} {vs:List Value},ctL a5 bs->VL g a5 vs->VL g.gv bs vs
 | _,_,_,.nil,hv=>by simpa only [VL] using hv
 | _,_,_,.cons h t,hv=>by
  simp only [VL] at hv ⊢;obtain ⟨v,s,rfl,b,a⟩:=hv;exact ⟨v,s,rfl,h _ _ _ _ _ _ r b,VL.ct r t a⟩
 | _,_,_,.away t,hv=>by
  simp only [VL] at hv ⊢;obtain ⟨v,s,rfl,b,a⟩:=hv;exact ⟨v,s,rfl,by simp only [V],VL.ct r t a⟩
inductive ctB:List Blk->List Blk->Prop
 | nil:ctB [] []
 | dead {b:Blk} {a5 bs:List Blk} (t:ctB a5 bs):ctB (b::a5) (.dead::bs)
 | row {i k:Nat} {es es':List (List AV)} {a5 bs:List Blk} (h:ctE es es') (t:ctB a5 bs):ctB (.row i k es::a5) (.row i k es'::bs)
theorem ctB.len:∀{a5 bs:List Blk},ctB a5 bs->a5.length=bs.length
 | _,_,.nil=>rfl
 | _,_,.dead t=>by simp [t.len]
 | _,_,.row _ t=>by simp [t.len]
theorem ctB.get:∀{a5 bs:List Blk},ctB a5 bs->∀(i:Nat) (b:Blk),bs[i]?=some b->∃a,a5[i]?=some a/\(b=.dead \/ ∃t k es es',a=.row t k es/\b=.row t k es'/\ctE es es')
 | _,_,.nil,i,b,hi=>by simp at hi
 | _,_,.dead t,i,b,hi=>by
  cases i with
  | zero=>simp at hi;exact ⟨_,rfl,.inl hi.symm⟩
  | succ i=>simpa using t.get i b (by simp_all)
 | _,_,.row h t,i,b,hi=>by
  cases i with
  | zero=>simp at hi;exact ⟨_,rfl,.inr ⟨_,_,_,_,rfl,hi.symm,h⟩⟩
  | succ i=>simpa using t.get i b (by simp_all)
theorem Rel.gv {B:Nat} {w0 w:World} {g:Gh} {bs I:List Blk} {T:List Nat} (r:Rel B w0 g ⟨bs,T⟩ w) (u:ctB bs I):Rel B w0 g.gv ⟨I,T⟩ w:=by
 have Q:∀b j v,g.gv.Φ b j=some v->g.Φ b j=some v:=λb j v e=>by
  simp only [Gh.gv] at e;split at e
  ·split at e
   ·split at e
    ·cases e
    ·simp_all
   ·cases e
  ·exact e
 have d:∀b j,g.Φ b j=none->g.gv.Φ b j=none:=λb j e=>by
  rcases A:g.gv.Φ b j with _ | v
  ·rfl
  ·simp_all
 have z:∀b,Apart g b->Apart g.gv b:=λb h=>h;refine ⟨r.below,r.bsz,λb j v e=>r.phi b j v (Q _ _ _ e),r.slen.trans u.len,λi c k hc G=>?_,r.tlen,λi t Y=>?_,r.sinj,r.tinj,r.sep,r.dfr,λi k hi G=>?_,λi j t k k' es es' hi q=>?_,λb x A=>?_,λb u=>⟨(r.ob b u).1,λs=>?_⟩,r.oa⟩
 ·obtain ⟨a,F,h | ⟨t,J,es,es',rfl,rfl,_⟩⟩:=u.get i k G
  ·subst h;obtain ⟨C,m,_,_⟩:=r.blk i c a hc F;exact ⟨C,m,trivial,λh=>absurd rfl h⟩
  ·exact (r.blk i c _ hc F).2.2.1.elim
 ·obtain ⟨C,m⟩:=r.tok i t Y;exact ⟨C,λb l e D=>⟨(m b l e D).lo,(m b l e D).lt,(m b l e D).cells,λj q=>d b j ((m b l e D).free j q)⟩⟩
 ·obtain ⟨a,F,h | ⟨t,J,es,es',rfl,rfl,E⟩⟩:=u.get i k G
  ·subst h;trivial
  ·obtain ⟨W,C,m,K,U,h5,h6⟩:=r.row i _ hi F;refine ⟨W,C,m,K.trans E.len,?_,E.flat.pure,?_⟩
   ·intro e hm;obtain ⟨n,H⟩:=u2.1 hm;have:∀{a5 bs:List (List AV)},ctE a5 bs->(∀e ∈ a5,e.length=J)->∀(n:Nat) (e:List AV),bs[n]?=some e->e.length=J:=by
     intro a5 bs L
     induction L with
     | nil=>intro _ n e h;simp at h
     | cons h _ ih =>
      intro D n e H;cases n with
      | zero=>simp at H;subst H;exact h.len.symm.trans (D _ (by simp))
      | succ n=>exact ih (λe E=>D e (by simp [E])) n e (by simp_all)
    grind
   ·refine h6.imp (λe=>?_) ?_
    ·subst e;cases E;rfl
    ·rintro ⟨b,o,e,cs,ty,V,S,Z,q4,q5⟩
     have H:es.length=es'.length:=E.len;exact ⟨b,o,e,cs,ty,by simp_all,S,by rw [<- H];exact VA.ct r E.flat Z,by simp_all,λj q=>d b j (q5 j q)⟩
 ·obtain ⟨a,F,h | ⟨W,J,e1,e1',rfl,h,_⟩⟩:=u.get i _ hi
  ·cases h
  ·obtain ⟨a',M,O | ⟨t2,k2,e2,X,rfl,O,_⟩⟩:=u.get j _ q
   ·cases O
   ·injection h with V _ _;injection O with S _ _;subst V S;exact r.rinj _ _ _ _ _ _ _ F M
 ·simp only [Gh.gv] at A;have key:∀y,g.N b=some y->(∀s,y ≠ .new s)->NOk B g.gv w b y:=λy hy hs=>by
   have:=r.nb b y hy;cases y with
   | new s=>exact absurd rfl (hs s)
   | gar s f=>exact ⟨this.1,z b this.2.1,this.2.2.1,λj q=>d b j (this.2.2.2 j q)⟩
   | shut o=>exact ⟨this.1,z b this.2.1,this.2.2.1,λj=>d b j (this.2.2.2 j)⟩
   | frz o=>exact ⟨this.1,z b this.2.1,this.2.2⟩
  split at A
  ·rename_i s hs;injection A with A;subst A;have:=r.nb b _ hs;obtain ⟨C,m,cs,ty,K,U⟩:=this;refine ⟨C,z b m,⟨cs,ty,K,U,λj k G=>?_⟩,λj q=>?_⟩
   ·obtain ⟨v,hv,R⟩:=th.1 G;have:=r.phi _ _ _ hv;rw [cell_of_row w b j cs ty (0,0) K] at this;exact ⟨v,this,hkOf_ok R⟩
   ·simp only [Gh.gv,hs];rcases A:g.Φ b j with _ | v
    ·rfl
    ·simp only [A,ua] at q;simp only [pq.2 q,ut]
  ·simp_all
 ·have:=(r.ob b u).2 s;have m:=(r.ob b u).2;simp only [Gh.gv]
  simp_all

def gBot:Gh:={ Φ:=λ_ _=>none,σ:=[],τ:=[],δ:=[] }
theorem wN (g:Gh):gBot.le g:=⟨λ_ _ _ e=>(by cases e),λi c e=>(by simp [gBot] at e),λi t e=>(by simp [gBot] at e),λc e=>(by simp [gBot] at e),λb x e=>(by cases e),λb h=>h.elim⟩
def awpC (P:Program) (T:Exit->List AV->AH->Prop):Nat->Code->List AV->AH->Prop
 | n+1,.seq a b,env,h=>vN P a (λx env' h'=>match x with
  | .normal=>∃env2 h2,wk h env' h' env2 h2/\awpC P T n b env2 h2
  | x=>T x env' h') env h
 | 0,c,env,h=>∃env2 bs',ctL env env2/\ctB h.blks bs'/\vN P c T env2 ⟨bs',h.toks⟩
 | _+1,_,_,_=>False
section
variable {P:Program} {B:Nat} {w0:World} [GOk P B w0] {n0:Nat}
theorem awpC_sound {T:Exit->List AV->AH->Prop}:∀(n:Nat) (c:Code) {env:List AV} {h:AH} {a:Act} {w:World},awpC P T n c env h->StM B w0 gBot gBot env h a w->∀{Q:Exit->Act->World->Prop},
  (∀x d t a' w',T x d t->StM B w0 gBot gBot d t a' w'->Q x a' w')->c.wpIn (WF none) n0 P Q a w
 | 0,c,env,h,a,w,i,hs,Q,hQ=>by
  obtain ⟨g,_,r,C,z,_⟩:=hs;obtain ⟨b,f,J,F,i⟩:=(show ∃b f,ctL env b/\ctB h.blks f/\vN P c T b ⟨f,h.toks⟩ by cases c <;> exact i)
  exact vl (gb:=gBot) (g0:=gBot) c (.inl rfl) i ⟨g.gv,wN _,r.gv F,VL.ct r J C,z.mono λ_ h=>h,wN _⟩ hQ
 | n+1,c,env,h,a,w,i,hs,Q,hQ=>by
  cases c with
  | seq x y =>
   obtain ⟨g,M,r,C,z,A⟩:=hs;refine wpIn_seq (vl (gb:=gBot) (g0:=g) x (.inl rfl) i ⟨g,Gh.le.refl g,r,C,z,A⟩ λe d t a' w' o s=>?_);obtain ⟨E,u,D,m,j,l⟩:=s;cases e with
   | normal =>
    obtain ⟨b,L,G,o⟩:=o;obtain ⟨H,I,K,v,q⟩:=G B w0 w' w g E _ r u D m;exact awpC_sound n y o ⟨H,wN _,K,v,j.mono q,wN _⟩ hQ
   | _=>exact hQ _ _ _ _ _ o ⟨E,wN _,D,m,j,l⟩
  | _=>exact i.elim
end
def SpecT (P:Program) (f:FuncId) (args:List AV) (h:AH) (K:AV->Prop):Prop :=
 ∀(B:Nat) (w0:World) [GOk P B w0] (g:Gh) (w:World) (vs:Array Value),Rel B w0 g h w->VL g args vs.toList ->
  Calls P f vs w λe w'=>∃v r h' g',e=.returned v/\K r/\Rel B w0 g' h' w'/\V g' r v
def bodyT (P:Program) (fn:Func) (K:AV->Prop) (x:Exit) (env:List AV) (h:AH):Prop :=
 match x with
 | .normal | .ret=>match aRes P fn env h with
  | some r=>K r
  | none=>False
 | _=>False
theorem specT_of_body {P:Program} {f:FuncId} {fn:Func} {c:Code} (H:P.funcs[f]?=some fn) (C:fn.body=some c) (n:Nat) {args:List AV} {h:AH} {K:AV->Prop}
  (G:awpC P (bodyT P fn K) n c (args++List.replicate (fn.ntmps - args.length) aundef) h):SpecT P f args h K:=by
 intro B w0 _ g w vs r z;refine callsIn_wide.1 (callsIn_of_wp_marks (F:=WF none) (n:=0) H C trivial ?_ rfl);have i:args.length=vs.size:=by rw [z.length];rfl
 refine awpC_sound (B:=B) (w0:=w0) n c G ⟨g,wN g,r,?_,Marks.nil _ _,wN g⟩ λx a E a' w' o hs=>?_
 ·simp only [tw,rH,i];exact VL.append z (VL.undefs _)
 ·obtain ⟨g',_,A,M,L,_⟩:=hs;have b:(match aRes P fn a E with | some r=>K r | none=>False) ->
    LeavesInM (WF none) 0 P fn a'.tmps (λe m=>∃v' r t y,e=.returned v'/\K r/\Rel B w0 y t m/\V y r v') a'.defers .returning w':=by
   intro j;split at j
   ·rename_i O J;obtain ⟨cs,D,q,l⟩:=L;refine leaves_marks a'.defers cs w' D q ?_ (wN g') A M (λc hc=>(l c hc).1) (λc hc=>(l c hc).2);intro m I v s d;obtain ⟨u,N,t⟩:=res_sound s d J
    grind
   ·simp_all
  cases x with
  | normal=>exact b o
  | ret=>exact b o
  | _=>exact o.elim
end Go.Vv
namespace Go.Vv
open Go Go.RowKit
variable {x y:Operand} {t e:TypeId} {k:Nat} {ys:List (List AV)} {d:TypeDesc} {cs:List AV}
section
variable {P:Program} {o:Oper} {env env':List AV} {h:AH} {ops:Array Oper} {Q:List AV->AH->Prop} {rest:List Oper}
theorem s_anew {c:Call} {u z:TypeId} {k':Nat} {a b g:AV} (D:o.op=.call c) (hc:c.callee=.builtin .append) (hs:c.args=#[x,y]) (m:c.argTypes=#[t,u]) (j:El P t e k)
  (f:El P u z k') (I:yu env x=some a) (G:yu env y=some b) (R:tyfix P t a=.osl none k []) (p:tyfix P u b=g) (J:aNews k g=some ys) (F:ys.length<=lim):anew P o env=some (k,ys):=by
 obtain ⟨r,l⟩:=zX I;obtain ⟨H,q⟩:=zX G;obtain ⟨i,w,N,s,E,O⟩:=j.i;subst N;simp [anew,D,hs,m,hc,r,H,j.u,f.u,l,q,w,s,E,O,R,p,J,F]
theorem ops_new (g:aG ops o env=some true) (i:anew P o env=some (k,ys)) (hd:wL o.dst env (.nsl k ys)=some env') (f:zS P ops Q rest env' h):zS P ops Q (o::rest) env h:=by
 refine awpOps_consN g i ?_;rw [xT hd];exact f
end
theorem leV.nil_nsl:leV (.osl none k []) (.nsl k []):=λg v f=>by
 simp only [V] at f ⊢
 grind
section
variable {P:Program} {o:Oper} {env:List AV} {h:AH} {A A' L B:List Blk} {T T' M C:List Nat} {nb nt:Nat}
theorem d_appR {α:Type} {row:α->List AV} {X Y:List α} (J:h.blks.length=nb) (f:h.toks.length=nt) {c:Call} {x y:Operand} {t u e w:TypeId} {k k' i j n:Nat} {a b m:AV} (D:o.op=.call c) (hc:c.callee=.builtin .append) (hs:c.args=#[x,y]) (p:c.argTypes=#[t,u]) (G:El P t e k)
  (g:El P u w k') (I:yu env x=some a) (F:yu env y=some b) (R:tyfix P t a=.rsl (nb+i) (nt+j) k n) (q:tyfix P u b=m) (N:aNews k m=some (Y.map row)) (E:X.length+Y.length<=lim)
  (hi:A[i]?=some (.row (nt+j) k (X.map row))) (l:X.length=n) (O:T[j]?=some n) (z:A.set i (.row (nt+j) k ((X++Y).map row))=A') (s:T.set j (X++Y).length=T') :
  zF P o env (((h.ext A T).ext L M).ext B C)=.ok (.rsl (nb+i) (nt+j) k (X++Y).length) (((h.ext A' T').ext L M).ext B C):=by
 subst J f z s;have H:=(uc.1 hi).1;have r:=(uc.1 O).1;have:=qh (P:=P) (h:=h) (B:=A++L++B) (T:=T++M++C) (B':=(A.set i (.row (h.toks.length+j) k ((X++Y).map row)))++L++B) (T':=(T.set j (X++Y).length)++M++C) D hc hs p G g I F R q N E
  (by grind) l (by grind)
  (by simp_all) (by simp_all)
 simp only [w6];omega
end
def seqC (P:Program) (T:Exit->List AV->AH->Prop) (n:Nat) (h0:AH) (b:Code):Exit->List AV->AH->Prop:=λx env' h'=>match x with
 | .normal=>∃env2 h2,wk h0 env' h' env2 h2/\awpC P T n b env2 h2
 | x=>T x env' h'
section
variable {P:Program} {T:Exit->List AV->AH->Prop} {n:Nat} {env env2:List AV} {h h0:AH} {a b c:Code}
theorem c_seq (f:vN P a (seqC P T n h b) env h):awpC P T (n+1) (.seq a b) env h:=f
theorem cq_seq (f:awpC P T n b env h):seqC P T n h0 b .normal env h:=⟨env,h,wk.refl _ _ _,f⟩
theorem cq_ret (f:T .ret env h):seqC P T n h0 b .ret env h:=f
theorem c_cut (hh:h=Vv.h0) {B B':List Blk} {T':List Nat} (g:ctL env env2) (i:ctB B B') (f:vN P c T env2 (h.ext B' T')):awpC P T 0 c env (h.ext B T'):=by
 subst hh;have e:∀B:List Blk,(Vv.h0.ext B T')=⟨B,T'⟩:=λB=>by rfl
 rw [e] at f ⊢;cases c <;> exact ⟨env2,B',g,i,f⟩
variable {fn:Func} {K:AV->Prop} {rs:List ResultVar} {v:AV}
theorem t_retL1 (i:fn.results=⟨rs⟩) (f:qq P env h rs=some [v]) (g:K v):bodyT P fn K .ret env h:=by
 simp only [bodyT,aRes,i,f];exact g
end
theorem s_storeH {P:Program} {o:Oper} {env:List AV} {h:AH} {b f:AV} {vs:List AV} (i:o.op=.store t x y) (l:Ty P t d k) (m:yu env x=some (.hfp cs)) (j:yu env y=some b)
  (g:tyfix P t b=f) (hc:f.cells?=some vs) (q:vs.length=k) (p:hfit cs vs=true):zF P o env h=.ok aundef h:=by
 refine s_store i l m j g ?_;simp only [aStore,hc]
 simp_all
theorem s_idxH {P:Program} {o:Oper} {env:List AV} {h:AH} {α:Type} {row:α->List AV} {L:List α} {y:α} {p:IntKind} {n:Int} {i:Operand} (f:o.op=.indexAddr t x i) (m:El P t e k) (q:yu env x=some (.hsl k (L.map row))) (hi:yu env i=some (.int p n)) (g:yB L n=some y) :
  zF P o env h=.ok (.hfp (row y)) h:=by
 obtain ⟨l,j⟩:=idxF g;refine s_indexAddr f m q hi ?_;simp only [vO,pE];rw [uz l,sn,j];rfl
theorem h_load {P:Program} {o:Oper} {env:List AV} {h:AH} {v v':AV} (g:o.op=.load t x) (j:Ty P t d k) (l:yu env x=some (.hfp cs)) (i:ldC (yA d) k 0 cs=some v) (f:tyfix P t v=v'):zF P o env h=.ok v' h:=by
 refine s_load g j l ?_ f;simpa [aLoad,ldC] using i
end Go.Vv
namespace Go.Vv
open Go Go.RowKit Go.Lib
variable {α:Type} {k:Nat} {cs env':List AV} {B':List Blk} {T':List Nat} {es:List (List AV)}
theorem leV.oslM {row d:α->List AV} {L:List α} (h:∀x,leGR AnyG (row x) (d x)):leV (.osl none k (L.map row)) (.sl k (L.map d)):=λg v f=>leG.slM h g v trivial (by
 simp only [V] at f ⊢;obtain ⟨a,c,e,j,i,l,_⟩:=f;exact ⟨a,c,e,j,i,l⟩)
theorem s_idxHE {P:Program} {o:Oper} {env:List AV} {h:AH} {row:α->List AV} {L:List α} {y:α} {t e:TypeId} {f:IntKind} {n:Int} {x i:Operand} (d:o.op=.indexAddr t x i) (p:El P t e k) (q:yu env x=some (.hsl k (L.map row))) (hi:yu env i=some (.int f n)) (j:yB L n=some y)
  (l:row y=cs):zF P o env h=.ok (.hfp cs) h:=by
 subst l;exact s_idxH d p q hi j
section
variable {B:Nat} {w0 w:World} {g:Gh} {h:AH}
theorem Rel.freezeN (r:Rel B w0 g h w) {q i k:Nat} {es:List (List AV)} (U:h.blks[q]?=some (.row i k es)) :
  ∃g',g.le g'/\Rel B w0 g' { h.put q .dead with toks:=h.toks.set i (es.length+1) } w/\g'.δ=g.δ/\∀R v,V g (.rsl R i k es.length) v->V g' (.nsl k es) v:=by
 obtain ⟨Q,t,y,G,M,F,L,J⟩:=r.rowAt U
 let T:TI:=⟨es.length+1,none,true⟩
 have E:t.n < T.n:=by grind
 have I:=Gh.le_setT (g:=g) (t':=T) y E G.symm;have S:=r.setRowG (t':=T) (nb:=.dead) y E G rfl Q U trivial (λ_ _ _ e=>by cases e) (λ_ _ _ e=>by cases e) (λ_ _ e=>by cases e);rcases J with rfl | ⟨b,o,e,cs,ty,C,k2,Z,k4,k5⟩
 ·refine ⟨_,I,S,rfl,λR v p=>?_⟩;simp only [V] at p ⊢
  grind
 ·have z:∀(j:Nat) (u:TI) (l K:Nat),(g.setT i T).τ[j]?=some u->u.loc=some (b,l,K)->False:=by
   intro j u l K s H;simp only [Gh.setT] at s;by_cases hji:j=i
   ·grind
   ·rw [uR (λe=>hji e.symm)] at s;exact hji (r.tinj _ _ _ _ b _ _ s y H C)
  have D:=r.ntok y C;have r2:=S.vow (b:=b) (f:=λj=>if o<=j/\j < o+es.length * k then cs[j]? else none)
   (λj v p=>by
    split at p
    ·rw [cell_of_row w b j cs ty (0,0) k2];exact p
    ·cases p)
   (λj c s _=>(r.sep j c i t b _ s y C).symm)
   (λj u l K s H=>(z j u l K s H).elim)
   D
  have N:Apart ((g.setT i T).vow b λj=>if o<=j/\j < o+es.length * k then cs[j]? else none) b:=⟨λj s=>(r.sep j b i t b _ s y C) rfl,(λhd=>by
   have:=(r.dfr b hd).2.1;rw [k2] at this;cases this),λj u x s H=>z j u x.1 x.2 s H⟩
  have hO:¬ ((g.setT i T).vow b λj=>if o<=j/\j < o+es.length * k then cs[j]? else none).O b:=λho=>(r.oa b ho).2.2 i t _ y C;have X:=r2.mark (b:=b) D ((r.tok i t y).2 b _ _ C).lo k2 N hO;have A:=(I.trans (Gh.le_vow (g.setT i T) b λj=>if o<=j/\j < o+es.length * k then cs[j]? else none)).trans (Gh.le_addN (.new cs.size) D);refine ⟨_,A,X,rfl,λR v p=>?_⟩;simp only [V] at p ⊢;obtain ⟨a,c,rfl,h1,Y,W,ht2,_,_,d⟩:=p;obtain rfl:t=W:=by simp_all
  refine ⟨a,c,rfl,h1,Y,?_⟩;rcases d with ⟨h0,_⟩ | ⟨b',o',rfl,d⟩
  ·simp_all
  ·have d:=d M.symm;rw [C] at d;injection d with d;injection d with e1 d;injection d with e2 _;obtain rfl:o=o':=by omega
   subst e1;refine .inr ⟨b,o,rfl,VE_iff.2 ⟨F,VC.ofVA (Z.mono A) L λj v p=>?_⟩,cs.size,by simp [Gh.addN]⟩;rw [uu] at p;split at p
   ·rename_i s;rw [uB,uF] at p;simp only [Gh.addN,Gh.vow,Gh.setT,ut]
    simp_all
   ·cases p
end
mutual
inductive FnA (i k:Nat) (es:List (List AV)):AV->AV->Prop
 | same (a:AV):FnA i k es a a
 | hit2 (q n:Nat) (hn:n=es.length):FnA i k es (.rsl q i k n) (.nsl k es)
 | agg {cs bs:List AV} (x:FnL i k es cs bs) (ho:bs.all AV.one=true):FnA i k es (.agg cs) (.agg bs)
 | tup {cs bs:List AV} (x:FnL i k es cs bs):FnA i k es (.tup cs) (.tup bs)
inductive FnL (i k:Nat) (es:List (List AV)):List AV->List AV->Prop
 | refl (xs:List AV):FnL i k es xs xs
 | cons {a b:AV} {xs bs:List AV} (x:FnA i k es a b) (y:FnL i k es xs bs):FnL i k es (a::xs) (b::bs)
end
mutual
theorem FnA.sound {g g':Gh} (d:g.le g') {i k:Nat} {es:List (List AV)} (f:∀q v,V g (.rsl q i k es.length) v->V g' (.nsl k es) v):∀{a b:AV} {v:Value},FnA i k es a b->V g a v->V g' b v
 | _,_,_,.same _,hv=>hv.mono d
 | _,_,_,.hit2 q n hn,hv=>by grind
 | _,_,_,.agg x ho,hv=>by
  simp only [V] at hv ⊢;obtain ⟨vs,rfl,e⟩:=hv;exact ⟨vs,rfl,VA.mk (FnL.sound d f x e.toVL) ho⟩
 | _,_,_,.tup x,hv=>by
  simp only [V] at hv ⊢;obtain ⟨vs,rfl,e⟩:=hv;exact ⟨vs,rfl,FnL.sound d f x e⟩
theorem FnL.sound {g g':Gh} (d:g.le g') {i k:Nat} {es:List (List AV)} (f:∀q v,V g (.rsl q i k es.length) v->V g' (.nsl k es) v):∀{xs bs:List AV} {vs:List Value},FnL i k es xs bs->VL g xs vs->VL g' bs vs
 | _,_,_,.refl _,hv=>hv.mono d
 | _,_,_,.cons x y,hv=>by
  simp only [VL] at hv ⊢;obtain ⟨v,s,rfl,e,j⟩:=hv;exact ⟨v,s,rfl,FnA.sound d f x e,FnL.sound d f y j⟩
end
theorem swk_freezeN {h:AH} {env:List AV} {B:List Blk} {T:List Nat} {j m:Nat} (l:B[j]?=some (.row (h.toks.length+m) k es)) (q:FnL (h.toks.length+m) k es env env')
  (u:B.set j .dead=B') (o:T.set m (es.length+1)=T'):swk env (h.ext B T) env' (h.ext B' T'):=λ_ _ w g vs r t=>by
 subst u o;have f:(h.ext B T).blks[h.blks.length+j]?=some (.row (h.toks.length+m) k es):=by
  simp only [AH.ext];rw [uj (by omega),uv];exact l
 obtain ⟨g',d,i,p,s⟩:=r.freezeN f;have e:({ (h.ext B T).put (h.blks.length+j) .dead with toks:=(h.ext B T).toks.set (h.toks.length+m) (es.length+1) }:AH)=h.ext (B.set j .dead) (T.set m (es.length+1)):=by
  simp only [AH.ext,AH.put,AH.mk.injEq]
  simp_all
 rw [e] at i;exact ⟨g',d,i,q.sound d s t⟩

theorem FnA.one {i k:Nat} {es:List (List AV)}:∀{a b:AV},FnA i k es a b->a.one=true->b.one=true
 | _,_,.same _,h=>h
 | _,_,.hit2 _ _ _,_=>rfl
 | _,_,.agg _ _,h=>by simp [AV.one] at h
 | _,_,.tup _,h=>by simp [AV.one] at h
theorem FnL.ones {i k:Nat} {es:List (List AV)}:∀{xs bs:List AV},FnL i k es xs bs->xs.all AV.one=true->bs.all AV.one=true
 | _,_,.refl _,h=>h
 | _,_,.cons x y,h=>by
  simp only [tf,ud] at h ⊢;exact ⟨x.one h.1,y.ones h.2⟩
theorem swk_freezeNB {h:AH} {env:List AV} {B:List Blk} {T:List Nat} {j jb m:Nat} {cs':List AV} (z:B[j]?=some (.row (h.toks.length+m) k es)) (F:FnL (h.toks.length+m) k es env env')
  (hc:B[jb]?=some (.cells cs)) (i:FnL (h.toks.length+m) k es cs cs') (H:(B.set j .dead).set jb (.cells cs')=B') (C:T.set m (es.length+1)=T'):swk env (h.ext B T) env' (h.ext B' T'):=λ_ _ w g vs r G=>by
 subst H C;have q:(h.ext B T).blks[h.blks.length+j]?=some (.row (h.toks.length+m) k es):=by
  simp only [AH.ext];rw [uj (by omega),uv];exact z
 have f:(h.ext B T).blks[h.blks.length+jb]?=some (.cells cs):=by
  simp only [AH.ext];rw [uj (by omega),uv];exact hc
 have o:j ≠ jb:=by grind
 obtain ⟨g',d,s,D,u⟩:=r.freezeN q;have e:({ (h.ext B T).put (h.blks.length+j) .dead with toks:=(h.ext B T).toks.set (h.toks.length+m) (es.length+1) }:AH)=h.ext (B.set j .dead) (T.set m (es.length+1)):=by
  simp only [AH.ext,AH.put,AH.mk.injEq]
  simp_all
 rw [e] at s;have hsl:h.blks.length+jb < g.σ.length:=by rw [r.slen];exact (uc.1 f).1
 obtain ⟨x,p⟩:∃x,g.σ[h.blks.length+jb]?=some x:=⟨_,uh hsl⟩
 cases x with
 | none=>exact (r.row _ _ p f).elim
 | some c =>
  obtain ⟨_,_,⟨us,t,y,k2⟩,_⟩:=r.blk _ c _ p f;have A:(h.ext (B.set j .dead) (T.set m (es.length+1))).blks[h.blks.length+jb]?=some (.cells cs):=by
   simp only [AH.ext];rw [uj (by omega),uv,uR o];exact hc
  have l:=d.sig _ _ p;have v:=s.putObj (k':=.cells cs') l A (by simp) rfl rfl rfl rfl (λ_ _=>rfl) ⟨us,t,y,VA.mk (i.sound d u k2.toVL) (i.ones k2.ones)⟩;have E:(h.ext (B.set j .dead) (T.set m (es.length+1))).put (h.blks.length+jb) (.cells cs')=h.ext ((B.set j .dead).set jb (.cells cs')) (T.set m (es.length+1)):=by
   simp only [AH.ext,AH.put,AH.mk.injEq,tM]
   simp_all
  rw [E] at v;exact ⟨g',d,v,F.sound d u G⟩

def Gh.ag (g:Gh):Gh:={ Φ:=g.Φ,σ:=[],τ:=[],δ:=g.δ,N:=λ_=>none,O:=λb=>∃j v,g.Φ b j=some v }
theorem Rel.ag {B:Nat} {w0 w:World} {g:Gh} {h:AH} (r:Rel B w0 g h w):Rel B w0 g.ag h0 w :=
 ⟨r.below,r.bsz,r.phi,rfl,λi c k hc _=>by simp [Gh.ag] at hc,rfl,λi t l=>by simp [Gh.ag] at l,λi j c hi=>by simp [Gh.ag] at hi,λi j t t' b x y hi=>by simp [Gh.ag] at hi,λi c j t b x hi=>by simp [Gh.ag] at hi,
  λc hc=>⟨(r.dfr c hc).1,(r.dfr c hc).2.1,λi=>by simp [Gh.ag]⟩,λi k hi=>by simp [Gh.ag] at hi,λi j t k k' es es' hi=>by simp [h0] at hi,(λb x d=>by cases d),
  (λb d=>by
   obtain ⟨j,v,e⟩:=d;exact ⟨r.phi_lt e,λs=>⟨nofun,λf=>nofun⟩⟩),
  (λb d=>by
   obtain ⟨j,v,e⟩:=d;refine ⟨λi=>by simp [Gh.ag],λhd=>?_,λi t x l=>by simp [Gh.ag] at l⟩;have p:=(r.dfr b hd).2.1;have o:=r.phi b j v e;simp [World.cell?,p] at o)⟩
def agV (a b:AV):Prop:=∀(B:Nat) (w0:World) (g:Gh) (h:AH) (w:World) (v:Value),Rel B w0 g h w->V g a v->V g.ag b v
inductive agR:List AV->List AV->Prop
 | nil:agR [] []
 | cons {a b:AV} {a5 bs:List AV} (hp:b.pure=true) (h:agV a b) (t:agR a5 bs):agR (a::a5) (b::bs)
inductive agE:List (List AV)->List (List AV)->Prop
 | nil:agE [] []
 | cons {a b:List AV} {a5 bs:List (List AV)} (h:agR a b) (t:agE a5 bs):agE (a::a5) (b::bs)
theorem agV.plain {a:AV} (h:a.plain=true):agV a a:=λB w0 g hh w v _ d=>by
 unfold AV.plain at h;split at h <;> first | (simp only [V];done) | (simp only [V,VL] at d ⊢;exact d) | cases h
theorem agR.plain:∀{a5:List AV},a5.all AV.plain=true->a5.all AV.pure=true->agR a5 a5
 | [],_,_=>.nil
 | a::r,h,k=>by
  simp only [tf,ud] at h k;exact .cons k.1 (.plain h.1) (agR.plain h.2 k.2)
theorem agR.len:∀{a5 bs:List AV},agR a5 bs->a5.length=bs.length
 | _,_,.nil=>rfl
 | _,_,.cons _ _ t=>by simp [t.len]
theorem agE.len:∀{a5 bs:List (List AV)},agE a5 bs->a5.length=bs.length
 | _,_,.nil=>rfl
 | _,_,.cons _ t=>by simp [t.len]
theorem agE.map {α:Type} {row d:α->List AV} (h:∀x,agR (row x) (d x)):∀L:List α,agE (L.map row) (L.map d)
 | []=>.nil
 | x::r=>.cons (h x) (agE.map h r)
section
variable {B:Nat} {w0 w:World} {g:Gh} {h:AH}
theorem VC.ag (r:Rel B w0 g h w) {b:Nat}:∀{o:Nat} {a5 bs:List AV},agR a5 bs->VC g b o a5->VC g.ag b o bs
 | _,_,_,.nil,_=>by simp only [VC]
 | _,_,_,.cons q h t,hv=>by
  simp only [VC] at hv ⊢;obtain ⟨⟨v,e,_,f⟩,d⟩:=hv;exact ⟨⟨v,e,q,h _ _ _ _ _ _ r f⟩,VC.ag r t d⟩
theorem VE.ag (r:Rel B w0 g h w) {b k:Nat}:∀{o:Nat} {a5 bs:List (List AV)},agE a5 bs->VE g b k o a5->VE g.ag b k o bs
 | _,_,_,.nil,_=>by simp only [VE]
 | _,_,_,.cons h t,hv=>by
  simp only [VE] at hv ⊢;obtain ⟨⟨e,d⟩,f⟩:=hv;exact ⟨⟨h.len.symm.trans e,VC.ag r h d⟩,VE.ag r t f⟩
end
theorem agV.sl {k:Nat} {es es':List (List AV)} (u:0 < k) (h:agE es es'):agV (.sl k es) (.bsl k es'):=λB w0 g hh w v r f=>by
 simp only [V] at f ⊢;obtain ⟨a,c,e,l,i,s⟩:=f;refine ⟨a,c,by rw [<- h.len];exact e,by rw [<- h.len];exact l,i,?_⟩;rcases s with rfl | ⟨b,o,p,hh⟩
 ·left;cases h;rfl
 ·cases es with
  | nil=>left;cases h;rfl
  | cons x q =>
   refine .inr ⟨b,o,p,VE.ag r h hh,?_⟩;simp only [VE] at hh;obtain ⟨⟨j,d⟩,_⟩:=hh;cases x with
   | nil=>simp at j;omega
   | cons y q =>
    simp only [VC] at d;obtain ⟨⟨v,t,_⟩,_⟩:=d;exact ⟨o,v,t⟩
theorem agV.slM {row d:α->List AV} {L:List α} (e:0 < k) (h:∀x,agR (row x) (d x)):agV (.sl k (L.map row)) (.bsl k (L.map d)):=agV.sl e (agE.map h L)
theorem agV.bslM {row d:α->List AV} {L:List α} (j:0 < k) (h:∀x,agR (row x) (d x)):agV (.bsl k (L.map row)) (.bsl k (L.map d)):=λB w0 g hh w v r f=>agV.sl j (agE.map h L) B w0 g hh w v r (by
 simp only [V] at f ⊢;obtain ⟨a,c,e,l,i,p⟩:=f;exact ⟨a,c,e,l,i,p.imp id λ⟨b,o,e,hh,_⟩=>⟨b,o,e,hh⟩⟩)
inductive agL:List AV->List AV->Prop
 | nil:agL [] []
 | cons {a b:AV} {a5 bs:List AV} (h:agV a b) (t:agL a5 bs):agL (a::a5) (b::bs)
 | away {a:AV} {a5 bs:List AV} (t:agL a5 bs):agL (a::a5) (.any::bs)
theorem VL.ag {B:Nat} {w0 w:World} {g:Gh} {h:AH} (r:Rel B w0 g h w):∀{a5 bs:List AV} {vs:List Value},agL a5 bs->VL g a5 vs->VL g.ag bs vs
 | _,_,_,.nil,hv=>by simpa only [VL] using hv
 | _,_,_,.cons h t,hv=>by
  simp only [VL] at hv ⊢;obtain ⟨v,s,rfl,e,d⟩:=hv;exact ⟨v,s,rfl,h _ _ _ _ _ _ r e,VL.ag r t d⟩
 | _,_,_,.away t,hv=>by
  simp only [VL] at hv ⊢;obtain ⟨v,s,rfl,e,d⟩:=hv;exact ⟨v,s,rfl,by simp only [V],VL.ag r t d⟩
def awpD (P:Program) (T:Exit->List AV->AH->Prop) (m:Nat):Nat->Code->List AV->AH->Prop
 | n+1,.seq a b,env,h=>vN P a (λx env' h'=>match x with
  | .normal=>∃env2 h2,wk h env' h' env2 h2/\awpD P T m n b env2 h2
  | x=>T x env' h') env h
 | 0,c,env,_=>∃env2,agL env env2/\awpC P T m c env2 h0
 | _+1,_,_,_=>False
section
variable {P:Program} {B:Nat} {w0:World} [GOk P B w0] {n0:Nat}
theorem awpD_sound {T:Exit->List AV->AH->Prop} {m:Nat}:∀(n:Nat) (c:Code) {env:List AV} {h:AH} {a:Act} {w:World},awpD P T m n c env h->StM B w0 gBot gBot env h a w->∀{Q:Exit->Act->World->Prop},
  (∀x env' q a' w',T x env' q->StM B w0 gBot gBot env' q a' w'->Q x a' w')->c.wpIn (WF none) n0 P Q a w
 | 0,c,env,h,a,w,d,hs,Q,hQ=>by
  obtain ⟨g,_,r,z,u,_⟩:=hs;obtain ⟨env2,G,d⟩:=(show ∃env2,agL env env2/\awpC P T m c env2 h0 by cases c <;> exact d)
  exact awpC_sound m c d ⟨g.ag,wN _,r.ag,VL.ag r G z,u.mono λ_ h=>h,wN _⟩ hQ
 | n+1,c,env,h,a,w,d,hs,Q,hQ=>by
  cases c with
  | seq x y =>
   obtain ⟨g,J,r,z,u,v⟩:=hs;refine wpIn_seq (vl (gb:=gBot) (g0:=g) x (.inl rfl) d ⟨g,Gh.le.refl g,r,z,u,v⟩ λe env' q a' w' l p=>?_);obtain ⟨C,s,A,j,f,i⟩:=p;cases e with
   | normal =>
    obtain ⟨env2,I,D,l⟩:=l;obtain ⟨E,F,H,t,o⟩:=D B w0 w' w g C _ r s A j;exact awpD_sound n y l ⟨E,wN _,H,t,f.mono o,wN _⟩ hQ
   | _=>exact hQ _ _ _ _ _ l ⟨C,wN _,A,j,f,i⟩
  | _=>exact d.elim
end
def seqD (P:Program) (T:Exit->List AV->AH->Prop) (m n:Nat) (h0:AH) (b:Code):Exit->List AV->AH->Prop:=λx env' h'=>match x with
 | .normal=>∃env2 h2,wk h0 env' h' env2 h2/\awpD P T m n b env2 h2
 | x=>T x env' h'
section
variable {P:Program} {T:Exit->List AV->AH->Prop} {m n:Nat} {env env2:List AV} {h h0:AH} {a b c:Code}
theorem a_seq (d:vN P a (seqD P T m n h b) env h):awpD P T m (n+1) (.seq a b) env h:=d
theorem aq_seq (d:awpD P T m n b env h):seqD P T m n h0 b .normal env h:=⟨env,h,wk.refl _ _ _,d⟩
theorem aq_ret (d:T .ret env h):seqD P T m n h0 b .ret env h:=d
theorem a_age (e:agL env env2) (d:awpC P T m c env2 (Vv.h0.ext [] [])):awpD P T m 0 c env h:=by
 rw [ext_nil] at d;cases c <;> exact ⟨env2,e,d⟩
theorem a_ageH {e:AH} (hh:h=Vv.h0) (d:agL env env2) (f:awpC P T m c env2 (h.ext [] [])):awpD P T m 0 c env e:=by
 subst hh;exact a_age d f
end
theorem specD_of_body_ext {P:Program} {f:FuncId} {fn:Func} {c:Code} (J:P.funcs[f]?=some fn) (G:fn.body=some c) (n m:Nat) {args:List AV} {h:AH} {K:AV->Prop} {env:List AV}
  (t:args++List.replicate (fn.ntmps - args.length) aundef=env) (C:awpD P (bodyT P fn K) m n c env (h.ext [] [])):SpecT P f args h K:=by
 rw [ext_nil] at C;subst t;intro B w0 _ g w vs r D;refine callsIn_wide.1 (callsIn_of_wp_marks (F:=WF none) (n:=0) J G trivial ?_ rfl);have j:args.length=vs.size:=by rw [D.length];rfl
 refine awpD_sound (B:=B) (w0:=w0) n c C ⟨g,wN g,r,?_,Marks.nil _ _,wN g⟩ λx env' I a' w' q hs=>?_
 ·simp only [tw,rH,j];exact VL.append D (VL.undefs _)
 ·obtain ⟨g',_,E,t,N,_⟩:=hs;have d:(match aRes P fn env' I with | some r=>K r | none=>False) ->
    LeavesInM (WF none) 0 P fn a'.tmps (λe p=>∃v' r y A,e=.returned v'/\K r/\Rel B w0 A y p/\V A r v') a'.defers .returning w':=by
   intro l;split at l
   ·rename_i Q M;obtain ⟨cs,H,s,o⟩:=N;refine leaves_marks a'.defers cs w' H s ?_ (wN g') E t (λc hc=>(o c hc).1) (λc hc=>(o c hc).2);intro p L z v i;obtain ⟨u,O,y⟩:=res_sound v i M
    grind
   ·simp_all
  cases x with
  | normal=>exact d q
  | ret=>exact d q
  | _=>exact q.elim
end Go.Vv
