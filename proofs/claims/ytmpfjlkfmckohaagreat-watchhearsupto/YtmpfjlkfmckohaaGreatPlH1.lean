/- Layer 31 over lists of rows: a chain of one edit more. -/
import Derived.Test.YtmpfjlkfmckohaaGreatPlH0
set_option linter.all false
namespace Go.Vv
open Go
variable {t:List GA} {rs ra rb:List GK} {N:List GC} {e:GC} {m num:Nat} {l:List GH} {most:List UInt8}
section
structure RwL (rs:List GK):Prop where
 s:kSorted rs
 k:∀r ∈ rs,RKey r
 l:∀r ∈ rs,leafB r.leaf=true
 o:∀r ∈ rs,LeafOk r.leaf
theorem RwL.of (hs:Small t) (a:treeB 0 t=true):RwL (zz [] t) :=
 ⟨xJ a [],rows_key hs a,λr b=>(rows_ok t 0 [] hs a rfl rfl r b).leaf,λr b=>(rows_ok t 0 [] hs a rfl rfl r b).ok⟩
theorem RwL.side (h:RwL rs) {p:List zj} {k:Int} {there:Bool} {l:GE} (hs:Side rs p k there l):(there=true->leafB l=true/\LeafOk l/\l.typ=k)/\(there=true->xN p=true/\1<=k/\k<=4)/\LeafOk l:=by
 refine ⟨λc=>?_,λc=>?_,?_⟩
 ·obtain ⟨a,b⟩:=hs.on c;exact ⟨h.l _ a,h.o _ a,b⟩
 ·obtain ⟨a,b⟩:=hs.on c;have:=h.k _ a;unfold RKey at this;rw [b] at this;exact this
 ·cases there with
  | true=>exact h.o _ (hs.on rfl).1
  | false=>rw [(hs.off rfl).1];exact leaf0_ok
theorem EdOf.eokR (f:RwL ra) (g:RwL rb) {e:GC} (h:EdOf ra rb e) (i:vT e=true):EOk e:=by
 have d:xN e.path=true/\1<=e.typ/\e.typ<=4:=by
  rcases h.any with c | c
  ·exact (f.side h.a).2.1 c
  ·exact (g.side h.b).2.1 c
 exact ⟨d.1,d.2,h.any,chg_ne i,(f.side h.a).1,λh0=>(h.a.off h0).1,(g.side h.b).1,λh0=>(h.b.off h0).1⟩
structure Eds (ra rb:List GK) (R:List GC):Prop where
 m:∀e,e ∈ R ↔ EdOf ra rb e/\vT e=true
 p:R.Pairwise eLt
theorem chainR {w:List GK} (L:RwL ra) (G:RwL rb) (O:RwL w) {R M:List GC} (eR:Eds ra rb R) (eM:Eds rb w M) (hl:R.length+M.length<=16777216):∃N,diffChain R M=some (N,0)/\Eds ra w N/\N.length<=R.length+M.length:=by
 obtain ⟨v,P⟩:=eR;obtain ⟨r,S⟩:=eM;have H:∀e ∈ R,EOk e:=λe g=>((v e).1 g).1.eokR L G ((v e).1 g).2;have J:∀e ∈ M,EOk e:=λe g=>((r e).1 g).1.eokR G O ((r e).1 g).2;obtain ⟨T,a1,a2,a3,a4,a5⟩:=cA_loop R 0 [] [] (λe g=>⟨(H e g).path,(H e g).typ⟩) (by simpa using P) List.Pairwise.nil (by simp) (by simp);simp only [u7,uC,uV] at a3 a4 a5;have i0:CInv ra R [] T:=⟨a2,λx c=>(a3 x c).1,λx c=>⟨((v _).1 (a3 x c).2).1.a,.inr ⟨by simp,(a3 x c).2⟩⟩,λe g=>by
  obtain ⟨x,c,i⟩:=a4 e g;exact ⟨x,c,by rw [i]⟩,by simp⟩
 obtain ⟨z,W,j,b3⟩:=cB_loop v G.s M 0 [] T (λe g=>⟨(J e g).path,(J e g).typ,((r e).1 g).1.a⟩) (by simpa using S) i0;simp only [u7] at j;have d:∀x ∈ z,Side ra x.2.path x.2.typ x.2.had x.2.was/\Side w x.2.path x.2.typ x.2.has x.2.is:=λx c=>by
  obtain ⟨E,s2⟩:=j.ed x c;refine ⟨E,?_⟩;rcases s2 with ⟨e,g,i,n,e3⟩ | ⟨s2,s3⟩
  ·obtain ⟨q,o⟩:=ekey_eq i;have:=((r e).1 g).1.b;rw [n,e3,q,o] at this;exact this
  ·have u:=((v _).1 s3).1.b;obtain ⟨t,l,hs⟩:=side_ex w x.2.path x.2.typ;obtain ⟨t1,V⟩:=side_same r (λe g=>s2 e g) u hs;rw [t1,V];exact hs
 have I:z.Pairwise λx y=>yi x.2 ≠ yi y.2:=by
  refine s7 ?_ j.nd;intro x y c hy h e;apply h;obtain ⟨i,n⟩:=ekey_eq e;rw [(j.ok x c).key,(j.ok y hy).key,i,n]
 obtain ⟨Q,X,r2,r3,Y⟩:=sorted_is (m:=z) (by omega) (λx c=>⟨by have:=(wF (j.ok x c).path).2.1;omega,(L.side (d x c).1).2.2,(O.side (d x c).2).2.2⟩) I;refine ⟨Q,?_,⟨λe=>?_,r2⟩,by omega⟩
 ·rw [chain_eq,diffMay_is (by omega) H P,uc,uz (show ((!true)==false)=true from rfl),diffMay_is (by omega) J S,uc,u6 (by decide),a1,wV,W,wV,X];rfl
 ·rw [Y];constructor
  ·rintro ⟨⟨x,c,rfl⟩,h⟩
   exact ⟨chg_any (d x c).1 (d x c).2 h,h⟩
  ·rintro ⟨u,A⟩
   refine ⟨?_,A⟩;have:∃x ∈ z,yi x.2=yi e:=by
    apply sZ;intro U;obtain ⟨t,l,hs⟩:=side_ex rb e.path e.typ;obtain ⟨u1,Z⟩:=side_same v (p:=e.path) (k:=e.typ) (λf K i=>by
     obtain ⟨x,c,n⟩:=j.cr f K;exact U ⟨x,c,n.trans i⟩) u.a hs
    obtain ⟨v1,v2⟩:=side_same r (p:=e.path) (k:=e.typ) (λf K i=>by
     obtain ⟨x,c,n⟩:=j.cp f K;exact U ⟨x,c,n.trans i⟩) hs u.b
    unfold vT at A;rw [u1,v1,Z,v2] at A;simp at A
   obtain ⟨x,c,i⟩:=this;obtain ⟨q,o⟩:=ekey_eq i;obtain ⟨E,s2⟩:=d x c;rw [q,o] at E s2;obtain ⟨D,B⟩:=E.one L.s u.a;obtain ⟨C,F⟩:=s2.one O.s u.b;refine ⟨x,c,?_⟩;revert q o D B C F;generalize x.2=y;intro q o D B C F;cases y;cases e;simp only at q o D B C F;rw [q,o,D,B,C,F]
def Part (ra rb:List GK) (D:List GC) (rs:List GK):Prop:=∀r,r ∈ rs ↔ (r ∈ ra/\∀e ∈ D,rkey r ≠ yi e) \/ (r ∈ rb/\∃e ∈ D,rkey r=yi e)
open Classical in
theorem part_ex (g:RwL ra) (f:RwL rb) (D:List GC):∃rs,RwL rs/\rs.length<=ra.length+rb.length/\Part ra rb D rs:=by
 let L:=ra.filter (λr=>decide (∀e ∈ D,rkey r ≠ yi e))++rb.filter (λr=>decide (∃e ∈ D,rkey r=yi e))
 have n:∀r,r ∈ L ↔ (r ∈ ra/\∀e ∈ D,rkey r ≠ yi e) \/ (r ∈ rb/\∃e ∈ D,rkey r=yi e):=λr=>by
  simp only [L,uE,uW,uo]
 have p:L.Pairwise (λx y=>wW (rkey x) (rkey y)=true \/ wW (rkey y) (rkey x)=true):=by
  refine tb.2 ⟨(g.s.filter _).imp .inl,(f.s.filter _).imp .inl,λx u y q=>?_⟩;have c:=(uW.1 u).2;have d:=(uW.1 q).2;simp only [uo] at c d;obtain ⟨e,w,v⟩:=d;have i:rkey x ≠ rkey y:=λh=>c e w (h.trans v);rcases klt_tot (rkey x) (rkey y) with h | h | h
  ·exact absurd h i
  ·exact .inl h
  ·exact .inr h
 obtain ⟨R,c,d⟩:=exists_sorted (lt:=λx y:GK=>wW (rkey x) (rkey y)=true) (λ_ _ _=>klt_trans) L p;have j:∀r,r ∈ R ↔ r ∈ L:=λr=>c.mem_iff;have b:∀r ∈ R,r ∈ ra \/ r ∈ rb:=λr a=>by
  rcases (n r).1 ((j r).1 a) with h | h
  ·exact .inl h.1
  ·exact .inr h.1
 refine ⟨R,⟨d,λr a=>?_,λr a=>?_,λr a=>?_⟩,?_,λr=>(j r).trans (n r)⟩
 ·rcases b r a with h | h
  ·exact g.k r h
  ·exact f.k r h
 ·rcases b r a with h | h
  ·exact g.l r h
  ·exact f.l r h
 ·rcases b r a with h | h
  ·exact g.o r h
  ·exact f.o r h
 ·rw [c.length_eq];simp only [L,ul];have:=tq (λr=>decide (∀e ∈ D,rkey r ≠ yi e)) ra;have:=tq (λr=>decide (∃e ∈ D,rkey r=yi e)) rb;omega
theorem Part.side {D:List GC} (h:Part ra rb D rs) {p:List zj} {k:Int} {t:Bool} {l:GE}:((∃e ∈ D,yi e=(p,k))->(Side rs p k t l ↔ Side rb p k t l))/\((¬ ∃e ∈ D,yi e=(p,k))->(Side rs p k t l ↔ Side ra p k t l)):=by
 have n:∀l:GE,l.typ=k->rkey (GK.mk p l)=(p,k):=λl h=>by unfold rkey;rw [h]
 constructor
 ·rintro ⟨e,b,f⟩
  constructor
  ·intro hs;refine ⟨λa=>?_,λa=>⟨(hs.off a).1,λr i c=>(hs.off a).2 r ((h r).2 (.inr ⟨i,e,b,c.trans f.symm⟩)) c⟩⟩;obtain ⟨j,d⟩:=hs.on a;rcases (h _).1 j with ⟨_,q⟩ | ⟨g,_⟩
   ·exact absurd ((n l d).trans f.symm) (q e b)
   ·exact ⟨g,d⟩
  ·intro hs;refine ⟨λa=>?_,λa=>⟨(hs.off a).1,λr i c=>?_⟩⟩
   ·obtain ⟨j,d⟩:=hs.on a;exact ⟨(h _).2 (.inr ⟨j,e,b,(n l d).trans f.symm⟩),d⟩
   ·rcases (h r).1 i with ⟨_,q⟩ | ⟨g,_⟩
    ·exact q e b (c.trans f.symm)
    ·exact (hs.off a).2 r g c
 ·intro o;constructor
  ·intro hs;refine ⟨λa=>?_,λa=>⟨(hs.off a).1,λr i c=>(hs.off a).2 r ((h r).2 (.inl ⟨i,λe b s=>o ⟨e,b,s.symm.trans c⟩⟩)) c⟩⟩;obtain ⟨j,d⟩:=hs.on a;rcases (h _).1 j with ⟨g,_⟩ | ⟨_,e,b,f⟩
   ·exact ⟨g,d⟩
   ·exact absurd ⟨e,b,f.symm.trans (n l d)⟩ o
  ·intro hs;refine ⟨λa=>?_,λa=>⟨(hs.off a).1,λr i c=>?_⟩⟩
   ·obtain ⟨j,d⟩:=hs.on a;exact ⟨(h _).2 (.inl ⟨j,λe b s=>o ⟨e,b,s.symm.trans (n l d)⟩⟩),d⟩
   ·rcases (h r).1 i with ⟨g,_⟩ | ⟨_,e,b,f⟩
    ·exact (hs.off a).2 r g c
    ·exact o ⟨e,b,f.symm.trans c⟩
theorem Part.step {h n:List GK} (i:RwL h) (k:RwL n) {D:List GC} {e:GC} (q:Part ra rb D h) (p:Part ra rb (D++[e]) n) (o:EdOf ra rb e/\vT e=true) (A:∀f ∈ D,yi f ≠ yi e):Eds h n [e]:=by
 have B:¬ ∃f ∈ D,yi f=(e.path,e.typ):=λ⟨f,j,d⟩=>A f j d;have C:∃f ∈ D++[e],yi f=(e.path,e.typ):=⟨e,by simp,rfl⟩
 have v:EdOf h n e:=⟨o.1.any,(q.side.2 B).2 o.1.a,(p.side.1 C).2 o.1.b⟩
 refine ⟨λf=>?_,List.pairwise_singleton _ _⟩;rw [ut];constructor
 ·rintro rfl;exact ⟨v,o.2⟩
 ·rintro ⟨j,u⟩
  by_cases hk:yi f=yi e
  ·exact j.one i.s k.s v hk
  ·exfalso;obtain ⟨t,l,r⟩:=side_ex h f.path f.typ;have s2:Side n f.path f.typ t l:=by
    by_cases hd:∃g ∈ D,yi g=(f.path,f.typ)
    ·obtain ⟨g,c,d⟩:=hd;exact (p.side.1 ⟨g,by simp [c],d⟩).2 ((q.side.1 ⟨g,c,d⟩).1 r)
    ·refine (p.side.2 λ⟨g,c,d⟩=>?_).2 ((q.side.2 hd).1 r);rcases uE.1 c with c | c
     ·exact hd ⟨g,c,d⟩
     ·rw [ut.1 c] at d;exact hk d.symm
   obtain ⟨y,w⟩:=j.a.one i.s r;obtain ⟨x,z⟩:=j.b.one k.s s2;unfold vT at u;rw [y,w,x,z] at u;simp at u
theorem Part.zero (a:RwL ra) (hs:RwL rs) (h:Part ra rb [] rs):rs=ra :=
 sorted_ext (lt:=λx y:GK=>wW (rkey x) (rkey y)=true) (λx h=>by rw [wQ] at h;cases h) (λ_ _ _=>klt_trans) hs.s a.s λr=>by
  rw [h r];simp
theorem Part.all (o:RwL ra) (n:RwL rb) (hs:RwL rs) {R:List GC} (i:Eds ra rb R) (h:Part ra rb R rs):rs=rb :=
 sorted_ext (lt:=λx y:GK=>wW (rkey x) (rkey y)=true) (λx h=>by rw [wQ] at h;cases h) (λ_ _ _=>klt_trans) hs.s n.s λr=>by
  have b:∀{rs:List GK} {r:GK},r ∈ rs->Side rs r.path r.leaf.typ true r.leaf:=λh=>⟨λ_=>⟨h,rfl⟩,λh=>by cases h⟩
  constructor
  ·intro d;rcases (h r).1 d with ⟨f,j⟩ | ⟨f,_⟩
   ·obtain ⟨t,l,s⟩:=side_ex rb r.path r.leaf.typ;obtain ⟨a,g⟩:=side_same i.m (p:=r.path) (k:=r.leaf.typ) (λe c a=>j e c a.symm) (b f) s;subst a g;exact (s.on rfl).1
   ·exact f
  ·intro d;by_cases hx:∃e ∈ R,rkey r=yi e
   ·exact (h r).2 (.inr ⟨d,hx⟩)
   ·refine (h r).2 (.inl ⟨?_,λe c a=>hx ⟨e,c,a⟩⟩);obtain ⟨t,l,s⟩:=side_ex ra r.path r.leaf.typ;obtain ⟨a,g⟩:=side_same i.m (p:=r.path) (k:=r.leaf.typ) (λe c a=>hx ⟨e,c,a.symm⟩) s (b d);rw [a,g] at s;exact (s.on rfl).1
end
section
theorem patch_to (hs:Small t) (c:treeB 0 t=true) {F:List GC} (a:Eds (zz [] []) (zz [] t) F) (j:F.length<=16777215):qn [] F=some (t,0):=by
 obtain ⟨u,i,g,f⟩:=patch_is small_nil (qC 0) (es:=F) (by simp [zz];omega) (λe d=>by
  obtain ⟨b,h⟩:=(a.m e).1 d;exact ⟨b.eok small_nil hs (qC 0) c h,b.fits⟩) a.p
 obtain rfl:=patched (qC 0) c g a.m f;exact i
theorem diff_eds {a b:List GA} (h:Small a) (n:Small b) (k:treeB 0 a=true) (c:treeB 0 b=true) (i:GA.bks a+GA.bks b<=16777216):∃R,vd a b=some (R,0)/\Eds (zz [] a) (zz [] b) R/\R.length<=(zz [] a).length+(zz [] b).length:=by
 obtain ⟨R,j,d,g,f⟩:=diff_is h n k c i;exact ⟨R,j,⟨f,d⟩,g⟩
theorem eds_nil (rs:List GK) (h:RwL rs):Eds rs rs []:=⟨λe=>by
 simp only [List.not_mem_nil,false_iff]
 rintro ⟨d,c⟩
 obtain ⟨f,g⟩:=d.a.one h.s d.b;unfold vT at c;rw [f,g] at c;simp at c,.nil⟩
end
section
noncomputable def qp:List GC->List GC->Option (List GC)
 | [],s=>some s
 | e::L,s=>(diffChain s [e]).bind λv=>if v.2=0 then qp L v.1 else none
theorem chainF_app:∀(L M:List GC) (s:List GC),qp (L++M) s=(qp L s).bind (qp M)
 | [],_,_=>rfl
 | e::L,M,s=>by
  simp only [tm,qp];cases diffChain s [e] with
  | none=>rfl
  | some v =>
   simp only [uc];split
   ·exact chainF_app L M v.1
   ·rfl
theorem chainF_loop {α ρ:Type} {ed:α->GC} {f:Nat->α->List GC->Option (Out ρ (List GC))}:∀(M:List α) (i:Nat) (s F:List GC),(∀j x,M[j]?=some x->∀s N,diffChain s [ed x]=some (N,0)->f (i+j) x s=some (.nxt N))->qp (M.map ed) s=some F->zy f M i s=some (.inr F)
 | [],_,_,_,_,h=>by
  simp only [tM,qp,ug] at h;subst h;rfl
 | x::M,i,s,F,hf,h=>by
  simp only [uy,qp] at h;obtain ⟨v,c,a⟩:=tN.1 h;split at a
  ·rename_i h0;have:=hf 0 x rfl s v.1 (by rw [c];cases v;simp only at h0;subst h0;rfl);simp only [zy];rw [tF] at this;rw [this];exact chainF_loop M (i+1) v.1 F (λj y b=>by rw [show i+1+j=i+(j+1) by omega];exact hf (j+1) y (by simpa using b)) a
  ·cases a
theorem chainF_all (o:RwL ra) (s:RwL rb) {R:List GC} (q:Eds ra rb R) {d:List GK} (h0:RwL d) {E:List GC} (h:Eds d ra E) (n:E.length+R.length<=16777216):∃F,qp R E=some F/\Eds d rb F/\F.length<=E.length+R.length:=by
 have key:∀(L D:List GC) (E:List GC) (b:List GK),D++L=R->RwL b->Part ra rb D b->Eds d b E->E.length+L.length<=16777216->∃F,qp L E=some F/\Eds d rb F/\F.length<=E.length+L.length:=by
  intro L
  induction L with
  | nil =>
   intro D E b a i k h _;rw [tu] at a;subst a;have:=k.all o s i q;subst this;exact ⟨E,rfl,h,by simp⟩
  | cons e L ih =>
   intro D E b a i k h n;simp only [uh] at n ⊢;obtain ⟨y,j,_,g⟩:=part_ex o s (D++[e]);have c:=q.p;rw [<- a] at c;have x:∀f ∈ D,yi f ≠ yi e:=λf w A=>by
    have:=(tb.1 c).2.2 f w e (by simp);unfold eLt at this;rw [A,wQ] at this;cases this
   have hs:=k.step i j g ((q.m e).1 (by rw [<- a];simp)) x;obtain ⟨N,B,C,u⟩:=chainR h0 i j h hs (by simp;omega);simp only [uh,uC] at u;obtain ⟨F,v,z,G⟩:=ih (D++[e]) N y (by rw [<- a];simp) j g C (by omega);exact ⟨F,by simp only [qp,B,uc,uv];exact v,z,by omega⟩
 exact key R [] E ra rfl o (λr=>by simp) h n
inductive Told:List GA->List GC->Prop where
 | nil:Told [] []
 | see {a b:List GA} {N R:List GC} (h:Told a N) (hs:Small b) (ht:treeB 0 b=true) (hR:Eds (zz [] a) (zz [] b) R):Told b (N++R)
theorem Told.fine (h:Told t N):Small t/\treeB 0 t=true:=by
 cases h with
 | nil=>exact ⟨small_nil,qC 0⟩
 | see _ hs ht _=>exact ⟨hs,ht⟩
theorem Told.chain (h:Told t N):N.length<=16777215->∃F,qp N []=some F/\Eds (zz [] []) (zz [] t) F/\F.length<=N.length:=by
 have c:RwL (zz [] []):=RwL.of small_nil (qC 0)
 induction h with
 | nil=>exact λ_=>⟨[],rfl,eds_nil _ c,ue _⟩
 | @see a b N R h hs ht hR ih =>
  intro j;simp only [ul] at j ⊢;obtain ⟨F,i,d,k⟩:=ih (by omega);obtain ⟨G,g,f,n⟩:=chainF_all (RwL.of h.fine.1 h.fine.2) (RwL.of hs ht) hR c d (by omega);exact ⟨G,by rw [chainF_app,i,uc,g],f,by omega⟩
theorem Told.last (h:Told t N) (c:N.length<=16777215):∃F,qp N []=some F/\qn [] F=some (t,0):=by
 obtain ⟨F,b,a,d⟩:=h.chain c;exact ⟨F,b,patch_to h.fine.1 h.fine.2 a (by omega)⟩
end
section
noncomputable abbrev seeF {ρ:Type}:Nat->GC->Int×List (Int×GI)×Int×(List GH)->Option (Out ρ (Int×List (Int×GI)×Int×(List GH))):=(λ(n2:Nat) (x2:GC) (s2:Int×List (Int×GI)×Int×(List GH))=>(((keysSrt s2.2.1).bind λv530=>(lp (zy (λ(n3:Nat) (x3:Int) (s3:Int×List (Int×GI)×Int×(List GH))=>(((yV ((zo (λa b=>a==b) (GI.mk ([]:List zj) (0:Int)) s3.2.1 x3).p) x2.path).bind λv574=>((if (v574==true)=true then (if (decide (((s3.2.2.2).length:Int) >= (256:Int)))=true then some (false,(yn (λa b=>a==b) s3.2.1 x3 (GI.mk ((zo (λa b=>a==b) (GI.mk ([]:List zj) (0:Int)) s3.2.1 x3).p) (IntKind.wrap .u64 ((zo (λa b=>a==b) (GI.mk ([]:List zj) (0:Int)) s3.2.1 x3).missed+(1:Int))))),s3.2.2.1,s3.2.2.2) else ((wc x2).bind λv582=>(wA ((s3.2.2.2).length+(([(GH.mk x3 (IntKind.wrap .u64 (s3.2.2.1+(1:Int))) v582)]:List GH)).length<=xO) (some (true,s3.2.1,(IntKind.wrap .u64 (s3.2.2.1+(1:Int))),(s3.2.2.2++([(GH.mk x3 (IntKind.wrap .u64 (s3.2.2.1+(1:Int))) v582)]:List GH))))))) else some (default,s3.2.1,s3.2.2.1,s3.2.2.2):Option (Bool×List (Int×GI)×Int×(List GH))).bind λv575=>(if (v574&&v575.1)=true then some (.nxt ((IntKind.wrap .i64 (s3.1+(1:Int))),v575.2.1,v575.2.2.1,v575.2.2.2)) else some (.nxt (s3.1,v575.2.1,v575.2.2.1,v575.2.2.2))))):Option (Out _ (Int×List (Int×GI)×Int×(List GH))))) v530 0 (s2.1,s2.2.1,s2.2.2.1,s2.2.2.2)) λ(s3:Int×List (Int×GI)×Int×(List GH))=>some (.nxt (s3.1,s3.2.1,s3.2.2.1,s3.2.2.2)))):Option (Out _ (Int×List (Int×GI)×Int×(List GH)))))
noncomputable abbrev outF (most1:List UInt8):Nat->List GA->(List GH)×(List GA)×List (Int×GI)×Int×(List GA)×(List GH)->Option (Out Bool ((List GH)×(List GA)×List (Int×GI)×Int×(List GA)×(List GH))):=(λ(n1:Nat) (x1:(List GA)) (s1:(List GH)×(List GA)×List (Int×GI)×Int×(List GA)×(List GH))=>(((qa x1).bind λv326=>(if v326=true then ((xP).bind λv328=>some (.ret v328)) else ((((some ():Option Unit).bind λv459=>((vd s1.2.2.2.2.1 x1).bind λv460=>(if (v460.2 != (0:Int))=true then some ((0:Int),v460.2,s1.2.2.1,s1.2.2.2.1,s1.2.2.2.2.1,s1.2.2.2.2.2) else (lp (zy (λ(n2:Nat) (x2:GC) (s2:Int×List (Int×GI)×Int×(List GH))=>(((keysSrt s2.2.1).bind λv530=>(lp (zy (λ(n3:Nat) (x3:Int) (s3:Int×List (Int×GI)×Int×(List GH))=>(((yV ((zo (λa b=>a==b) (GI.mk ([]:List zj) (0:Int)) s3.2.1 x3).p) x2.path).bind λv574=>((if (v574==true)=true then (if (decide (((s3.2.2.2).length:Int) >= (256:Int)))=true then some (false,(yn (λa b=>a==b) s3.2.1 x3 (GI.mk ((zo (λa b=>a==b) (GI.mk ([]:List zj) (0:Int)) s3.2.1 x3).p) (IntKind.wrap .u64 ((zo (λa b=>a==b) (GI.mk ([]:List zj) (0:Int)) s3.2.1 x3).missed+(1:Int))))),s3.2.2.1,s3.2.2.2) else ((wc x2).bind λv582=>(wA ((s3.2.2.2).length+(([(GH.mk x3 (IntKind.wrap .u64 (s3.2.2.1+(1:Int))) v582)]:List GH)).length<=xO) (some (true,s3.2.1,(IntKind.wrap .u64 (s3.2.2.1+(1:Int))),(s3.2.2.2++([(GH.mk x3 (IntKind.wrap .u64 (s3.2.2.1+(1:Int))) v582)]:List GH))))))) else some (default,s3.2.1,s3.2.2.1,s3.2.2.2):Option (Bool×List (Int×GI)×Int×(List GH))).bind λv575=>(if (v574&&v575.1)=true then some (.nxt ((IntKind.wrap .i64 (s3.1+(1:Int))),v575.2.1,v575.2.2.1,v575.2.2.2)) else some (.nxt (s3.1,v575.2.1,v575.2.2.1,v575.2.2.2))))):Option (Out _ (Int×List (Int×GI)×Int×(List GH))))) v530 0 (s2.1,s2.2.1,s2.2.2.1,s2.2.2.2)) λ(s3:Int×List (Int×GI)×Int×(List GH))=>some (.nxt (s3.1,s3.2.1,s3.2.2.1,s3.2.2.2)))):Option (Out _ (Int×List (Int×GI)×Int×(List GH))))) v460.1 0 ((0:Int),s1.2.2.1,s1.2.2.2.1,s1.2.2.2.2.2)) λ(s2:Int×List (Int×GI)×Int×(List GH))=>((xr x1 ([([42,42]:zj)]:List zj)).bind λv585=>some (s2.1,(0:Int),s2.2.1,s2.2.2.1,v585.1,s2.2.2.2)))))):Option (Int×Int×List (Int×GI)×Int×(List GA)×(List GH))).bind λv329=>(if (v329.2.1==(0:Int))=true then (if (decide ((n1:Int) < ((most1).length:Int)))=true then ((vm most1 (n1:Int)).bind λy589=>((((some ():Option Unit).bind λv597=>(if (decide ((IntKind.wrap .i64 ((y589.toNat:Int))) < (1:Int)))=true then some (([]:List GH),v329.2.2.2.2.2) else ((slc v329.2.2.2.2.2 (0:Int) (if ((v329.2.2.2.2.2).length:Int) < (IntKind.wrap .i64 ((y589.toNat:Int))) then ((v329.2.2.2.2.2).length:Int) else (IntKind.wrap .i64 ((y589.toNat:Int))))).bind λm600=>((slc v329.2.2.2.2.2 (if ((v329.2.2.2.2.2).length:Int) < (IntKind.wrap .i64 ((y589.toNat:Int))) then ((v329.2.2.2.2.2).length:Int) else (IntKind.wrap .i64 ((y589.toNat:Int)))) ((v329.2.2.2.2.2).length:Int)).bind λm601=>((yr m601).bind λv602=>some (m600,v602)))))):Option ((List GH)×(List GH))).bind λv590=>(wA ((s1.1).length+(v590.1).length<=xO) (some (.nxt ((s1.1++v590.1),x1,v329.2.2.1,v329.2.2.2.1,v329.2.2.2.2.1,v590.2)))))) else some (.nxt (s1.1,x1,v329.2.2.1,v329.2.2.2.1,v329.2.2.2.2.1,v329.2.2.2.2.2))) else (if (decide ((n1:Int) < ((most1).length:Int)))=true then ((vm most1 (n1:Int)).bind λy606=>((((some ():Option Unit).bind λv614=>(if (decide ((IntKind.wrap .i64 ((y606.toNat:Int))) < (1:Int)))=true then some (([]:List GH),v329.2.2.2.2.2) else ((slc v329.2.2.2.2.2 (0:Int) (if ((v329.2.2.2.2.2).length:Int) < (IntKind.wrap .i64 ((y606.toNat:Int))) then ((v329.2.2.2.2.2).length:Int) else (IntKind.wrap .i64 ((y606.toNat:Int))))).bind λm617=>((slc v329.2.2.2.2.2 (if ((v329.2.2.2.2.2).length:Int) < (IntKind.wrap .i64 ((y606.toNat:Int))) then ((v329.2.2.2.2.2).length:Int) else (IntKind.wrap .i64 ((y606.toNat:Int)))) ((v329.2.2.2.2.2).length:Int)).bind λm618=>((yr m618).bind λv619=>some (m617,v619)))))):Option ((List GH)×(List GH))).bind λv607=>(wA ((s1.1).length+(v607.1).length<=xO) (some (.nxt ((s1.1++v607.1),s1.2.1,v329.2.2.1,v329.2.2.2.1,v329.2.2.2.2.1,v607.2)))))) else some (.nxt (s1.1,s1.2.1,v329.2.2.1,v329.2.2.2.1,v329.2.2.2.2.1,v329.2.2.2.2.2))))))):Option (Out _ ((List GH)×(List GA)×List (Int×GI)×Int×(List GA)×(List GH)))))
theorem EOk.copy (h:EOk e):CopyOk e:=by
 refine ⟨?_,?_,?_⟩
 ·have:=h.path;unfold xN at this;simp only [ud,uo] at this;omega
 ·cases hh:e.had with
  | true=>exact (h.was1 hh).2.1
  | false=>rw [h.was0 hh];exact leaf0_ok
 ·cases hh:e.has with
  | true=>exact (h.is1 hh).2.1
  | false=>rw [h.is0 hh];exact leaf0_ok
theorem watchCopied_is (h:CopyOk e):wc e=some e:=copied_is h
theorem keysSrt_one (w:GI):keysSrt [((1:Int),w)]=some [1]:=by
 unfold keysSrt;rw [uz ⟨by simp;decide,by simp,by simp⟩];simp
def vM:Nat->List GC->List GH
 | _,[]=>[]
 | n,e::L=>⟨1,((n+1:Nat):Int),e⟩::vM (n+1) L
theorem notes_app:∀(L M:List GC) (n:Nat),vM n (L++M)=vM n L++vM (n+L.length) M
 | [],_,_=>rfl
 | e::L,M,n=>by simp only [tm,vM,notes_app L M (n+1),uh,show n+1+L.length=n+(L.length+1) by omega]
theorem notes_len:∀(L:List GC) (n:Nat),(vM n L).length=L.length
 | [],_=>rfl
 | e::L,n=>by simp [vM,notes_len L]
theorem u64n {n:Nat} (h:n < 1099511627776):IntKind.wrap .u64 (n:Int)=(n:Int):=by
 simp [IntKind.wrap,IntKind.signed,IntKind.bits];omega
theorem see_step {ρ:Type} {x:GC} {p:List zj} {k:Int} {i:Nat} (a:yV p x.path=some true) (d:CopyOk x) (j:m+num<=1000000000) (g:l.length<=256) :
  seeF (ρ:=ρ) i x (k,[(1,⟨p,(m:Int)⟩)],(num:Int),l)=some (.nxt (if 256<=l.length then (k,[(1,⟨p,((m+1:Nat):Int)⟩)],(num:Int),l) else (IntKind.wrap .i64 (k+1),[(1,⟨p,(m:Int)⟩)],((num+1:Nat):Int),l++[⟨1,((num+1:Nat):Int),x⟩]))):=by
 have c:IntKind.wrap .u64 ((m:Int)+1)=((m+1:Nat):Int):=u64n (n:=m+1) (by omega);have f:IntKind.wrap .u64 ((num:Int)+1)=((num+1:Nat):Int):=u64n (n:=num+1) (by omega);simp only [seeF,keysSrt_one,uc,zy,lp,zo,tW,uv,a,watchCopied_is d,c,f,yn];by_cases h:256<=l.length
 ·have h':((l.length:Nat):Int) >= 256:=by omega
  simp [h,h']
 ·have h':¬ ((l.length:Nat):Int) >= 256:=by omega
  have b:l.length+1<=xO:=xT (by omega);simp [h,h',wA,b]
theorem see_all {ρ:Type} {p:List zj}:∀(R:List GC) (i:Nat) (k:Int) (m num:Nat) (l:List GH),(∀x ∈ R,yV p x.path=some true/\CopyOk x)->m+num+R.length<=1000000000->l.length<=256 ->
  ∃k' b a c,zy (seeF (ρ:=ρ)) R i (k,[(1,⟨p,((m:Nat):Int)⟩)],((num:Nat):Int),l)=some (.inr (k',[(1,⟨p,((b:Nat):Int)⟩)],((a:Nat):Int),c))/\c.length<=256/\b+c.length=m+l.length+R.length/\b+a=m+num+R.length/\(b=0->m=0/\c=l++vM num R)
 | [],i,k,m,num,l,_,_,hl=>⟨k,m,num,l,rfl,hl,by simp,by simp,λh=>⟨h,by simp [vM]⟩⟩
 | x::R,i,k,m,num,l,h,hb,hl=>by
  simp only [uh] at hb;obtain ⟨q,r⟩:=h x (by simp);rw [zy,see_step q r (by omega) hl];by_cases hf:256<=l.length
  ·rw [uz hf];obtain ⟨k',b,a,c,g,f,n,o,d⟩:=see_all R (i+1) k (m+1) num l (λy j=>h y (by simp [j])) (by omega) hl;exact ⟨k',b,a,c,g,f,by simp only [uh];omega,by simp only [uh];omega,λh0=>by have:=(d h0).1;omega⟩
  ·rw [u6 hf];obtain ⟨k',b,a,c,g,f,n,o,d⟩:=see_all R (i+1) (IntKind.wrap .i64 (k+1)) m (num+1) (l++[⟨1,((num+1:Nat):Int),x⟩]) (λy j=>h y (by simp [j])) (by omega) (by simp;omega);simp only [ul,uh,uC] at n;exact ⟨k',b,a,c,g,f,by simp only [uh];omega,by simp only [uh];omega,λh0=>⟨(d h0).1,by rw [(d h0).2,vM,ur];rfl⟩⟩
theorem star_match {p:List zj} (h:xN p=true):matchB [[42,42]] p=true:=by
 unfold matchB;have a:patB [[42,42]]=true:=by decide
 have c:xy [[42,42]]=[]:=by decide
 have b:endsB [[42,42]]=true:=by decide
 rw [a,c,b,h];simp [agreeB]
theorem star_is {p:List zj} (h:xN p=true):yV [[42,42]] p=some true:=by rw [pathsMatch_is (by decide),star_match h]
theorem take_is (q:Int) {l:List GH} (g:l.length<=256):((some ():Option Unit).bind λ_=>(if (decide (q < (1:Int)))=true then some (([]:List GH),l) else ((slc l (0:Int) (if (l.length:Int) < q then (l.length:Int) else q)).bind λc=>((slc l (if (l.length:Int) < q then (l.length:Int) else q) (l.length:Int)).bind λa=>((yr a).bind λb=>some (c,b))))))=some (l.take q.toNat,l.drop q.toNat):=by
 rw [uc];by_cases h:q < 1
 ·rw [uz (by simp [h]),show q.toNat=0 by omega];rfl
 ·rw [u6 (by simp;omega)];have d:∀m:List GH,m.length<=256->yr m=some m:=λm f=>qM (xT (by omega));by_cases h2:(l.length:Int) < q
  ·simp only [uz h2,slc];rw [uz (by omega),uc,uz (by omega),uc,d _ (by simp),uc];rw [ux (l:=l) (i:=q.toNat) (by omega),show l.drop q.toNat=[] from pt (by omega)];simp
  ·simp only [u6 h2,slc];rw [uz (by omega),uc,uz (by omega),uc,d _ (by simp;omega),uc];simp
structure WInv (K:Nat) (all:List GH) (last:List GA) (m num:Nat) (l:List GH):Prop where
 sm:Small last
 bk:GA.bks last<=1048577
 tr:treeB 0 last=true
 few:l.length<=256
 cnt:all.length+l.length+m<=K
 nn:m+num<=K
 told:m=0->∃N,Told last N/\all++l=vM 0 N/\num=N.length
theorem WInv.take {K:Nat} {all:List GH} {last:List GA} {m num:Nat} {l:List GH} (h:WInv K all last m num l) (n:Nat):WInv K (all++l.take n) last m num (l.drop n):=by
 have f:=h.cnt;have d:=h.few;refine ⟨h.sm,h.bk,h.tr,by simp;omega,by simp;omega,h.nn,λh0=>?_⟩;obtain ⟨N,b,a,c⟩:=h.told h0;exact ⟨N,b,by rw [ur,ry];exact a,c⟩
theorem WInv.more {K K':Nat} {all:List GH} {last:List GA} (h:WInv K all last m num l) (a:K<=K'):WInv K' all last m num l:=⟨h.sm,h.bk,h.tr,h.few,uG h.cnt a,uG h.nn a,h.told⟩
theorem WInv.see {ρ:Type} {K:Nat} {all:List GH} {last:List GA} {m num:Nat} {l:List GH} (h:WInv K all last m num l) {x:List GA} (hs:Small x) (j:GA.bks x<=1048577) (b:treeB 0 x=true) (B:K<=10000000) :
  ∃R,vd last x=some (R,0)/\∃k' c a d,zy (seeF (ρ:=ρ)) R 0 ((0:Int),[(1,⟨[[42,42]],((m:Nat):Int)⟩)],((num:Nat):Int),l)=some (.inr (k',[(1,⟨[[42,42]],((c:Nat):Int)⟩)],((a:Nat):Int),d))/\WInv (K+600000) all x c a d:=by
 have w:=h.bk;obtain ⟨R,i,f,z⟩:=diff_eds h.sm hs h.tr b (by omega);have A:=rows4 last;have F:=rows4 x;have C:=h.cnt;have D:=h.nn;obtain ⟨k',c,a,d,q,s2,E,s4,r⟩:=see_all (ρ:=ρ) (p:=[[42,42]]) R 0 0 m num l (λe u=>by
  obtain ⟨s,o⟩:=(f.m e).1 u;have:=s.eok h.sm hs h.tr b o;exact ⟨star_is this.path,this.copy⟩) (by omega) h.few
 refine ⟨R,i,k',c,a,d,q,hs,j,b,s2,by omega,by omega,λh0=>?_⟩;obtain ⟨n,g⟩:=r h0;obtain ⟨N,v,y,k⟩:=h.told n;refine ⟨N++R,v.see hs b f,?_,by simp;omega⟩;rw [g,<- ur,y,notes_app,k,uV]
end
section
def w7:GE:=GE.mk (1:Int) (5:Int) (0:Int) (GF.mk (GL.mk (0:Int) (0:Int)) (0:Int)) ([]:zj) ([]:List GJ) ([]:List GF)
def treeW:List GA:=[GA.mk ([97]:zj) ([]:List GE) ([(GA.mk ([98]:zj) [w7] ([]:List GA))]:List GA)]
theorem smallW:Small treeW:=⟨by simp [treeW,w7,GA.wfs,GA.wf,GE.wf,GF.wf,GL.wf,maxLen,InK];decide,by simp [treeW,w7,GA.bks,GA.bk,GE.bk,GF.bk,GL.bk]⟩
theorem mayW:treeB 0 treeW=true:=by
 simp [treeB,treeW,xD,nodeB,upB,leavesB,allI,w7];decide
theorem known40:xP=some true:=by
 have G:GA.bks treeW<=100:=by simp [treeW,w7,GA.bks,GA.bk,GE.bk,GF.bk,GL.bk]
 have h0:GA.bks []=0:=by simp [GA.bks]
 obtain ⟨R,s,⟨q,A⟩,_⟩:=diff_eds small_nil smallW (qC 0) mayW (by omega);have d:zz [] treeW=[⟨[[97],[98]],w7⟩]:=by simp [treeW,zz,rowsN]
 rw [d] at q;have o:EdOf (zz [] []) [⟨[[97],[98]],w7⟩] (GC.mk [[97],[98]] 1 false true x5 w7):=⟨.inr rfl,⟨λh=>by simp at h,λ_=>⟨rfl,by simp [zz]⟩⟩,⟨λ_=>⟨by simp,rfl⟩,λh=>by simp at h⟩⟩
 have E:R=[GC.mk [[97],[98]] 1 false true x5 w7]:=by
  have c:∀e ∈ R,e=GC.mk [[97],[98]] 1 false true x5 w7:=λe D=>by
   obtain ⟨h,_⟩:=(q e).1 D;have g:e.had=false:=by
    cases hh:e.had with
    | false=>rfl
    | true=>have:=(h.a.on hh).1;simp [zz] at this
   have n:e.has=true:=by
    rcases h.any with h | h
    ·rw [g] at h;cases h
    ·exact h
   obtain ⟨y,u⟩:=h.b.on n;have v:=(h.a.off g).1;simp only [ut] at y;injection y with z j;cases e;simp only at g n u v z j;subst g n v z j;rw [<- u];rfl
  cases R with
  | nil=>exact absurd ((q _).2 ⟨o,by decide⟩) (by simp)
  | cons e R =>
   cases R with
   | nil=>rw [c e (by simp)]
   | cons f R =>
    have:=(uM.1 A).1 f (by simp);rw [c e (by simp),c f (by simp)] at this;unfold eLt at this;rw [wQ] at this;cases this
 subst E;have F:CopyOk (GC.mk [[97],[98]] 1 false true x5 w7):=⟨by simp,leaf0_ok,⟨by simp [w7],by simp [w7],by simp [w7]⟩⟩
 have B:yG [[97],[42]]=some true:=by rw [we (by decide)];decide
 have C:yV [[97],[42]] [[97],[98]]=some true:=by rw [pathsMatch_is (by decide)];decide
 have hs:=select_all smallW mayW;have r:z7 [[97],[42]]=some [[97],[42]]:=qM (xT (by decide));have w:IntKind.wrap .i64 (0+1)=1:=by decide
 have x:zy (seeF (ρ:=Int×Int×List (Int×GI)×Int×(List GA)×(List GH))) [GC.mk [[97],[98]] 1 false true x5 w7] 0 ((0:Int),[((1:Int),GI.mk [[97],[42]] (0:Int))],(0:Int),[])=some (.inr ((1:Int),[((1:Int),GI.mk [[97],[42]] (0:Int))],(1:Int),[GH.mk 1 1 (GC.mk [[97],[98]] 1 false true x5 w7)])):=by
  have j:seeF (ρ:=Int×Int×List (Int×GI)×Int×(List GA)×(List GH)) 0 (GC.mk [[97],[98]] 1 false true x5 w7) ((0:Int),[((1:Int),GI.mk [[97],[42]] (0:Int))],(0:Int),[])=some (.nxt (IntKind.wrap .i64 (0+1),[((1:Int),GI.mk [[97],[42]] (0:Int))],(1:Int),[GH.mk 1 1 (GC.mk [[97],[98]] 1 false true x5 w7)])):=by
   have:=see_step (ρ:=Int×Int×List (Int×GI)×Int×(List GA)×(List GH)) (i:=0) (k:=0) (m:=0) (num:=0) (l:=[]) C F (by simp) (by simp);rw [u6 (by simp)] at this;exact this
  rw [zy,j,w];rfl
 have p:=take_is 5 (l:=[GH.mk 1 1 (GC.mk [[97],[98]] 1 false true x5 w7)]) (by simp);unfold treeW w7 at s hs;unfold w7 at x p;unfold xP;simp only [uc,B,sj,u6 tZ,r,w,yn,s];rw [u6 (by decide),uc,u6 (by decide),x];simp only [lp,hs,uc]

 rw [uc] at p;rw [p];rfl
end
section
theorem out_step {i K:Nat} {x:List GA} {all:List GH} {last:List GA} (h:WInv K all last m num l) (hs:Small x) (u:GA.bks x<=1048577) (w:K<=8000000) :
  outF most i x (all,last,[(1,⟨[[42,42]],((m:Nat):Int)⟩)],((num:Nat):Int),last,l)=some (.ret true) \/ ∃c b j a k,outF most i x (all,last,[(1,⟨[[42,42]],((m:Nat):Int)⟩)],((num:Nat):Int),last,l)=some (.nxt (c,b,[(1,⟨[[42,42]],((j:Nat):Int)⟩)],((a:Nat):Int),b,k))/\WInv (K+600000) c b j a k:=by
 obtain ⟨g,p⟩:=ref07Great_tot hs;cases g with
 | true=>left;simp only [outF,p,uc,uv,known40]
 | false =>
  right;have f:∀{K':Nat} {c:List GH} {b:List GA} {j a:Nat} {k:List GH} (_:WInv K' c b j a k) (n:Nat),K'<=10000000->c.length+(k.take n).length<=xO:=λh n v=>by
   have:=h.cnt;exact xT (by simp;omega)
  cases ht:treeB 0 x with
  | false =>
   have hd:=diff_no h.sm hs (show (treeB 0 last&&treeB 0 x)=false by simp [ht]);by_cases hi:i < most.length
   ·have q:=qV hi;have d:decide ((i:Int) < (most.length:Int))=true:=by simp;omega
    have o:=take_is (IntKind.wrap .i64 ((most[i].toNat:Int))) h.few;rw [uc] at o;refine ⟨_,last,m,num,_,?_,(h.take (IntKind.wrap .i64 ((most[i].toNat:Int))).toNat).more (by omega)⟩;simp only [outF,p,uc,u6 tZ,hd];rw [uz (by decide),uc,u6 (by simp),uz d,q,uc,o,uc];exact uz (f h _ (by omega))
   ·have d:¬ decide ((i:Int) < (most.length:Int))=true:=by simp;omega
    refine ⟨all,last,m,num,l,?_,h.more (by omega)⟩;simp only [outF,p,uc,u6 tZ,hd];rw [uz (by decide),uc,u6 (by simp),u6 d]
  | true =>
   obtain ⟨R,r,k',j,a,k,s,s2⟩:=h.see (ρ:=Int×Int×List (Int×GI)×Int×(List GA)×(List GH)) hs u ht (by omega);by_cases hi:i < most.length
   ·have q:=qV hi;have d:decide ((i:Int) < (most.length:Int))=true:=by simp;omega
    have o:=take_is (IntKind.wrap .i64 ((most[i].toNat:Int))) s2.few;rw [uc] at o;have y:WInv (K+600000) all x j a k:=s2;refine ⟨_,x,j,a,_,?_,s2.take (IntKind.wrap .i64 ((most[i].toNat:Int))).toNat⟩;simp only [outF,p,uc,u6 tZ,r];rw [u6 (by decide),s];simp only [lp,select_all hs ht,uc];rw [uz (by decide),uz d,q,uc,o,uc];exact uz (f s2 _ (by omega))
   ·have d:¬ decide ((i:Int) < (most.length:Int))=true:=by simp;omega
    refine ⟨all,x,j,a,k,?_,s2⟩;simp only [outF,p,uc,u6 tZ,r];rw [u6 (by decide),s];simp only [lp,select_all hs ht,uc];rw [uz (by decide),u6 d]
theorem out_all {most:List UInt8}:∀(L:List (List GA)) (i K:Nat) (all:List GH) (last:List GA) (m num:Nat) (l:List GH),WInv K all last m num l->(∀x ∈ L,Small x/\GA.bks x<=1048577)->K+L.length * 600000<=8000000 ->
  zy (outF most) L i (all,last,[(1,⟨[[42,42]],((m:Nat):Int)⟩)],((num:Nat):Int),last,l)=some (.inl true) \/ ∃b a d c f,zy (outF most) L i (all,last,[(1,⟨[[42,42]],((m:Nat):Int)⟩)],((num:Nat):Int),last,l)=some (.inr (b,a,[(1,⟨[[42,42]],((d:Nat):Int)⟩)],((c:Nat):Int),a,f))/\WInv 8000000 b a d c f
 | [],i,K,all,last,m,num,l,h,_,hk=>.inr ⟨all,last,m,num,l,rfl,h.more (by simp at hk;omega)⟩
 | x::L,i,K,all,last,m,num,l,h,hx,hk=>by
  simp only [uh] at hk;rcases out_step (most:=most) (i:=i) h (hx x (by simp)).1 (hx x (by simp)).2 (by omega) with g | ⟨b,a,d,c,f,g,k⟩
  ·left;rw [zy,g]
  ·rw [zy,g];exact out_all L (i+1) (K+600000) b a d c f k (λy j=>hx y (by simp [j])) (by omega)
end
section
theorem notes_get:∀(L:List GC) (n j:Nat) (x:GH),(vM n L)[j]?=some x->x.watch=1/\x.num=((n+j+1:Nat):Int)
 | [],_,_,_,h=>by simp [vM] at h
 | e::L,n,0,x,h=>by
  simp only [vM,pc,ug] at h;subst h;exact ⟨rfl,rfl⟩
 | e::L,n,j+1,x,h=>by
  simp only [vM,rj] at h;obtain ⟨b,a⟩:=notes_get L (n+1) j x h;exact ⟨b,by rw [a];congr 1;omega⟩
theorem notes_map:∀(L:List GC) (n:Nat),(vM n L).map GH.edit=L
 | [],_=>rfl
 | e::L,n=>by simp [vM,notes_map L]
theorem law40WatchHears_is {l:List (List GA)} (w:∀x ∈ l,Small x/\GA.bks x<=1048577):wn l most=some true:=by
 have u:yG [[42,42]]=some true:=by rw [we (by decide)];decide
 have i:z7 [[42,42]]=some [[42,42]]:=qM (xT (by decide));have v:IntKind.wrap .i64 (0+1)=1:=by decide
 unfold wn;simp only [uc,u,sj,u6 tZ,i,v,yn];rw [u6 (by decide),uc];by_cases h12:l.length > 12
 ·rw [uz (by simp;omega),uz (by decide),known40,uc];rfl
 ·rw [u6 (by simp;omega)];have h0:WInv 0 [] [] 0 0 []:=⟨small_nil,by simp [GA.bks],qC 0,by simp,by simp,by simp,λ_=>⟨[],.nil,rfl,rfl⟩⟩
  rcases out_all (most:=most) l 0 0 [] [] 0 0 [] h0 w (by omega) with h | ⟨all,last,m,num,q,h,d⟩
  ·have b:zy (outF most) l 0 (([]:List GH),([]:List GA),[((1:Int),GI.mk [[42,42]] (0:Int))],(0:Int),([]:List GA),([]:List GH))=_:=h;unfold outF at b;simp only [uc] at b;rw [b];rfl
  ·have b:zy (outF most) l 0 (([]:List GH),([]:List GA),[((1:Int),GI.mk [[42,42]] (0:Int))],(0:Int),([]:List GA),([]:List GH))=_:=h;unfold outF at b;simp only [uc] at b;rw [b];have n:=take_is 1000 d.few;rw [uc] at n;have I:=d.cnt;have E:=d.few;simp only [lp];rw [n,uc,wA,uz (xT (by simp;omega))];simp only [xX,zo,tW,pr,sj,u6 tZ,uv,uc];cases m with
   | succ m =>
    rw [uz (by simp),known40,uc];rfl
   | zero =>
    rw [u6 (by simp)];obtain ⟨N,B,g,D⟩:=d.told rfl;have H:N.length<=8000000:=by
     have:=congrArg List.length g;rw [notes_len] at this;simp only [ul] at this;omega
    obtain ⟨F,r,y⟩:=B.last (by omega);have A:all++q.take (1000:Int).toNat=vM 0 N:=by
     rw [ux (by show q.length<=1000;omega)];exact g
    rw [A];have k:=chainF_loop (ρ:=Bool) (ed:=GH.edit) (f:=λ(g:Nat) (c:GH) (s2:List GC)=>((if ((c.watch != (1:Int)) || (c.num != (IntKind.wrap .u64 ((IntKind.wrap .i64 ((g:Int)+(1:Int)))))))=true then some (.ret false) else ((diffChain s2 ([c.edit]:List GC)).bind λa=>(if (a.2 != (0:Int))=true then some (.ret false) else some (.nxt a.1)))):Option (Out Bool (List GC)))) (vM 0 N) 0 [] F (λj x o s M p=>by
     obtain ⟨C,c⟩:=notes_get N 0 j x o;have G:j < N.length:=by rw [<- notes_len N 0];exact (ua.1 o).1
     rw [uV] at c;have z:IntKind.wrap .u64 (IntKind.wrap .i64 ((j:Int)+1))=((j+1:Nat):Int):=by rw [wrap_add1 (by simp [maxLen];omega)];exact u64n (by omega)
     simp only [uV,C,c,z,p,uc];simp) (by rw [notes_map];exact r)
    rw [k];simp only [y,uc,ref07Same_refl,tW,uv,u2];have hd:q.drop (1000:Int).toNat=[]:=pt (by show q.length<=1000;omega);rw [hd];simp [known40]
theorem law40WatchHears_top (l:List (List GA)) (most:List UInt8) (c:l.length<=maxLen/\∀y ∈ l,y.length<=maxLen/\∀z ∈ y,GA.wf z) (b:most.length<=maxLen/\∀y ∈ most,True) (d:((l.map (λL=>(L.map GA.bk).sum+1)).sum+1)+((most.map (λ_=>1)).sum+1)<=1048576):wn l most=some true :=
 law40WatchHears_is λx a=>by
  have h:(x.map GA.bk).sum+1<=_:=sum_mem (f:=λL:List GA=>(L.map GA.bk).sum+1) a;exact ⟨small_of (c.2 x a) (by omega),by rw [GA.bks_eq];omega⟩
end
end Go.Vv
