/- Tokens: rows that the call's own code lengthens. -/
import Derived.Test.YtcdgimmdofbjdaaGreatVvA
import Derived.Lib.AppendStr
set_option linter.all false
namespace Go.Vv
open Go Go.RowKit
section
variable{B:Nat}{w0 w:World}{g:Gh}{h:AH}

def Gh.fy(g:Gh)(i:Nat)(t:TI):Gh:={ g with τ:=g.τ.set i t }
def Gh.fI(g:Gh)(t:TI):Gh:={ g with τ:=g.τ++[t] }
theorem Gh.fU{g:Gh}{i:Nat}{t t':TI}(hi:g.τ[i]?=some t)(b:t.n<t'.n)(a:t'.row=t.row):g.le (g.fy i t') :=
 ⟨λ_ _ _ e=>e,λ_ _ e=>e,λj u e=>by
  simp only[Gh.fy];by_cases hj:j=i
  ·subst hj
   grind
  ·exact⟨u,by grind,ob _,λ_=>rfl,rfl⟩,λ_ h=>h⟩
theorem Gh.fu(g:Gh)(t:TI):g.le (g.fI t) :=
 ⟨λ_ _ _ e=>e,λ_ _ e=>e,λj u e=>by
  simp only[Gh.fI];exact⟨u,by grind,ob _,λ_=>rfl,rfl⟩,λ_ h=>h⟩

theorem Rel.ax(r:Rel B w0 g h w){i:Nat}{t t':TI}(hi:g.τ[i]?=some t)(K:t.n<t'.n)(J:t.row=false)(p:t'.row=false)
  (s:∀b l e,t'.loc=some (b,l,e)->ed g.Φ B w b l e)
  (hd:∀b x,t'.loc=some (b,x)->(∃y,t.loc=some (b,y)) \/ ((∀(j:Nat)(u:TI) (y:Nat×Nat),g.τ[j]?=some u->u.loc≠some (b,y))/\∀(j c:Nat),g.σ[j]?=some (some c)->b≠c)) :
  Rel B w0 (g.fy i t') { h with zs:=h.zs.set i t'.n } w:=by
 have G:i<g.τ.length:=(tu.1 hi).1;have key:∀(j:Nat)(u:TI),(g.fy i t').τ[j]?=some u->(j=i/\u=t') \/ (j≠i/\g.τ[j]?=some u):=by
  intro j u e;simp only[Gh.fy]at e
  grind
 refine⟨r.below,r.dA,r.eK,r.fi,λQ c k C H=>?_,by simp[Gh.fy,r.fA],λj u f=>?_,r.eF,λj D u O b x y F a m I=>?_,λj c D u b x C f m=>?_,r.eJ,
  λq k M H=>(r.row q k M H).mono (Gh.fU hi K (p.trans J.symm)) (λj u F R=>by
   have d:j≠i:=by grind
   simp only[Gh.fy];rw[lR (λe=>d e.symm)];exact F) (λ_ _ _ _ _ _ _=>⟨rfl,λ_=>rfl⟩),r.fX⟩
 ·obtain⟨E,o,P,N⟩:=r.g7 Q c k C H;exact⟨E,o,P.mono (Gh.fU hi K (p.trans J.symm)) rfl,N⟩
 ·rcases key j u f with⟨rfl,rfl⟩|⟨F,f⟩
  ·exact⟨li (by rw[<- r.fA];exact G),s⟩
  ·obtain⟨E,o⟩:=r.tok j u f;exact⟨by grind,o⟩
 ·rcases key j u F with⟨rfl,rfl⟩|⟨d,A⟩<;>rcases key D O a with⟨rfl,rfl⟩|⟨L,a⟩
  ·rfl
  ·rcases hd b x m with⟨z,v⟩|⟨E,_⟩
   ·exact r.fS _ _ _ _ b z y hi a v I
   ·grind
  ·rcases hd b y I with⟨z,v⟩|⟨E,_⟩
   ·exact r.fS _ _ _ _ b x z A hi m v
   ·grind
  ·exact r.fS _ _ _ _ b x y A a m I
 ·rcases key D u f with⟨rfl,rfl⟩|⟨d,f⟩
  ·rcases hd b x m with⟨z,v⟩|⟨_,o⟩
   ·exact r.sep j c _ t b z C hi v
   ·exact o j c C
  ·exact r.sep j c D u b x C f m

theorem Rel.dG(r:Rel B w0 g h w)(t:TI)(f:∀b l e,t.loc=some (b,l,e)->ed g.Φ B w b l e)
  (hd:∀b x,t.loc=some (b,x)->(∀(j:Nat)(u:TI) (y:Nat×Nat),g.τ[j]?=some u->u.loc≠some (b,y))/\∀(j c:Nat),g.σ[j]?=some (some c)->b≠c) :
  Rel B w0 (g.fI t) { h with zs:=h.zs++[t.n] } w:=by
 have key:∀(j:Nat)(u:TI),(g.fI t).τ[j]?=some u->(j=g.τ.length/\u=t) \/ (j<g.τ.length/\g.τ[j]?=some u):=by
  intro j u e;simp only[Gh.fI]at e
  grind
 refine⟨r.below,r.dA,r.eK,r.fi,λJ c k p z=>?_,by simp[Gh.fI,r.fA],λj u d=>?_,r.eF,λj m u G b x y i a o H=>?_,λj c m u b x p d o=>?_,r.eJ,
  λq k E z=>(r.row q k E z).mono (Gh.fu g t) (λj u i _=>by
   simp only[Gh.fI];rw[ol (tu.1 i).1];exact i) (λ_ _ _ _ _ _ _=>⟨rfl,λ_=>rfl⟩),r.fX⟩
 ·obtain⟨C,v,I,F⟩:=r.g7 J c k p z;exact⟨C,v,I.mono (Gh.fu g t) rfl,F⟩
 ·rcases key j u d with⟨rfl,rfl⟩|⟨i,d⟩
  ·refine⟨?_,f⟩;rw[r.fA,pa (ob _)];simp
  ·obtain⟨C,v⟩:=r.tok j u d;exact⟨by grind,v⟩
 ·rcases key j u i with⟨rfl,rfl⟩|⟨s,A⟩<;>rcases key m G a with⟨rfl,rfl⟩|⟨D,a⟩
  ·rfl
  ·grind
  ·grind
  ·exact r.fS _ _ _ _ b x y A a o H
 ·rcases key m u d with⟨rfl,rfl⟩|⟨s,d⟩
  ·exact(hd b x o).2 j c p
  ·exact r.sep j c m u b x p d o

theorem Rel.dX(r:Rel B w0 g h w){i:Nat}{t:TI}{b l e:Nat}(hi:g.τ[i]?=some t)(A:t.loc=some (b,l,e)){cur new:Array Value}{ty:TypeId}
  (E:w.heap[b]?=some (.cells cur ty (0,0))) (V:new.size=cur.size) (u:∀j,j<l->new[j]?=cur[j]?):Rel B w0 g h (w.setRow b new):=by
 have lo:=(r.tok i t hi).2 b l e A;have m:(w.setRow b new).heap[b]?=some (.cells new ty (0,0)):=setRow_heap w b cur new ty (0,0) E;refine⟨⟨r.below.os,r.below.tape,r.below.output,by simp[r.below.size],λk y=>(setRow_other w b k new (by have:=lo.lo;omega)).trans (r.below.block k y)⟩,by simp[r.dA],λf j v G=>?_,
  r.fi,λI c k z y=>?_,r.fA,λI t' L=>?_,r.eF,r.fS,r.sep,λx H=>⟨(r.eJ x H).1,(setRow_other w b x new (by rintro rfl;have:=(r.eJ x H).2.1;rw[E]at this;cases this)).trans (r.eJ x H).2.1,(r.eJ x H).2.2⟩,λq k S y=>?_,r.fX⟩
 ·by_cases hb:f=b
  ·subst hb;have D:j<l:=by
    rcases kR j l with D|D
    ·exact D
    ·rw[lo.free j D]at G;cases G
   have:=r.eK f j v G;rw[cell_of_row w f j cur ty (0,0) E]at this;rw[cell_of_row _ f j new ty (0,0) m,u j D];omega
  ·exact(World.cell?_of_block (w:=w) (a:=⟨f,j,none⟩) (setRow_other w b f new hb)).trans (r.eK f j v G)
 ·obtain⟨n,F,O,K⟩:=r.g7 I c k z y;exact⟨n,by simp_all,O.mono (Gh.le.refl g) (setRow_other w b c new (r.sep I c i t b (l,e) z hi A).symm),K⟩
 ·obtain⟨n,F⟩:=r.tok I t' L;refine⟨n,λf Y J M=>?_⟩;have p:=F f Y J M;by_cases hb:f=b
  ·subst hb;obtain⟨cs,Q,d,Z⟩:=p.cells;rw[E]at d;injection d with d;injection d with d _ _;subst d;exact⟨p.lo,by grind,⟨new,ty,m,by omega⟩,p.free⟩
  ·exact p.mono (by simp) (setRow_other w b f new hb) λ_ _=>rfl
 ·have s:=r.row q k S y;cases k with
  |row i2 k es =>
   obtain⟨R,n,F,O,K,T,X⟩:=s;refine⟨R,n,F,O,K,T,X.imp id ?_⟩
   rintro⟨C,o,U,cs,cA,k1,k2,k3,k4,P⟩
   by_cases hb:C=b
   ·subst hb;have N:=r.fS _ _ _ _ C _ _ n hi k1 A;subst N;rw[hi]at n;injection n with n;subst n;rw[A]at k1;injection k1 with k1;injection k1 with _ k1;injection k1 with k1 _;rw[E]at k2;injection k2 with k2;injection k2 with k2 W _;subst k2;refine⟨C,o,e,new,ty,by rw[A,k1],m,?_,by omega,P⟩;have:(new.toList.drop o).take (es.length*k)=(cur.toList.drop o).take (es.length*k):=by
     apply lT
     grind
    simp_all
   ·exact⟨C,o,U,cs,cA,k1,(setRow_other w b C new hb).trans k2,k3,k4,P⟩
  |dead=>trivial
  |_=>exact s.elim

theorem Rel.setRow(r:Rel B w0 g h w){i q k:Nat}{t t':TI}{es es':List (List AV)}(hi:g.τ[i]?=some t)(hn:t.n<t'.n)(hf:t.row=true)(S:t'.row=true)
  (hq:g.σ[q]?=some none) (L:h.zh[q]?=some (.row i k es)) (I:eA (g.fy i t') w i k es')
  (G:∀b l e,t'.loc=some (b,l,e)->ed g.Φ B w b l e)
  (hd:∀b x,t'.loc=some (b,x)->(∃y,t.loc=some (b,y)) \/ ((∀(j:Nat)(u:TI) (y:Nat×Nat),g.τ[j]?=some u->u.loc≠some (b,y))/\∀(j c:Nat),g.σ[j]?=some (some c)->b≠c)) :
  Rel B w0 (g.fy i t') { h.put q (.row i k es')with zs:=h.zs.set i t'.n } w:=by
 have P:i<g.τ.length:=(tu.1 hi).1;have J:=Gh.fU hi hn (S.trans hf.symm);have key:∀(j:Nat)(u:TI),(g.fy i t').τ[j]?=some u->(j=i/\u=t') \/ (j≠i/\g.τ[j]?=some u):=by
  intro j u e;simp only[Gh.fy]at e
  grind
 have hql:q<h.zh.length:=(tu.1 L).1;have a:∀(j:Nat)(b:q6),(h.zh.set q (.row i k es'))[j]?=some b->(j=q/\b=.row i k es') \/ (j≠q/\h.zh[j]?=some b):=by
  grind
 refine⟨r.below,r.dA,r.eK,by simp[AH.put,Gh.fy,r.fi],λU c b A F=>?_,by simp[Gh.fy,r.fA],λj u p=>?_,r.eF,λj K u u' b x y O m C T=>?_,λj c K u b x A p C=>?_,r.eJ,
  λj b O F=>?_,λZ j2 t1 k1 k2 e1 V Q o=>?_⟩
 ·have A:g.σ[U]?=some (some c):=A;rcases a U b F with⟨rfl,rfl⟩|⟨f,F⟩
  ·simp_all
  ·obtain⟨M,D,h3,h4⟩:=r.g7 U c b A F;exact⟨M,D,h3.mono J rfl,h4⟩
 ·rcases key j u p with⟨rfl,rfl⟩|⟨O,p⟩
  ·exact⟨li (by rw[<- r.fA];exact P),G⟩
  ·obtain⟨M,D⟩:=r.tok j u p;exact⟨by grind,D⟩
 ·rcases key j u O with⟨rfl,rfl⟩|⟨f,o⟩<;>rcases key K u' m with⟨rfl,rfl⟩|⟨Y,m⟩
  ·rfl
  ·rcases hd b x C with⟨z,H⟩|⟨M,_⟩
   ·exact r.fS _ _ _ _ b z y hi m H T
   ·grind
  ·rcases hd b y T with⟨z,H⟩|⟨M,_⟩
   ·exact r.fS _ _ _ _ b x z o hi C H
   ·grind
  ·exact r.fS _ _ _ _ b x y o m C T
 ·rcases key K u p with⟨rfl,rfl⟩|⟨f,p⟩
  ·rcases hd b x C with⟨z,H⟩|⟨_,D⟩
   ·exact r.sep j c _ t b z A hi H
   ·exact D j c A
  ·exact r.sep j c K u b x A p C
 ·rcases a j b F with⟨rfl,rfl⟩|⟨f,d⟩
  ·exact I
  ·have N:=r.row j b O d;cases b with
   |row i2 k2 V =>
    have N:eA g w i2 k2 V:=N;have R:i2≠i:=by rintro rfl;exact f (r.fX _ _ _ _ _ _ _ d L)
    exact N.mono J (by simp only[Gh.fy];exact lR (λe=>R e.symm)) (λ_ _ _ _ _ _=>⟨rfl,λ_=>rfl⟩)
   |dead=>trivial
   |_=>exact N.elim
 ·rcases a Z _ Q with⟨rfl,v⟩|⟨X,E⟩<;>rcases a j2 _ o with⟨rfl,s⟩|⟨W,d⟩
  ·rfl
  ·injection v with v _ _;subst v;exact r.fX _ _ _ _ _ _ _ L d
  ·injection s with s _ _;subst s;exact r.fX _ _ _ _ _ _ _ E L
  ·exact r.fX _ _ _ _ _ _ _ E d

theorem Rel.rowAt(r:Rel B w0 g h w){id q k:Nat}{es:List (List AV)}(b:h.g7 id=some (.row q k es)):g.σ[id]?=some none/\eA g w q k es:=by
 have d:id<g.σ.length:=by rw[r.fi];exact(tu.1 b).1
 rcases a:g.σ[id]with _|c
 ·have a:g.σ[id]?=some none:=by rw[rk d,a]
  exact⟨a,r.row _ _ a b⟩
 ·exact(r.g7 id c _ (by simp_all) b).2.2.1.elim

theorem Rel.dh(r:Rel B w0 g h w){q i k:Nat}{es es':List (List AV)}(F:h.g7 q=some (.row i k es)){t:TI}{b o e:Nat}{cur new:Array Value}{ty:TypeId}(hi:g.τ[i]?=some t)
  (P:t.loc=some (b,o+es.length*k,e)) (I:w.heap[b]?=some (.cells cur ty (0,0))) (hsz:new.size=cur.size) (A:∀j,j<o->new[j]?=cur[j]?) (G:es'.length=es.length)
  (hk:∀e∈es',e.length=k) (hp:es'.flatten.all AV.pure=true) (hva:VA g es'.flatten ((new.toList.drop o).take (es.length*k))) (hne:es≠[]) :
  Rel B w0 g (h.put q (.row i k es')) (w.setRow b new):=by
 obtain⟨hσ,t2,l,U,S,_,_,hrow⟩:=r.rowAt F;rw[hi]at l;injection l with l;subst l;obtain⟨D,E,N,cs,cA,k1,k2,k3,k4,k5⟩:∃D E N cs cA,t.loc=some (D,E+es.length*k,N)/\w.heap[D]?=some (.cells cs cA (0,0))/\VA g es.flatten ((cs.toList.drop E).take (es.length*k))/\E+es.length*k<=cs.size/\∀j,E<=j->g.Φ D j=none:=by
  simp_all
 rw[P]at k1;injection k1 with k1;injection k1 with e1 k1;injection k1 with k1 _;obtain rfl:o=E:=by omega
 subst e1;rw[I]at k2;injection k2 with k2;injection k2 with k2 _ _;subst k2;have lo:=(r.tok i t hi).2 b _ e P;have n:(w.setRow b new).heap[b]?=some (.cells new ty (0,0)):=setRow_heap w b cur new ty (0,0) I;have hql:q<h.zh.length:=(tu.1 F).1;have d:∀(j:Nat)(x:q6),(h.zh.set q (.row i k es'))[j]?=some x->(j=q/\x=.row i k es') \/ (j≠q/\h.zh[j]?=some x):=by
  grind
 have H:∀(s c:Nat),g.σ[s]?=some (some c)->c≠b:=λs c h'=>(r.sep s c i t b _ h' hi P).symm;refine⟨⟨r.below.os,r.below.tape,r.below.output,by simp[r.below.size],λx u=>(setRow_other w b x new (by have:=lo.lo;omega)).trans (r.below.block x u)⟩,by simp[r.dA],λm j v e'=>?_,
  by simp[AH.put,r.fi],λs c x L y=>?_,r.fA,λs t' T=>?_,r.eF,r.fS,r.sep,λx u=>⟨(r.eJ x u).1,(setRow_other w b x new (by rintro rfl;have:=(r.eJ x u).2.1;rw[I]at this;cases this)).trans (r.eJ x u).2.1,(r.eJ x u).2.2⟩,
  λj x V u=>?_,λj1 j2 t1 x1 x2 e1 N W hj2=>?_⟩
 ·by_cases hb':m=b
  ·subst hb';have V:j<o:=by
    grind
   have:=r.eK m j v e';rw[cell_of_row w m j cur ty (0,0) I]at this;rw[cell_of_row _ m j new ty (0,0) n,A j V];omega
  ·exact(World.cell?_of_block (w:=w) (a:=⟨m,j,none⟩) (setRow_other w b m new hb')).trans (r.eK m j v e')
 ·rcases d s x y with⟨rfl,rfl⟩|⟨_,y⟩
  ·simp_all
  ·obtain⟨Y,h2,h3,h4⟩:=r.g7 s c x L y;exact⟨Y,by simp_all,h3.mono (Gh.le.refl g) (setRow_other w b c new (H s c L)),h4⟩
 ·obtain⟨Y,h2⟩:=r.tok s t' T;refine⟨Y,λm l' R Z=>?_⟩;have p:=h2 m l' R Z;by_cases hb':m=b
  ·subst hb';obtain⟨cs,ty',f,hle⟩:=p.cells;rw[I]at f;injection f with f;injection f with f _ _;subst f;exact⟨p.lo,by grind,⟨new,ty,n,by omega⟩,p.free⟩
  ·exact p.mono (by simp) (setRow_other w b m new hb') λ_ _=>rfl
 ·rcases d j x u with⟨rfl,rfl⟩|⟨J,M⟩
  ·exact⟨t,hi,U,S.trans G.symm,hk,hp,.inr ⟨b,o,e,new,ty,by simp_all,n,by simp_all,by simp_all,k5⟩⟩
  ·have Q:=r.row j x V M;cases x with
   |row i2 k2 N =>
    have Q:eA g w i2 k2 N:=Q;refine Q.mono (Gh.le.refl g) rfl λt2 D x2 l _ X=>⟨setRow_other w b D new ?_,λ_=>rfl⟩
    rintro rfl
    have:=r.fS _ _ _ _ D _ _ l hi X P;subst this;exact J (r.fX _ _ _ _ _ _ _ M F)
   |dead=>trivial
   |_=>exact Q.elim
 ·rcases d j1 _ W with⟨rfl,z⟩|⟨hne1,O⟩<;>rcases d j2 _ hj2 with⟨rfl,C⟩|⟨hne2,K⟩
  ·rfl
  ·injection z with z _ _;subst z;exact r.fX _ _ _ _ _ _ _ F K
  ·injection C with C _ _;subst C;exact r.fX _ _ _ _ _ _ _ O F
  ·exact r.fX _ _ _ _ _ _ _ O K
end
end Go.Vv
namespace Go.Vv
open Go Go.RowKit Go.Lib
variable{t u ty e:TypeId}{du:TypeDesc}{i:TypeInfo}
section
variable{g:Gh}
theorem VC.aq{b:Nat}:∀{o:Nat}{a5:List AV},VC g b o a5->∃vs:List Value,VA g a5 vs/\a5.all AV.pure=true/\∀j u,vs[j]?=some u->g.Φ b (o+j)=some u
 |_,[],_=>⟨[],by rfl,rfl,by simp⟩
 |o,a::r,h=>by
  simp only[VC]at h;obtain⟨⟨v,h0,c,f⟩,k⟩:=h;obtain⟨vs,k1,d,k2⟩:=VC.aq k;refine⟨v::vs,by simp only[VA];exact⟨v,vs,rfl,⟨AV.dK c,f⟩,k1⟩,by simp[c,d],λj u l=>?_⟩
  grind
theorem VC.bv{b:Nat}:∀{o:Nat}{a5:List AV} {vs:List Value},VA g a5 vs->a5.all AV.pure=true->(∀j u,vs[j]?=some u->g.Φ b (o+j)=some u)->VC g b o a5
 |_,[],_,_,_,_=>by simp only[VC]
 |o,a::r,vs,h,hp,k=>by
  simp only[VA]at h;obtain⟨v,s,rfl,⟨h0,d⟩,c⟩:=h;simp only[l7,tx]at hp;simp only[VC];refine⟨⟨v,by simpa using k 0 v rfl,hp.1,d⟩,VC.bv (o:=o+1) c hp.2 λj u f=>?_⟩;rw[show o+1+j=o+(j+1) by omega]
  simp_all
theorem eo{b k:Nat}:∀{o:Nat}{es:List (List AV)},VE g b k o es↔(∀e∈es,e.length=k)/\VC g b o es.flatten
 |o,[]=>by simp[VE,VC]
 |o,e::r=>by
  simp only[VE,eo (es:=r),lO,lx,forall_eq_or_imp];constructor
  ·rintro⟨⟨a,f⟩,d,c⟩
   exact⟨⟨a,d⟩,VC.append f (by simp_all)⟩
  ·rintro⟨⟨a,d⟩,c⟩
   refine⟨⟨a,?_⟩,d,?_⟩
   ·have:=VC.take e.length c;rwa[hY]at this
   ·have:=VC.drop e.length c;rwa[jZ,a]at this
theorem VA.dC:∀{a5:List AV}{vs:List Value},VA g a5 vs->∀u∈vs,u.oneCell'=true
 |[],_,h,u,c=>by simp only[VA]at h;subst h;cases c
 |a::r,_,h,u,c=>by
  simp only[VA]at h;obtain⟨v,s,rfl,⟨h0,b⟩,d⟩:=h;rcases lx.1 c with rfl|c
  ·cases a<;>simp only[V]at b<;>first
    |exact b
    |(subst b;rfl)
    |(obtain⟨rfl,_⟩:=b;rfl)
    |(obtain⟨_,_,rfl⟩:=b;rfl)
    |(obtain⟨_,_,rfl,_⟩:=b;rfl)
    |(obtain⟨_,_,_,rfl,_⟩:=b;rfl)
    |(obtain⟨_,rfl,_⟩:=b;rfl)
    |(obtain⟨_,_,_,rfl,_⟩:=b;rfl)
    |(simp[AV.one]at h0;done)
  ·exact VA.dC d u c
theorem VA.length{a5:List AV}{vs:List Value}(h:VA g a5 vs):a5.length=vs.length:=h.f8.length
theorem xg{k:Nat}:∀{es:List (List AV)},(∀e∈es,e.length=k)->es.flatten.length=es.length*k
 |[],_=>by simp
 |e::r,h=>by
  simp only[lO,oA,nr];rw[xg (es:=r) (λx a=>h x (by simp[a])),h e (by simp),ju];omega
end
section
variable{P:Program}{w:World}
structure dw(P:Program)(size m:Nat)(x:Value)(news:List Value)(w:World):Prop where
 len:(Builtin.lenOf x).run P w=.ok m w
 cells:(Builtin.firstCells size m x).run P w=.ok news.toArray w

theorem dw.slice{size m c:Nat}{b:Addr}{a:List Value}(d:a.length=m*size)(h:∀j v,a[j]?=some v->w.cell? (b.add j)=some v):dw P size m (.slice (some b) m c) a w :=
 ⟨rfl,run_firstCells_some w size m b m c a d h⟩
theorem dw.str{size:Nat}{s:ByteArray}:dw P size s.size (.string s) (strCells s) w:=⟨rfl,run_firstCells_string w size s⟩

def zhX(d:TypeDesc):Prop:=d=.string \/ ∃e,d=.slice e

theorem rx(r:P.underlying t=some (.slice e))(v:P.underlying u=some du)(k:zhX du)(hi:P.info? e=some i)
  {b o n m c:Nat} {x:Value} {a:List Value} (q:dw P i.size m x a w) (s:∀u∈a,u.oneCell'=true) {cur:Array Value} {l:TypeId} (y:w.heap[b]?=some (.cells cur l (0,0)))
  (d:n+m<=c) (p:o+n*i.size+a.length<=cur.size) :
  (Builtin.append_ #[t,u] ty #[.slice (some ⟨b,o,none⟩) n c,x]).run P w =
   .ok (.slice (some ⟨b,o,none⟩) (n+m) c) (w.setRow b (cur.toList.take (o+n*i.size)++a++cur.toList.drop (o+n*i.size+a.length)).toArray):=by
 have f:=run_storeCells_at P b (o+n*i.size) l a 0 cur w y (by omega) s;simp only[ja]at f;have j:(⟨b,o,none⟩:Addr).add (n*i.size)=⟨b,o+n*i.size,none⟩:=by unfold Addr.add;split<;>simp_all
 rcases k with rfl|⟨_,rfl⟩<;>simp[Builtin.append_,run_underlying r,run_underlying v,sizeOf,typeInfo,hi,q.len,d,q.cells,j,f]

theorem pP{z:Value}(q:P.underlying t=some (.slice e))(y:P.underlying u=some du)(l:zhX du)(hi:P.info? e=some i)(s:i.zero=some z)
  {n m c:Nat} {a:Option Addr} {x:Value} {d b:List Value} (C:dw P i.size m x b w) (k:dw P i.size m x b w.drew) (v:(Builtin.firstCells i.size n (.slice a n c)).run P w.drew=.ok d.toArray w.drew)
  (f:c<n+m) (j:n+m<=maxLen) (o:Builtin.nextslicecap (n+m) c*i.bytes<=281474976710656) :
  (Builtin.append_ #[t,u] ty #[.slice a n c,x]).run P w =
   .ok (.slice (some ⟨w.heap.size,0,none⟩) (n+m) (grownCap w (n+m) c e))
    (w.drew.alloc (.cells (d.toArray++b.toArray++Builtin.zeroCells z.cells (grownCap w (n+m) c e-(n+m))) e)):=by
 have r:¬(n+m<=c):=by omega
 have p:¬(9223372036854775807<((n:Int)+(m:Int))):=by simp only[maxLen]at j;omega
 have A:¬(281474976710656<Builtin.nextslicecap (n+m) c*i.bytes):=by omega
 rcases l with rfl|⟨_,rfl⟩<;>simp[Builtin.append_,run_underlying q,run_underlying y,sizeOf,typeInfo,zeroValue,hi,s,C.len,r,p,A,v,k.cells,newRow,grownCap,Question.forced]<;>(congr 2;apply gE;simp[lf])
end
section
variable{P:Program}{w:World}{g:Gh}{h:AH}{B:Nat}{w0:World}

theorem zlp(r:Rel B w0 g h w){t u ty e:TypeId}{du:TypeDesc}{i:TypeInfo}{z:Value}(ht:P.underlying t=some (.slice e))(hu:P.underlying u=some du)(hdu:zhX du)(hi:P.info? e=some i)(hz:i.zero=some z)
  (hzs:z.cells.size=i.size) (hby:i.bytes<=65536) {id q n:Nat} {es:List (List AV)} {sv x:Value} (hs:V g (.fo id q i.size n) sv) {ys:List (List AV)} {news:List Value} (hl:∀e∈ys,e.length=i.size) (hva:VA g ys.flatten news) (hpu:ys.flatten.all AV.pure=true)
  (hn:∀W:World,(∀a v,w.cell? a=some v->W.cell? a=some v)->dw P i.size ys.length x news W) (hb:h.g7 id=some (.row q i.size es)) (hesn:es.length=n) (htok:h.zs[q]?=some n) (hlim:n+ys.length<=lim) (hy:ys.length≠0) :
  ∃v w' g',(Builtin.append_ #[t,u] ty #[sv,x]).run P w=.ok v w'/\g.le g'/\Rel B w0 g' { h.put id (.row q i.size (es++ys))with zs:=h.zs.set q (n+ys.length) } w'/\V g' (.fo id q i.size (n+ys.length)) v:=by
 have hn0:=hn w λ_ _ h=>h;subst hesn;unfold lim at hlim;obtain⟨hσ,ti,hti,htr,htn,hlen,hpe,hrow⟩:=r.rowAt hb;simp only[V]at hs;obtain⟨a,c,rfl,hc1,hc2,t2,ht2,hrd,hle,hcap⟩:=hs;obtain rfl:ti=t2:=by simp_all
 have hcap:(es.length=0/\c=0) \/ ∃b o,a=some ⟨b,o,none⟩/\ti.loc=some (b,o+es.length*i.size,o+c*i.size):=hcap.imp (λh=>h) λ⟨b,o,h1,h2⟩=>⟨b,o,h1,h2 htn.symm⟩
 have hnl:news.length=ys.length*i.size:=by rw[<- hva.length,xg hl]
 have hfl:es.flatten.length=es.length*i.size:=xg hlen
 -- the row's cells
 obtain⟨olds,hov,hold⟩:∃olds:List Value,VA g es.flatten olds/\(Builtin.firstCells i.size es.length (.slice a es.length c)).run P w.drew=.ok olds.toArray w.drew:=by
  rcases hrow with rfl|⟨b,o,e2,cs,cA,k1,k2,k3,k4,k5⟩
  ·refine⟨[],by rfl,?_⟩;cases a with
   |none=>simp[Builtin.firstCells]
   |some ad=>simp[Builtin.firstCells,loadCells,loadCellsFrom]
  ·rcases hcap with⟨h0,_⟩|⟨b',o',rfl,hl'⟩
   ·have:es=[]:=lA h0;subst this;refine⟨[],by rfl,?_⟩;cases a with
    |none=>simp[Builtin.firstCells]
    |some ad=>simp[Builtin.firstCells,loadCells,loadCellsFrom]
   ·rw[k1]at hl';injection hl' with hl';injection hl' with e1 e2';injection e2' with e2' e3;obtain rfl:o=o':=by omega
    subst e1;refine⟨_,k3,run_firstCells_some w.drew i.size es.length ⟨b,o,none⟩ es.length c _ (by grind) λj v hv=>?_⟩;rw[World.cell?_drew];have hadd:(⟨b,o,none⟩:Addr).add j=⟨b,o+j,none⟩:=by unfold Addr.add;split<;>simp_all
    rw[hadd,cell_of_row w b (o+j) cs cA (0,0) k2]
    grind
 have hol:olds.length=es.length*i.size:=by rw[<- hov.length,hfl]
 by_cases hroom:es.length+ys.length<=c
 ·-- in place
  rcases hcap with⟨h0,h1⟩|⟨b,o,rfl,hlb⟩
  ·omega
  ·obtain⟨_,hloc⟩:=r.tok _ _ hti;have lo:=hloc b _ _ hlb;obtain⟨cur,ty',hcur,hce⟩:=lo.cells;have hmul:es.length*i.size+news.length<=c*i.size:=by rw[hnl,<- ka];exact lY _ hroom
   have hrun:=rx (ty:=ty) ht hu hdu hi hn0 hva.dC hcur hroom (o:=o) (by omega);have hold2:VA g es.flatten ((cur.toList.drop o).take (es.length*i.size))/\∀j,o<=j->g.Φ b j=none:=by
    rcases hrow with rfl|⟨b2,o2,e2,cs,cA,k1,k2,k3,k4,k5⟩
    ·exact⟨by simp[VA],λj hj=>lo.free j (by simp_all)⟩
    ·simp_all
   generalize hnew:(cur.toList.take (o+es.length*i.size)++news++cur.toList.drop (o+es.length*i.size+news.length)).toArray=new at hrun;have hfit:o+es.length*i.size+news.length<=cur.size:=by omega
   have hnsz:new.size=cur.size:=by grind
   have hlow:∀j,j<o+es.length*i.size->new[j]?=cur[j]?:=λj hj=>by
    grind
   have r1:=r.dX hti hlb hcur hnsz hlow;have hheap:=setRow_heap w b cur new ty' (0,0) hcur;have hcont:(new.toList.drop o).take ((es.length+ys.length)*i.size)=(cur.toList.drop o).take (es.length*i.size)++news:=by
    rw[<- hnew];simp only[lf];rw[jv (by simp;omega),hZ,m3,ka,<- hnl];rw[kx,lh (by simp;omega)];congr 1;rw[lU (by simp;omega),lh (by simp;omega)]
   let T:TI:=⟨es.length+ys.length,some (b,o+(es.length+ys.length)*i.size,o+c*i.size),true⟩
   have hle2:g.le (g.fy q T):=Gh.fU (t':=T) hti (by grind) htr.symm;have hT:(g.fy q T).τ[q]?=some T:=li (tu.1 hti).1;have r2:=r1.setRow (t':=T) (q:=id) hti (by grind) htr rfl hσ hb (es':=es++ys)
    ⟨T,hT,rfl,by simp[T],λe he=>(ma.1 he).elim (hlen e) (hl e),by grind,
     .inr ⟨b,o,o+c*i.size,new,ty',by simp[T],hheap,by rw[oA,hcont,jl];exact(hold2.1.append hva).mono hle2,by rw[oA,ka];omega,hold2.2⟩⟩
    (λb' l e hl'=>by
     injection hl' with hl';injection hl' with e1 e2;injection e2 with e2 e3;subst e1 e2 e3;exact⟨lo.lo,by grind,⟨new,ty',hheap,by omega⟩,λj hj=>lo.free j (by grind)⟩)
    (λb' x hx=>by grind)
   refine⟨_,_,_,hrun,hle2,r2,?_⟩;simp only[V];exact⟨some ⟨b,o,none⟩,c,rfl,hroom,hc2,T,hT,rfl,ob _,.inr ⟨b,o,rfl,λ_=>rfl⟩⟩
 ·-- a new row
  have hroom':c<es.length+ys.length:=by omega
  have hrun:=pP (ty:=ty) ht hu hdu hi hz hn0 (hn w.drew λ_ _ h=>h) hold hroom' (by simp only[maxLen];omega)
   (growslice_fits hroom' (by have:=j0 hlim hby;omega))
  have hge:=grownCap_ge w (es.length+ys.length) c e;have hcm:grownCap w (es.length+ys.length) c e<=maxLen:=grownCap_le_maxLen w _ c e (by simp only[maxLen];omega);generalize hC:grownCap w (es.length+ys.length) c e=C at hrun hge hcm;generalize hrow':olds.toArray++news.toArray++Builtin.zeroCells z.cells (C-(es.length+ys.length))=row at hrun;have hrsz:row.size=C*i.size:=by
   rw[<- hrow'];simp only[iL,iM,size_zeroCells,hzs,hol,hnl,<- ka]
   simp_all
  have hcont:(row.toList.drop 0).take ((es.length+ys.length)*i.size)=olds++news:=by
   rw[<- hrow',kZ,kU,kU];rw[lU (by grind)];rw[lh (by grind)]
  have hΦn:∀j,g.Φ w.heap.size j=none:=λj=>by
   rcases he:g.Φ w.heap.size j with _|v
   ·rfl
   ·exact absurd (r.em he) (ji _)
  have r1:=(r.drew).eS (.cells row e);have hheap:(w.drew.alloc (.cells row e)).heap[w.heap.size]?=some (.cells row e (0,0)):=heap_alloc_new w.drew _;have hloc:ed g.Φ B (w.drew.alloc (.cells row e)) w.heap.size ((es.length+ys.length)*i.size) (C*i.size) :=
   ⟨r.dA,by simp,⟨row,e,hheap,by omega⟩,λj _=>hΦn j⟩
  have hsig:∀(j cc:Nat),g.σ[j]?=some (some cc)->w.heap.size≠cc:=λj cc hj e=>by
   have hi':j<h.zh.length:=by rw[<- r.fi];exact(tu.1 hj).1
   have:=(r.g7 j cc _ hj (rk hi')).2.1;omega
  have htau:∀(j:Nat)(tt:TI) (y:Nat×Nat),g.τ[j]?=some tt->tt.loc≠some (w.heap.size,y):=λj tt y hj e=>by
   have:=((r.tok j tt hj).2 _ _ _ e).lt;omega
  let T:TI:=⟨es.length+ys.length,some (w.heap.size,(es.length+ys.length)*i.size,C*i.size),true⟩
  have hle2:g.le (g.fy q T):=Gh.fU (t':=T) hti (by grind) htr.symm;have hT:(g.fy q T).τ[q]?=some T:=li (tu.1 hti).1;have r2:=r1.setRow (t':=T) (q:=id) hti (by grind) htr rfl hσ hb (es':=es++ys)
   ⟨T,hT,rfl,by simp[T],λe he=>(ma.1 he).elim (hlen e) (hl e),by grind,
    .inr ⟨w.heap.size,0,C*i.size,row,e,by simp[T],hheap,by rw[oA,hcont,jl];exact(hov.append hva).mono hle2,by rw[oA,hrsz];simpa using lY i.size hge,λj _=>hΦn j⟩⟩
   (λb' l e' hl'=>by grind)
   (λb' x hx=>by injection hx with hx;injection hx with e1 _;subst e1;exact .inr ⟨htau,hsig⟩)
  refine⟨_,_,_,hrun,hle2,r2,?_⟩;simp only[V];exact⟨some ⟨w.heap.size,0,none⟩,C,rfl,hge,hcm,T,hT,rfl,ob _,.inr ⟨w.heap.size,0,rfl,λ_=>by simp[T]⟩⟩

theorem zhP(r:Rel B w0 g h w){t u ty e:TypeId}{du:TypeDesc}{i:TypeInfo}{z:Value}(ht:P.underlying t=some (.slice e))(hu:P.underlying u=some du)(U:zhX du)(hi:P.info? e=some i)(hz:i.zero=some z)
  (hzs:z.cells.size=i.size) (hby:i.bytes<=65536) {s s':AV} {sv x:Value} (hs:V g s sv) {G:List (List AV)} {k:List Value} (hl:∀e∈G,e.length=i.size) (hva:VA g G.flatten k) (hpu:G.flatten.all AV.pure=true)
  (hn:∀W:World,(∀a v,w.cell? a=some v->W.cell? a=some v)->dw P i.size G.length x k W) {h':AH} (H:pq h i.size s G=some (s',h')) :
  ∃v w' g',(Builtin.append_ #[t,u] ty #[sv,x]).run P w=.ok v w'/\g.le g'/\Rel B w0 g' h' w'/\V g' s' v:=by
 have hn0:=hn w λ_ _ h=>h;unfold pq at H;split at H
 ·rename_i q k' es;simp only[V]at hs;obtain⟨a,c,rfl,hc1,hc2,hes,hq⟩:=hs;have hnl:k.length=G.length*i.size:=by rw[<- hva.length,xg hl]
  split at H
  ·-- nothing to append
   rename_i R;have hne:k=[]:=lA (by rw[hnl,R];simp);subst hne;have I:=hn0.len;have J:=hn0.cells;rw[R]at I J;have A:(Builtin.append_ #[t,u] ty #[.slice a es.length c,x]).run P w=.ok (.slice a es.length c) w:=by
    cases a with
    |none=>rcases U with rfl|⟨_,rfl⟩<;>simp[Builtin.append_,run_underlying ht,run_underlying hu,sizeOf,typeInfo,hi,I,J]<;>omega
    |some ad=>rcases U with rfl|⟨_,rfl⟩<;>simp[Builtin.append_,run_underlying ht,run_underlying hu,sizeOf,typeInfo,hi,I,J,storeCells]<;>omega
   cases q with
   |none =>
    injection H with H;injection H with D p;subst D p;simp only at hq;refine⟨.slice a es.length c,w,g.fI ⟨es.length,none,false⟩,A,g.fu _,r.dG ⟨es.length,none,false⟩ (λ_ _ _ h=>by cases h) (λ_ _ h=>by cases h),?_⟩;simp only[V];refine⟨a,c,rfl,hc1,hc2,hes.imp id λ⟨b,o,e,hh⟩=>⟨b,o,e,hh.mono (g.fu _) _ _ _ _⟩,⟨es.length,none,false⟩,?_,rfl,ob _,λ_=>.inl hq⟩;simp only[Gh.fI];rw[<- r.fA,pa (ob _)];simp
   |some id =>
    injection H with H;injection H with D p;subst D p;exact⟨.slice a es.length c,w,g,A,Gh.le.refl g,r,by simp only[V];exact⟨a,c,rfl,hc1,hc2,hes,hq⟩⟩
  ·rename_i R;split at H
   ·rename_i hk;obtain⟨rfl,hlim⟩:=hk;unfold lim at hlim;split at H
    ·rename_i id h2 d;injection H with H;injection H with D p;subst D p
     -- the two ways
     by_cases hroom:es.length+G.length<=c
     ·-- in place: there is a token
      unfold AH.grow at d;split at d
      ·simp only at hq;omega
      ·rename_i id';split at d
       ·rename_i Q;injection d with d;injection d with D p;subst D p;simp only at hq;obtain⟨ti,F,hrf,hle,hcap⟩:=hq;obtain⟨htn,Y⟩:=r.tok _ _ F;have hnn:es.length=ti.n:=by rw[Q]at htn;injection htn
        rcases hcap hnn with hcc|⟨b,o,rfl,hlb⟩
        ·omega
        ·have lo:=Y b _ _ hlb;obtain⟨cur,ty',hcur,hce⟩:=lo.cells;have hmul:es.length*i.size+k.length<=c*i.size:=by rw[hnl,<- ka];exact lY _ hroom
         have A:=rx (ty:=ty) ht hu U hi hn0 hva.dC hcur hroom (o:=o) (by omega);have S:VE g b i.size o es:=by
          rcases hes with rfl|⟨b',o',D,hh⟩
          ·simp only[VE]
          ·injection D with D;injection D with D p;subst D p;exact hh
         generalize hnew:(cur.toList.take (o+es.length*i.size)++k++cur.toList.drop (o+es.length*i.size+k.length)).toArray=new at A;have hfit:o+es.length*i.size+k.length<=cur.size:=by omega
         have hnsz:new.size=cur.size:=by rw[<- hnew];simp;omega
         have hlow:∀j,j<o+es.length*i.size->new[j]?=cur[j]?:=λj m=>by
          rw[<- hnew,jH,lf,ol (by simp;omega),ml,nK m,lr]
         have hmid:∀j v,k[j]?=some v->new[o+es.length*i.size+j]?=some v:=λj v L=>by
          have m:j<k.length:=(tu.1 L).1;rw[<- hnew,jH,lf,pa (by simp;omega),ol (by simp;omega)];rw[<- L];congr 1;simp;omega
         have r1:=r.dX F hlb hcur hnsz hlow;have K:=setRow_heap w b cur new ty' (0,0) hcur
         -- the token
         have r2:=r1.ax (t':=⟨es.length+G.length,some (b,o+(es.length+G.length)*i.size,o+c*i.size),false⟩) F (by show ti.n<es.length+G.length;omega) hrf rfl
          (λb' l e E=>by
           injection E with E;injection E with D p;injection p with p e3;subst D p e3;exact⟨lo.lo,by simpa using lo.lt,⟨new,ty',K,by omega⟩,λj m=>lo.free j (by rw[ka]at m;omega)⟩)
          (λb' x hx=>by injection hx with hx;injection hx with D _;subst D;exact .inl ⟨_,hlb⟩)
         -- the promise
         have r3:=r2.cW (b:=b) (f:=λj=>if o+es.length*i.size<=j/\j<o+(es.length+G.length)*i.size then new[j]? else none)
          (λj v L=>by
           split at L
           ·rw[cell_of_row _ b j new ty' (0,0) K];exact L
           ·cases L)
          (λj cc hcj _=>(r.sep j cc _ ti b _ hcj F hlb).symm)
          (λj tt l e m O=>by
           by_cases hjid:j=id'
           ·subst hjid;simp only[Gh.fy]at m;rw[li (tu.1 F).1]at m;injection m with m;subst m;injection O with O;injection O with D p;injection p with p e3;subst p e3;exact⟨rfl,λjj hjj=>by grind⟩
           ·simp only[Gh.fy]at m;rw[lR (λe=>hjid e.symm)]at m;exact absurd (r.fS _ _ _ _ b _ _ m F O hlb) hjid)
         have hle2:=Gh.fU (t':=⟨es.length+G.length,some (b,o+(es.length+G.length)*i.size,o+c*i.size),false⟩) F (by show ti.n<es.length+G.length;omega) hrf.symm;have N:=hle2.trans (Gh.dF (g.fy id' ⟨es.length+G.length,some (b,o+(es.length+G.length)*i.size,o+c*i.size),false⟩) b
          (λj=>if o+es.length*i.size<=j/\j<o+(es.length+G.length)*i.size then new[j]? else none))
         refine⟨_,_,_,A,N,r3,?_⟩;simp only[V];refine⟨some ⟨b,o,none⟩,c,by simp,by simpa using hroom,hc2,.inr ⟨b,o,rfl,?_⟩,_,li (tu.1 F).1,rfl,by simp,λ_=>.inr ⟨b,o,rfl,by simp⟩⟩;refine VE.append (S.mono N _ _ _ _) (eo.2 ⟨hl,VC.bv (hva.mono N _ _) hpu λj v L=>?_⟩);have m:j<k.length:=(tu.1 L).1;simp only[Gh.cW,Gh.fy,oS];rw[lo.free _ (by omega),nK ⟨by omega,by rw[ka];omega⟩];exact hmid j v L
       ·cases d
     ·-- a new row
      have X:c<es.length+G.length:=by omega
      have hfl:es.flatten.length=es.length*i.size:=by
       rcases hes with rfl|⟨b,o,_,S⟩
       ·simp
       ·exact xg (eo.1 S).1
      obtain⟨M,⟨hov,hopu⟩,hold⟩:∃M:List Value,(VA g es.flatten M/\es.flatten.all AV.pure=true)/\(Builtin.firstCells i.size es.length (.slice a es.length c)).run P w.drew=.ok M.toArray w.drew:=by
       rcases hes with rfl|⟨b,o,rfl,S⟩
       ·refine⟨[],⟨by simp only[iT,VA],rfl⟩,?_⟩;cases a with
        |none=>simp[Builtin.firstCells]
        |some ad=>simp[Builtin.firstCells,loadCells,loadCellsFrom]
       ·obtain⟨us,hus,hup,hΦ⟩:=VC.aq (eo.1 S).2;refine⟨us,⟨hus,hup⟩,run_firstCells_some w.drew i.size es.length ⟨b,o,none⟩ es.length c us (by rw[<- hus.length,hfl]) λj v L=>?_⟩;rw[World.cell?_drew];have hadd:(⟨b,o,none⟩:Addr).add j=⟨b,o+j,none⟩:=by unfold Addr.add;split<;>simp_all
        rw[hadd];exact r.eK _ _ _ (hΦ j v L)
      have hol:M.length=es.length*i.size:=by rw[<- hov.length,hfl]
      have A:=pP (ty:=ty) ht hu U hi hz hn0 (hn w.drew λ_ _ h=>h) hold X (by simp only[maxLen];omega)
       (growslice_fits X (by have:=j0 hlim hby;omega))
      have hge:=grownCap_ge w (es.length+G.length) c e;have hcm:grownCap w (es.length+G.length) c e<=maxLen:=grownCap_le_maxLen w _ c e (by simp only[maxLen];omega);generalize hC:grownCap w (es.length+G.length) c e=C at A hge hcm;generalize hrow:M.toArray++k.toArray++Builtin.zeroCells z.cells (C-(es.length+G.length))=row at A;have hrsz:row.size=C*i.size:=by
       rw[<- hrow];simp only[iL,iM,size_zeroCells,hzs,hol,hnl,<- ka];congr 1;omega
      have hrl:∀j v,(M++k)[j]?=some v->row[j]?=some v:=λj v L=>by
       rw[<- hrow,<- lr];simp only[kU];rw[ol (by simpa using (tu.1 L).1)];exact L
      have hbl:∀j v,g.Φ w.heap.size j=some v->False:=λj v L=>absurd (r.em L) (ji _);have hΦn:∀j,g.Φ w.heap.size j=none:=λj=>by
       rcases he:g.Φ w.heap.size j with _|v
       ·rfl
       ·exact(hbl j v he).elim
      have r1:=(r.drew).eS (.cells row e);have K:(w.drew.alloc (.cells row e)).heap[w.heap.size]?=some (.cells row e (0,0)):=heap_alloc_new w.drew _;have Y:ed g.Φ B (w.drew.alloc (.cells row e)) w.heap.size ((es.length+G.length)*i.size) (C*i.size) :=
       ⟨r.dA,by simp,⟨row,e,K,by omega⟩,λj _=>hΦn j⟩
      have hsig:∀(j cc:Nat),g.σ[j]?=some (some cc)->w.heap.size≠cc:=λj cc m e=>by
       have hi':j<h.zh.length:=by rw[<- r.fi];exact(tu.1 m).1
       have:=(r.g7 j cc _ m (rk hi')).2.1;omega
      have Z:∀(j:Nat)(tt:TI) (y:Nat×Nat),g.τ[j]?=some tt->tt.loc≠some (w.heap.size,y):=λj tt y m e=>by
       have:=((r.tok j tt m).2 _ _ _ e).lt;omega
      let T:TI:=⟨es.length+G.length,some (w.heap.size,(es.length+G.length)*i.size,C*i.size),false⟩
      have Q:∃g2,g.le g2/\Rel B w0 g2 h2 (w.drew.alloc (.cells row e))/\g2.τ[id]?=some T/\g2.Φ=g.Φ/\(∀(j:Nat)(tt:TI) (l e':Nat),g2.τ[j]?=some tt->tt.loc=some (w.heap.size,l,e')->tt=T)/\g2.σ=g.σ:=by
       unfold AH.grow at d;split at d
       ·injection d with d;injection d with D p;subst D p;refine⟨g.fI T,g.fu T,r1.dG T (λb l e' E=>?_) (λb x hx=>?_),?_,rfl,λj tt l e' m E=>?_,rfl⟩
        ·injection E with E;injection E with D p;injection p with p e3;subst D p e3;exact Y
        ·injection hx with hx;injection hx with D _;subst D;exact⟨Z,hsig⟩
        ·simp only[Gh.fI];rw[<- r.fA,pa (ob _)];simp
        ·simp only[Gh.fI]at m;rcases kR j g.τ.length with hjl|hjl
         ·rw[ol hjl]at m;exact absurd E (Z _ _ _ m)
         ·rw[pa hjl]at m;have:=lc m;simpa using this
       ·rename_i id';split at d
        ·rename_i Q;injection d with d;injection d with D p;subst D p;simp only at hq;obtain⟨ti,F,hrf,hle,_⟩:=hq;have hti':=F;obtain⟨htn,_⟩:=r.tok _ _ F;have hnn:es.length=ti.n:=by rw[Q]at htn;injection htn
         refine⟨g.fy id' T,Gh.fU (t':=T) F (by show ti.n<es.length+G.length;omega) hrf.symm,r1.ax F (by show ti.n<es.length+G.length;omega) hrf rfl (λb l e' E=>?_) (λb x hx=>?_),?_,rfl,λj tt l e' m E=>?_,rfl⟩
         ·injection E with E;injection E with D p;injection p with p e3;subst D p e3;exact Y
         ·injection hx with hx;injection hx with D _;subst D;exact .inr ⟨Z,hsig⟩
         ·exact li (tu.1 F).1
         ·simp only[Gh.fy]at m;by_cases hjid:j=id'
          ·subst hjid;rw[li (tu.1 F).1]at m;injection m with m;exact m.symm
          ·rw[lR (λe=>hjid e.symm)]at m;exact absurd E (Z _ _ _ m)
        ·cases d
      obtain⟨g2,hg2,r2,hT,hΦ2,hT2,hσ2⟩:=Q;have r3:=r2.cW (b:=w.heap.size) (f:=λj=>if j<(es.length+G.length)*i.size then row[j]? else none)
       (λj v L=>by
        split at L
        ·rw[cell_of_row _ _ j row e (0,0) K];exact L
        ·cases L)
       (λj cc hcj _ e=>hsig j cc (by rw[<- hσ2];exact hcj) e.symm)
       (λj tt l e' m O=>by
        have:=hT2 j tt l e' m O;subst this;injection O with O;injection O with _ p;injection p with p _;subst p;exact⟨rfl,λjj hjj=>by grind⟩)
      have N:=hg2.trans (g2.dF w.heap.size λj=>if j<(es.length+G.length)*i.size then row[j]? else none);refine⟨_,_,_,A,N,r3,?_⟩;simp only[V];refine⟨some ⟨w.heap.size,0,none⟩,C,by simp,by simpa using hge,hcm,.inr ⟨w.heap.size,0,rfl,?_⟩,T,hT,rfl,by simp[T],λ_=>.inr ⟨w.heap.size,0,rfl,by simp[T]⟩⟩;refine eo.2 ⟨?_,?_⟩
      ·intro e he;rcases ma.1 he with he|he
       ·rcases hes with rfl|⟨b,o,_,S⟩
        ·cases he
        ·exact(eo.1 S).1 e he
       ·exact hl e he
      ·rw[jl];refine VC.bv (VA.mono N _ _ (hov.append hva)) (by rw[jM,hopu,hpu];rfl) λj v L=>?_;have m:j<(M++k).length:=(tu.1 L).1;simp only[Gh.cW,oS,hΦ2,hΦn,l8];rw[nK (by rw[ka];simp at m;omega)];exact hrl j v L
    ·cases H
   ·cases H
 ·rename_i id q k' n;split at H
  ·rename_i R;injection H with H;injection H with D p;subst D p;have hs':=hs;simp only[V]at hs;obtain⟨a,c,rfl,hc1,hc2,hq⟩:=hs;have hnl:k.length=G.length*i.size:=by rw[<- hva.length,xg hl]
   have hne:k=[]:=lA (by rw[hnl,R];simp);subst hne;have I:=hn0.len;have J:=hn0.cells;rw[R]at I J;have A:(Builtin.append_ #[t,u] ty #[.slice a n c,x]).run P w=.ok (.slice a n c) w:=by
    cases a with
    |none=>rcases U with rfl|⟨_,rfl⟩<;>simp[Builtin.append_,run_underlying ht,run_underlying hu,sizeOf,typeInfo,hi,I,J]<;>omega
    |some ad=>rcases U with rfl|⟨_,rfl⟩<;>simp[Builtin.append_,run_underlying ht,run_underlying hu,sizeOf,typeInfo,hi,I,J,storeCells]<;>omega
   exact⟨_,w,g,A,Gh.le.refl g,r,hs'⟩
  ·rename_i R;split at H
   ·rename_i t' k'' es hb;split at H
    ·rename_i hc;obtain⟨⟨rfl,rfl,rfl⟩,h1,h2,h3⟩:=hc;injection H with H;injection H with D p;subst D p;exact zlp r ht hu U hi hz hzs hby hs hl hva hpu hn hb h1 h2 h3 R
    ·cases H
   ·cases H
 ·cases H
end
end Go.Vv
namespace Go.Vv
open Go Go.RowKit
variable{t u e:TypeId}{i:TypeInfo}{d:TypeDesc}{v:Value}{off:Nat}

theorem vm(b o i:Nat):(⟨b,o,none⟩:Addr).add i=⟨b,o+i,none⟩:=by unfold Addr.add;split<;>simp_all

section
variable{P:Program}{w:World}{g:Gh}{h:AH}{B:Nat}{w0:World}

theorem yn{t:TypeId}{d:TypeDesc}(h:P.underlying t=some d):(underlying t).run P w=.ok d w:=run_underlying h w
theorem zpU(h:P.info? t=some i):(typeInfo t).run P w=.ok i w:=by simp[typeInfo,h]
theorem wF(h:P.info? t=some i):(sizeOf t).run P w=.ok i.size w:=by simp[sizeOf,zpU h]
theorem ry(h:P.underlying t=some d):(isAgg t).run P w=.ok (yd d) w:=by
 simp only[isAgg,Sem.run_bind,yn h,Result.andThen_ok];cases d<;>rfl
theorem zoj{z:Value}(h:P.info? t=some i)(a:i.zero=some z):(zeroValue t).run P w=.ok z w:=by
 simp[zeroValue,zpU h,a]

theorem zhf(b o:Nat)(us:List Value)(h:∀j u,us[j]?=some u->w.cell? ⟨b,o+j,none⟩=some u):(loadCells ⟨b,o,none⟩ us.length).run P w=.ok us.toArray w :=
 run_loadCells_list w ⟨b,o,none⟩ us λj u a=>by rw[vm];exact h j u a

theorem V.f5:V g wb undef:=by simp only[wb,V];exact⟨#[],rfl,by simp[VL]⟩

theorem V.b6{v:Value}(h:zoM v=true):V g (b6 v) v:=by
 unfold zoM at h;split at h<;>simp only[Vv.b6,V]<;>first|trivial|skip
 ·simp_all
theorem zr2(h:zoM v=true):(Vv.b6 v).one=true:=by
 unfold zoM at h;split at h<;>first|rfl|cases h
theorem VA.cvs:∀{vs:List Value},vs.all zoM=true->VA g (vs.map Vv.b6) vs
 |[],_=>by rfl
 |v::r,h=>by
  simp only[l7,tx]at h;simp only[m4,VA];exact⟨v,r,rfl,⟨zr2 h.1,V.b6 h.1⟩,VA.cvs h.2⟩
theorem V.cv{v:Value}(h:okc v=true):V g (cv v) v:=by
 unfold okc at h;split at h
 ·rename_i cs;simp only[Vv.cv,V];exact⟨cs,rfl,VA.cvs h⟩
 ·rename_i vs;have:vs=#[]:=by simpa using h
  subst this;exact V.f5
 ·rename_i a b;cases v<;>first|exact V.b6 h|exact absurd rfl (a _)|exact absurd rfl (b _)

theorem V.zzB{a:AV}(h0:a.one=true)(b:V g a v):v.cells.toList=[v]:=by
 cases a<;>simp only[V]at b<;>first
  |(subst b;rfl)
  |(obtain⟨rfl,_⟩:=b;rfl)
  |(obtain⟨_,_,rfl⟩:=b;rfl)
  |(obtain⟨_,_,rfl,_⟩:=b;rfl)
  |(obtain⟨_,_,_,rfl,_⟩:=b;rfl)
  |(obtain⟨_,rfl,_⟩:=b;rfl)
  |(simp[AV.one]at h0;done)
  |(cases v<;>first|rfl|cases b)
theorem cells?_cases {a:AV} {cs:List AV} (b:a.cells?=some cs):(a=.agg cs) \/ (a.one=true/\cs=[a]):=by
 cases a<;>simp only[AV.cells?,p5,reduceCtorEq]at b<;>first
  |(subst b;exact .inl rfl)
  |(subst b;exact .inr ⟨rfl,rfl⟩)
theorem V.cells{a:AV}{v:Value}{cs:List AV}(h:V g a v)(c:a.cells?=some cs):VA g cs v.cells.toList:=by
 rcases cells?_cases c with rfl|⟨h0,rfl⟩
 ·simp only[V]at h;obtain⟨vs,rfl,b⟩:=h;exact b
 ·rw[V.zzB h0 h];simp only[VA]
  simp_all

theorem V.w5{t:TypeId}{a:AV}{v:Value}(h:V g a v):V g (w5 P t a) v:=by
 unfold Vv.w5;split
 ·split
  ·simp only[V]at h ⊢
   simp_all
  ·exact h
 ·exact h

theorem V.ev{env:List AV}{a:Act}(b:VL g env a.tmps.toList){x:Operand}(c:yo x=true):V g (ev env x) (a.eval x):=by
 cases x with
 |tmp t =>
  simp only[Vv.ev,Act.eval];rcases ht:env[t]? with _|k
  ·have l:env.length<=t:=by simpa using ht
   have j:a.tmps.getD t undef=undef:=by
    have:=b.length
    simp_all
   rw[j,lu,ht];exact V.f5
  ·obtain⟨v,m,o⟩:=b.get t k ht
   simp_all
 |const v=>exact V.cv c
 |global n=>simp only[Vv.ev,Act.eval,V]
 |func f=>simp only[Vv.ev,Act.eval,V,VL];exact⟨#[],#[],rfl,rfl,rfl⟩

theorem tV:∀{a5 bs:List AV}{vs:List Value},VA g a5 vs->xO a5=some bs->VA g bs vs
 |[],bs,vs,h,hc=>by simp only[xO,p5]at hc;subst hc;exact h
 |a::r,bs,vs,h,hc=>by
  simp only[xO]at hc;split at hc
  ·rename_i a' k b f;cases hc;simp only[VA]at h ⊢;obtain⟨v,s,rfl,⟨h0,j⟩,c⟩:=h;refine⟨v,s,rfl,?_,tV c f⟩;unfold znX at b;split at b
   ·cases b;refine⟨rfl,?_⟩;simp only[V]at j ⊢
    grind
   ·cases b
   ·simp_all
  ·cases hc
theorem rt:∀{a5 bs:List AV},xO a5=some bs->bs.all AV.pure=true
 |[],bs,h=>by simp only[xO,p5]at h;subst h;rfl
 |a::r,bs,h=>by
  simp only[xO]at h;split at h
  ·rename_i a' j b c;cases h;have f:a'.pure=true:=by
    unfold znX at b;split at b
    ·cases b;rfl
    ·cases b
    ·grind
   simp[f,rt c]
  ·cases h
theorem np{k:Nat}:∀(n:Nat)(cs:List AV),cs.length=n*k->(rows k n cs).flatten=cs/\(rows k n cs).length=n/\∀e∈rows k n cs,e.length=k
 |0,cs,h=>by simp at h;subst h;simp[rows]
 |n+1,cs,h=>by
  rw[ju]at h;obtain⟨c,b,f⟩:=np (k:=k) n (cs.drop k) (by simp;omega);refine⟨by simp[rows,c],by simp[rows,b],λe a=>?_⟩;simp only[rows,lx]at a
  grind
theorem tW:∀{a5 bs:List AV},xO a5=some bs->bs.length=a5.length
 |[],bs,h=>by simp only[xO,p5]at h;rw[<- h]
 |a::r,bs,h=>by
  simp only[xO]at h;split at h
  ·rename_i a' c _ b;cases h;simp[tW b]
  ·cases h

theorem zbr(r:Rel B w0 g h w){t:TypeId}{d:TypeDesc}{i:TypeInfo}(hd:P.underlying t=some d)(hi:P.info? t=some i){p v:AV}{pv:Value}(y:V g p pv)
  (a:sJ h (yd d) i.size p=some v):∃u,(Instr.loadAt t pv).run P w=.ok u w/\V g v u:=by
 have l:∀(b o:Nat)(cs:List AV) (us:List Value),VA g cs us->(∀j u,us[j]?=some u->w.cell? ⟨b,o+j,none⟩=some u) ->
   (if yd d then(if i.size<=cs.length then some (AV.agg (cs.take i.size))else none)else cs[0]?)=some v ->
   ∃u,(Instr.loadAt t (.pointer (some ⟨b,o,none⟩))).run P w=.ok u w/\V g v u:=by
  intro b o cs us L E a;cases ha:yd d with
  |true =>
   simp only[ha,oS]at a;split at a
   ·rename_i M;cases a;have n:(us.take i.size).length=i.size:=by rw[ke,<- L.length];omega
    have C:=zhf (P:=P) (w:=w) b o (us.take i.size) λj u f=>by
     grind
    rw[n]at C;refine⟨.agg (us.take i.size).toArray,?_,?_⟩
    ·simp[Instr.loadAt,Instr.sureAddr,loadVar,ry hd,ha,wF hi,C]
    ·simp only[V];exact⟨_,rfl,VA.take _ L⟩
   ·cases a
  |false =>
   simp only[ha,s5,mb]at a;obtain⟨u,f,Y⟩:=L.f8.get 0 v a;refine⟨u,?_,Y⟩;have:=E 0 u f;rw[ja]at this;simp[Instr.loadAt,Instr.sureAddr,loadVar,ry hd,ha,run_load,this]
 unfold sJ at a;split at a
 ·rename_i id off;simp only[V]at y;obtain⟨c,E,rfl⟩:=y;split at a
  ·rename_i cs H;obtain⟨h1,Z,⟨vs,ty,s,x⟩,h4⟩:=r.g7 id c _ E H;refine l c off (cs.drop off) (vs.toList.drop off) (VA.drop off x) (λj u f=>?_) ?_
   ·rw[lj]at f;rw[cell_of_row w c (off+j) vs ty (0,0) s,<- lr];exact f
   ·grind
  ·cases a
 ·rename_i cs;simp only[V]at y;obtain⟨b,o,rfl,G⟩:=y;obtain⟨us,x,_,J⟩:=G.aq;exact l b o cs us x (λj u f=>r.eK _ _ _ (J j u f)) a
 ·rename_i id q k m p;simp only[V]at y;obtain⟨b,o,rfl,N,T,R,M,K⟩:=y;split at a
  ·rename_i q' k' es H;split at a
   ·rename_i E;obtain⟨rfl,rfl,rfl⟩:=E;obtain⟨_,W,S,U,I,n,O,D⟩:=r.rowAt H;obtain rfl:W=N:=by simp_all
    obtain⟨F,e',rfl,z⟩:=K I.symm;have A:(if yd d then(if i.size<=(es.flatten.drop p).length then some (AV.agg ((es.flatten.drop p).take i.size))else none)else(es.flatten.drop p)[0]?)=some v:=by
     grind
    rcases D with rfl|⟨b2,Q,e2,cs,cA,k1,k2,k3,k4,k5⟩
    ·exact l b (F+p) _ [] (by simp[VA]) (λj u f=>by simp at f) A
    ·rw[z]at k1;injection k1 with k1;injection k1 with X k1;injection k1 with k1 _;obtain rfl:F=Q:=by omega
     subst X;refine l b (F+p) _ _ (VA.drop p k3) (λj u f=>?_) A;rw[lj,ml]at f;split at f
     ·rw[lj,lr]at f;rw[cell_of_row w b (F+p+j) cs cA (0,0) k2,<- f];congr 1;omega
     ·cases f
   ·cases a
  ·cases a
 ·cases a

theorem zaI{cs vs:List AV}{us xs:List Value}(h:VA g cs us)(k:VA g vs xs):VA g (yX cs off vs) (us.take off++xs++us.drop (off+xs.length)):=by
 unfold yX;rw[k.length];exact((VA.take off h).append k).append (VA.drop _ h)

theorem zh5(r:Rel B w0 g h w){t:TypeId}{i:TypeInfo}(hi:P.info? t=some i){p v:AV}{pv u:Value}(M:V g p pv)(hv:V g v u){Y:AH}
  (hs:mI h i.size p v=some Y):∃w',(Instr.storeAt t pv u).run P w=.ok () w'/\Rel B w0 g Y w':=by
 unfold mI at hs;split at hs
 ·rename_i id off vs D;split at hs
  ·rename_i cs C;split at hs
   ·rename_i x;cases hs;simp only[V]at M;obtain⟨c,X,rfl⟩:=M;obtain⟨h1,h2,⟨xs,ty,l,H⟩,h4⟩:=r.g7 id c _ X C;have a:=hv.cells D;have n:u.cells.size=i.size:=by rw[<- x.1,a.length];rfl
    have hxl:cs.length=xs.size:=by rw[H.length];rfl
    have f:=run_storeCells_at P c off ty u.cells.toList 0 xs w l (by simp_all) a.dC;simp only[ja]at f;refine⟨w.setRow c (xs.toList.take off++u.cells.toList++xs.toList.drop (off+u.cells.toList.length)).toArray,?_,r.putObj X C (by simp) (setRow_os _ _ _) (setRow_tape _ _ _) (setRow_output _ _ _) (setRow_size _ _ _) (λb R=>setRow_other w c b _ R)
     ⟨_,ty,setRow_heap w c xs _ ty (0,0) l,?_⟩⟩
    ·simp[Instr.storeAt,Instr.sureAddr,storeVar,wF hi,n,f]
    ·have:=zaI (off:=off) H a;omega
   ·cases hs
  ·cases hs
 ·rename_i id q k m p vs D;split at hs
  ·rename_i q' k' es C;split at hs
   ·rename_i x;obtain⟨rfl,rfl,rfl,S,hfit⟩:=x;split at hs
    ·rename_i s y;cases hs;simp only[V]at M;obtain⟨b,o,rfl,t2,ht2,hrd,x,Q⟩:=M;obtain⟨_,ti,U,htr,N,F,K,J⟩:=r.rowAt C;obtain rfl:ti=t2:=by simp_all
     obtain⟨A,e',rfl,z⟩:=Q N.symm;have O:es.flatten.length=es.length*k':=xg F;have a:=tV (hv.cells D) y;have I:s.length=i.size:=by rw[tW y,S]
     have n:u.cells.size=i.size:=by rw[<- I,a.length];rfl
     by_cases hes:es=[]
     ·subst hes;have hz:i.size=0:=by simp_all
      have G:u.cells=#[]:=Array.eq_empty_of_size_eq_zero (by omega);refine⟨w,by simp[Instr.storeAt,Instr.sureAddr,storeVar,wF hi,hz,G,storeCells],?_⟩;have:rows k' ([]:List (List AV)).length (yX ([]:List (List AV)).flatten p s)=[]:=rfl;rw[this];have e:h.put id (.row q' k' [])=h:=by
       cases h with
       |mk B T =>
        simp only[AH.put,AH.mk.injEq,kA];refine lT λj=>?_;by_cases W:j=id
        ·subst W;rw[li (tu.1 C).1];exact C.symm
        ·grind
      simp_all
     ·obtain⟨b2,o2,e2,cs,cA,k1,k2,k3,k4,k5⟩:=J.resolve_left hes;rw[z]at k1;injection k1 with k1;injection k1 with e1 k1;injection k1 with k1 _;obtain rfl:A=o2:=by omega
      subst e1;have f:=run_storeCells_at P b (A+p) cA u.cells.toList 0 cs w k2 (by grind) a.dC;simp only[ja]at f;generalize hnew:(cs.toList.take (A+p)++u.cells.toList++cs.toList.drop (A+p+u.cells.toList.length)).toArray=new at f;have hul:u.cells.toList.length=i.size:=by simp[n]
      have L:(yX es.flatten p s).length=es.length*k':=by unfold yX;rw[oA,oA,ke,jC,O];omega
      obtain⟨Z,f2,f3⟩:=np (k:=k') es.length (yX es.flatten p s) L;refine⟨w.setRow b new,?_,r.dh (e:=e') (cur:=cs) (ty:=cA) (o:=A) C U z k2 (by grind) (λj W=>?_) f2 f3 ?_ ?_ hes⟩
      ·simp[Instr.storeAt,Instr.sureAddr,storeVar,wF hi,n,f]
      ·rw[<- hnew,jH,lf,ol (by simp;omega),ml,nK (by omega),lr]
      ·rw[Z];unfold yX;simp only[jM,tx];exact⟨⟨zkB _ K,rt y⟩,zkC _ K⟩
      ·rw[Z];have E:(new.toList.drop A).take (es.length*k')=((cs.toList.drop A).take (es.length*k')).take p++u.cells.toList++((cs.toList.drop A).take (es.length*k')).drop (p+u.cells.toList.length):=by
        rw[<- hnew];apply lT;intro j;have y:cs.toList.length=cs.size:=by simp
        by_cases h1:j<p
        ·rw[ml,nK (by omega),lj,lf,ol (by simp;omega),ml,nK (by omega)];rw[lf,ol (by simp;omega),ml,nK h1,ml,nK (by omega),lj]
        ·by_cases h2:j<p+i.size
         ·rw[ml,nK (by omega),lj,lf,pa (by simp;omega),ol (by simp;omega)];rw[lf,pa (by simp;omega),ol (by simp;omega)];congr 1;simp;omega
         ·by_cases h3:j<es.length*k'
          ·rw[ml,nK h3,lj,pa (by simp;omega),lj];rw[pa (by simp;omega),lj,ml,nK (by simp;omega),lj];congr 1;simp;omega
          ·rw[ml,n4 h3,kL]
           grind
       rw[E];exact zaI (off:=p) k3 a
    ·cases hs
   ·cases hs
  ·cases hs
 ·cases hs

theorem zdp{s:TypeId}{f:Nat}(k:rX P s f=some (off,u))(hi:P.info? u=some i)(D:i.size≠0){p v:AV}{pv:Value}(j:V g p pv)
  (l:tB off p=some v):∃x,(Instr.fieldAt s pv f).run P w=.ok x w/\V g v x:=by
 unfold rX at k;split at k
 ·rename_i fs hs;rcases hff:fs[f]? with _|y
  ·simp[hff]at k
  ·simp[hff]at k;obtain⟨rfl,rfl⟩:=k;have a:∀b o,(Instr.fieldAt s (.pointer (some ⟨b,o,none⟩)) f).run P w=.ok (.pointer (some ⟨b,o+y.offset,none⟩)) w:=λb o=>by
    simp[Instr.fieldAt,Instr.sureAddr,yn hs,hff,fieldPlace,wF hi,D,vm]
   unfold tB at l;split at l
   ·cases l;simp only[V]at j;obtain⟨c,F,rfl⟩:=j;exact⟨_,a _ _,by simp only[V];exact⟨c,F,rfl⟩⟩
   ·cases l;simp only[V]at j;obtain⟨b,o,rfl,m⟩:=j;exact⟨_,a _ _,by simp only[V];exact⟨b,_,rfl,VC.drop _ m⟩⟩
   ·cases l;simp only[V]at j;obtain⟨b,q,rfl,t,A,E,r,n⟩:=j;exact⟨_,a _ _,by
     simp only[V];exact⟨b,_,rfl,t,A,E,r,λe=>by
      obtain⟨o,C,rfl,z⟩:=n e;exact⟨o,C,by omega,z⟩⟩⟩
   ·cases l
 ·cases k

theorem zei(hd:P.underlying t=some d)(hi:P.info? t=some i){off:Nat}{x v:AV}{j:Value}(f:V g x j)
  (a:zje (yd d) off i.size x=some v):∃cs u,j=.agg cs/\(part t cs off).run P w=.ok u w/\V g v u:=by
 unfold zje at a;split at a
 ·rename_i cs;simp only[V]at f;obtain⟨vs,rfl,b⟩:=f;refine⟨vs,?_⟩;cases hag:yd d with
  |true =>
   simp only[hag,oS,p5]at a;subst a;refine⟨.agg (vs.extract off (off+i.size)),rfl,by simp[part,ry hd,hag,wF hi],?_⟩;simp only[V];refine⟨_,rfl,?_⟩;have:=VA.take i.size (VA.drop off b)
   simp_all
  |false =>
   simp only[hag,s5,mb]at a;obtain⟨u,l,k⟩:=b.f8.get _ _ a;have c:vs[off]?=some u:=by simp_all
   exact⟨u,rfl,by simp[part,ry hd,hag,c],k⟩
 ·cases a

theorem ziQ{s:TypeId}{f:Nat}(a:rX P s f=some (off,u))(hd:P.underlying u=some d)(hi:P.info? u=some i){x v:AV}{c:Value}(j:V g x c)
  (k:zje (yd d) off i.size x=some v):∃y,(Instr.field s c f).run P w=.ok y w/\V g v y:=by
 unfold rX at a;split at a
 ·rename_i fs hs;rcases hff:fs[f]? with _|m
  ·simp_all
  ·simp[hff]at a;obtain⟨rfl,rfl⟩:=a;obtain⟨cs,y,rfl,b,l⟩:=zei (w:=w) hd hi j k;exact⟨y,by simp[Instr.field,yn hs,hff,asAgg,b],l⟩
 ·cases a

theorem mY(G:P.underlying t=some (.slice e))(hi:P.info? e=some i){x n v:AV}{O Q:Value}(r:V g x O)(s:V g n Q)
  (j:tA i.size x n=some v):∃y,(Instr.indexAt t O Q).run P w=.ok y w/\V g v y:=by
 have C:∀(k:Nat)(es:List (List AV)) (A:IntKind) (z:Int) (a:Option Addr) (c:Nat),k=i.size->0<=z->(es[z.toNat]?).map AV.fK=some v->(es=[] \/ ∃b o,a=some ⟨b,o,none⟩/\VE g b k o es) ->
   ∃y,(Instr.indexAt t (.slice a es.length c) (.int A z)).run P w=.ok y w/\V g v y:=by
  intro k es A z a c U T R M;rcases he:es[z.toNat]? with _|e
  ·simp_all
  ·simp only[he,lK,p5]at R;subst R;rcases M with rfl|⟨b,o,rfl,J⟩
   ·simp at he
   ·obtain⟨H,F⟩:=J.get _ _ he;have S:z.toNat<es.length:=(tu.1 he).1;have K:z<(es.length:Int):=by omega
    refine⟨.pointer (some ⟨b,o+z.toNat*i.size,none⟩),?_,?_⟩
    ·simp[Instr.indexAt,asIntOf,yn G,T,K,wF hi,vm]
    ·simp only[V]
     grind
 unfold tA at j;split at j
 ·rename_i k es A z;split at j
  ·rename_i l;simp only[V]at r s;obtain⟨a,c,rfl,H,F,I⟩:=r;subst s;exact C k es A z a c l.1 l.2 j I
  ·cases j
 ·rename_i q k es A z;split at j
  ·rename_i l;simp only[V]at r s;obtain⟨a,c,rfl,H,F,I,W⟩:=r;subst s;exact C k es A z a c l.1 l.2 j I
  ·cases j
 ·rename_i k id off len A z;split at j
  ·rename_i l;cases j;simp only[V]at r s;obtain⟨c,cap,N,rfl,F,I⟩:=r;subst s;refine⟨.pointer (some ⟨c,off+z.toNat*i.size,none⟩),?_,by simp only[V];exact⟨c,N,rfl⟩⟩;simp[Instr.indexAt,asIntOf,yn G,l.2.1,l.2.2,wF hi,vm]
  ·cases j
 ·rename_i id q k m A z;split at j
  ·rename_i l;cases j;simp only[V]at r s;obtain⟨a,c,rfl,H,F,t,D,L,E,f⟩:=r;subst s;rcases f with⟨h0,_⟩|⟨b,o,rfl,f⟩
   ·omega
   ·refine⟨.pointer (some ⟨b,o+z.toNat*i.size,none⟩),?_,by simp only[V];exact⟨b,_,rfl,t,D,L,E,λe=>⟨o,_,rfl,by rw[l.1]at f;exact f e⟩⟩⟩;simp[Instr.indexAt,asIntOf,yn G,l.2.1,l.2.2,wF hi,vm]
  ·cases j
 ·rename_i id q k m p A z;split at j
  ·rename_i l;cases j;simp only[V]at r s;obtain⟨a,c,rfl,H,t,D,f⟩:=r;subst s;rcases f with h0|⟨b,o,rfl,L,E,f⟩
   ·omega
   ·refine⟨.pointer (some ⟨b,o+z.toNat*i.size,none⟩),?_,by simp only[V];exact⟨b,_,rfl,t,D,L,E,λe=>by grind⟩⟩;simp[Instr.indexAt,asIntOf,yn G,l.2.1,l.2.2,wF hi,vm]
  ·cases j
 ·cases j

theorem mZ{len:Nat}(A:P.underlying t=some (.array len e))(hi:P.info? e=some i){x n v:AV}{r s:Value}(k:V g x r)(l:V g n s)
  (a:za8 len i.size x n=some v):∃y,(Instr.indexAt t r s).run P w=.ok y w/\V g v y:=by
 have f:∀(b o:Nat)(q:IntKind) (z:Int),0<=z->z<len->(Instr.indexAt t (.pointer (some ⟨b,o,none⟩)) (.int q z)).run P w=.ok (.pointer (some ⟨b,o+z.toNat*i.size,none⟩)) w:=by
  intro b o q z h0 C;simp[Instr.indexAt,Instr.sureAddr,asIntOf,yn A,h0,C,wF hi,vm]
 unfold za8 at a;split at a
 ·split at a
  ·rename_i j;cases a;simp only[V]at k l;obtain⟨c,p,rfl⟩:=k;subst l;exact⟨_,f _ _ _ _ j.1 j.2,by simp only[V];exact⟨c,p,rfl⟩⟩
  ·cases a
 ·split at a
  ·rename_i j;cases a;simp only[V]at k l;obtain⟨b,o,rfl,m⟩:=k;subst l;exact⟨_,f _ _ _ _ j.1 j.2,by simp only[V];exact⟨b,_,rfl,VC.drop _ m⟩⟩
  ·cases a
 ·cases a

theorem zdg(m:P.underlying t=some .string){x n v:AV}{f j:Value}(k:V g x f)(l:V g n j)
  (a:nY x n=some v):∃y,(Instr.index t f j).run P w=.ok y w/\V g v y:=by
 unfold nY at a;split at a
 ·rename_i s r z;split at a
  ·rename_i q;rcases hs:s[z.toNat]? with _|b
   ·simp_all
   ·simp only[hs,lK,p5]at a;subst a;simp only[V]at k l;obtain⟨rfl,_⟩:=k;subst l;refine⟨.int .u8 b.toNat,?_,by simp only[V]⟩;obtain⟨c,p⟩:=tu.1 hs;have o:(⟨s.toArray⟩:ByteArray)[z.toNat]?=some b:=by
     rw[getElem?_pos _ _ (by simpa[ByteArray.size]using c)];exact congrArg some p
    simp[Instr.index,asIntOf,yn m,q,o]
  ·cases a
 ·cases a

theorem zdh{len:Nat}(l:P.underlying t=some (.array len e))(hd:P.underlying e=some d)(hi:P.info? e=some i){x n v:AV}{c f:Value}(o:V g x c)(j:V g n f)
  (a:nZ (yd d) len i.size x n=some v):∃y,(Instr.index t c f).run P w=.ok y w/\V g v y:=by
 unfold nZ at a;split at a
 ·rename_i p z;split at a
  ·rename_i k;simp only[V]at j;subst j;obtain⟨cs,y,rfl,b,m⟩:=zei (w:=w) hd hi o a;exact⟨y,by simp[Instr.index,asIntOf,yn l,k.1,k.2,wF hi,b],m⟩
  ·cases a
 ·cases a
end
end Go.Vv
namespace Go.Vv
open Go Go.RowKit Go.Lib
variable{l:Nat}{lo:Option AV}{t:TypeId}{lov:Option Value}
section
variable{P:Program}{w:World}{g:Gh}{h:AH}{B:Nat}{w0:World}

def VO(g:Gh):Option AV->Option Value->Prop
 |none,v=>v=none
 |some a,v=>∃u,v=some u/\V g a u

theorem eZ{d n:Nat}{x:Option AV}{b:Option Value}(c:VO g x b)(a:oD d x=some n):(b=none/\x=none/\n=d) \/ ∃(k:IntKind)(z:Int),b=some (.int k z)/\x.isSome=true/\0<=z/\z=n:=by
 unfold oD at a;split at a
 ·simp only[VO]at c
  simp_all
 ·rename_i k z;split at a
  ·rename_i e;simp only[VO,V]at c
   grind
  ·cases a
 ·cases a


theorem sd{isS:Bool}{len cap hh m d:Nat}{lo hi mx:Option Value}
  (x:(lo=none/\l=0) \/ ∃(k:IntKind)(z:Int),lo=some (.int k z)/\0<=z/\z=l)
  (j:(hi=none/\mx=none/\hh=len) \/ ∃(k:IntKind)(z:Int),hi=some (.int k z)/\0<=z/\z=hh)
  (y:(mx=none/\m=cap) \/ ∃(k:IntKind)(z:Int),mx=some (.int k z)/\0<=z/\z=m) (E:l<=hh) (D:hh<=m) (G:m<=cap) (_:d=0) :
  (Instr.sliceBounds isS len cap lo hi mx).run P w=.ok (l,hh,m) w:=by
 rcases y with⟨rfl,rfl⟩|⟨H,c,rfl,r,u⟩<;>rcases j with⟨rfl,e,rfl⟩|⟨F,a,rfl,v,s⟩<;>rcases x with⟨rfl,rfl⟩|⟨I,b,rfl,p,C⟩<;>
  first
  |(cases e;done)
  |(
       have o:b.toNat=l:=by omega
       have f:a.toNat=hh:=by omega
       have A:c.toNat=m:=by omega
       have n:b<=hh:=by omega
       have i:a<=m:=by omega
       have q:c<=cap:=by omega
       simp[Instr.sliceBounds,run_sliceBound, *];done)
  |(
       have f:a.toNat=hh:=by omega
       have A:c.toNat=m:=by omega
       have i:a<=m:=by omega
       have q:c<=cap:=by omega
       simp[Instr.sliceBounds,run_sliceBound, *];done)
  |(
       have o:b.toNat=l:=by omega
       have f:a.toNat=hh:=by omega
       have n:b<=hh:=by omega
       have i:a<=m:=by omega
       simp[Instr.sliceBounds,run_sliceBound, *];done)
  |(
       have o:b.toNat=l:=by omega
       have n:b<=hh:=by omega
       simp[Instr.sliceBounds,run_sliceBound, *];done)
  |(
       have f:a.toNat=hh:=by omega
       have i:a<=m:=by omega
       simp[Instr.sliceBounds,run_sliceBound, *];done)
  |(simp[Instr.sliceBounds];done)

theorem pN{d:TypeDesc}(a:P.underlying t=some d)(hd:∀n e,d≠.array n e)(x:Value)(lo hi mx:Option Value):(Instr.sliceAt t x lo hi mx).run P w=(Instr.slice t x lo hi mx).run P w:=by
 cases d<;>(first|exact absurd rfl (hd _ _)|simp only[Instr.sliceAt,Sem.run_bind,yn a,Result.andThen_ok])

theorem zj0(b:VO g lo lov)(a:oD 0 lo=some l):(lov=none/\l=0) \/ ∃(k:IntKind)(z:Int),lov=some (.int k z)/\0<=z/\z=l:=by
 rcases eZ b a with⟨e,_,d⟩|⟨k,z,e,_,h0,c⟩
 ·simp_all
 ·simp_all
theorem zke{len:Nat}{a:Option Value}(c:VO g lo lov)(b:oD len lo=some l)(d:a≠none->lov≠none) :
  (lov=none/\a=none/\l=len) \/ ∃(k:IntKind)(z:Int),lov=some (.int k z)/\0<=z/\z=l:=by
 rcases eZ c b with⟨e,_,i⟩|⟨k,z,e,_,h0,f⟩
 ·simp_all
 ·simp_all

theorem zcI(p:P.underlying t=some .string){s:List UInt8}{q:Value}{lo hi mx:Option AV}{lov e b:Option Value}(r:V g (.str s) q)(o:VO g lo lov)(k:VO g hi e)(c:VO g mx b)
  {v:AV} (a:zdP (.str s) lo hi mx=some v):∃y,(Instr.sliceAt t q lov e b).run P w=.ok y w/\V g v y:=by
 simp only[V]at r;obtain⟨rfl,hs⟩:=r;unfold zdP at a;simp only at a;split at a
 ·rename_i x;have:mx=none:=by simp_all
  subst this;simp only[VO]at c;subst c;unfold zhU at a;split at a
  ·rename_i l hh i j;split at a
   ·rename_i f;cases a;rw[pN p (by simp)];have n:(⟨s.toArray⟩:ByteArray).size=s.length:=by rfl
    have u:=sd (P:=P) (w:=w) (isS:=false) (len:=s.length) (cap:=s.length) (l:=l) (hh:=hh) (m:=s.length) (d:=0) (mx:=none)
     (zj0 o i) (zke k j λh=>absurd rfl h)
     (.inl ⟨rfl,rfl⟩) f.1 f.2 (ob _) rfl
    refine⟨.string ((⟨s.toArray⟩:ByteArray).extract l hh),?_,?_⟩
    ·simp[Instr.slice,yn p,n,u]
    ·simp only[V];refine⟨?_,by simp;omega⟩;congr 1;apply ByteArray.ext;simp[ByteArray.data_extract,ir,hZ]
   ·cases a
  ·cases a
 ·cases a

theorem zac{e:TypeId}{i:TypeInfo}(O:P.underlying t=some (.slice e))(hi:P.info? e=some i){x:Bool}{es:List (List AV)}{a:Option Addr}{c:Nat}{lo D mx:Option AV}{lov s n:Option Value}
  (Z:es.length<=c) (Y:c<=maxLen) (T:es=[] \/ ∃b o,a=some ⟨b,o,none⟩/\VE g b i.size o es) (C:x=true->c=es.length) (M:VO g lo lov) (E:VO g D s) (r:VO g mx n)
  {v:AV} (j:nX x i.size es lo D mx=some v):∃y,(Instr.sliceAt t (.slice a es.length c) lov s n).run P w=.ok y w/\V g v y:=by
 unfold nX at j;split at j
 ·rename_i l hh H q;split at j
  ·rename_i N
   -- the f of what is cut
   have f:∀m,hh<=m->(es.take hh).drop l=[] \/ ∃b o,(if m=l then a else a.map (·.add (l*i.size)))=some ⟨b,o,none⟩/\VE g b i.size o ((es.take hh).drop l):=by
    intro m F;by_cases hl:l=hh
    ·simp_all
    ·rcases T with rfl|⟨b,o,rfl,G⟩
     ·left;simp
     ·right;have L:m≠l:=by omega
      refine⟨b,o+l*i.size,by simp[L,vm],VE.drop l (VE.take hh G)⟩
   have p:((es.take hh).drop l).length=hh-l:=by simp;omega
   rw[pN O (by simp)];have A:∀(m:Nat)(v:AV),hh<=m->m<=c->(n=none/\m=c \/ ∃(k:IntKind)(z:Int),n=some (.int k z)/\0<=z/\z=m)->(n≠none->s≠none) ->
     (v=.sl i.size ((es.take hh).drop l) \/ (v=.gW none i.size ((es.take hh).drop l)/\m=hh))->∃y,(Instr.slice t (.slice a es.length c) lov s n).run P w=.ok y w/\V g v y:=by
    intro m v F J R K X;have S:=sd (P:=P) (w:=w) (isS:=true) (len:=es.length) (cap:=c) (l:=l) (hh:=hh) (m:=m) (d:=0) (zj0 M H)
     (zke E q K) R N.1 F J rfl
    refine⟨.slice (if m=l then a else a.map (·.add (l*i.size))) (hh-l) (m-l),?_,?_⟩
    ·simp[Instr.slice,yn O,S,wF hi]
    ·rcases X with rfl|⟨rfl,rfl⟩
     ·simp only[V];exact⟨_,m-l,by rw[p],by omega,by omega,f m F⟩
     ·simp only[V];exact⟨_,m-l,by rw[p],by omega,by omega,f m F,by rw[p]⟩
   cases mx with
   |none =>
    simp only[VO]at r;subst r;simp only[p5]at j;split at j
    ·rename_i I;subst j;simp only[tx,Option.isNone_iff_eq_none]at I;have hc:=C I.1;have Q:hh=es.length:=by
      rw[I.2]at q;simpa[oD]using q.symm
     have W:es.drop l=(es.take hh).drop l:=by simp_all
     rw[W];exact A c _ (by omega) (ob _) (.inl ⟨rfl,rfl⟩) (λh=>absurd rfl h) (.inr ⟨rfl,by omega⟩)
    ·subst j;exact A c _ (by omega) (ob _) (.inl ⟨rfl,rfl⟩) (λh=>absurd rfl h) (.inl rfl)
   |some xm =>
    cases xm with
    |int km zm =>
     simp only at j;split at j
     ·rename_i U;cases j;simp only[VO,V]at r;obtain⟨u,rfl,rfl⟩:=r;refine A hh _ (ob _) (by omega) (.inr ⟨km,zm,rfl,by omega,by omega⟩) (λ_=>?_) (.inr ⟨rfl,rfl⟩);rcases eZ E q with⟨_,e,_⟩|⟨k,z,e,_⟩
      ·simp_all
      ·simp_all
     ·cases j
    |_=>simp at j
  ·cases j
 ·cases j

theorem zbW:∀(vs:List Value)(cells:Array Value) (off a:Nat),off+a+vs.length<=cells.size ->
  ((vs.zipIdx a).foldl (λcs p=>cs.setIfInBounds (off+p.2) p.1) cells).toList=cells.toList.take (off+a)++vs++cells.toList.drop (off+a+vs.length)
 |[],cells,off,a,_=>by simp
 |v::r,cells,off,a,h=>by
  simp only[nr]at h;simp only[iU,kS];rw[zbW r (cells.setIfInBounds (off+a) v) off (a+1) (by simp;omega)];simp only[ii];have b:(cells.toList.set (off+a) v).take (off+(a+1))=cells.toList.take (off+a)++[v]:=by
   rw[show off+(a+1)=off+a+1 by omega,l6,li (by simp;omega),jS (ob _)];rfl
  rw[b,jT (by omega),nr,show off+(a+1)+r.length=off+a+(r.length+1) by omega];simp

theorem rm{b:Nat->Option (Nat×Nat)}{place':Nat->Option (Nat×Nat)}(d:∀i x,b i=some x->place' i=some x):∀{parts:List (Nat×AV)} {pvs:List (Nat×Value)} {cs out:List AV} {us:Array Value},
  VA g cs us.toList->parts.length=pvs.length->(∀(j:Nat)(p:Nat×AV) (q:Nat×Value),parts[j]?=some p->pvs[j]?=some q->p.1=q.1/\V g p.2 q.2) ->
  qJ b cs parts=some out->∃xs:Array Value,Instr.fill place' us pvs=some xs/\VA g out xs.toList
 |[],[],cs,out,us,hv,_,_,ha=>by
  simp only[qJ,p5]at ha;subst ha;exact⟨us,rfl,hv⟩
 |(i,a)::r,(i',u)::s,cs,out,us,hv,hl,hp,ha=>by
  obtain⟨rfl,C⟩:=hp 0 _ _ rfl rfl;simp only[qJ]at ha;split at ha
  ·rename_i off size vs k n;split at ha
   ·rename_i o;have e:=C.cells n;have v:u.cells.size=size:=by rw[<- o.1,e.length];rfl
    have A:cs.length=us.size:=by rw[hv.length];rfl
    have c:=zbW u.cells.toList us off 0 (by simp;omega);simp only[ja]at c;have z:=zaI (off:=off) hv e;obtain⟨xs,m,f⟩:=rm d (parts:=r) (pvs:=s) (us:=(u.cells.toList.zipIdx 0).foldl (λcs p=>cs.setIfInBounds (off+p.2) p.1) us) (by grind) (by grind)
     (λj p q y D=>hp (j+1) p q (by grind) (by grind)) ha
    refine⟨xs,?_,f⟩;have y:¬(u.cells.size≠size \/ off+u.cells.size > us.size):=by omega
    simp only[Instr.fill,d _ _ k];rw[n4 (by grind)];rw[<- m];congr 1;rw[<- iC,Array.toList_zipIdx]
   ·cases ha
  ·cases ha
 |[],_::_,_,_,_,_,hl,_,_=>by simp at hl
 |_::_,[],_,_,_,_,hl,_,_=>by simp at hl
end
end Go.Vv
