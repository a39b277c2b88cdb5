/- A row handed back within a value: one row; all else is let go. -/
import Derived.Test.YtdkfnnpdeenhnaaGreatVvPt
namespace Go.Vv
open Go

theorem rows1 {B0:Nat} {w0 w w1:World} {g1 g:Gh} {h:AH} {B:List Blk} {T:List Nat} {k:Nat} {es:List (List AV)} {a:AV} {x:Value} (r1:Rel B0 w0 g1 h w1) (hg:g1.le g) (r:Rel B0 w0 g (h.ext B T) w) (h1:HdS h B k es a) (hV1:V g a x) :
  ∃g',g1.le g'/\Rel B0 w0 g' (h.ext [.row h.toks.length k es] [es.length]) w/\V g' (.rsl h.blks.length h.toks.length k es.length) x/\(∀b v,b.low h.blks.length h.toks.length=true->V g b v->V g' b v)/\∀c,c ∈ g.δ->c ∈ g'.δ:=by
 obtain ⟨t1,⟨x1,c1,rfl,a1,b1,e1⟩,tr1,tn1,hl1,hp1,hrow1,ho1⟩:=HdS.tok r h1 hV1;have hcut:(h.ext B T).cut h.blks.length h.toks.length=h:=by
  simp [AH.cut,AH.ext]
 have rc:=r.cut h.blks.length h.toks.length (λi k hi hk=>by
  have hi':i < h.blks.length:=hi;have hk':h.blks[i]?=some k:=by simp only [AH.ext] at hk;rwa [List.getElem?_append_left hi'] at hk
  have:=r1.isLow hk';rw [r1.slen,r1.tlen] at this;exact this)
 rw [hcut] at rc;have hlec:g1.le (g.cut h.blks.length h.toks.length):=by
  have:=Gh.le_cut hg;rw [r1.slen,r1.tlen] at this;exact this
 have hlow:∀b v,b.low h.blks.length h.toks.length=true->V g b v->V (g.cut h.blks.length h.toks.length) b v:=λb v hb hv=>by
  have:=VL.cut (n:=h.blks.length) (m:=h.toks.length) [b] [v] (by simp [zJ,hb]) (by simp only [VL];exact ⟨v,[],rfl,hv,rfl⟩);simp only [VL] at this;obtain ⟨v',s,e,h2,_⟩:=this;injection e with e _;subst e;exact h2
 generalize hgc:g.cut h.blks.length h.toks.length=gc at rc hlec hlow;have hgcτ:gc.τ=g.τ.take h.toks.length:=by rw [<- hgc];rfl
 have hgcσ:gc.σ=g.σ.take h.blks.length:=by rw [<- hgc];rfl
 have hgcΦ:gc.Φ=g.Φ:=by rw [<- hgc];rfl
 have tget:∀(i:Nat) (t:TI),gc.τ[i]?=some t->g.τ[i]?=some t/\i < h.toks.length:=λi t ht=>by
  rw [hgcτ,List.getElem?_take] at ht;split at ht
  ·rename_i hi;exact ⟨ht,hi⟩
  ·cases ht
 have sget:∀(i:Nat) (c:Option Nat),gc.σ[i]?=some c->g.σ[i]?=some c:=λi c hc=>by
  rw [hgcσ,List.getElem?_take] at hc;split at hc
  ·exact hc
  ·cases hc
 have loc:(∀b l e,t1.loc=some (b,l,e)->LocOk gc.Φ B0 w b l e)/\∀b x,t1.loc=some (b,x)->(∀(j:Nat) (u:TI) (y:Nat×Nat),gc.τ[j]?=some u->u.loc ≠ some (b,y))/\∀(j c:Nat),gc.σ[j]?=some (some c)->b ≠ c:=by
  rcases ho1 with rfl | ⟨j,i,_,ht⟩
  ·exact ⟨λ_ _ _ e=>(by cases e),λ_ _ e=>(by cases e)⟩
  ·refine ⟨λb l e hl=>by rw [hgcΦ];exact (r.tok _ _ ht).2 b l e hl,λb x hx=>⟨λj' u y hu hy=>?_,λj' c hc=>r.sep _ _ _ _ _ _ (sget _ _ hc) ht hx⟩⟩;obtain ⟨hu',hlt⟩:=tget _ _ hu;have:=r.tinj _ _ _ _ _ _ _ hu' ht hy hx;omega
 have tl:gc.τ.length=h.toks.length:=rc.tlen;have sl:gc.σ.length=h.blks.length:=rc.slen;have hleA:gc.le ((gc.addT t1).addS none):=(gc.le_addT t1).trans (Gh.le_addS _ none);have rowok:RowOk ((gc.addT t1).addS none) w gc.τ.length k es:=by
  refine ⟨t1,by simp [Gh.addT,Gh.addS],tr1,tn1,hl1,hp1,hrow1.imp (λh=>h) ?_⟩
  rintro ⟨b,o,e,cs,ty,q1,q2,q3,q4,q5⟩
  exact ⟨b,o,e,cs,ty,q1,q2,(by have:=VA.cut (n:=h.blks.length) (m:=h.toks.length) _ _ (wW hp1) q3;rw [hgc] at this;exact this.mono hleA),q4,λj hj=>by show gc.Φ b j=none;rw [hgcΦ];exact q5 j hj⟩
 have rA:=rc.newRowT t1 k es loc.1 loc.2 rowok;refine ⟨_,hlec.trans hleA,?_,?_,λb v hb hv=>(hlow b v hb hv).mono hleA,λc hc=>hleA.del c (by rw [<- hgc];exact hc)⟩
 ·have eh:(({ h with toks:=h.toks++[t1.n] }:AH).new (.row gc.τ.length k es))=h.ext [.row h.toks.length k es] [es.length]:=by
   rw [tl,tn1];simp [AH.new,AH.ext]
  rw [eh] at rA;exact rA
 ·simp only [V];refine ⟨x1,c1,rfl,a1,b1,t1,?_,e1⟩;simp only [Gh.addT,Gh.addS];rw [List.getElem?_append_right (by omega),tl,Nat.sub_self];rfl
theorem xu {h:AH} {K:AV->AH->Prop} {ps:List AV} {A e:AV} {B:List Blk} {T:List Nat} {i:Nat} {a:List (List AV)} (O:HdS h B i a A) (z:zJ h.blks.length h.toks.length ps=true) (l:ps.all AV.one=true) (I:e.low h.blks.length h.toks.length=true)
  (Q:K (.tup [.agg (ps++[.rsl h.blks.length h.toks.length i a.length]),e]) (h.ext [.row h.toks.length i a] [a.length])) :
  finK h K (.tup [.agg (ps++[A]),e]) (h.ext B T):=by
 refine fin_wk (λB0 w0 w S R g vs L M r F=>?_) Q;simp only [VL] at F;obtain ⟨v,_,rfl,G,rfl⟩:=F;simp only [V,VL] at G;obtain ⟨us,rfl,u,_,y,⟨xs,rfl,f⟩,E,_,rfl,o,rfl⟩:=G;have D:=f.take ps.length;rw [List.take_left] at D;have j:=f.drop ps.length;rw [List.drop_left] at j;simp only [VA] at j;obtain ⟨C,_,J,⟨_,m⟩,rfl⟩:=j;obtain ⟨g',n,k,x,c,p⟩:=rows1 L M r O m;refine ⟨g',n,k,?_,p⟩;have d:∀(b:List AV) (ws:List Value),zJ h.blks.length h.toks.length b=true->VL g b ws->VL g' b ws:=by
  intro b
  induction b with
  | nil=>intro ws _ hh;simp only [VL] at hh ⊢;exact hh
  | cons q b ih =>
   intro ws t hh;simp only [VL] at hh ⊢;simp only [zJ,Bool.and_eq_true] at t;obtain ⟨v,s,rfl,P,H⟩:=hh;exact ⟨v,s,rfl,c q v t.1 P,ih s t.2 H⟩
 simp only [VL,V];refine ⟨_,_,rfl,⟨_,rfl,_,_,y,⟨xs,rfl,?_⟩,E,_,rfl,c e E I o,rfl⟩,rfl⟩;have N:xs.toList=xs.toList.take ps.length++[C]:=by rw [<- J,List.take_append_drop]
 rw [N];refine VA.append (VA.mk (d _ _ z D.toVL) l) ?_;simp only [VA];exact ⟨C,_,rfl,⟨rfl,x⟩,rfl⟩
theorem vl {h:AH} {K:AV->AH->Prop} {ps:List AV} {u:AV} {B:List Blk} {T:List Nat} {e:Nat} {a:List (List AV)} (H:HdS h B e a u) (t:zJ h.blks.length h.toks.length ps=true) (k:ps.all AV.one=true)
  (J:K (.agg (ps++[.rsl h.blks.length h.toks.length e a.length])) (h.ext [.row h.toks.length e a] [a.length])) :
  finK h K (.agg (ps++[u])) (h.ext B T):=by
 refine fin_wk (λB0 w0 w M L g vs E F r z=>?_) J;simp only [VL] at z;obtain ⟨v,_,rfl,A,rfl⟩:=z;simp only [V] at A;obtain ⟨xs,rfl,d⟩:=A;have y:=d.take ps.length;rw [List.take_left] at y;have f:=d.drop ps.length;rw [List.drop_left] at f;simp only [VA] at f;obtain ⟨x,_,D,⟨_,l⟩,rfl⟩:=f;obtain ⟨g',m,j,p,i,n⟩:=rows1 E F r H l;refine ⟨g',m,j,?_,n⟩;have c:∀(b:List AV) (ws:List Value),zJ h.blks.length h.toks.length b=true->VL g b ws->VL g' b ws:=by
  intro b
  induction b with
  | nil=>intro ws _ hh;simp only [VL] at hh ⊢;exact hh
  | cons q b ih =>
   intro ws o hh;simp only [VL] at hh ⊢;simp only [zJ,Bool.and_eq_true] at o;obtain ⟨v,s,rfl,I,C⟩:=hh;exact ⟨v,s,rfl,i q v o.1 I,ih s o.2 C⟩
 simp only [VL,V];refine ⟨_,_,rfl,⟨xs,rfl,?_⟩,rfl⟩;have G:xs.toList=xs.toList.take ps.length++[x]:=by rw [<- D,List.take_append_drop]
 rw [G];refine VA.append (VA.mk (c _ _ t y.toVL) k) ?_;simp only [VA];exact ⟨x,_,rfl,⟨rfl,p⟩,rfl⟩
theorem fin_row1 {h:AH} {K:AV->AH->Prop} {i:AV} {B:List Blk} {T:List Nat} {b:Nat} {a:List (List AV)} (n:HdS h B b a i) (o:K (.rsl h.blks.length h.toks.length b a.length) (h.ext [.row h.toks.length b a] [a.length])):finK h K i (h.ext B T):=by
 refine fin_wk (λB0 w0 w q p g vs l m r j=>?_) o;simp only [VL] at j;obtain ⟨v,_,rfl,k,rfl⟩:=j;obtain ⟨g',d,c,f,_,e⟩:=rows1 l m r n k;exact ⟨g',d,c,by simp only [VL];exact ⟨v,[],rfl,f,rfl⟩,e⟩
theorem e_bsR {P:Program} {o:Oper} {env:List AV} {h:AH} {B B':List Blk} {T T':List Nat} {t e:TypeId} {n k g t':Nat} {parts:List (Nat×Operand)} {z cs cs':List AV} {es:List (List AV)} {l m:List (Nat×AV)} (I:o.op=.buildSlice t n ⟨parts⟩) (q:El P t e k) (C:xc P e=some z) (F:Nat.blt 0 n=true)
  (K:Nat.ble (n * k) 65536=true) (a:z.length=k) (G:parto env parts=some l) (v:Fp P (.slice e) l m) (r:wi (λi=>some (i * k,k)) ((List.replicate n z).flatten) m=some cs) (J:yA cs=some cs') (A:rows k n cs'=es)
  (f:B.length=g) (c:T.length=t') (x:B++[.row (h.toks.length+t') k es]=B') (y:T++[n]=T') :
  xC P o env (h.ext B T)=some [(.rsl (h.blks.length+g) (h.toks.length+t') k n,h.ext B' T')]:=by
 obtain ⟨H,D⟩:=parts_ok G v;obtain ⟨j,s,E,_,w,_⟩:=q.i;have b:(⟨parts⟩:Array (Nat×Operand)).all (λp=>zO p.2)=true:=by simpa using H
 have d:0 < n:=Nat.le_of_ble_eq_true F;simp only [xC,I,b,if_true,q.u,C,s,E,yu,D,r,J,A,w,Nat.le_of_ble_eq_true K,a,and_self,d];subst f c x y;simp [AH.ext,AH.new,List.append_assoc]
end Go.Vv
