/- Calls walked in place: blocks are let go, rows are moved, the heap behind is told by a state. -/
import Derived.Test.YtandnkcefogjeaaGreatVvRb
namespace Go.Vv
open Go Go.RowKit

inductive KillL:List Blk->List Blk->Prop
 | nil:KillL [] []
 | keep {x:Blk} {a b:List Blk} (k:KillL a b):KillL (x::a) (x::b)
 | dead {x:Blk} {a b:List Blk} (k:KillL a b):KillL (x::a) (.dead::b)
theorem KillL.len {a b:List Blk} (k:KillL a b):b.length=a.length:=by induction k <;> simp_all
theorem KillL.get {a b:List Blk} (k:KillL a b):∀(j:Nat) (x:Blk),b[j]?=some x->x=.dead \/ a[j]?=some x:=by
 induction k with
 | nil=>intro j x h;simp at h
 | keep _ ih =>
  intro j x h;cases j with
  | zero=>right;simpa using h
  | succ j=>simpa using ih j x (by simpa using h)
 | dead _ ih =>
  intro j x h;cases j with
  | zero=>left;simpa using h.symm
  | succ j=>simpa using ih j x (by simpa using h)
theorem Rel.let_go {B:Nat} {w0 w:World} {g:Gh} {h:AH} (r:Rel B w0 g h w) {bs:List Blk} (p:bs.length=h.blks.length) (e:∀(j:Nat) (b:Blk),bs[j]?=some b->b=.dead \/ h.blks[j]?=some b):Rel B w0 g { h with blks:=bs } w:=by
 have l:∀(j:Nat) (b:Blk),bs[j]?=some b->∃b0,h.blks[j]?=some b0:=λj b m=>by
  have:j < h.blks.length:=by rw [<- p];exact (List.getElem?_eq_some_iff.1 m).1
  exact ⟨_,List.getElem?_eq_getElem this⟩
 refine ⟨r.below,r.bsz,r.phi,by rw [r.slen];exact p.symm,λi c k q f=>?_,r.tlen,r.tok,r.sinj,r.tinj,r.sep,r.dfr,λi k hi f=>?_,λi j t k k' es es' hi m=>?_⟩
 ·rcases e i k f with rfl | h0
  ·obtain ⟨b0,n⟩:=l i _ f;obtain ⟨a,d,_,_⟩:=r.blk i c b0 q n;exact ⟨a,d,trivial,λh=>absurd rfl h⟩
  ·exact r.blk i c k q h0
 ·rcases e i k f with rfl | h0
  ·trivial
  ·exact r.row i k hi h0
 ·rcases e i _ hi with a | a
  ·cases a
  ·rcases e j _ m with d | d
   ·cases d
   ·exact r.rinj _ _ _ _ _ _ _ a d
theorem swk_kill {h:AH} {env:List AV} {B B':List Blk} {T:List Nat} (k:KillL B B'):swk env (h.ext B T) env (h.ext B' T):=λ_ _ w g vs r f=>by
 refine ⟨g,Gh.le.refl g,?_,f⟩;refine r.let_go (bs:=h.blks++B') (by simp [AH.ext,k.len]) λj b a=>?_;rcases Nat.lt_or_ge j h.blks.length with d | d
 ·right;simp only [AH.ext];rw [List.getElem?_append_left d] at a ⊢;exact a
 ·rw [List.getElem?_append_right d] at a;rcases k.get _ _ a with e | e
  ·exact .inl e
  ·right;simp only [AH.ext];rw [List.getElem?_append_right d];exact e
theorem swk_padB {h:AH} {env:List AV} {B B':List Blk} {T:List Nat} (d:B++[.dead]=B'):swk env (h.ext B T) env (h.ext B' T):=λ_ _ w g vs r b=>by
 subst d;have a:=r.adoptN .dead trivial (λ_ _ _ e=>by cases e);have e:(h.ext B T).new .dead=h.ext (B++[.dead]) T:=by simp [AH.ext,AH.new,List.append_assoc]
 rw [e] at a;exact ⟨_,Gh.le_addS _ none,a,VL.mono (Gh.le_addS _ none) _ _ b⟩
theorem swk_padT {h:AH} {env:List AV} {B:List Blk} {T T':List Nat} {n:Nat} (d:T++[n]=T'):swk env (h.ext B T) env (h.ext B T'):=λ_ _ w g vs r b=>by
 subst d;have a:=r.addTok ⟨n,none,false⟩ (λ_ _ _ e=>by cases e) (λ_ _ e=>by cases e);have e:({ (h.ext B T) with toks:=(h.ext B T).toks++[n] }:AH)=h.ext B (T++[n]):=by simp [AH.ext,List.append_assoc]
 rw [e] at a;exact ⟨_,Gh.le_addT _ _,a,VL.mono (Gh.le_addT _ _) _ _ b⟩
theorem swk_move {h:AH} {env b:List AV} {B B':List Blk} {T T':List Nat} {d j i k n n2 G t':Nat} {es:List (List AV)} (F:yz env (.tmp d)=some (.rsl (h.blks.length+j) (h.toks.length+i) k n)) (N:B[j]?=some (.row (h.toks.length+i) k es)) (Q:es.length=n) (m:n=n2)
  (q:B.length=G) (A:T.length=t') (J:dso (some d) env (.rsl (h.blks.length+G) (h.toks.length+t') k n2)=some b) (O:B.set j .dead++[.row (h.toks.length+t') k es]=B') (S:T.set i (n2+1)++[n2]=T') :
  swk env (h.ext B T) b (h.ext B' T'):=λ_ _ w g vs r C=>by
 subst m Q q A O S;simp only [dso,Option.some.injEq] at J;subst J;have hd:d < env.length:=(List.getElem?_eq_some_iff.1 F).1;obtain ⟨v,s,H⟩:=C.get d _ F;have p:(h.ext B T).blk (h.blks.length+j)=some (.row (h.toks.length+i) k es):=by rw [yb];exact N
 have f:=H;simp only [V] at f;obtain ⟨a,c,rfl,_⟩:=f;obtain ⟨g',E,I,D⟩:=r.shrink (n:=es.length) (a':=a) p (Nat.le_refl _) (.inl rfl) H;have e:(h.ext B T).shr (h.blks.length+j) (h.toks.length+i) k es.length es=h.ext (B.set j .dead++[.row (h.toks.length+T.length) k es]) (T.set i (es.length+1)++[es.length]):=by
  simp only [AH.shr,AH.ext,AH.put,AH.new,AH.mk.injEq,List.length_append];refine ⟨?_,?_⟩
  ·rw [List.set_append_right _ _ (by omega),Nat.add_sub_cancel_left,List.take_of_length_le (Nat.le_refl _)];simp
  ·rw [List.set_append_right _ _ (by omega),Nat.add_sub_cancel_left];simp
 rw [e] at I;refine ⟨g',E,I,VL.setE (VL.mono E _ _ C) d _ λu l=>?_⟩;rw [s] at l;injection l with l;subst l;have K:(h.ext B T).blks.length=h.blks.length+B.length:=by simp [AH.ext]
 have R:(h.ext B T).toks.length=h.toks.length+T.length:=by simp [AH.ext]
 rw [K,R] at D;exact D

theorem swk_moveB {h:AH} {env:List AV} {B B':List Blk} {T T':List Nat} {jb o j i k n n2 U t':Nat} {es:List (List AV)} {cs cs':List AV} (m:B[jb]?=some (.cells cs)) (s:cs[o]?=some (.rsl (h.blks.length+j) (h.toks.length+i) k n)) (S:B[j]?=some (.row (h.toks.length+i) k es)) (hn:es.length=n) (D:n=n2)
  (H:B.length=U) (K:T.length=t') (q:cs.set o (.rsl (h.blks.length+U) (h.toks.length+t') k n2)=cs') (hB:(B.set j .dead).set jb (.cells cs')++[.row (h.toks.length+t') k es]=B') (hT:T.set i (n2+1)++[n2]=T') :
  swk env (h.ext B T) env (h.ext B' T'):=λ_ _ w g vs r Y=>by
 subst D hn H K q hB hT;have F:(h.ext B T).blk (h.blks.length+j)=some (.row (h.toks.length+i) k es):=by rw [yb];exact S
 have d:(h.ext B T).blks[h.blks.length+jb]?=some (.cells cs):=by
  simp only [AH.ext];rw [List.getElem?_append_right (by omega),Nat.add_sub_cancel_left];exact m
 have O:j ≠ jb:=by rintro rfl;rw [S] at m;cases m
 have f:jb < B.length:=(List.getElem?_eq_some_iff.1 m).1;have J:h.blks.length+jb < g.σ.length:=by rw [r.slen];exact (List.getElem?_eq_some_iff.1 d).1
 obtain ⟨x,C⟩:∃x,g.σ[h.blks.length+jb]?=some x:=⟨_,List.getElem?_eq_getElem J⟩
 cases x with
 | none=>exact (r.row _ _ C d).elim
 | some c =>
  obtain ⟨_,_,⟨us,t,Z,N⟩,_⟩:=r.blk _ c _ C d;obtain ⟨v,I,W⟩:=N.toVL.get o _ s;have l:=W;simp only [V] at l;obtain ⟨a,cc,rfl,_⟩:=l;obtain ⟨g',b,X,Q⟩:=r.shrink (n:=es.length) (a':=a) F (Nat.le_refl _) (.inl rfl) W;have e:(h.ext B T).shr (h.blks.length+j) (h.toks.length+i) k es.length es=h.ext (B.set j .dead++[.row (h.toks.length+T.length) k es]) (T.set i (es.length+1)++[es.length]):=by
   simp only [AH.shr,AH.ext,AH.put,AH.new,AH.mk.injEq,List.length_append];refine ⟨?_,?_⟩
   ·rw [List.set_append_right _ _ (by omega),Nat.add_sub_cancel_left,List.take_of_length_le (Nat.le_refl _)];simp
   ·rw [List.set_append_right _ _ (by omega),Nat.add_sub_cancel_left];simp
  rw [e] at X;have e1:(h.ext B T).blks.length=h.blks.length+B.length:=by simp [AH.ext]
  have e2:(h.ext B T).toks.length=h.toks.length+T.length:=by simp [AH.ext]
  rw [e1,e2] at Q;have hk:(h.ext (B.set j .dead++[.row (h.toks.length+T.length) k es]) (T.set i (es.length+1)++[es.length])).blks[h.blks.length+jb]?=some (.cells cs):=by
   simp only [AH.ext];rw [List.getElem?_append_right (by omega),Nat.add_sub_cancel_left,List.getElem?_append_left (by rw [List.length_set];exact f),List.getElem?_set_ne O];exact m
  have A:=b.sig _ _ C;have E:VA g' (cs.set o (.rsl (h.blks.length+B.length) (h.toks.length+T.length) k es.length)) us.toList:=VA.mk (VL.setE (VL.mono b _ _ N.toVL) o _ λu p=>by
   rw [I] at p;injection p with p;subst p;exact Q) (by
   rw [List.all_eq_true];intro a G;rcases List.mem_or_eq_of_mem_set G with G | rfl
   ·have:=N.ones;rw [List.all_eq_true] at this;exact this a G
   ·rfl)
  have R:=X.putObj (k':=.cells (cs.set o (.rsl (h.blks.length+B.length) (h.toks.length+T.length) k es.length))) A hk (by simp) rfl rfl rfl rfl (λ_ _=>rfl) ⟨us,t,Z,E⟩;have e3:(h.ext (B.set j .dead++[.row (h.toks.length+T.length) k es]) (T.set i (es.length+1)++[es.length])).put (h.blks.length+jb) (.cells (cs.set o (.rsl (h.blks.length+B.length) (h.toks.length+T.length) k es.length)))=h.ext ((B.set j .dead).set jb (.cells (cs.set o (.rsl (h.blks.length+B.length) (h.toks.length+T.length) k es.length)))++[.row (h.toks.length+T.length) k es]) (T.set i (es.length+1)++[es.length]):=by
   simp only [AH.ext,AH.put,AH.mk.injEq,and_true];rw [List.set_append_right _ _ (by omega),Nat.add_sub_cancel_left,List.set_append_left _ _ (by rw [List.length_set];exact f)]
  rw [e3] at R;exact ⟨g',b,R,VL.mono b _ _ Y⟩

theorem ops_inl {P:Program} {b:Array Oper} {Q:List AV->AH->Prop} {o:Oper} {rest:List Oper} {env a:List AV} {h:AH} {f:FuncId} {args:List AV} {X:Type} {v:AV} {H':X->AH} (i:aG b o env=some true) (g:zr P o env h=.call f args)
  (hs:Spec P f args h λr hh=>r=v/\∃x,hh=H' x) (hd:dso o.dst env v=some a) (d:∀x,zH P b Q rest a (H' x)):zH P b Q (o::rest) env h :=
 ops_call i g hs λr m ⟨e,x,l⟩=>by subst e;subst l;rw [xp hd];exact d x
theorem draw_callA {P:Program} {a:Array Oper} {Ns:List Nat} {F:Nat->AH->Prop} {Q:List AV->AH->Prop} {i:Nat} {o:Oper} {rest:List Oper} {env b:List AV} {h d:AH} {f:FuncId} {args:List AV} {v:AV} (p:anch a Ns i=true) (l:Ns.contains i=false) (n:FOk ((Region.before a).getD i 0) Ns F d) (m:aG a o env=some true) (g:zr P o env h=.call f args) (hs:Spec P f args h λr hh=>r=v/\hh=d)
  (hd:dso o.dst env v=some b) (e:zR P a Ns F Q (i+1) rest b d):zR P a Ns F Q i (o::rest) env h :=
 ⟨v,d,.inl ⟨l,by simp only [AR,m,g];exact hs⟩,.inl p,.inr n,by rw [xp hd];exact e⟩
theorem iteF {ρ:Type} {c:Prop} [Decidable c] {a b:Option ρ} {res:ρ} {G:Prop} (d:(if c then a else b)=some res) (e:c->a=some res->G) (f:¬ c->b=some res->G):G:=by
 by_cases h:c
 ·rw [if_pos h] at d;exact e h d
 ·rw [if_neg h] at d;exact f h d

section
variable {P:Program} {o:Oper} {env:List AV} {h:AH} {L:List Blk} {M:List Nat} {t kt et:TypeId} {x y z:Operand} {j:Nat} {es:List (AV×AV)} {c:Nat}
theorem e_insF {B:List Blk} {kv a:AV} (v:o.op=.insert t x y z) (q:P.underlying t=some (.map kt et)) (b:yQ P kt kv kv=some true) (g:yz env x=some (.map (h.blks.length+j))) (m:L[j]?=some (.mapo es c)) (d:yz env y=some kv) (r:yz env z=some a)
  (p:aFind P kt kv es 0=some none) (n:L.set j (.mapo (es++[(kv,a.zcl)]) c)=B):wY P o env (h.ext L M)=some [(aundef,h.ext B M)]:=by
 obtain ⟨i,l⟩:=zO g;obtain ⟨u,f⟩:=zO d;obtain ⟨e,s⟩:=zO r;subst n;simp only [wY,v,zr,i,l,u,f,e,s,q,Bool.and_self,if_true,aMapPut,b,yb,m,p,oh,qV]
theorem e_lookF {a:IntKind} {b n:Int} {i:Nat} {v:AV} {ok:Bool} (r:o.op=.lookup t x y ok) (u:P.underlying t=some (.map kt et)) (g:P.underlying kt=some (.int a)) (l:yz env x=some (.map (h.blks.length+j))) (p:L[j]?=some (.mapo es c)) (w:yz env y=some (.int a b)) (s:b=n)
  (q:aFind P kt (.int a n) es 0=some (some (i,v))):zr P o env (h.ext L M)=.ok (withOk ok v true) (h.ext L M):=by
 obtain ⟨m,A⟩:=zO l;obtain ⟨f,e⟩:=zO w;subst s;have d:yQ P kt (.int a b) (.int a b)=some true:=by simp [yQ,g,aEq1]
 simp only [zr,r,m,A,f,e,u,Bool.and_self,if_true,aLookup,d,yb,p,q,oo]
theorem e_lookN {a:IntKind} {b:Int} {d:AV} {ok:Bool} (v:o.op=.lookup t x y ok) (r:P.underlying t=some (.map kt et)) (g:P.underlying kt=some (.int a)) (i:yz env x=some (.map (h.blks.length+j))) (p:L[j]?=some (.mapo es c)) (f:yz env y=some (.int a b))
  (s:aZeroM P et=some d) (q:aFind P kt (.int a b) es 0=some none):zr P o env (h.ext L M)=.ok (withOk ok d false) (h.ext L M):=by
 obtain ⟨l,m⟩:=zO i;obtain ⟨u,n⟩:=zO f;have e:yQ P kt (.int a b) (.int a b)=some true:=by simp [yQ,g,aEq1]
 simp only [zr,v,l,m,u,n,r,Bool.and_self,if_true,aLookup,e,yb,p,q,s,oo]
end
theorem wz {P:Program} {kt:TypeId} {k:AV} {i:Nat}:aFind P kt k [] i=some none:=rfl
theorem aFind_eq {P:Program} {kt:TypeId} {a:IntKind} {n:Int} {v:AV} {es:List (AV×AV)} {i:Nat} (b:P.underlying kt=some (.int a)):aFind P kt (.int a n) ((.int a n,v)::es) i=some (some (i,v)):=by
 have:yQ P kt (.int a n) (.int a n)=some true:=by simp [yQ,b,aEq1]
 simp only [aFind,this]
theorem zJ {P:Program} {kt:TypeId} {a:IntKind} {b n:Int} {v:AV} {es:List (AV×AV)} {i:Nat} {r:Option (Nat×AV)} (d:P.underlying kt=some (.int a)) (f:¬ b=n) (e:aFind P kt (.int a b) es (i+1)=some r):aFind P kt (.int a b) ((.int a n,v)::es) i=some r:=by
 have:yQ P kt (.int a b) (.int a n)=some false:=by simp [yQ,d,aEq1,f]
 simp only [aFind,this,e]
theorem q9 {P:Program} {kt:TypeId} {a:IntKind} {n:Int} (b:P.underlying kt=some (.int a)):yQ P kt (.int a n) (.int a n)=some true:=by simp [yQ,b,aEq1]

section
variable {α:Type} {row:α->List AV} {L:List α} {k:Nat} {P:Program} {o:Oper} {env:List AV} {h:AH}
theorem e_idxS {t e:TypeId} {x i:Operand} {id q n p:Nat} {g:IntKind} {z:Int} (f:o.op=.indexAddr t x i) (d:El P t e k) (b:yz env x=some (.rsuf id q k n p)) (hi:yz env i=some (.int g z)) (a:0<=z/\z < (n - p:Nat)) :
  zr P o env h=.ok (.rptr id q k n ((p+z.toNat) * k+0)) h:=s_indexAddr f d b hi (by simp only [qh];rw [if_pos ⟨trivial,a.1,a.2⟩];rfl)
theorem idxS {n:Int} {p:Nat} {y:α} (h:yq (L.drop p) n=some y):0<=n/\n < (L.length - p:Nat)/\L[p+n.toNat]?=some y:=by
 obtain ⟨d,a,b⟩:=idxR h;rw [List.length_drop] at a;rw [List.getElem?_drop] at b;exact ⟨d,a,b⟩
end
theorem x8 {h0 h a:AH} {K:AV->AH->Prop} {v b:AV} (g:wk h0 [v] h [b] a) (d:finK h0 K b a):finK h0 K v h:=by
 obtain ⟨r,e,i,f⟩:=d;exact ⟨r,e,g.trans i,f⟩
def HdS (h:AH) (B:List Blk) (k:Nat) (es:List (List AV)) (a:AV):Prop:=(∃j i:Nat,a=.rsl (h.blks.length+j) (h.toks.length+i) k es.length/\B[j]?=some (Blk.row (h.toks.length+i) k es)) \/ (a=.osl none k []/\es=[])
theorem HdS.tok {B0:Nat} {w0 w:World} {g:Gh} {h:AH} {B:List Blk} {T:List Nat} (r:Rel B0 w0 g (h.ext B T) w) {k:Nat} {es:List (List AV)} {a:AV} (hd:HdS h B k es a) {v:Value} (p:V g a v) :
  ∃t:TI,(∃x c,v=.slice x es.length c/\es.length<=c/\c<=maxLen/\rowHd t x es.length c k)/\t.row=true/\t.n=es.length/\(∀e ∈ es,e.length=k)/\es.flatten.all AV.pure=true /\
   (es=[] \/ ∃b o e cs ty,t.loc=some (b,o+es.length * k,e)/\w.heap[b]?=some (.cells cs ty (0,0))/\VA g es.flatten ((cs.toList.drop o).take (es.length * k))/\o+es.length * k<=cs.size/\∀j,o<=j->g.Φ b j=none) /\
   ((t=⟨0,none,true⟩) \/ ∃j i:Nat,B[j]?=some (Blk.row (h.toks.length+i) k es)/\g.τ[h.toks.length+i]?=some t):=by
 rcases hd with ⟨j,i,rfl,G⟩ | ⟨rfl,rfl⟩
 ·have A:(h.ext B T).blk (h.blks.length+j)=some (.row (h.toks.length+i) k es):=by rw [yb];exact G
  obtain ⟨_,H,f,F,C,d,q,m⟩:=r.rowAt A;simp only [V] at p;obtain ⟨x,c,rfl,u,E,I,l,D⟩:=p;obtain rfl:H=I:=by rw [f] at l;injection l
  exact ⟨H,⟨x,c,rfl,u,E,D⟩,F,C,d,q,m,.inr ⟨j,i,G,f⟩⟩
 ·simp only [V] at p;obtain ⟨x,c,rfl,u,E,_,s⟩:=p;have s:c=0:=s;exact ⟨⟨0,none,true⟩,⟨x,c,rfl,u,E,rfl,Nat.le_refl _,.inl ⟨rfl,s⟩⟩,rfl,rfl,by simp,by simp,.inl rfl,.inl rfl⟩
theorem blk_ext {h:AH} {B:List Blk} {T:List Nat} {j:Nat} {b:Blk} (a:B[j]?=some b):(h.ext B T).blk (h.blks.length+j)=some b:=by
 rw [yb];exact a
end Go.Vv
