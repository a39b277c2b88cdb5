/- Calls walked in place: blocks are let go, rows are moved, the heap behind is told by a state. -/
import Derived.Test.YtehifcdoglcidaaGreatVvRb
namespace Go.Vv
open Go Go.RowKit

inductive KillL:List Blk->List Blk->Prop
 | nil:KillL [] []
 | keep {x:Blk} {a b:List Blk} (k:KillL a b):KillL (x::a) (x::b)
 | dead {x:Blk} {a b:List Blk} (k:KillL a b):KillL (x::a) (.dead::b)
theorem KillL.len {a b:List Blk} (k:KillL a b):b.length=a.length:=by induction k <;> simp_all
theorem KillL.get {a b:List Blk} (k:KillL a b):∀(j:Nat) (x:Blk),b[j]?=some x->x=.dead \/ a[j]?=some x:=by
 induction k with
 | nil=>intro j x h;simp at h
 | keep _ ih =>
  intro j x h;cases j with
  | zero=>right;simpa using h
  | succ j=>simpa using ih j x (by simpa using h)
 | dead _ ih =>
  intro j x h;cases j with
  | zero=>left;simpa using h.symm
  | succ j=>simpa using ih j x (by simpa using h)
theorem Rel.let_go {B:Nat} {w0 w:World} {g:Gh} {h:AH} (r:Rel B w0 g h w) {bs:List Blk} (p:bs.length=h.blks.length) (f:∀(j:Nat) (b:Blk),bs[j]?=some b->b=.dead \/ h.blks[j]?=some b):Rel B w0 g { h with blks:=bs } w:=by
 have n:∀(j:Nat) (b:Blk),bs[j]?=some b->∃b0,h.blks[j]?=some b0:=λj b m=>by
  have:j < h.blks.length:=by rw [<- p];exact (List.getElem?_eq_some_iff.1 m).1
  exact ⟨_,List.getElem?_eq_getElem this⟩
 refine ⟨r.below,r.bsz,r.phi,by rw [r.slen];exact p.symm,λi c k q e=>?_,r.tlen,r.tok,r.sinj,r.tinj,r.sep,r.dfr,λi k hi e=>?_,λi j t k k' es es' hi m=>?_⟩
 ·rcases f i k e with rfl | h0
  ·obtain ⟨b0,l⟩:=n i _ e;obtain ⟨a,d,_,_⟩:=r.blk i c b0 q l;exact ⟨a,d,trivial,λh=>absurd rfl h⟩
  ·exact r.blk i c k q h0
 ·rcases f i k e with rfl | h0
  ·trivial
  ·exact r.row i k hi h0
 ·rcases f i _ hi with a | a
  ·cases a
  ·rcases f j _ m with d | d
   ·cases d
   ·exact r.rinj _ _ _ _ _ _ _ a d
theorem qT {h:AH} {env:List AV} {B B':List Blk} {T:List Nat} (k:KillL B B'):swk env (h.ext B T) env (h.ext B' T):=λ_ _ w g vs r f=>by
 refine ⟨g,Gh.le.refl g,?_,f⟩;refine r.let_go (bs:=h.blks++B') (by simp [AH.ext,k.len]) λj b a=>?_;rcases Nat.lt_or_ge j h.blks.length with d | d
 ·right;simp only [AH.ext];rw [List.getElem?_append_left d] at a ⊢;exact a
 ·rw [List.getElem?_append_right d] at a;rcases k.get _ _ a with e | e
  ·exact .inl e
  ·right;simp only [AH.ext];rw [List.getElem?_append_right d];exact e
theorem swk_padB {h:AH} {env:List AV} {B B':List Blk} {T:List Nat} (b:B++[.dead]=B'):swk env (h.ext B T) env (h.ext B' T):=λ_ _ w g vs r d=>by
 subst b;have a:=r.adoptN .dead trivial (λ_ _ _ e=>by cases e);have e:(h.ext B T).new .dead=h.ext (B++[.dead]) T:=by simp [AH.ext,AH.new,List.append_assoc]
 rw [e] at a;exact ⟨_,Gh.le_addS _ none,a,VL.mono (Gh.le_addS _ none) _ _ d⟩
theorem swk_padT {h:AH} {env:List AV} {B:List Blk} {T T':List Nat} {n:Nat} (d:T++[n]=T'):swk env (h.ext B T) env (h.ext B T'):=λ_ _ w g vs r b=>by
 subst d;have a:=r.addTok ⟨n,none,false⟩ (λ_ _ _ e=>by cases e) (λ_ _ e=>by cases e);have e:({ (h.ext B T) with toks:=(h.ext B T).toks++[n] }:AH)=h.ext B (T++[n]):=by simp [AH.ext,List.append_assoc]
 rw [e] at a;exact ⟨_,Gh.le_addT _ _,a,VL.mono (Gh.le_addT _ _) _ _ b⟩
theorem swk_move {h:AH} {env b:List AV} {B B':List Blk} {T T':List Nat} {d j i k n n2 J t':Nat} {es:List (List AV)} (I:ye env (.tmp d)=some (.rsl (h.blks.length+j) (h.toks.length+i) k n)) (R:B[j]?=some (.row (h.toks.length+i) k es)) (K:es.length=n) (m:n=n2)
  (A:B.length=J) (p:T.length=t') (F:vq (some d) env (.rsl (h.blks.length+J) (h.toks.length+t') k n2)=some b) (O:B.set j .dead++[.row (h.toks.length+t') k es]=B') (N:T.set i (n2+1)++[n2]=T') :
  swk env (h.ext B T) b (h.ext B' T'):=λ_ _ w g vs r C=>by
 subst m K A p O N;simp only [vq,Option.some.injEq] at F;subst F;have hd:d < env.length:=(List.getElem?_eq_some_iff.1 I).1;obtain ⟨v,q,G⟩:=C.get d _ I;have s:(h.ext B T).blk (h.blks.length+j)=some (.row (h.toks.length+i) k es):=by rw [zZ];exact R
 have f:=G;simp only [V] at f;obtain ⟨a,c,rfl,_⟩:=f;obtain ⟨g',D,H,E⟩:=r.shrink (n:=es.length) (a':=a) s (Nat.le_refl _) (.inl rfl) G;have e:(h.ext B T).shr (h.blks.length+j) (h.toks.length+i) k es.length es=h.ext (B.set j .dead++[.row (h.toks.length+T.length) k es]) (T.set i (es.length+1)++[es.length]):=by
  simp only [AH.shr,AH.ext,AH.put,AH.new,AH.mk.injEq,List.length_append];refine ⟨?_,?_⟩
  ·rw [List.set_append_right _ _ (by omega),Nat.add_sub_cancel_left,List.take_of_length_le (Nat.le_refl _)];simp
  ·rw [List.set_append_right _ _ (by omega),Nat.add_sub_cancel_left];simp
 rw [e] at H;refine ⟨g',D,H,VL.setE (VL.mono D _ _ C) d _ λu l=>?_⟩;rw [q] at l;injection l with l;subst l;have Q:(h.ext B T).blks.length=h.blks.length+B.length:=by simp [AH.ext]
 have S:(h.ext B T).toks.length=h.toks.length+T.length:=by simp [AH.ext]
 rw [Q,S] at E;exact E

theorem swk_moveB {h:AH} {env:List AV} {B B':List Blk} {T T':List Nat} {jb o j i k n n2 W t':Nat} {es:List (List AV)} {cs cs':List AV} (m:B[jb]?=some (.cells cs)) (N:cs[o]?=some (.rsl (h.blks.length+j) (h.toks.length+i) k n)) (S:B[j]?=some (.row (h.toks.length+i) k es)) (Y:es.length=n) (D:n=n2)
  (K:B.length=W) (G:T.length=t') (H:cs.set o (.rsl (h.blks.length+W) (h.toks.length+t') k n2)=cs') (hB:(B.set j .dead).set jb (.cells cs')++[.row (h.toks.length+t') k es]=B') (hT:T.set i (n2+1)++[n2]=T') :
  swk env (h.ext B T) env (h.ext B' T'):=λ_ _ w g vs r Z=>by
 subst D Y K G H hB hT;have J:(h.ext B T).blk (h.blks.length+j)=some (.row (h.toks.length+i) k es):=by rw [zZ];exact S
 have d:(h.ext B T).blks[h.blks.length+jb]?=some (.cells cs):=by
  simp only [AH.ext];rw [List.getElem?_append_right (by omega),Nat.add_sub_cancel_left];exact m
 have E:j ≠ jb:=by rintro rfl;rw [S] at m;cases m
 have l:jb < B.length:=(List.getElem?_eq_some_iff.1 m).1;have F:h.blks.length+jb < g.σ.length:=by rw [r.slen];exact (List.getElem?_eq_some_iff.1 d).1
 obtain ⟨x,s⟩:∃x,g.σ[h.blks.length+jb]?=some x:=⟨_,List.getElem?_eq_getElem F⟩
 cases x with
 | none=>exact (r.row _ _ s d).elim
 | some c =>
  obtain ⟨_,_,⟨us,t,k1,C⟩,_⟩:=r.blk _ c _ s d;obtain ⟨v,I,U⟩:=C.toVL.get o _ N;have f:=U;simp only [V] at f;obtain ⟨a,cc,rfl,_⟩:=f;obtain ⟨g',b,R,Q⟩:=r.shrink (n:=es.length) (a':=a) J (Nat.le_refl _) (.inl rfl) U;have e:(h.ext B T).shr (h.blks.length+j) (h.toks.length+i) k es.length es=h.ext (B.set j .dead++[.row (h.toks.length+T.length) k es]) (T.set i (es.length+1)++[es.length]):=by
   simp only [AH.shr,AH.ext,AH.put,AH.new,AH.mk.injEq,List.length_append];refine ⟨?_,?_⟩
   ·rw [List.set_append_right _ _ (by omega),Nat.add_sub_cancel_left,List.take_of_length_le (Nat.le_refl _)];simp
   ·rw [List.set_append_right _ _ (by omega),Nat.add_sub_cancel_left];simp
  rw [e] at R;have e1:(h.ext B T).blks.length=h.blks.length+B.length:=by simp [AH.ext]
  have e2:(h.ext B T).toks.length=h.toks.length+T.length:=by simp [AH.ext]
  rw [e1,e2] at Q;have hk:(h.ext (B.set j .dead++[.row (h.toks.length+T.length) k es]) (T.set i (es.length+1)++[es.length])).blks[h.blks.length+jb]?=some (.cells cs):=by
   simp only [AH.ext];rw [List.getElem?_append_right (by omega),Nat.add_sub_cancel_left,List.getElem?_append_left (by rw [List.length_set];exact l),List.getElem?_set_ne E];exact m
  have A:=b.sig _ _ s;have q:VA g' (cs.set o (.rsl (h.blks.length+B.length) (h.toks.length+T.length) k es.length)) us.toList:=VA.mk (VL.setE (VL.mono b _ _ C.toVL) o _ λu p=>by
   rw [I] at p;injection p with p;subst p;exact Q) (by
   rw [List.all_eq_true];intro a O;rcases List.mem_or_eq_of_mem_set O with O | rfl
   ·have:=C.ones;rw [List.all_eq_true] at this;exact this a O
   ·rfl)
  have X:=R.putObj (k':=.cells (cs.set o (.rsl (h.blks.length+B.length) (h.toks.length+T.length) k es.length))) A hk (by simp) rfl rfl rfl rfl (λ_ _=>rfl) ⟨us,t,k1,q⟩;have e3:(h.ext (B.set j .dead++[.row (h.toks.length+T.length) k es]) (T.set i (es.length+1)++[es.length])).put (h.blks.length+jb) (.cells (cs.set o (.rsl (h.blks.length+B.length) (h.toks.length+T.length) k es.length)))=h.ext ((B.set j .dead).set jb (.cells (cs.set o (.rsl (h.blks.length+B.length) (h.toks.length+T.length) k es.length)))++[.row (h.toks.length+T.length) k es]) (T.set i (es.length+1)++[es.length]):=by
   simp only [AH.ext,AH.put,AH.mk.injEq,and_true];rw [List.set_append_right _ _ (by omega),Nat.add_sub_cancel_left,List.set_append_left _ _ (by rw [List.length_set];exact l)]
  rw [e3] at X;exact ⟨g',b,X,VL.mono b _ _ Z⟩

theorem qO {P:Program} {b:Array Oper} {Q:List AV->AH->Prop} {o:Oper} {rest:List Oper} {env a:List AV} {h:AH} {f:FuncId} {args:List AV} {X:Type} {v:AV} {H':X->AH} (e:aG b o env=some true) (l:zo P o env h=.call f args)
  (hs:Spec P f args h λr hh=>r=v/\∃x,hh=H' x) (hd:vq o.dst env v=some a) (g:∀x,zy P b Q rest a (H' x)):zy P b Q (o::rest) env h :=
 ops_call e l hs λr m ⟨d,x,i⟩=>by subst d;subst i;rw [xh hd];exact g x
theorem draw_callA {P:Program} {a:Array Oper} {Ns:List Nat} {F:Nat->AH->Prop} {Q:List AV->AH->Prop} {i:Nat} {o:Oper} {rest:List Oper} {env b:List AV} {h d:AH} {f:FuncId} {args:List AV} {v:AV} (m:anch a Ns i=true) (p:Ns.contains i=false) (e:FOk ((Region.before a).getD i 0) Ns F d) (g:aG a o env=some true) (n:zo P o env h=.call f args) (hs:Spec P f args h λr hh=>r=v/\hh=d)
  (hd:vq o.dst env v=some b) (l:zL P a Ns F Q (i+1) rest b d):zL P a Ns F Q i (o::rest) env h :=
 ⟨v,d,.inl ⟨p,by simp only [AR,g,n];exact hs⟩,.inl m,.inr e,by rw [xh hd];exact l⟩
theorem iteF {ρ:Type} {c:Prop} [Decidable c] {a b:Option ρ} {res:ρ} {G:Prop} (d:(if c then a else b)=some res) (f:c->a=some res->G) (e:¬ c->b=some res->G):G:=by
 by_cases h:c
 ·rw [if_pos h] at d;exact f h d
 ·rw [if_neg h] at d;exact e h d

section
variable {P:Program} {o:Oper} {env:List AV} {h:AH} {L:List Blk} {M:List Nat} {t kt et:TypeId} {x y z:Operand} {j:Nat} {es:List (AV×AV)} {c:Nat}
theorem e_insF {B:List Blk} {kv a:AV} (f:o.op=.insert t x y z) (m:P.underlying t=some (.map kt et)) (b:yI P kt kv kv=some true) (n:ye env x=some (.map (h.blks.length+j))) (u:L[j]?=some (.mapo es c)) (d:ye env y=some kv) (i:ye env z=some a)
  (p:ql P kt kv es 0=some none) (l:L.set j (.mapo (es++[(kv,a.zcl)]) c)=B):wI P o env (h.ext L M)=some [(aundef,h.ext B M)]:=by
 obtain ⟨q,g⟩:=zD n;obtain ⟨e,r⟩:=zD d;obtain ⟨s,v⟩:=zD i;subst l;simp only [wI,f,zo,q,g,e,r,s,v,m,Bool.and_self,if_true,aMapPut,b,zZ,u,p,oh,qg]
theorem e_lookF {a:IntKind} {b n:Int} {i:Nat} {v:AV} {ok:Bool} (m:o.op=.lookup t x y ok) (p:P.underlying t=some (.map kt et)) (w:P.underlying kt=some (.int a)) (f:ye env x=some (.map (h.blks.length+j))) (g:L[j]?=some (.mapo es c)) (s:ye env y=some (.int a b)) (e:b=n)
  (r:ql P kt (.int a n) es 0=some (some (i,v))):zo P o env (h.ext L M)=.ok (withOk ok v true) (h.ext L M):=by
 obtain ⟨A,u⟩:=zD f;obtain ⟨l,q⟩:=zD s;subst e;have d:yI P kt (.int a b) (.int a b)=some true:=by simp [yI,w,aEq1]
 simp only [zo,m,A,u,l,q,p,Bool.and_self,if_true,aLookup,d,zZ,g,r,oo]
theorem e_lookN {a:IntKind} {b:Int} {d:AV} {ok:Bool} (i:o.op=.lookup t x y ok) (p:P.underlying t=some (.map kt et)) (n:P.underlying kt=some (.int a)) (q:ye env x=some (.map (h.blks.length+j))) (v:L[j]?=some (.mapo es c)) (f:ye env y=some (.int a b))
  (m:aZeroM P et=some d) (r:ql P kt (.int a b) es 0=some none):zo P o env (h.ext L M)=.ok (withOk ok d false) (h.ext L M):=by
 obtain ⟨s,l⟩:=zD q;obtain ⟨g,u⟩:=zD f;have e:yI P kt (.int a b) (.int a b)=some true:=by simp [yI,n,aEq1]
 simp only [zo,i,s,l,g,u,p,Bool.and_self,if_true,aLookup,e,zZ,v,r,m,oo]
end
theorem aFind_nil {P:Program} {kt:TypeId} {k:AV} {i:Nat}:ql P kt k [] i=some none:=rfl
theorem aFind_eq {P:Program} {kt:TypeId} {a:IntKind} {n:Int} {v:AV} {es:List (AV×AV)} {i:Nat} (b:P.underlying kt=some (.int a)):ql P kt (.int a n) ((.int a n,v)::es) i=some (some (i,v)):=by
 have:yI P kt (.int a n) (.int a n)=some true:=by simp [yI,b,aEq1]
 simp only [ql,this]
theorem ya {P:Program} {kt:TypeId} {a:IntKind} {b n:Int} {v:AV} {es:List (AV×AV)} {i:Nat} {r:Option (Nat×AV)} (d:P.underlying kt=some (.int a)) (e:¬ b=n) (f:ql P kt (.int a b) es (i+1)=some r):ql P kt (.int a b) ((.int a n,v)::es) i=some r:=by
 have:yI P kt (.int a b) (.int a n)=some false:=by simp [yI,d,aEq1,e]
 simp only [ql,this,f]
theorem aKey_int {P:Program} {kt:TypeId} {a:IntKind} {n:Int} (b:P.underlying kt=some (.int a)):yI P kt (.int a n) (.int a n)=some true:=by simp [yI,b,aEq1]

section
variable {α:Type} {row:α->List AV} {L:List α} {k:Nat} {P:Program} {o:Oper} {env:List AV} {h:AH}
theorem e_idxS {t e:TypeId} {x i:Operand} {id q n p:Nat} {f:IntKind} {z:Int} (b:o.op=.indexAddr t x i) (d:El P t e k) (g:ye env x=some (.rsuf id q k n p)) (hi:ye env i=some (.int f z)) (a:0<=z/\z < (n - p:Nat)) :
  zo P o env h=.ok (.rptr id q k n ((p+z.toNat) * k+0)) h:=s_indexAddr b d g hi (by simp only [vD];rw [if_pos ⟨trivial,a.1,a.2⟩];rfl)
theorem idxS {n:Int} {p:Nat} {y:α} (h:yi (L.drop p) n=some y):0<=n/\n < (L.length - p:Nat)/\L[p+n.toNat]?=some y:=by
 obtain ⟨d,b,a⟩:=idxR h;rw [List.length_drop] at b;rw [List.getElem?_drop] at a;exact ⟨d,b,a⟩
end
theorem xU {h0 h b:AH} {K:AV->AH->Prop} {v a:AV} (i:wk h0 [v] h [a] b) (g:finK h0 K a b):finK h0 K v h:=by
 obtain ⟨r,e,d,f⟩:=g;exact ⟨r,e,i.trans d,f⟩
theorem xR {h:AH} {B:List Blk} {T:List Nat}:(h.ext B T).toks.length=h.toks.length+T.length:=by simp [AH.ext]
def HdS (h:AH) (B:List Blk) (k:Nat) (es:List (List AV)) (a:AV):Prop:=(∃j i:Nat,a=.rsl (h.blks.length+j) (h.toks.length+i) k es.length/\B[j]?=some (Blk.row (h.toks.length+i) k es)) \/ (a=.osl none k []/\es=[])
theorem HdS.tok {B0:Nat} {w0 w:World} {g:Gh} {h:AH} {B:List Blk} {T:List Nat} (r:Rel B0 w0 g (h.ext B T) w) {k:Nat} {es:List (List AV)} {a:AV} (hd:HdS h B k es a) {v:Value} (p:V g a v) :
  ∃t:TI,(∃x c,v=.slice x es.length c/\es.length<=c/\c<=maxLen/\rowHd t x es.length c k)/\t.row=true/\t.n=es.length/\(∀e ∈ es,e.length=k)/\es.flatten.all AV.pure=true /\
   (es=[] \/ ∃b o e cs ty,t.loc=some (b,o+es.length * k,e)/\w.heap[b]?=some (.cells cs ty (0,0))/\VA g es.flatten ((cs.toList.drop o).take (es.length * k))/\o+es.length * k<=cs.size/\∀j,o<=j->g.Φ b j=none) /\
   ((t=⟨0,none,true⟩) \/ ∃j i:Nat,B[j]?=some (Blk.row (h.toks.length+i) k es)/\g.τ[h.toks.length+i]?=some t):=by
 rcases hd with ⟨j,i,rfl,H⟩ | ⟨rfl,rfl⟩
 ·have E:(h.ext B T).blk (h.blks.length+j)=some (.row (h.toks.length+i) k es):=by rw [zZ];exact H
  obtain ⟨_,G,f,A,s,d,q,m⟩:=r.rowAt E;simp only [V] at p;obtain ⟨x,c,rfl,u,D,I,l,F⟩:=p;obtain rfl:G=I:=by rw [f] at l;injection l
  exact ⟨G,⟨x,c,rfl,u,D,F⟩,A,s,d,q,m,.inr ⟨j,i,H,f⟩⟩
 ·simp only [V] at p;obtain ⟨x,c,rfl,u,D,_,C⟩:=p;have C:c=0:=C;exact ⟨⟨0,none,true⟩,⟨x,c,rfl,u,D,rfl,Nat.le_refl _,.inl ⟨rfl,C⟩⟩,rfl,rfl,by simp,by simp,.inl rfl,.inl rfl⟩
end Go.Vv
