/- Calls walked in place: blocks are let go, rows are moved, the heap behind is told by a state. -/
import Derived.Test.YtdkfnnpdeenhnaaGreatVvRb
namespace Go.Vv
open Go Go.RowKit

inductive KillL:List Blk->List Blk->Prop
 | nil:KillL [] []
 | keep {x:Blk} {a b:List Blk} (k:KillL a b):KillL (x::a) (x::b)
 | dead {x:Blk} {a b:List Blk} (k:KillL a b):KillL (x::a) (.dead::b)
theorem KillL.len {a b:List Blk} (k:KillL a b):b.length=a.length:=by induction k <;> simp_all
theorem KillL.get {a b:List Blk} (k:KillL a b):∀(j:Nat) (x:Blk),b[j]?=some x->x=.dead \/ a[j]?=some x:=by
 induction k with
 | nil=>intro j x h;simp at h
 | keep _ ih =>
  intro j x h;cases j with
  | zero=>right;simpa using h
  | succ j=>simpa using ih j x (by simpa using h)
 | dead _ ih =>
  intro j x h;cases j with
  | zero=>left;simpa using h.symm
  | succ j=>simpa using ih j x (by simpa using h)
theorem swk_move {h:AH} {env b:List AV} {B B':List Blk} {T T':List Nat} {d j i k n n2 F t':Nat} {es:List (List AV)} (C:zU env (.tmp d)=some (.rsl (h.blks.length+j) (h.toks.length+i) k n)) (K:B[j]?=some (.row (h.toks.length+i) k es)) (R:es.length=n) (q:n=n2)
  (A:B.length=F) (s:T.length=t') (H:xw (some d) env (.rsl (h.blks.length+F) (h.toks.length+t') k n2)=some b) (N:B.set j .dead++[.row (h.toks.length+t') k es]=B') (O:T.set i (n2+1)++[n2]=T') :
  swk env (h.ext B T) b (h.ext B' T'):=λ_ _ w g vs r E=>by
 subst q R A s N O;simp only [xw,Option.some.injEq] at H;subst H;have hd:d < env.length:=(List.getElem?_eq_some_iff.1 C).1;obtain ⟨v,p,G⟩:=E.get d _ C;have m:(h.ext B T).blk (h.blks.length+j)=some (.row (h.toks.length+i) k es):=by rw [zQ];exact K
 have f:=G;simp only [V] at f;obtain ⟨a,c,rfl,_⟩:=f;obtain ⟨g',J,I,D⟩:=r.shrink (n:=es.length) (a':=a) m (Nat.le_refl _) (.inl rfl) G;have e:(h.ext B T).shr (h.blks.length+j) (h.toks.length+i) k es.length es=h.ext (B.set j .dead++[.row (h.toks.length+T.length) k es]) (T.set i (es.length+1)++[es.length]):=by
  simp only [AH.shr,AH.ext,AH.put,AH.new,AH.mk.injEq,List.length_append];refine ⟨?_,?_⟩
  ·rw [List.set_append_right _ _ (by omega),Nat.add_sub_cancel_left,List.take_of_length_le (Nat.le_refl _)];simp
  ·rw [List.set_append_right _ _ (by omega),Nat.add_sub_cancel_left];simp
 rw [e] at I;refine ⟨g',J,I,VL.setE (VL.mono J _ _ E) d _ λu l=>?_⟩;rw [p] at l;injection l with l;subst l;have S:(h.ext B T).blks.length=h.blks.length+B.length:=by simp [AH.ext]
 have Q:(h.ext B T).toks.length=h.toks.length+T.length:=by simp [AH.ext]
 rw [S,Q] at D;exact D

theorem iteF {ρ:Type} {c:Prop} [Decidable c] {a b:Option ρ} {res:ρ} {G:Prop} (d:(if c then a else b)=some res) (e:c->a=some res->G) (f:¬ c->b=some res->G):G:=by
 by_cases h:c
 ·rw [if_pos h] at d;exact e h d
 ·rw [if_neg h] at d;exact f h d

section
variable {P:Program} {o:Oper} {env:List AV} {h:AH} {L:List Blk} {M:List Nat} {t kt et:TypeId} {x y z:Operand} {j:Nat} {es:List (AV×AV)} {c:Nat}
theorem e_insF {B:List Blk} {kv a:AV} (m:o.op=.insert t x y z) (d:P.underlying t=some (.map kt et)) (b:yj P kt kv kv=some true) (u:zU env x=some (.map (h.blks.length+j))) (e:L[j]?=some (.mapo es c)) (p:zU env y=some kv) (f:zU env z=some a)
  (g:w6 P kt kv es 0=some none) (n:L.set j (.mapo (es++[(kv,a.zcl)]) c)=B):xC P o env (h.ext L M)=some [(aundef,h.ext B M)]:=by
 obtain ⟨i,r⟩:=zw u;obtain ⟨v,s⟩:=zw p;obtain ⟨l,q⟩:=zw f;subst n;simp only [xC,m,zn,i,r,v,s,l,q,d,Bool.and_self,if_true,aMapPut,b,zQ,e,g,oh,vz]
theorem e_lookF {a:IntKind} {b n:Int} {i:Nat} {v:AV} {ok:Bool} (w:o.op=.lookup t x y ok) (s:P.underlying t=some (.map kt et)) (A:P.underlying kt=some (.int a)) (q:zU env x=some (.map (h.blks.length+j))) (f:L[j]?=some (.mapo es c)) (l:zU env y=some (.int a b)) (r:b=n)
  (g:w6 P kt (.int a n) es 0=some (some (i,v))):zn P o env (h.ext L M)=.ok (qh ok v true) (h.ext L M):=by
 obtain ⟨u,m⟩:=zw q;obtain ⟨e,p⟩:=zw l;subst r;have d:yj P kt (.int a b) (.int a b)=some true:=by simp [yj,A,aEq1]
 simp only [zn,w,u,m,e,p,s,Bool.and_self,if_true,aLookup,d,zQ,f,g,oo]
theorem e_lookN {a:IntKind} {b:Int} {d:AV} {ok:Bool} (m:o.op=.lookup t x y ok) (f:P.underlying t=some (.map kt et)) (s:P.underlying kt=some (.int a)) (u:zU env x=some (.map (h.blks.length+j))) (g:L[j]?=some (.mapo es c)) (p:zU env y=some (.int a b))
  (i:vT P et=some d) (l:w6 P kt (.int a b) es 0=some none):zn P o env (h.ext L M)=.ok (qh ok d false) (h.ext L M):=by
 obtain ⟨n,q⟩:=zw u;obtain ⟨v,r⟩:=zw p;have e:yj P kt (.int a b) (.int a b)=some true:=by simp [yj,s,aEq1]
 simp only [zn,m,n,q,v,r,f,Bool.and_self,if_true,aLookup,e,zQ,g,l,i,oo]
end
theorem qg {P:Program} {kt:TypeId} {k:AV} {i:Nat}:w6 P kt k [] i=some none:=rfl
theorem aFind_eq {P:Program} {kt:TypeId} {a:IntKind} {n:Int} {v:AV} {es:List (AV×AV)} {i:Nat} (b:P.underlying kt=some (.int a)):w6 P kt (.int a n) ((.int a n,v)::es) i=some (some (i,v)):=by
 have:yj P kt (.int a n) (.int a n)=some true:=by simp [yj,b,aEq1]
 simp only [w6,this]
theorem zN {P:Program} {kt:TypeId} {a:IntKind} {b n:Int} {v:AV} {es:List (AV×AV)} {i:Nat} {r:Option (Nat×AV)} (e:P.underlying kt=some (.int a)) (f:¬ b=n) (d:w6 P kt (.int a b) es (i+1)=some r):w6 P kt (.int a b) ((.int a n,v)::es) i=some r:=by
 have:yj P kt (.int a b) (.int a n)=some false:=by simp [yj,e,aEq1,f]
 simp only [w6,this,d]
theorem aKey_int {P:Program} {kt:TypeId} {a:IntKind} {n:Int} (b:P.underlying kt=some (.int a)):yj P kt (.int a n) (.int a n)=some true:=by simp [yj,b,aEq1]

section
variable {α:Type} {row:α->List AV} {L:List α} {k:Nat} {P:Program} {o:Oper} {env:List AV} {h:AH}
theorem e_idxS {t e:TypeId} {x i:Operand} {id q n p:Nat} {f:IntKind} {z:Int} (d:o.op=.indexAddr t x i) (b:El P t e k) (g:zU env x=some (.rsuf id q k n p)) (hi:zU env i=some (.int f z)) (a:0<=z/\z < (n - p:Nat)) :
  zn P o env h=.ok (.rptr id q k n ((p+z.toNat) * k+0)) h:=s_indexAddr d b g hi (by simp only [wA];rw [if_pos ⟨trivial,a.1,a.2⟩];rfl)
theorem idxS {n:Int} {p:Nat} {y:α} (h:yd (L.drop p) n=some y):0<=n/\n < (L.length - p:Nat)/\L[p+n.toNat]?=some y:=by
 obtain ⟨d,a,b⟩:=idxR h;rw [List.length_drop] at a;rw [List.getElem?_drop] at b;exact ⟨d,a,b⟩
end
theorem vp {h:AH} {B:List Blk} {T:List Nat}:(h.ext B T).blks.length=h.blks.length+B.length:=by simp [AH.ext]
theorem vn {h:AH} {B:List Blk} {T:List Nat}:(h.ext B T).toks.length=h.toks.length+T.length:=by simp [AH.ext]
theorem row_news {P:Program} {f:FuncId} {b:List AV} {h:AH} {B B' L:List Blk} {T T' M:List Nat} {v v':AV} (s:Spec P f b (h.ext B T) (λa hh=>a=v/\hh=(h.ext B T).ext L M)) (d:v=v') (e:B++L=B') (g:T++M=T') :
  Spec P f b (h.ext B T) (λa hh=>a=v'/\hh=h.ext B' T'):=by
 subst d e g;rw [qS] at s;exact s

theorem xn {P:Program} {f:FuncId} {xs:List AV} {h:AH} {B B' L:List Blk} {T T' M:List Nat} {v v':AV} (s:Spec P f xs (h.ext B T) (λa hh=>a=v/\hh=(h.ext B T).ext L M)) (b:v=v') (d:B++L=B') (e:T++M=T') :
  Spec P f xs (h.ext B T) (λa hh=>a=v'/\hh=h.ext B' T'):=row_news s b d e
def HdS (h:AH) (B:List Blk) (k:Nat) (es:List (List AV)) (a:AV):Prop:=(∃j i:Nat,a=.rsl (h.blks.length+j) (h.toks.length+i) k es.length/\B[j]?=some (Blk.row (h.toks.length+i) k es)) \/ (a=.osl none k []/\es=[])
theorem wZ {h:AH} {B:List Blk} {k n j i:Nat} {es:List (List AV)} (a:B[j]?=some (.row (h.toks.length+i) k es)) (b:es.length=n):HdS h B k es (.rsl (h.blks.length+j) (h.toks.length+i) k n):=.inl ⟨j,i,by rw [b],a⟩
theorem qQ {h:AH} {B:List Blk} {k:Nat}:HdS h B k [] (.osl none k []):=.inr ⟨rfl,rfl⟩
theorem HdS.tok {B0:Nat} {w0 w:World} {g:Gh} {h:AH} {B:List Blk} {T:List Nat} (r:Rel B0 w0 g (h.ext B T) w) {k:Nat} {es:List (List AV)} {a:AV} (hd:HdS h B k es a) {v:Value} (p:V g a v) :
  ∃t:TI,(∃x c,v=.slice x es.length c/\es.length<=c/\c<=maxLen/\rowHd t x es.length c k)/\t.row=true/\t.n=es.length/\(∀e ∈ es,e.length=k)/\es.flatten.all AV.pure=true /\
   (es=[] \/ ∃b o e cs ty,t.loc=some (b,o+es.length * k,e)/\w.heap[b]?=some (.cells cs ty (0,0))/\VA g es.flatten ((cs.toList.drop o).take (es.length * k))/\o+es.length * k<=cs.size/\∀j,o<=j->g.Φ b j=none) /\
   ((t=⟨0,none,true⟩) \/ ∃j i:Nat,B[j]?=some (Blk.row (h.toks.length+i) k es)/\g.τ[h.toks.length+i]?=some t):=by
 rcases hd with ⟨j,i,rfl,G⟩ | ⟨rfl,rfl⟩
 ·have s:(h.ext B T).blk (h.blks.length+j)=some (.row (h.toks.length+i) k es):=by rw [zQ];exact G
  obtain ⟨_,H,l,F,E,m,q,d⟩:=r.rowAt s;simp only [V] at p;obtain ⟨x,c,rfl,D,C,I,f,u⟩:=p;obtain rfl:H=I:=by rw [l] at f;injection f
  exact ⟨H,⟨x,c,rfl,D,C,u⟩,F,E,m,q,d,.inr ⟨j,i,G,l⟩⟩
 ·simp only [V] at p;obtain ⟨x,c,rfl,D,C,_,A⟩:=p;have A:c=0:=A;exact ⟨⟨0,none,true⟩,⟨x,c,rfl,D,C,rfl,Nat.le_refl _,.inl ⟨rfl,A⟩⟩,rfl,rfl,by simp,by simp,.inl rfl,.inl rfl⟩
end Go.Vv
