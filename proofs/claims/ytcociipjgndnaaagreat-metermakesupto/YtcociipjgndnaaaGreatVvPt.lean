/- Calls walked in place: blocks are let go, rows are moved, the heap behind is told by a state. -/
import Derived.Test.YtcociipjgndnaaaGreatVvRb
namespace Go.Vv
open Go Go.RowKit

inductive KillL:List Blk->List Blk->Prop
 | nil:KillL [] []
 | keep {x:Blk} {a b:List Blk} (k:KillL a b):KillL (x::a) (x::b)
 | dead {x:Blk} {a b:List Blk} (k:KillL a b):KillL (x::a) (.dead::b)
theorem KillL.len {a b:List Blk} (k:KillL a b):b.length=a.length:=by induction k <;> simp_all
theorem KillL.get {a b:List Blk} (k:KillL a b):∀(j:Nat) (x:Blk),b[j]?=some x->x=.dead \/ a[j]?=some x:=by
 induction k with
 | nil=>intro j x h;simp at h
 | keep _ ih =>
  intro j x h;cases j with
  | zero=>right;simpa using h
  | succ j=>simpa using ih j x (by simpa using h)
 | dead _ ih =>
  intro j x h;cases j with
  | zero=>left;simpa using h.symm
  | succ j=>simpa using ih j x (by simpa using h)
theorem Rel.let_go {B:Nat} {w0 w:World} {g:Gh} {h:AH} (r:Rel B w0 g h w) {bs:List Blk} (n:bs.length=h.blks.length) (f:∀(j:Nat) (b:Blk),bs[j]?=some b->b=.dead \/ h.blks[j]?=some b):Rel B w0 g { h with blks:=bs } w:=by
 have old:∀(j:Nat) (b:Blk),bs[j]?=some b->∃b0,h.blks[j]?=some b0:=λj b l=>by
  have:j < h.blks.length:=by rw [<- n];exact (uc.1 l).1
  exact ⟨_,ug this⟩
 refine ⟨r.below,r.bsz,r.phi,by rw [r.slen];exact n.symm,λi c k p e=>?_,r.tlen,r.tok,r.sinj,r.tinj,r.sep,r.dfr,λi k hi e=>?_,λi j t k k' es es' hi l=>?_,r.nb,r.ob⟩
 ·rcases f i k e with rfl | h0
  ·obtain ⟨b0,m⟩:=old i _ e;obtain ⟨d,a,_,_⟩:=r.blk i c b0 p m;exact ⟨d,a,trivial,λh=>absurd rfl h⟩
  ·exact r.blk i c k p h0
 ·rcases f i k e with rfl | h0
  ·trivial
  ·exact r.row i k hi h0
 ·rcases f i _ hi with d | d
  ·cases d
  ·rcases f j _ l with a | a
   ·cases a
   ·exact r.rinj _ _ _ _ _ _ _ d a
theorem swk_kill {h:AH} {env:List AV} {B B':List Blk} {T:List Nat} (k:KillL B B'):swk env (h.ext B T) env (h.ext B' T):=λ_ _ w g vs r f=>by
 refine ⟨g,Gh.le.refl g,?_,f⟩;refine r.let_go (bs:=h.blks++B') (by simp [AH.ext,k.len]) λj b d=>?_;rcases tz j h.blks.length with a | a
 ·right;simp only [AH.ext];rw [uj a] at d ⊢;exact d
 ·rw [ui a] at d;rcases k.get _ _ d with e | e
  ·exact .inl e
  ·right;simp only [AH.ext];rw [ui a];exact e
theorem swk_padB {h:AH} {env:List AV} {B B':List Blk} {T:List Nat} (b:B++[.dead]=B'):swk env (h.ext B T) env (h.ext B' T):=λ_ _ w g vs r d=>by
 subst b;have a:=r.adoptN .dead trivial (λ_ _ _ e=>by cases e);have e:(h.ext B T).new .dead=h.ext (B++[.dead]) T:=by simp [AH.ext,AH.new,uy]
 rw [e] at a;exact ⟨_,Gh.le_addS _ none,a,VL.mono (Gh.le_addS _ none) _ _ d⟩
theorem swk_padT {h:AH} {env:List AV} {B:List Blk} {T T':List Nat} {n:Nat} (d:T++[n]=T'):swk env (h.ext B T) env (h.ext B T'):=λ_ _ w g vs r b=>by
 subst d;have a:=r.addTok ⟨n,none,false⟩ (λ_ _ _ e=>by cases e) (λ_ _ e=>by cases e);have e:({ (h.ext B T) with toks:=(h.ext B T).toks++[n] }:AH)=h.ext B (T++[n]):=by simp [AH.ext,uy]
 rw [e] at a;exact ⟨_,Gh.le_addT _ _,a,VL.mono (Gh.le_addT _ _) _ _ b⟩
theorem swk_move {h:AH} {env b:List AV} {B B':List Blk} {T T':List Nat} {d j i k n n2 C t':Nat} {es:List (List AV)} (D:yF env (.tmp d)=some (.rsl (h.blks.length+j) (h.toks.length+i) k n)) (K:B[j]?=some (.row (h.toks.length+i) k es)) (N:es.length=n) (A:n=n2)
  (q:B.length=C) (m:T.length=t') (F:vZ (some d) env (.rsl (h.blks.length+C) (h.toks.length+t') k n2)=some b) (R:B.set j .dead++[.row (h.toks.length+t') k es]=B') (S:T.set i (n2+1)++[n2]=T') :
  swk env (h.ext B T) b (h.ext B' T'):=λ_ _ w g vs r E=>by
 subst A N q m R S;simp only [vZ,un] at F;subst F;have hd:d < env.length:=(uc.1 D).1;obtain ⟨v,p,H⟩:=E.get d _ D;have s:(h.ext B T).blk (h.blks.length+j)=some (.row (h.toks.length+i) k es):=by rw [yA];exact K
 have f:=H;simp only [V] at f;obtain ⟨a,c,rfl,_⟩:=f;obtain ⟨g',J,G,I⟩:=r.shrink (n:=es.length) (a':=a) s (uh _) (.inl rfl) H;have e:(h.ext B T).shr (h.blks.length+j) (h.toks.length+i) k es.length es=h.ext (B.set j .dead++[.row (h.toks.length+T.length) k es]) (T.set i (es.length+1)++[es.length]):=by
  simp only [AH.shr,AH.ext,AH.put,AH.new,AH.mk.injEq,uo];refine ⟨?_,?_⟩
  ·rw [uO _ _ (by omega),uq,uM (uh _)];simp
  ·rw [uO _ _ (by omega),uq];simp
 rw [e] at G;refine ⟨g',J,G,VL.setE (VL.mono J _ _ E) d _ λu l=>?_⟩;rw [p] at l;injection l with l;subst l;have O:(h.ext B T).blks.length=h.blks.length+B.length:=by simp [AH.ext]
 have Q:(h.ext B T).toks.length=h.toks.length+T.length:=by simp [AH.ext]
 rw [O,Q] at I;exact I

theorem swk_moveB {h:AH} {env:List AV} {B B':List Blk} {T T':List Nat} {jb o j i k n n2 R t':Nat} {es:List (List AV)} {cs cs':List AV} (m:B[jb]?=some (.cells cs)) (K:cs[o]?=some (.rsl (h.blks.length+j) (h.toks.length+i) k n)) (Q:B[j]?=some (.row (h.toks.length+i) k es)) (Y:es.length=n) (O:n=n2)
  (E:B.length=R) (s:T.length=t') (J:cs.set o (.rsl (h.blks.length+R) (h.toks.length+t') k n2)=cs') (hB:(B.set j .dead).set jb (.cells cs')++[.row (h.toks.length+t') k es]=B') (hT:T.set i (n2+1)++[n2]=T') :
  swk env (h.ext B T) env (h.ext B' T'):=λ_ _ w g vs r hv=>by
 subst O Y E s J hB hT;have I:(h.ext B T).blk (h.blks.length+j)=some (.row (h.toks.length+i) k es):=by rw [yA];exact Q
 have d:(h.ext B T).blks[h.blks.length+jb]?=some (.cells cs):=by
  simp only [AH.ext];rw [ui (by omega),uq];exact m
 have A:j ≠ jb:=by rintro rfl;rw [Q] at m;cases m
 have l:jb < B.length:=(uc.1 m).1;have H:h.blks.length+jb < g.σ.length:=by rw [r.slen];exact (uc.1 d).1
 obtain ⟨x,F⟩:∃x,g.σ[h.blks.length+jb]?=some x:=⟨_,ug H⟩
 cases x with
 | none=>exact (r.row _ _ F d).elim
 | some c =>
  obtain ⟨_,_,⟨us,t,k1,q⟩,_⟩:=r.blk _ c _ F d;obtain ⟨v,D,W⟩:=q.toVL.get o _ K;have f:=W;simp only [V] at f;obtain ⟨a,cc,rfl,_⟩:=f;obtain ⟨g',b,U,X⟩:=r.shrink (n:=es.length) (a':=a) I (uh _) (.inl rfl) W;have e:(h.ext B T).shr (h.blks.length+j) (h.toks.length+i) k es.length es=h.ext (B.set j .dead++[.row (h.toks.length+T.length) k es]) (T.set i (es.length+1)++[es.length]):=by
   simp only [AH.shr,AH.ext,AH.put,AH.new,AH.mk.injEq,uo];refine ⟨?_,?_⟩
   ·rw [uO _ _ (by omega),uq,uM (uh _)];simp
   ·rw [uO _ _ (by omega),uq];simp
  rw [e] at U;have Z:(h.ext B T).blks.length=h.blks.length+B.length:=by simp [AH.ext]
  have e2:(h.ext B T).toks.length=h.toks.length+T.length:=by simp [AH.ext]
  rw [Z,e2] at X;have hk:(h.ext (B.set j .dead++[.row (h.toks.length+T.length) k es]) (T.set i (es.length+1)++[es.length])).blks[h.blks.length+jb]?=some (.cells cs):=by
   simp only [AH.ext];rw [ui (by omega),uq,uj (by rw [uI];exact l),uK A];exact m
  have N:=b.sig _ _ F;have C:VA g' (cs.set o (.rsl (h.blks.length+B.length) (h.toks.length+T.length) k es.length)) us.toList:=VA.mk (VL.setE (VL.mono b _ _ q.toVL) o _ λu p=>by
   rw [D] at p;injection p with p;subst p;exact X) (by
   rw [ux];intro a G;rcases pM G with G | rfl
   ·have:=q.ones;rw [ux] at this;exact this a G
   ·rfl)
  have S:=U.putObj (k':=.cells (cs.set o (.rsl (h.blks.length+B.length) (h.toks.length+T.length) k es.length))) N hk (by simp) rfl rfl rfl rfl (λ_ _=>rfl) ⟨us,t,k1,C⟩;have e3:(h.ext (B.set j .dead++[.row (h.toks.length+T.length) k es]) (T.set i (es.length+1)++[es.length])).put (h.blks.length+jb) (.cells (cs.set o (.rsl (h.blks.length+B.length) (h.toks.length+T.length) k es.length)))=h.ext ((B.set j .dead).set jb (.cells (cs.set o (.rsl (h.blks.length+B.length) (h.toks.length+T.length) k es.length)))++[.row (h.toks.length+T.length) k es]) (T.set i (es.length+1)++[es.length]):=by
   simp only [AH.ext,AH.put,AH.mk.injEq,tW];rw [uO _ _ (by omega),uq,rk _ _ (by rw [uI];exact l)]
  rw [e3] at S;exact ⟨g',b,S,VL.mono b _ _ hv⟩

theorem ops_inl {P:Program} {b:Array Oper} {Q:List AV->AH->Prop} {o:Oper} {rest:List Oper} {env a:List AV} {h:AH} {f:FuncId} {args:List AV} {X:Type} {v:AV} {H':X->AH} (l:aG b o env=some true) (e:zw P o env h=.call f args)
  (hs:Spec P f args h λr hh=>r=v/\∃x,hh=H' x) (hd:vZ o.dst env v=some a) (i:∀x,zH P b Q rest a (H' x)):zH P b Q (o::rest) env h :=
 ops_call l e hs λr m ⟨d,x,g⟩=>by subst d;subst g;rw [xG hd];exact i x
theorem draw_callA {P:Program} {a:Array Oper} {Ns:List Nat} {F:Nat->AH->Prop} {Q:List AV->AH->Prop} {i:Nat} {o:Oper} {rest:List Oper} {env b:List AV} {h d:AH} {f:FuncId} {args:List AV} {v:AV} (m:anch a Ns i=true) (g:Ns.contains i=false) (e:FOk ((Region.before a).getD i 0) Ns F d) (p:aG a o env=some true) (l:zw P o env h=.call f args) (hs:Spec P f args h λr hh=>r=v/\hh=d)
  (hd:vZ o.dst env v=some b) (n:zY P a Ns F Q (i+1) rest b d):zY P a Ns F Q i (o::rest) env h :=
 ⟨v,d,.inl ⟨g,by simp only [AR,p,l];exact hs⟩,.inl m,.inr e,by rw [xG hd];exact n⟩
theorem iteF {ρ:Type} {c:Prop} [Decidable c] {a b:Option ρ} {res:ρ} {G:Prop} (d:(if c then a else b)=some res) (f:c->a=some res->G) (e:¬ c->b=some res->G):G:=by
 by_cases h:c
 ·rw [up h] at d;exact f h d
 ·rw [uu h] at d;exact e h d

section
variable {P:Program} {o:Oper} {env:List AV} {h:AH} {L:List Blk} {M:List Nat} {t kt et:TypeId} {x y z:Operand} {j:Nat} {es:List (AV×AV)} {c:Nat}
theorem e_insF {B:List Blk} {kv a:AV} (q:o.op=.insert t x y z) (l:P.underlying t=some (.map kt et)) (b:xe P kt kv kv=some true) (d:yF env x=some (.map (h.blks.length+j))) (v:L[j]?=some (.mapo es c)) (u:yF env y=some kv) (g:yF env z=some a)
  (n:aFind P kt kv es 0=some none) (e:L.set j (.mapo (es++[(kv,a.zcl)]) c)=B):vt P o env (h.ext L M)=some [(aundef,h.ext B M)]:=by
 obtain ⟨i,f⟩:=zO d;obtain ⟨p,r⟩:=zO u;obtain ⟨m,s⟩:=zO g;subst e;simp only [vt,q,zw,i,f,p,r,m,s,l,u5,ut,aMapPut,b,yA,v,n,oh,ext_put]
theorem e_lookF {a:IntKind} {b n:Int} {i:Nat} {v:AV} {ok:Bool} (s:o.op=.lookup t x y ok) (f:P.underlying t=some (.map kt et)) (u:P.underlying kt=some (.int a)) (m:yF env x=some (.map (h.blks.length+j))) (l:L[j]?=some (.mapo es c)) (w:yF env y=some (.int a b)) (e:b=n)
  (g:aFind P kt (.int a n) es 0=some (some (i,v))):zw P o env (h.ext L M)=.ok (withOk ok v true) (h.ext L M):=by
 obtain ⟨A,p⟩:=zO m;obtain ⟨r,q⟩:=zO w;subst e;have d:xe P kt (.int a b) (.int a b)=some true:=by simp [xe,u,aEq1]
 simp only [zw,s,A,p,r,q,f,u5,ut,aLookup,d,yA,l,g,oo]
theorem e_lookN {a:IntKind} {b:Int} {d:AV} {ok:Bool} (q:o.op=.lookup t x y ok) (m:P.underlying t=some (.map kt et)) (s:P.underlying kt=some (.int a)) (f:yF env x=some (.map (h.blks.length+j))) (v:L[j]?=some (.mapo es c)) (u:yF env y=some (.int a b))
  (i:aZeroM P et=some d) (n:aFind P kt (.int a b) es 0=some none):zw P o env (h.ext L M)=.ok (withOk ok d false) (h.ext L M):=by
 obtain ⟨l,g⟩:=zO f;obtain ⟨p,r⟩:=zO u;have e:xe P kt (.int a b) (.int a b)=some true:=by simp [xe,s,aEq1]
 simp only [zw,q,l,g,p,r,m,u5,ut,aLookup,e,yA,v,n,i,oo]
end
theorem aFind_nil {P:Program} {kt:TypeId} {k:AV} {i:Nat}:aFind P kt k [] i=some none:=rfl
theorem aFind_eq {P:Program} {kt:TypeId} {a:IntKind} {n:Int} {v:AV} {es:List (AV×AV)} {i:Nat} (b:P.underlying kt=some (.int a)):aFind P kt (.int a n) ((.int a n,v)::es) i=some (some (i,v)):=by
 have:xe P kt (.int a n) (.int a n)=some true:=by simp [xe,b,aEq1]
 simp only [aFind,this]
theorem yB {P:Program} {kt:TypeId} {a:IntKind} {b n:Int} {v:AV} {es:List (AV×AV)} {i:Nat} {r:Option (Nat×AV)} (f:P.underlying kt=some (.int a)) (d:¬ b=n) (e:aFind P kt (.int a b) es (i+1)=some r):aFind P kt (.int a b) ((.int a n,v)::es) i=some r:=by
 have:xe P kt (.int a b) (.int a n)=some false:=by simp [xe,f,aEq1,d]
 simp only [aFind,this,e]
theorem aKey_int {P:Program} {kt:TypeId} {a:IntKind} {n:Int} (b:P.underlying kt=some (.int a)):xe P kt (.int a n) (.int a n)=some true:=by simp [xe,b,aEq1]

section
variable {α:Type} {row:α->List AV} {L:List α} {k:Nat} {P:Program} {o:Oper} {env:List AV} {h:AH}
theorem e_idxS {t e:TypeId} {x i:Operand} {id q n p:Nat} {b:IntKind} {z:Int} (g:o.op=.indexAddr t x i) (f:El P t e k) (d:yF env x=some (.rsuf id q k n p)) (hi:yF env i=some (.int b z)) (a:0<=z/\z < (n - p:Nat)) :
  zw P o env h=.ok (.rptr id q k n ((p+z.toNat) * k+0)) h:=s_indexAddr g f d hi (by simp only [qy];rw [up ⟨trivial,a.1,a.2⟩];rfl)
theorem idxS {n:Int} {p:Nat} {y:α} (h:yu (L.drop p) n=some y):0<=n/\n < (L.length - p:Nat)/\L[p+n.toNat]?=some y:=by
 obtain ⟨d,a,b⟩:=wv h;rw [sB] at a;rw [uF] at b;exact ⟨d,a,b⟩
end
theorem wz {h0 h a:AH} {K:AV->AH->Prop} {v v':AV} (g:wk h0 [v] h [v'] a) (f:finK h0 K v' a):finK h0 K v h:=by
 obtain ⟨r,b,d,e⟩:=f;exact ⟨r,b,g.trans d,e⟩
theorem ext_bl {h:AH} {B:List Blk} {T:List Nat}:(h.ext B T).blks.length=h.blks.length+B.length:=by simp [AH.ext]
theorem x8 {h:AH} {B:List Blk} {T:List Nat}:(h.ext B T).toks.length=h.toks.length+T.length:=by simp [AH.ext]
theorem row_news {P:Program} {f:FuncId} {b:List AV} {h:AH} {B B' L:List Blk} {T T' M:List Nat} {v v':AV} (s:Spec P f b (h.ext B T) (λa hh=>a=v/\hh=(h.ext B T).ext L M)) (e:v=v') (d:B++L=B') (g:T++M=T') :
  Spec P f b (h.ext B T) (λa hh=>a=v'/\hh=h.ext B' T'):=by
 subst e d g;rw [zQ] at s;exact s

theorem row_newv {P:Program} {f:FuncId} {xs:List AV} {h:AH} {B B' L:List Blk} {T T' M:List Nat} {v v':AV} (s:Spec P f xs (h.ext B T) (λa hh=>a=v/\hh=(h.ext B T).ext L M)) (d:v=v') (b:B++L=B') (e:T++M=T') :
  Spec P f xs (h.ext B T) (λa hh=>a=v'/\hh=h.ext B' T'):=row_news s d b e
def HdS (h:AH) (B:List Blk) (k:Nat) (es:List (List AV)) (a:AV):Prop:=(∃j i:Nat,a=.rsl (h.blks.length+j) (h.toks.length+i) k es.length/\B[j]?=some (Blk.row (h.toks.length+i) k es)) \/ (a=.osl none k []/\es=[])
theorem hds_row {h:AH} {B:List Blk} {k n j i:Nat} {es:List (List AV)} (b:B[j]?=some (.row (h.toks.length+i) k es)) (a:es.length=n):HdS h B k es (.rsl (h.blks.length+j) (h.toks.length+i) k n):=.inl ⟨j,i,by rw [a],b⟩
theorem hds_nil {h:AH} {B:List Blk} {k:Nat}:HdS h B k [] (.osl none k []):=.inr ⟨rfl,rfl⟩
theorem HdS.tok {B0:Nat} {w0 w:World} {g:Gh} {h:AH} {B:List Blk} {T:List Nat} (r:Rel B0 w0 g (h.ext B T) w) {k:Nat} {es:List (List AV)} {a:AV} (hd:HdS h B k es a) {v:Value} (p:V g a v) :
  ∃t:TI,(∃x c,v=.slice x es.length c/\es.length<=c/\c<=maxLen/\rowHd t x es.length c k)/\t.row=true/\t.n=es.length/\(∀e ∈ es,e.length=k)/\es.flatten.all AV.pure=true /\
   (es=[] \/ ∃b o e cs ty,t.loc=some (b,o+es.length * k,e)/\w.heap[b]?=some (.cells cs ty (0,0))/\VA g es.flatten ((cs.toList.drop o).take (es.length * k))/\o+es.length * k<=cs.size/\∀j,o<=j->g.Φ b j=none) /\
   ((t=⟨0,none,true⟩) \/ ∃j i:Nat,B[j]?=some (Blk.row (h.toks.length+i) k es)/\g.τ[h.toks.length+i]?=some t):=by
 rcases hd with ⟨j,i,rfl,H⟩ | ⟨rfl,rfl⟩
 ·have u:(h.ext B T).blk (h.blks.length+j)=some (.row (h.toks.length+i) k es):=by rw [yA];exact H
  obtain ⟨_,G,m,E,C,f,q,d⟩:=r.rowAt u;simp only [V] at p;obtain ⟨x,c,rfl,F,s,I,l,A⟩:=p;obtain rfl:G=I:=by rw [m] at l;injection l
  exact ⟨G,⟨x,c,rfl,F,s,A⟩,E,C,f,q,d,.inr ⟨j,i,H,m⟩⟩
 ·simp only [V] at p;obtain ⟨x,c,rfl,F,s,_,D⟩:=p;have D:c=0:=D;exact ⟨⟨0,none,true⟩,⟨x,c,rfl,F,s,rfl,uh _,.inl ⟨rfl,D⟩⟩,rfl,rfl,by simp,by simp,.inl rfl,.inl rfl⟩
end Go.Vv
