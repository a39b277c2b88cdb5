/- Calls walked in place: blocks are let go, rows are moved, the heap behind is told by a state. -/
import Derived.Test.YtcdgimmdofbjdaaGreatVvSh
set_option linter.all false
open Option renaming some→aa
open Option renaming none→ac
namespace Go.Vv
open Go Go.RowKit
variable{a b B B':List q6}{w0 w:World}{T T':List Nat}{n i:Nat}{env' cs cs' args:List AV}{ops:Array Oper}{Q:List AV->AH->Prop}{rest:List Oper}{f:FuncId}{v v':AV}{κ:IntKind}{kn:Int}{ok:Bool}

inductive db:List q6->List q6->Prop
 |nil:db [] []
 |g8 {x:q6} {a b:List q6} (k:db a b):db (x::a) (x::b)
 |dead {x:q6} {a b:List q6} (k:db a b):db (x::a) (.dead::b)
theorem db.len(k:db a b):b.length=a.length:=by induction k<;>simp_all
theorem db.get(k:db a b):∀(j:Nat)(x:q6),b[j]?=aa x->x=.dead \/ a[j]?=aa x:=by
 induction k with
 |nil=>intro j x h;simp at h
 |g8 _ ih =>
  grind
 |dead _ ih =>
  grind
theorem Rel.zzz{B:Nat}{g:Gh}{h:AH}(r:Rel B w0 g h w){bs:List q6}(u:bs.length=h.zh.length)(m:∀(j:Nat)(b:q6),bs[j]?=aa b->b=.dead \/ h.zh[j]?=aa b):Rel B w0 g { h with zh:=bs } w:=by
 have old:∀(j:Nat)(b:q6),bs[j]?=aa b->∃b0,h.zh[j]?=aa b0:=λj b q=>by
  grind
 refine⟨r.below,r.dA,r.eK,by rw[r.fi];exact u.symm,λi c k s l=>?_,r.fA,r.tok,r.eF,r.fS,r.sep,r.eJ,λi k hi l=>?_,λi j t k k' es es' hi q=>?_⟩
 ·rcases m i k l with rfl|h0
  ·obtain⟨b0,p⟩:=old i _ l;obtain⟨e,d,_,_⟩:=r.g7 i c b0 s p;exact⟨e,d,trivial,λh=>absurd rfl h⟩
  ·exact r.g7 i c k s h0
 ·rcases m i k l with rfl|h0
  ·trivial
  ·exact r.row i k hi h0
 ·rcases m i _ hi with e|e
  ·cases e
  ·rcases m j _ q with d|d
   ·cases d
   ·exact r.fX _ _ _ _ _ _ _ e d
theorem qy{h:AH}{env:List AV}(k:db B B'):ce env (h.ext B T) env (h.ext B' T):=λ_ _ w g vs r m=>by
 refine⟨g,Gh.le.refl g,?_,m⟩;refine r.zzz (bs:=h.zh++B') (by simp[AH.ext,k.len]) λj b d=>?_;rcases kR j h.zh.length with e|e
 ·right;simp only[AH.ext];rw[ol e]at d ⊢;exact d
 ·rw[pa e]at d;rcases k.get _ _ d with l|l
  ·simp_all
  ·right;simp only[AH.ext];rw[pa e];exact l
theorem zaE{h:AH}{env:List AV}(m:B++[.dead]=B'):ce env (h.ext B T) env (h.ext B' T):=λ_ _ w g vs r l=>by
 subst m;have d:=r.aH .dead trivial (λ_ _ _ e=>by cases e);have e:(h.ext B T).new .dead=h.ext (B++[.dead]) T:=by simp[AH.ext,AH.new,lf]
 rw[e]at d;exact⟨_,Gh.fd _ ac,d,VL.mono (Gh.fd _ ac) _ _ l⟩
theorem zcb{h:AH}{env:List AV}(m:T++[n]=T'):ce env (h.ext B T) env (h.ext B T'):=λ_ _ w g vs r l=>by
 subst m;have d:=r.dG ⟨n,ac,false⟩ (λ_ _ _ e=>by cases e) (λ_ _ e=>by cases e);have e:({ (h.ext B T)with zs:=(h.ext B T).zs++[n] }:AH)=h.ext B (T++[n]):=by simp[AH.ext,lf]
 rw[e]at d;exact⟨_,Gh.fu _ _,d,VL.mono (Gh.fu _ _) _ _ l⟩
theorem zaF{h:AH}{env:List AV}{d j k n2 E t':Nat}{es:List (List AV)}(H:yy env (.tmp d)=aa (.fo (h.zh.length+j) (h.zs.length+i) k n))(K:B[j]?=aa (.row (h.zs.length+i) k es))(O:es.length=n)(A:n=n2)
  (p:B.length=E) (q:T.length=t') (G:tX (aa d) env (.fo (h.zh.length+E) (h.zs.length+t') k n2)=aa env') (R:B.set j .dead++[.row (h.zs.length+t') k es]=B') (N:T.set i (n2+1)++[n2]=T') :
  ce env (h.ext B T) env' (h.ext B' T'):=λ_ _ w g vs r I=>by
 subst A O p q R N;simp only[tX,p5]at G;subst G;have hd:d<env.length:=(tu.1 H).1;obtain⟨v,s,J⟩:=I.get d _ H;have C:(h.ext B T).g7 (h.zh.length+j)=aa (.row (h.zs.length+i) k es):=by rw[zX];exact K
 have l:=J;simp only[V]at l;obtain⟨a,c,rfl,_⟩:=l;obtain⟨g',F,D,U⟩:=r.shrink (n:=es.length) (a':=a) C (ob _) (.inl rfl) J;have e:(h.ext B T).shr (h.zh.length+j) (h.zs.length+i) k es.length es=h.ext (B.set j .dead++[.row (h.zs.length+T.length) k es]) (T.set i (es.length+1)++[es.length]):=by
  simp only[AH.shr,AH.ext,AH.put,AH.new,AH.mk.injEq,oA]
  simp_all
 rw[e]at D;refine⟨g',F,D,VL.dY (VL.mono F _ _ I) d _ λu m=>?_⟩;rw[s]at m;injection m with m;subst m;have W:(h.ext B T).zh.length=h.zh.length+B.length:=by simp[AH.ext]
 have S:(h.ext B T).zs.length=h.zs.length+T.length:=by simp[AH.ext]
 simp_all

theorem sU{h:AH}{env:List AV}{jb o j k n2 U t':Nat}{es:List (List AV)}(p:B[jb]?=aa (.cells cs))(F:cs[o]?=aa (.fo (h.zh.length+j) (h.zs.length+i) k n))(W:B[j]?=aa (.row (h.zs.length+i) k es))(hn:es.length=n)(K:n=n2)
  (A:B.length=U) (E:T.length=t') (J:cs.set o (.fo (h.zh.length+U) (h.zs.length+t') k n2)=cs') (hB:(B.set j .dead).set jb (.cells cs')++[.row (h.zs.length+t') k es]=B') (hT:T.set i (n2+1)++[n2]=T') :
  ce env (h.ext B T) env (h.ext B' T'):=λ_ _ w g vs r hv=>by
 subst K hn A E J hB hT;have O:(h.ext B T).g7 (h.zh.length+j)=aa (.row (h.zs.length+i) k es):=by rw[zX];exact W
 have l:(h.ext B T).zh[h.zh.length+jb]?=aa (.cells cs):=by
  simp only[AH.ext];rw[pa (by omega),m3];exact p
 have C:j≠jb:=by rintro rfl;rw[W]at p;cases p
 have D:jb<B.length:=(tu.1 p).1;have G:h.zh.length+jb<g.σ.length:=by rw[r.fi];exact(tu.1 l).1
 obtain⟨x,N⟩:∃x,g.σ[h.zh.length+jb]?=aa x:=⟨_,rk G⟩
 cases x with
 |none=>exact(r.row _ _ N l).elim
 |some c =>
  obtain⟨_,_,⟨us,t,k1,k2⟩,_⟩:=r.g7 _ c _ N l;obtain⟨v,H,Z⟩:=k2.f8.get o _ F;have m:=Z;simp only[V]at m;obtain⟨a,cc,rfl,_⟩:=m;obtain⟨g',d,S,X⟩:=r.shrink (n:=es.length) (a':=a) O (ob _) (.inl rfl) Z;have e:(h.ext B T).shr (h.zh.length+j) (h.zs.length+i) k es.length es=h.ext (B.set j .dead++[.row (h.zs.length+T.length) k es]) (T.set i (es.length+1)++[es.length]):=by
   simp only[AH.shr,AH.ext,AH.put,AH.new,AH.mk.injEq,oA];refine⟨?_,?_⟩
   ·simp_all
   ·simp_all
  rw[e]at S;have e1:(h.ext B T).zh.length=h.zh.length+B.length:=by simp[AH.ext]
  have e2:(h.ext B T).zs.length=h.zs.length+T.length:=by simp[AH.ext]
  rw[e1,e2]at X;have hk:(h.ext (B.set j .dead++[.row (h.zs.length+T.length) k es]) (T.set i (es.length+1)++[es.length])).zh[h.zh.length+jb]?=aa (.cells cs):=by
   simp only[AH.ext];rw[pa (by omega),m3,ol (by rw[lm];exact D),lR C];exact p
  have s:=d.sig _ _ N;have I:VA g' (cs.set o (.fo (h.zh.length+B.length) (h.zs.length+T.length) k es.length)) us.toList:=VA.mk (VL.dY (VL.mono d _ _ k2.f8) o _ λu q=>by
   rw[H]at q;injection q with q;subst q;exact X) (by
   rw[oB];intro a R;rcases jn R with R|rfl
   ·have:=k2.dj;rw[oB]at this;exact this a R
   ·rfl)
  have Y:=S.putObj (k':=.cells (cs.set o (.fo (h.zh.length+B.length) (h.zs.length+T.length) k es.length))) s hk (by simp) rfl rfl rfl rfl (λ_ _=>rfl) ⟨us,t,k1,I⟩;have e3:(h.ext (B.set j .dead++[.row (h.zs.length+T.length) k es]) (T.set i (es.length+1)++[es.length])).put (h.zh.length+jb) (.cells (cs.set o (.fo (h.zh.length+B.length) (h.zs.length+T.length) k es.length)))=h.ext ((B.set j .dead).set jb (.cells (cs.set o (.fo (h.zh.length+B.length) (h.zs.length+T.length) k es.length)))++[.row (h.zs.length+T.length) k es]) (T.set i (es.length+1)++[es.length]):=by
   simp only[AH.ext,AH.put,AH.mk.injEq,kA];rw[jg _ _ (by omega),m3,ij _ _ (by simp_all)]
  rw[e3]at Y;exact⟨g',d,Y,VL.mono d _ _ hv⟩

theorem zgz{h:AH}{env:List AV}{jb o k m:Nat}(K:B[jb]?=aa (.cells cs))(D:cs[o]?=aa (.gW ac k []))(V:B.length=n)(W:T.length=m)
  (H:cs.set o (.fo (h.zh.length+n) (h.zs.length+m) k 0)=cs') (Z:B.set jb (.cells cs')++[.row (h.zs.length+m) k []]=B') (U:T++[0]=T') :
  ce env (h.ext B T) env (h.ext B' T'):=λ_ _ w g vs r Y=>by
 subst V W H Z U;have l:g.τ.length=h.zs.length+T.length:=by rw[r.fA];simp[AH.ext]
 have d:=(g.fu ⟨0,ac,true⟩).trans (Gh.fd _ ac);have p:(h.ext B T).zh[h.zh.length+jb]?=aa (.cells cs):=by
  simp only[AH.ext];rw[pa (by omega),m3];exact K
 have s:jb<B.length:=(tu.1 K).1;have E:h.zh.length+jb<g.σ.length:=by rw[r.fi];exact(tu.1 p).1
 obtain⟨x,I⟩:∃x,g.σ[h.zh.length+jb]?=aa x:=⟨_,rk E⟩
 cases x with
 |none=>exact(r.row _ _ I p).elim
 |some c =>
  obtain⟨_,_,⟨us,t,k1,k2⟩,_⟩:=r.g7 _ c _ I p;obtain⟨v,F,hV⟩:=k2.f8.get o _ D;have N:=r.ey ⟨0,ac,true⟩ k [] (λ_ _ _ h=>by cases h) (λ_ _ h=>by cases h) zgK;have e:(({ (h.ext B T)with zs:=(h.ext B T).zs++[0] }:AH).new (.row g.τ.length k []))=h.ext (B++[.row (h.zs.length+T.length) k []]) (T++[0]):=by
   rw[l];simp[AH.ext,AH.new,lf]
  rw[e]at N;have O:=hV.zzM (q:=h.zh.length+B.length);rw[l]at O;have S:(h.ext (B++[.row (h.zs.length+T.length) k []]) (T++[0])).zh[h.zh.length+jb]?=aa (.cells cs):=by
   simp only[AH.ext];rw[pa (by omega),m3,ol s];exact K
  have C:=d.sig _ _ I;have G:VA ((g.fI ⟨0,ac,true⟩).ft ac) (cs.set o (.fo (h.zh.length+B.length) (h.zs.length+T.length) k 0)) us.toList:=VA.mk (VL.dY (VL.mono d _ _ k2.f8) o _ λu A=>by
   rw[F]at A;injection A with A;subst A;exact O) (by
   rw[oB];intro a J;rcases jn J with J|rfl
   ·have:=k2.dj;rw[oB]at this;exact this a J
   ·rfl)
  have R:=N.putObj (k':=.cells (cs.set o (.fo (h.zh.length+B.length) (h.zs.length+T.length) k 0))) C S (by simp) rfl rfl rfl rfl (λ_ _=>rfl) ⟨us,t,k1,G⟩;have X:(h.ext (B++[.row (h.zs.length+T.length) k []]) (T++[0])).put (h.zh.length+jb) (.cells (cs.set o (.fo (h.zh.length+B.length) (h.zs.length+T.length) k 0)))=h.ext (B.set jb (.cells (cs.set o (.fo (h.zh.length+B.length) (h.zs.length+T.length) k 0)))++[.row (h.zs.length+T.length) k []]) (T++[0]):=by
   simp only[AH.ext,AH.put,AH.mk.injEq,kA];rw[jg _ _ (by omega),m3,ij _ _ s]
  rw[X]at R;exact⟨_,d,R,VL.mono d _ _ Y⟩

theorem yP{P:Program}{o:Oper}{env:List AV}{h:AH}{X:Type}{H':X->AH}(l:aG ops o env=aa true)(g:zj P o env h=.call f args)
  (hs:Spec P f args h λr hh=>r=v/\∃x,hh=H' x) (hd:tX o.dst env v=aa env') (d:∀x,zx P ops Q rest env' (H' x)):zx P ops Q (o::rest) env h :=
 pU l g hs λr p ⟨e,x,m⟩=>by subst e;subst m;rw[yU hd];exact d x
theorem oj{P:Program}{Ns:List Nat}{F:Nat->AH->Prop}{o:Oper}{env:List AV}{h d:AH}(p:zse ops Ns i=true)(m:Ns.contains i=false)(q:f0 ((Region.before ops).getD i 0) Ns F d)(l:aG ops o env=aa true)(g:zj P o env h=.call f args)(hs:Spec P f args h λr hh=>r=v/\hh=d)
  (hd:tX o.dst env v=aa env') (e:zI P ops Ns F Q (i+1) rest env' d):zI P ops Ns F Q i (o::rest) env h :=
 ⟨v,d,.inl ⟨m,by simp only[AR,l,g];exact hs⟩,.inl p,.inr q,by rw[yU hd];exact e⟩
theorem ztU{ρ:Type}{c:Prop}[Decidable c]{a b:Option ρ}{res:ρ}{G:Prop}(g:(if c then a else b)=aa res)(e:c->a=aa res->G)(d:¬c->b=aa res->G):G:=by
 grind

section
variable{P:Program}{o:Oper}{env:List AV}{h:AH}{L:List q6}{M:List Nat}{t kt et:TypeId}{x y z:Operand}{j:Nat}{es:List (AV×AV)}{c:Nat}
theorem zhy{kv a:AV}(l:o.op=.insert t x y z)(C:P.underlying t=aa (.map kt et))(d:xp P kt kv kv=aa true)(F:yy env x=aa (.map (h.zh.length+j)))(m:L[j]?=aa (.q7 es c))(p:yy env y=aa kv)(r:yy env z=aa a)
  (e:sK P kt kv es 0=aa ac) (D:L.set j (.q7 (es++[(kv,a.cV)]) c)=B):xN P o env (h.ext L M)=aa [(wb,h.ext B M)]:=by
 obtain⟨u,q⟩:=zF F;obtain⟨E,s⟩:=zF p;obtain⟨A,g⟩:=zF r;subst D;simp only[xN,l,zj,u,q,E,s,A,g,C,lB,oS,zbJ,d,zX,m,e,oh,vU]
theorem zdu{n:Int}(l:o.op=.lookup t x y ok)(u:P.underlying t=aa (.map kt et))(e:P.underlying kt=aa (.int κ))(C:yy env x=aa (.map (h.zh.length+j)))(m:L[j]?=aa (.q7 es c))(p:yy env y=aa (.int κ kn))(D:kn=n)
  (g:sK P kt (.int κ n) es 0=aa (aa (i,v))):zj P o env (h.ext L M)=.ok (t6 ok v true) (h.ext L M):=by
 obtain⟨s,q⟩:=zF C;obtain⟨A,r⟩:=zF p;subst D;have d:xp P kt (.int κ kn) (.int κ kn)=aa true:=by simp[xp,e,m5]
 simp only[zj,l,s,q,A,r,u,lB,oS,oV,d,zX,m,g,oo]
theorem zrY{d:AV}(m:o.op=.lookup t x y ok)(A:P.underlying t=aa (.map kt et))(g:P.underlying kt=aa (.int κ))(D:yy env x=aa (.map (h.zh.length+j)))(p:L[j]?=aa (.q7 es c))(q:yy env y=aa (.int κ kn))
  (E:ut P et=aa d) (l:sK P kt (.int κ kn) es 0=aa ac):zj P o env (h.ext L M)=.ok (t6 ok d false) (h.ext L M):=by
 obtain⟨u,r⟩:=zF D;obtain⟨C,s⟩:=zF q;have e:xp P kt (.int κ kn) (.int κ kn)=aa true:=by simp[xp,g,m5]
 simp only[zj,m,u,r,C,s,A,lB,oS,oV,e,zX,p,l,E,oo]
end
theorem pE{P:Program}{kt:TypeId}{k:AV}:sK P kt k [] i=aa ac:=rfl
theorem zba{P:Program}{kt:TypeId}{n:Int}{es:List (AV×AV)}(d:P.underlying kt=aa (.int κ)):sK P kt (.int κ n) ((.int κ n,v)::es) i=aa (aa (i,v)):=by
 have:xp P kt (.int κ n) (.int κ n)=aa true:=by simp[xp,d,m5]
 simp only[sK,this]
theorem yv{P:Program}{kt:TypeId}{n:Int}{es:List (AV×AV)}{r:Option (Nat×AV)}(d:P.underlying kt=aa (.int κ))(g:¬kn=n)(e:sK P kt (.int κ kn) es (i+1)=aa r):sK P kt (.int κ kn) ((.int κ n,v)::es) i=aa r:=by
 have:xp P kt (.int κ kn) (.int κ n)=aa false:=by simp[xp,d,m5,g]
 simp only[sK,this,e]
theorem za7{P:Program}{kt:TypeId}{n:Int}(d:P.underlying kt=aa (.int κ)):xp P kt (.int κ n) (.int κ n)=aa true:=by simp[xp,d,m5]

section
variable{α:Type}{row:α->List AV}{L:List α}{k:Nat}{P:Program}{o:Oper}{env:List AV}{h:AH}
theorem zeK{t e:TypeId}{x i:Operand}{id q p:Nat}{l:IntKind}{z:Int}(g:o.op=.indexAddr t x i)(m:El P t e k)(r:yy env x=aa (.ep id q k n p))(hi:yy env i=aa (.int l z))(d:0<=z/\z<(n-p:Nat)) :
  zj P o env h=.ok (.fW id q k n ((p+z.toNat)*k+0)) h:=zap g m r hi (by simp only[tA];rw[nK ⟨trivial,d.1,d.2⟩];rfl)
theorem zsl{n:Int}{p:Nat}{y:α}(h:zR (L.drop p) n=aa y):0<=n/\n<(L.length-p:Nat)/\L[p+n.toNat]?=aa y:=by
 obtain⟨e,d,g⟩:=wN h
 grind
end
theorem xX{h0 h d:AH}{K:AV->AH->Prop}(e:wk h0 [v] h [v'] d)(g:nQ h0 K v' d):nQ h0 K v h:=by
 obtain⟨r,l,k1,k2⟩:=g;exact⟨r,l,e.trans k1,k2⟩
theorem xn{h:AH}:(h.ext B T).zh.length=h.zh.length+B.length:=by simp[AH.ext]
theorem rn{h:AH}:(h.ext B T).zs.length=h.zs.length+T.length:=by simp[AH.ext]
theorem zoo{P:Program}{a5:List AV}{h:AH}{L:List q6}{M:List Nat}(s:Spec P f a5 (h.ext B T) (λd hh=>d=v/\hh=(h.ext B T).ext L M))(e:v=v')(l:B++L=B')(g:T++M=T') :
  Spec P f a5 (h.ext B T) (λd hh=>d=v'/\hh=h.ext B' T'):=by
 subst e l g;rw[x5]at s;exact s

theorem zon{P:Program}{xs:List AV}{h:AH}{L:List q6}{M:List Nat}(s:Spec P f xs (h.ext B T) (λd hh=>d=v/\hh=(h.ext B T).ext L M))(e:v=v')(l:B++L=B')(g:T++M=T') :
  Spec P f xs (h.ext B T) (λd hh=>d=v'/\hh=h.ext B' T'):=zoo s e l g
def HdS(h:AH)(B:List q6)(k:Nat)(es:List (List AV))(a:AV):Prop:=(∃j i:Nat,a=.fo (h.zh.length+j) (h.zs.length+i) k es.length/\B[j]?=aa (q6.row (h.zs.length+i) k es)) \/ (a=.gW ac k []/\es=[])
theorem pm{h:AH}{k j:Nat}{es:List (List AV)}(d:B[j]?=aa (.row (h.zs.length+i) k es))(e:es.length=n):HdS h B k es (.fo (h.zh.length+j) (h.zs.length+i) k n):=.inl ⟨j,i,by rw[e],d⟩
theorem zdj{h:AH}{k:Nat}:HdS h B k [] (.gW ac k []):=.inr ⟨rfl,rfl⟩
theorem HdS.tok{B0:Nat}{g:Gh}{h:AH}(r:Rel B0 w0 g (h.ext B T) w){k:Nat}{es:List (List AV)}{a:AV}(hd:HdS h B k es a){v:Value}(m:V g a v) :
  ∃t:TI,(∃x c,v=.slice x es.length c/\es.length<=c/\c<=maxLen/\cr t x es.length c k)/\t.row=true/\t.n=es.length/\(∀e∈es,e.length=k)/\es.flatten.all AV.pure=true /\
   (es=[] \/ ∃b o e cs ty,t.loc=aa (b,o+es.length*k,e)/\w.heap[b]?=aa (.cells cs ty (0,0))/\VA g es.flatten ((cs.toList.drop o).take (es.length*k))/\o+es.length*k<=cs.size/\∀j,o<=j->g.Φ b j=ac) /\
   ((t=⟨0,ac,true⟩) \/ ∃j i:Nat,B[j]?=aa (q6.row (h.zs.length+i) k es)/\g.τ[h.zs.length+i]?=aa t):=by
 rcases hd with⟨j,i,rfl,A⟩|⟨rfl,rfl⟩
 ·have l:(h.ext B T).g7 (h.zh.length+j)=aa (.row (h.zs.length+i) k es):=by rw[zX];exact A
  obtain⟨_,G,E,F,C,p,u,q⟩:=r.rowAt l;simp only[V]at m
  grind
 ·simp only[V]at m;obtain⟨x,c,rfl,D,s,_,d⟩:=m;have d:c=0:=d;exact⟨⟨0,ac,true⟩,⟨x,c,rfl,D,s,rfl,ob _,.inl ⟨rfl,d⟩⟩,rfl,rfl,by simp,by simp,.inl rfl,.inl rfl⟩
end Go.Vv
namespace Go.Vv
open Go

theorem zsG{B0:Nat}{w0 w w1:World}{g1 g:Gh}{h:AH}{B:List q6}{T:List Nat}{k:Nat}{es:List (List AV)}{a:AV}{x:Value}(r1:Rel B0 w0 g1 h w1)(hg:g1.le g)(r:Rel B0 w0 g (h.ext B T) w)(h1:HdS h B k es a)(hV1:V g a x) :
  ∃g',g1.le g'/\Rel B0 w0 g' (h.ext [.row h.zs.length k es] [es.length]) w/\V g' (.fo h.zh.length h.zs.length k es.length) x/\(∀b v,b.low h.zh.length h.zs.length=true->V g b v->V g' b v)/\∀c,c∈g.δ->c∈g'.δ:=by
 obtain⟨t1,⟨x1,c1,rfl,a1,b1,e1⟩,tr1,tn1,hl1,hp1,hrow1,ho1⟩:=HdS.tok r h1 hV1;have hcut:(h.ext B T).cut h.zh.length h.zs.length=h:=by
  simp[AH.cut,AH.ext]
 have rc:=r.cut h.zh.length h.zs.length (λi k hi hk=>by
  have hi':i<h.zh.length:=hi;have hk':h.zh[i]?=aa k:=by simp only[AH.ext]at hk;rwa[ol hi']at hk
  have:=r1.fJ hk';rw[r1.fi,r1.fA]at this;exact this)
 rw[hcut]at rc;have hlec:g1.le (g.cut h.zh.length h.zs.length):=by
  have:=Gh.aC hg;rw[r1.fi,r1.fA]at this;exact this
 have hlow:∀b v,b.low h.zh.length h.zs.length=true->V g b v->V (g.cut h.zh.length h.zs.length) b v:=λb v hb hv=>by
  have:=VL.cut (n:=h.zh.length) (m:=h.zs.length) [b] [v] (by simp[zB,hb]) (by simp only[VL];exact⟨v,[],rfl,hv,rfl⟩);simp only[VL]at this
  simp_all
 generalize hgc:g.cut h.zh.length h.zs.length=gc at rc hlec hlow;have hgcτ:gc.τ=g.τ.take h.zs.length:=by rw[<- hgc];rfl
 have hgcσ:gc.σ=g.σ.take h.zh.length:=by rw[<- hgc];rfl
 have hgcΦ:gc.Φ=g.Φ:=by rw[<- hgc];rfl
 have tget:∀(i:Nat)(t:TI),gc.τ[i]?=aa t->g.τ[i]?=aa t/\i<h.zs.length:=λi t ht=>by
  grind
 have sget:∀(i:Nat)(c:Option Nat),gc.σ[i]?=aa c->g.σ[i]?=aa c:=λi c hc=>by
  grind
 have loc:(∀b l e,t1.loc=aa (b,l,e)->ed gc.Φ B0 w b l e)/\∀b x,t1.loc=aa (b,x)->(∀(j:Nat)(u:TI) (y:Nat×Nat),gc.τ[j]?=aa u->u.loc≠aa (b,y))/\(∀(j c:Nat),gc.σ[j]?=aa (aa c)->b≠c):=by
  rcases ho1 with rfl|⟨j,i,_,ht⟩
  ·simp_all
  ·refine⟨λb l e hl=>by rw[hgcΦ];exact(r.tok _ _ ht).2 b l e hl,λb x hx=>⟨λj' u y hu hy=>?_,λj' c hc=>r.sep _ _ _ _ _ _ (sget _ _ hc) ht hx⟩⟩;obtain⟨hu',hlt⟩:=tget _ _ hu;have:=r.fS _ _ _ _ _ _ _ hu' ht hy hx;omega
 have tl:gc.τ.length=h.zs.length:=rc.fA;have sl:gc.σ.length=h.zh.length:=rc.fi;have hleA:gc.le ((gc.fI t1).ft ac):=(gc.fu t1).trans (Gh.fd _ ac);have rowok:eA ((gc.fI t1).ft ac) w gc.τ.length k es:=by
  refine⟨t1,by simp[Gh.fI,Gh.ft],tr1,tn1,hl1,hp1,hrow1.imp (λh=>h) ?_⟩
  rintro⟨b,o,e,cs,ty,q1,q2,q3,q4,q5⟩
  exact⟨b,o,e,cs,ty,q1,q2,(by have:=VA.cut (n:=h.zh.length) (m:=h.zs.length) _ _ (qu hp1) q3;rw[hgc]at this;exact this.mono hleA),q4,λj hj=>by show gc.Φ b j=ac;rw[hgcΦ];exact q5 j hj⟩
 have rA:=rc.ey t1 k es loc.1 loc.2 rowok;refine⟨_,hlec.trans hleA,?_,?_,λb v hb hv=>(hlow b v hb hv).mono hleA,λc hc=>hleA.del c (by rw[<- hgc];exact hc)⟩
 ·have eh:(({ h with zs:=h.zs++[t1.n] }:AH).new (.row gc.τ.length k es))=h.ext [.row h.zs.length k es] [es.length]:=by
   rw[tl,tn1];simp[AH.new,AH.ext]
  grind
 ·simp only[V];refine⟨x1,c1,rfl,a1,b1,t1,?_,e1⟩;simp only[Gh.fI,Gh.ft]
  grind
theorem sG{h:AH}{K:AV->AH->Prop}{f:AV}{B:List q6}{T:List Nat}{k1:Nat}{a:List (List AV)}(m:HdS h B k1 a f)(l:K (.fo h.zh.length h.zs.length k1 a.length) (h.ext [.row h.zs.length k1 a] [a.length])):nQ h K f (h.ext B T):=by
 refine wv (λB0 w0 w o p g vs j k r i=>?_) l;simp only[VL]at i;obtain⟨v,_,rfl,n,rfl⟩:=i;obtain⟨g',e,c,d,_,b⟩:=zsG j k r m n;exact⟨g',e,c,by simp only[VL];exact⟨v,[],rfl,d,rfl⟩,b⟩
end Go.Vv
