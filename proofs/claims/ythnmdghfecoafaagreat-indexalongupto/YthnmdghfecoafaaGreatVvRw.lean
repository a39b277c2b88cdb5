/- Mutable rows: how one begins, and how it is cut. -/
import Derived.Test.YthnmdghfecoafaaGreatVvF
import Derived.Test.YthnmdghfecoafaaGreatVvMp
import Derived.Maps.RangeRun
import Derived.RangeFuncRecord
import Derived.Laws.IdiomStrings
set_option linter.all false
namespace Go.Vv
open Go Go.RowKit
section
variable {B:Nat} {w0 w:World} {g:Gh} {h:AH}
theorem Rel.adoptN (r:Rel B w0 g h w) (k:Blk) (A:RowB (g.addS none) w g.σ.length k) (I:∀t u es,k=.row t u es->∀(i v:Nat) (s:List (List AV)),h.blks[i]? ≠ some (.row t v s)) :
  Rel B w0 (g.addS none) (h.new k) w:=by
 have key:∀(i:Nat) (x:Blk),(h.blks++[k])[i]?=some x->(h.blks[i]?=some x/\i < h.blks.length) \/ (i=h.blks.length/\x=k):=by
  grind
 refine ⟨r.below,r.bsz,r.phi,by simp [Gh.addS,AH.new,r.slen],λi c q d f=>?_,r.tlen,r.tok,λi j c hi l=>?_,r.tinj,λi c j t b x hi l G=>?_,λc d=>⟨(r.dfr c d).1,(r.dfr c d).2.1,λi hi=>?_⟩,
  λi q hi f=>?_,λi j t u v es es' hi l=>?_,λb x m=>(r.nb b x m).mono (by simp [Gh.addS]) (ue _) λ_ _ y=>⟨rfl,⟨λi hi=>(addS_get hi).elim (λhi=>y.1 i hi) (λa=>nomatch a.2),y.2⟩,λh=>h⟩,r.ob,λb m=>⟨λi hi=>(addS_get hi).elim (λhi=>(r.oa b m).1 i hi) (λa=>nomatch a.2),(r.oa b m).2⟩⟩
 ·rcases addS_get d with d | ⟨_,a⟩
  ·have E:i < h.blks.length:=by rw [<- r.slen];exact (ua.1 d).1
   rcases key i q f with ⟨f,_⟩ | ⟨rfl,_⟩
   ·obtain ⟨D,z,F,C⟩:=r.blk i c q d f;exact ⟨D,z,F.mono (g.le_addS _) rfl,C⟩
   ·omega
  ·cases a
 ·rcases addS_get hi with hi | ⟨_,a⟩
  ·rcases addS_get l with l | ⟨_,a⟩
   ·exact r.sinj i j c hi l
   ·cases a
  ·cases a
 ·rcases addS_get hi with hi | ⟨_,a⟩
  ·exact r.sep i c j t b x hi l G
  ·cases a
 ·rcases addS_get hi with hi | ⟨_,a⟩
  ·exact (r.dfr c d).2.2 i hi
  ·cases a
 ·rcases key i q f with ⟨f,E⟩ | ⟨p,rfl⟩
  ·rcases addS_get hi with hi | ⟨e,_⟩
   ·exact (r.row i q hi f).mono (g.le_addS _) (PlK.same rfl) (λ_ _ h _=>h) (λ_ _ _ _ _ _ _=>⟨rfl,λ_=>rfl⟩)
   ·rw [r.slen] at e;omega
  ·rw [p,<- r.slen];exact A
 ·rcases key i _ hi with ⟨n,_⟩ | ⟨rfl,J⟩ <;> rcases key j _ l with ⟨o,_⟩ | ⟨rfl,H⟩
  ·exact r.rinj _ _ _ _ _ _ _ n o
  ·grind
  ·grind
  ·rfl
theorem Rel.row_lt (r:Rel B w0 g h w) {i t k:Nat} {es:List (List AV)} (a:h.blks[i]?=some (.row t k es)):t < g.τ.length:=by
 obtain ⟨_,u,b,_⟩:=r.rowAt a
 grind
theorem Rel.newRowT (r:Rel B w0 g h w) (t:TI) (k:Nat) (es:List (List AV)) (a:∀b l e,t.loc=some (b,l,e)->LocOk g.Φ B w b l e)
  (hd:∀b x,t.loc=some (b,x)->(∀(j:Nat) (u:TI) (y:Nat×Nat),g.τ[j]?=some u->u.loc ≠ some (b,y))/\(∀(j c:Nat),g.σ[j]?=some (some c)->b ≠ c)/\g.N b=none/\¬ g.O b)
  (d:RowOk ((g.addT t).addS none) w g.τ.length k es) :
  Rel B w0 ((g.addT t).addS none) (({ h with toks:=h.toks++[t.n] }:AH).new (.row g.τ.length k es)) w:=by
 refine (r.addTok t a hd).adoptN _ d λt' p f e i q o hi=>?_;injection e with m _ _;subst m;exact tu _ (r.row_lt hi)

theorem Rel.setRowG (r:Rel B w0 g h w) {i q k:Nat} {t t':TI} {es:List (List AV)} {nb:Blk} (hi:g.τ[i]?=some t) (hn:t.n < t'.n) (hf:t.row=true) (V:t'.row=true)
  (hq:g.σ[q]?=some none) (m:h.blks[q]?=some (.row i k es)) (hrow:RowB (g.setT i t') w q nb) (L:∀t k es,nb=.row t k es->t=i)
  (I:∀b l e,t'.loc=some (b,l,e)->LocOk g.Φ B w b l e)
  (hd:∀b x,t'.loc=some (b,x)->(∃y,t.loc=some (b,y)) \/ ((∀(j:Nat) (u:TI) (y:Nat×Nat),g.τ[j]?=some u->u.loc ≠ some (b,y))/\(∀(j c:Nat),g.σ[j]?=some (some c)->b ≠ c)/\g.N b=none/\¬ g.O b)) :
  Rel B w0 (g.setT i t') { h.put q nb with toks:=h.toks.set i t'.n } w:=by
 have S:i < g.τ.length:=(ua.1 hi).1;have C:=Gh.le_setT hi hn (V.trans hf.symm);have key:∀(j:Nat) (u:TI),(g.setT i t').τ[j]?=some u->(j=i/\u=t') \/ (j ≠ i/\g.τ[j]?=some u):=by
  intro j u e;simp only [Gh.setT] at e
  grind
 have hql:q < h.blks.length:=(ua.1 m).1;have d:∀(j:Nat) (b:Blk),(h.blks.set q nb)[j]?=some b->(j=q/\b=nb) \/ (j ≠ q/\h.blks[j]?=some b):=by
  grind
 refine ⟨r.below,r.bsz,r.phi,by simp [AH.put,Gh.setT,r.slen],λZ c b D H=>?_,by simp [Gh.setT,r.tlen],λj u a=>?_,r.sinj,λj M u u' b x y R s E W=>?_,λj c M u b x D a E=>?_,r.dfr,
  λj b R H=>?_,λj1 j2 t1 k1 k2 e1 e2 T A=>?_,λb x m=>?_,r.ob,λb m=>?_⟩
 rotate_right
 rotate_right
 ·exact (r.nb b x m).mono (ue _) (ue _) λ_ _ v=>⟨rfl,⟨v.1,v.2.1,λj u y a J=>by
    rcases key j u a with ⟨rfl,rfl⟩ | ⟨_,a⟩
    ·rcases hd b y J with ⟨z,p⟩ | ⟨_,_,Q,_⟩
     ·exact v.2.2 _ _ z hi p
     ·have m:g.N b=some x:=m
      grind
    ·exact v.2.2 j u y a J⟩,λh=>h⟩
 ·have v:=r.oa b m;refine ⟨v.1,v.2.1,λj u y a J=>?_⟩;rcases key j u a with ⟨rfl,rfl⟩ | ⟨_,a⟩
  ·rcases hd b y J with ⟨z,p⟩ | ⟨_,_,_,Q⟩
   ·exact v.2.2 _ _ z hi p
   ·exact Q m
  ·exact v.2.2 j u y a J
 ·have D:g.σ[Z]?=some (some c):=D;rcases d Z b H with ⟨rfl,rfl⟩ | ⟨o,H⟩
  ·simp_all
  ·obtain ⟨P,F,Q,h4⟩:=r.blk Z c b D H;exact ⟨P,F,Q.mono C rfl,h4⟩
 ·rcases key j u a with ⟨rfl,rfl⟩ | ⟨R,a⟩
  ·exact ⟨uz (by rw [<- r.tlen];exact S),I⟩
  ·obtain ⟨P,F⟩:=r.tok j u a;exact ⟨by grind,F⟩
 ·rcases key j u R with ⟨rfl,rfl⟩ | ⟨o,A⟩ <;> rcases key M u' s with ⟨rfl,rfl⟩ | ⟨hne',s⟩
  ·rfl
  ·rcases hd b x E with ⟨z,p⟩ | ⟨P,_⟩
   ·exact r.tinj _ _ _ _ b z y hi s p W
   ·grind
  ·rcases hd b y W with ⟨z,p⟩ | ⟨P,_⟩
   ·exact r.tinj _ _ _ _ b x z A hi E p
   ·grind
  ·exact r.tinj _ _ _ _ b x y A s E W
 ·rcases key M u a with ⟨rfl,rfl⟩ | ⟨o,a⟩
  ·rcases hd b x E with ⟨z,p⟩ | ⟨_,F,_⟩
   ·exact r.sep j c _ t b z D hi p
   ·exact F j c D
  ·exact r.sep j c M u b x D a E
 ·rcases d j b H with ⟨rfl,rfl⟩ | ⟨o,f⟩
  ·omega
  ·have K:=r.row j b R f;cases b with
   | row i2 k2 e2 =>
    have K:RowOk g w i2 k2 e2:=K;have U:i2 ≠ i:=by rintro rfl;exact o (r.rinj _ _ _ _ _ _ _ f m)
    exact K.mono C (by simp only [Gh.setT];exact uR (λe=>U e.symm)) (λ_ _ _ _ _ _=>⟨rfl,λ_=>rfl⟩)
   | pool ms=>exact PoolOk.mono C.lv (PlK.same rfl) K
   | dead=>trivial
   | _=>exact K.elim
 ·rcases d j1 _ T with ⟨rfl,Y⟩ | ⟨hne1,G⟩ <;> rcases d j2 _ A with ⟨rfl,X⟩ | ⟨hne2,f⟩
  ·rfl
  ·have:=L _ _ _ Y.symm;subst this;exact r.rinj _ _ _ _ _ _ _ m f
  ·have:=L _ _ _ X.symm;subst this;exact r.rinj _ _ _ _ _ _ _ G m
  ·exact r.rinj _ _ _ _ _ _ _ G f

def AH.shr (h:AH) (id tk k n:Nat) (es:List (List AV)):AH:=({ h.put id .dead with toks:=h.toks.set tk (es.length+1)++[n] }:AH).new (.row h.toks.length k (es.take n))
theorem flat_takeN {k:Nat}:∀(n:Nat) (es:List (List AV)),(∀e ∈ es,e.length=k)->n<=es.length->(es.take n).flatten=es.flatten.take (n * k)
 | 0,_,_,_=>by simp
 | n+1,[],_,h=>by simp at h
 | n+1,e::r,hk,h=>by
  have b:=hk e tz;simp only [rg,uY];rw [flat_takeN n r (λx d=>hk x (tr _ d)) (by simpa using h),tN,b];have a:(n+1) * k - k=n * k:=by grind
  have c:e.take ((n+1) * k)=e:=uO (by grind);rw [a,c]
def locOf (a:Option Addr) (n c k:Nat):Option (Nat×Nat×Nat):=match a with
 | some ⟨b,o,none⟩=>if c=0 then none else some (b,o+n * k,o+c * k)
 | _=>none
theorem Rel.shrink (r:Rel B w0 g h w) {id i k n c:Nat} {es:List (List AV)} (hb:h.blk id=some (.row i k es)) (S:n<=es.length) {a a':Option Addr} (ha:a'=a \/ a'=a.map (·.add 0))
  (hV:V g (.rsl id i k es.length) (.slice a es.length c)) :
  ∃g',g.le g'/\Rel B w0 g' (h.shr id i k n es) w/\V g' (.rsl h.blks.length h.toks.length k n) (.slice a' n c):=by
 obtain ⟨hq,t,m,I,U,q,hpure,z⟩:=r.rowAt hb;simp only [V] at hV;obtain ⟨ad,cc,R,hnc,W,u,Q,hur,hun,K⟩:=hV;simp only [Value.slice.injEq] at R;obtain ⟨rfl,_,rfl⟩:=R;rw [m] at Q;injection Q with Q;subst Q;have Z:h.blks[id]?=some (.row i k es):=hb
 let d:TI:=⟨es.length+1,none,true⟩
 have r1:=r.setRowG (t':=d) (nb:=.dead) m (by grind) I rfl hq Z trivial (λ_ _ _ e=>by cases e) (λ_ _ _ e=>by cases e) (λ_ _ e=>by cases e);have hlt:i < g.τ.length:=(ua.1 m).1;have s:g.le (g.setT i d):=Gh.le_setT m (by grind) I.symm;have hloc:t.loc=t.loc:=rfl
 -- where the new one lies
 let f:TI:=⟨n,locOf a n c k,true⟩
 have other:∀(j:Nat) (v:TI),(g.setT i d).τ[j]?=some v->(j=i/\v=d) \/ (j ≠ i/\g.τ[j]?=some v):=by
  intro j v e;simp only [Gh.setT] at e
  grind
 have L:∀b l e,f.loc=some (b,l,e)->∃o,a=some ⟨b,o,none⟩/\l=o+n * k/\e=o+c * k/\t.loc=some (b,o+es.length * k,o+c * k):=by
  intro b l e E;simp only [f,locOf] at E
  grind
 have free:∀b o,t.loc=some (b,o+es.length * k,o+c * k)->∀j,o+n * k<=j->g.Φ b j=none:=by
  intro b o E j p;rcases z with rfl | ⟨b2,P,e2,cs,ty,k1,k2,k3,k4,k5⟩
  ·have:=(r.tok i t m).2 _ _ _ E;exact this.free j (by simp_all)
  ·grind
 have F:∀b l e,f.loc=some (b,l,e)->LocOk (g.setT i d).Φ B w b l e:=by
  intro b l e E;obtain ⟨o,_,rfl,rfl,D⟩:=L b l e E;have M:=(r.tok i t m).2 _ _ _ D;exact ⟨M.lo,M.lt,M.cells,λj p=>free b o D j p⟩
 have hdN:∀b x,f.loc=some (b,x)->(∀(j:Nat) (u:TI) (y:Nat×Nat),(g.setT i d).τ[j]?=some u->u.loc ≠ some (b,y))/\(∀(j c:Nat),(g.setT i d).σ[j]?=some (some c)->b ≠ c)/\(g.setT i d).N b=none/\¬ (g.setT i d).O b:=by
  rintro b ⟨l,e⟩ E
  obtain ⟨o,_,_,_,D⟩:=L b l e E;refine ⟨λj v y p hv=>?_,λj c' p=>r.sep j c' i t b _ p m D,r.ntok m D,r.otok m D⟩;rcases other j v p with ⟨rfl,rfl⟩ | ⟨T,p⟩
  ·cases hv
  ·exact T (r.tinj _ _ _ _ b _ _ p m hv D)
 have A:(g.setT i d).τ.length=h.toks.length:=by simp [Gh.setT,r.tlen]
 have J:(((g.setT i d).addT f).addS none).τ[h.toks.length]?=some f:=by
  simp only [Gh.addS,Gh.addT]
  simp_all
 have Y:es ≠ []->c ≠ 0:=by
  grind
 have C:RowOk (((g.setT i d).addT f).addS none) w (g.setT i d).τ.length k (es.take n):=by
  rw [A];refine ⟨f,J,rfl,by grind,λe R=>q e (rL R),?_,?_⟩
  ·grind
  ·by_cases hes:es=[]
   ·grind
   ·right;rcases z with h0 | ⟨b2,P,e2,cs,ty,k1,k2,k3,k4,k5⟩
    ·simp_all
    ·rcases K with ⟨h1,_⟩ | ⟨b,o,H,G⟩
     ·grind
     ·have G:=G U.symm;rw [k1] at G;simp only [uf,tD] at G;obtain ⟨rfl,M,rfl⟩:=G;have:P=o:=by omega
      subst this;have X:n * k<=es.length * k:=u9 k S;refine ⟨b2,P,P+c * k,cs,ty,?_,k2,?_,?_,λj p=>k5 j p⟩
      ·simp only [f,locOf,H,te (Y hes),tI,sO S]
      ·rw [flat_takeN n es q S,tI,sO S];have:=VA.take (n * k) k3;rw [pL,sO X] at this;exact VA.mono ((s.trans (Gh.le_addT _ _)).trans (Gh.le_addS _ _)) _ _ this
      ·grind
 have r2:=r1.newRowT f k (es.take n) F hdN C;refine ⟨((g.setT i d).addT f).addS none,(s.trans (Gh.le_addT _ _)).trans (Gh.le_addS _ _),?_,?_⟩
 ·have e1:h.shr id i k n es=(({ ({ h.put id .dead with toks:=h.toks.set i d.n }:AH) with toks:=(h.toks.set i d.n)++[f.n] }:AH).new (.row (g.setT i d).τ.length k (es.take n))):=by
   unfold AH.shr
   grind
  simp_all
 ·simp only [V];refine ⟨a',c,rfl,by omega,W,f,J,rfl,ue _,?_⟩;rcases K with ⟨h1,H⟩ | ⟨b,o,H,G⟩
  ·omega
  ·by_cases hc0:c=0
   ·omega
   ·right;refine ⟨b,o,?_,λ_=>?_⟩
    ·rcases ha with rfl | rfl
     ·exact H
     ·rw [H];simp [Addr.add]
    ·simp only [f,locOf,H,te hc0]
end
end Go.Vv
namespace Go.Vv
open Go Go.RowKit Go.Lib
section
variable {P:Program} {w:World} {g:Gh} {h:AH} {B:Nat} {w0:World}
theorem row_write (r:Rel B w0 g h w) {id q k p:Nat} {es:List (List AV)} (A:h.blk id=some (.row q k es)) (u:es ≠ []) {t:TI} {b F:Nat} (V:g.τ[q]?=some t) (l:rowPt t b F es.length k p) {us:List Value} {vs:List AV}
  (i:VA g vs us) (M:vs.all AV.pure=true) (D:p+us.length<=es.flatten.length) :
  ∃w',(storeCells ⟨b,F,none⟩ us).run P w=.ok () w'/\Rel B w0 g (h.put id (.row q k (rows k es.length (yP es.flatten p vs)))) w':=by
 obtain ⟨U,S,l⟩:=l;obtain ⟨_,O,z,L,x,n,G,v⟩:=r.rowAt A;obtain rfl:O=t:=by simp_all
 obtain ⟨c,J,rfl,a⟩:=l x.symm;have y:es.flatten.length=es.length * k:=yF n;have H:vs.length=us.length:=i.length;obtain ⟨Z,K,Y,cs,ty2,d,E,I,W,X⟩:=v.resolve_left u;rw [a] at d;injection d with d;injection d with Q d;injection d with d _;obtain rfl:c=K:=by omega
 subst Q;have f:=run_storeCells_at P b (c+p) ty2 us 0 cs w E (by omega) i.one';simp only [tB] at f;generalize hnew:(cs.toList.take (c+p)++us++cs.toList.drop (c+p+us.length)).toArray=new at f;have s:(yP es.flatten p vs).length=es.length * k:=by unfold yP;rw [uq,uq,tI,s6,y];omega
 obtain ⟨C,N,R⟩:=rows_flat (k:=k) es.length (yP es.flatten p vs) s;have T:cs.toList.length=cs.size:=by simp
 refine ⟨w.setRow b new,f,r.storeRow (e:=J) (cur:=cs) (ty:=ty2) (o:=c) A z a E (by grind) (λj hj=>?_) N R ?_ ?_ u⟩
 ·rw [<- hnew,sr,uy,uo (by simp;omega),uu,uG (by omega),uC]
 ·rw [C];unfold yP
  grind
 ·rw [C];have m:(new.toList.drop c).take (es.length * k)=((cs.toList.drop c).take (es.length * k)).take p++us++((cs.toList.drop c).take (es.length * k)).drop (p+us.length):=by
   rw [<- hnew];apply uT;intro j;by_cases h1:j < p
   ·rw [uu,uG (by omega),uH,uy,uo (by simp;omega),uu,uG (by omega)];rw [uy,uo (by simp;omega),uu,uG h1,uu,uG (by omega),uH]
   ·by_cases h2:j < p+us.length
    ·rw [uu,uG (by omega),uH,uy,un (by simp;omega),uo (by simp;omega)];rw [uy,un (by simp;omega),uo (by simp;omega)]
     grind
    ·by_cases h3:j < es.length * k
     ·rw [uu,uG h3,uH,un (by simp;omega),uH];rw [un (by simp;omega),uH,uu,uG (by simp;omega),uH]
      grind
     ·rw [uu,te h3,tA]
      grind
  rw [m];exact splice_VA (off:=p) I i
def zsuf (z:List AV) (n i:Nat):List AV:=(List.replicate (n - i) z).flatten
def AH.clr (h:AH) (id tk k i:Nat) (es:List (List AV)) (z:List AV):AH:=h.put id (.row tk k (rows k es.length (yP es.flatten (i * k) (zsuf z es.length i))))
theorem put_same {h:AH} {id:Nat} {b:Blk} (a:h.blk id=some b):h.put id b=h:=by
 cases h with
 | mk B T =>
  simp only [AH.put,AH.mk.injEq,tT];refine uT λj=>?_;by_cases hj:j=id
  ·subst hj;rw [uz (ua.1 a).1];exact a.symm
  ·grind
theorem clear_sound (r:Rel B w0 g h w) {t e ty:TypeId} {id s k n i:Nat} {es:List (List AV)} {z o:List AV} {x:Value} (F:P.underlying t=some (.slice e)) (hz:xQ P e=some z) (X:xF z=some o) (I:z.length=k) (hkp:0 < k) (C:h.blk id=some (.row s k es)) (hn:es.length=n)
  (U:V g (.rsuf id s k n i) x):∃w',(Builtin.clear_ #[t] ty #[x]).run P w=.ok (.tuple #[]) w'/\Rel B w0 g (h.clr id s k i es o) w':=by
 subst hn;simp only [V] at U;obtain ⟨a,c,rfl,hin,t2,L,h3⟩:=U;obtain ⟨_,ti,hti,htr,htn,f,Z,W⟩:=r.rowAt C;have y:es.flatten.length=es.length * k:=yF f;rcases h3 with h0 | ⟨b,q,rfl,M⟩
 ·have hi:i=es.length:=by omega
  subst hi;have O:h.clr id s k es.length es o=h:=by
   unfold AH.clr zsuf;have:yP es.flatten (es.length * k) (List.replicate (es.length - es.length) o).flatten=es.flatten:=by
    simp [yP,<- y]
   rw [this];have J:rows k es.length es.flatten=es:=by
    have:∀(l:List (List AV)),(∀e ∈ l,e.length=k)->rows k l.length l.flatten=l:=by
     intro l
     induction l with
     | nil=>intro _;rfl
     | cons x r ih =>
      intro j;simp only [ul,rows,uY];rw [pH (j x tz),rN (j x tz),ih λe R=>j e (tr _ R)]
    exact this es f
   rw [J];exact put_same C
  rw [O];refine ⟨w,?_,r⟩;rw [h0];cases a <;> simp [Builtin.clear_,run_underlying F]
 ·by_cases h0:es.length - i=0
  ·-- a5 above
   have hi:i=es.length:=by omega
   subst hi;have O:h.clr id s k es.length es o=h:=by
    unfold AH.clr zsuf;have:yP es.flatten (es.length * k) (List.replicate (es.length - es.length) o).flatten=es.flatten:=by
     simp [yP,<- y]
    rw [this];have J:rows k es.length es.flatten=es:=by
     have:∀(l:List (List AV)),(∀e ∈ l,e.length=k)->rows k l.length l.flatten=l:=by
      intro l
      induction l with
      | nil=>intro _;rfl
      | cons x r ih =>
       intro j;simp only [ul,rows,uY];rw [pH (j x tz),rN (j x tz),ih λe R=>j e (tr _ R)]
     exact this es f
    rw [J];exact put_same C
   rw [O];refine ⟨w,?_,r⟩;rw [h0];simp [Builtin.clear_,run_underlying F]
  ·have Q:es ≠ []:=by rintro rfl;simp at h0
   obtain ⟨iz,p,G,K,u⟩:=vj (g:=g) hz;have A:VA g o p.cells.toList:=clean_sound u X;have N:p.cells.size=k:=by rw [<- I,u.length];rfl
   have v:∀w,(zeroValue e).run P w=.ok p w:=λw=>by simp [zeroValue,typeInfo,G,K]
   have d:(Builtin.zeroCells p.cells (es.length - i)).toList=(List.replicate (es.length - i) p.cells.toList).flatten:=by
    unfold Builtin.zeroCells;rw [s7,rx];exact range_rep p.cells (es.length - i)
   have H:VA g (zsuf o es.length i) (Builtin.zeroCells p.cells (es.length - i)).toList:=by
    rw [d];exact VA.flatten A _
   have hul:(Builtin.zeroCells p.cells (es.length - i)).toList.length=(es.length - i) * k:=by
    rw [d];simp [N]
   have S:i * k+(es.length - i) * k=es.length * k:=by rw [<- tg];congr 1;omega
   obtain ⟨w',T,Y⟩:=row_write (P:=P) r C Q L M H (by
    unfold zsuf;rw [uv];intro a D;obtain ⟨l,j,D⟩:=List.mem_flatten.1 D;rw [List.eq_of_mem_replicate j] at D;have:=clean_pure X;rw [uv] at this;exact this a D) (by omega)
   refine ⟨w',?_,Y⟩;have E:∃m,es.length - i=m+1:=⟨es.length - i - 1,by omega⟩
   obtain ⟨m,hm⟩:=E;rw [hm] at T ⊢;simp only [Builtin.clear_];simp [run_underlying F,v,T]
end
end Go.Vv
namespace Go.Vv
open Go Go.RowKit Go.Lib

def nextAlts (h:AH) (it id n:Nat) (seen:List Nat) (es:List (AV×AV)):List (AV×AH) :=
 match es.zipIdx.filter λp=>!seen.contains p.2 with
 | []=>[(.tup [.bool false],h)]
 | p::r=>(p::r).map λp=>(.tup [.bool true,p.1.1,p.1.2],h.put it (.miter id n (seen++[p.2])))
def bytesX:List (List AV)->Option (List UInt8)
 | []=>some []
 | [.int .u8 n]::r=>if 0<=n/\n < 256 then (match bytesX r with
  | some l=>some (UInt8.ofNat n.toNat::l)
  | none=>none) else none
 | _=>none
def convX (P:Program) (s t:TypeId) (a:AV):Option (List UInt8) :=
 match P.underlying s,P.underlying t with
 | some (.slice e),some .string=>match P.underlying e,tyfix P s a with
  | some (.int .u8),.sl 1 es | some (.int .u8),.osl _ 1 es=>match bytesX es with
   | some l=>if l.length<=maxLen then some l else none
   | none=>none
  | _,_=>none
 | _,_=>none
def convBy (P:Program) (s t:TypeId) (a:AV):Option (List UInt8) :=
 match P.underlying s,P.underlying t,a with
 | some .string,some (.slice e),.str l=>match P.underlying e with
  | some (.int .u8)=>some l
  | _=>none
 | _,_,_=>none
def xT (P:Program) (o:Oper) (env:List AV) (h:AH):Option (List (AV×AH)) :=
 match o.op with
 | .range t x=>if yf x then (match P.underlying t,ev env x with
  | some (.map _ _),.map id=>match h.blk id with
   | some (.mapo es 0)=>some [(.ptr h.blks.length 0,h.new (.miter id es.length []))]
   | _=>none
  | some (.map _ _),.nilm=>some [(.ptr h.blks.length 0,h.new .miter0)]
  | _,_=>none) else none
 | .next x false=>if yf x then (match ev env x with
  | .ptr it 0=>match h.blk it with
   | some .miter0=>some [(.tup [.bool false],h)]
   | some (.miter id n seen)=>match h.blk id with
    | some (.mapo es 0)=>if es.length=n then some (nextAlts h it id n seen es) else none
    | _=>none
   | _=>none
  | _=>none) else none
 | .entry x=>if yf x then (match ev env x with
  | .ptr it 0=>match h.blk it with
   | some (.miter id n seen)=>match h.blk id,seen.getLast? with
    | some (.mapo es 0),some i=>if es.length=n then (match es[i]? with
     | some e=>some [(.tup [e.1,e.2],h)]
     | none=>none) else none
    | _,_=>none
   | _=>none
  | _=>none) else none
 | .buildSlice t n parts=>if parts.all λp=>yf p.2 then (match P.underlying t with
  | some (.slice e)=>match P.info? e,xQ P e with
   | some i,some z=>if 0 < n/\0 < i.size/\n * i.size<=65536/\z.length=i.size then
     (match (qc (λj=>some (j * i.size,i.size)) ((List.replicate n z).flatten) (xj P (.slice e) env parts)) with
           | some cs=>match xF cs with
             | some out=>some [(.rsl h.blks.length h.toks.length i.size n,({ h with toks:=h.toks++[n] }:AH).new (.row h.toks.length i.size (rows i.size n out)))]
             | none=>some [(.msl i.size h.blks.length 0 n,h.new (.cells cs))]
           | none=>none) else none
   | _,_=>none
  | _=>none) else none
 | .convert s t x=>if yf x then (match convX P s t (ev env x) with
  | some l=>some [(.str l,h)]
  | none=>match convBy P s t (ev env x) with
   | some l=>some [(.sl 1 (l.map λb=>[AV.int .u8 (b.toNat:Int)]),h)]
   | none=>none) else none
 | .alloc t=>match xQ P t with
  | some [.nilp,x]=>if x.one then some [(.ptr h.blks.length 0,h.new (.bld t x))] else none
  | _=>none
 | .call c=>match c.callee,c.argTypes.toList,c.args.toList with
  | .builtin .max,_,[x,y]=>if yf x&&yf y then (match ev env x,ev env y with
   | .int k a,.int k' b=>if k=k' then some [(.int k (if b > a then b else a),h)] else none
   | _,_=>none) else none
  | .builtin .min,_,[x,y]=>if yf x&&yf y then (match ev env x,ev env y with
   | .int k a,.int k' b=>if k=k' then some [(.int k (if b < a then b else a),h)] else none
   | _,_=>none) else none
  | .builtin .append,[t,u],[s,x]=>if yf s&&yf x then (match P.underlying t,P.underlying u with
   | some (.slice e),some (.slice _)=>match P.info? e,tyfix P t (ev env s),tyfix P u (ev env x) with
    | some _,.osl none k es,.sl _ [] | some _,.osl none k es,.osl _ _ []=>some [(.osl none k es,h)]
    | _,_,_=>none
   | _,_=>none) else none
  | .builtin .clear,[t],[x]=>if yf x then (match P.underlying t,ev env x with
   | some (.slice e),.rsuf id tk k n i=>match xQ P e,h.blk id with
    | some z,some (.row t' k' es)=>if (t'=tk/\k'=k/\es.length=n)/\z.length=k/\0 < k then (match xF z with
     | some z'=>some [(.tup [],h.clr id tk k i es z')]
     | none=>none) else none
    | _,_=>none
   | _,_=>none) else none
  | _,_,_=>none
 | .insert t m k x=>match zB P { o with op:=.mapUpdate t m k x } env h with
  | .ok v h'=>some [(v,h')]
  | _=>none
 | .makeInterface t x=>if yf x then (match P.underlying t with
  | some (.interface _)=>none
  | some _=>some [(.iface t (tyfix P t (ev env x)),h)]
  | none=>none) else none
 | .typeAssert x _ t ok=>if yf x then (match P.underlying t,ev env x with
  | some (.interface _),_=>none
  | some _,.iface u v=>if u=t then some [(if ok then .tup [v,.bool true] else v,h)] else if ok then (match aZero P t with
   | some z=>some [(.tup [z,.bool false],h)]
   | none=>none) else none
  | _,_=>none) else none
 | .slice t x none (some y) none=>if yf x&&yf y then (match P.underlying t,ev env x,ev env y with
  | some (.slice e),.rsl id tk k m,.int _ n=>match P.info? e,h.blk id with
   | some _,some (.row t' k' es)=>if (t'=tk/\k'=k/\es.length=m)/\0<=n/\n.toNat<=m then some [(.rsl h.blks.length h.toks.length k n.toNat,h.shr id tk k n.toNat es)] else none
   | _,_=>none
  | _,_,_=>none) else none
 | .slice t x (some y) none none=>if yf x&&yf y then (match P.underlying t,ev env x,ev env y with
  | some (.slice e),.rsl id tk k m,.int _ n=>match P.info? e with
   | some i=>if i.size=k/\0<=n/\n.toNat<=m then some [(.rsuf id tk k m n.toNat,h)] else none
   | none=>none
  | _,_,_=>none) else none
 | _=>none

def bdraw:Op->Bool
 | .buildSlice _ _ _ | .slice _ _ _ _ _=>false
 | _=>true

section
variable {P:Program} {w:World} {g:Gh} {h:AH} {B:Nat} {w0:World}
theorem Rel.drewO (r:Rel B w0 g h w) {a:World} (b:a=w \/ a=w.drew):Rel B w0 g h a:=by
 rcases b with rfl | rfl
 ·exact r
 ·exact r.drew
theorem setBlock_eq {w:World} {b:Nat} {o:Obj}:ChangeMaps.setBlock w b o=w.putObj b o:=by
 rfl
theorem bytesX_eq:∀{es:List (List AV)} {l:List UInt8},bytesX es=some l->es=l.map λb=>[AV.int .u8 b.toNat]
 | [],l,h=>by simp only [bytesX,uf] at h;subst h;rfl
 | e::r,l,h=>by
  unfold bytesX at h;split at h
  ·simp_all
  ·rename_i n i h0;injection h0 with d c;subst d c;split at h
   ·rename_i k;split at h
    ·rename_i j a;simp only [uf] at h;subst h;rw [bytesX_eq a];have:((UInt8.ofNat n.toNat).toNat:Int)=n:=by
      have f:n.toNat < 256:=by omega
      simp [pq f];omega
     simp_all
    ·cases h
   ·cases h
  ·cases h
theorem bytes_run (r:Rel B w0 g h w) {s t e:TypeId} (hs:P.underlying s=some (.slice e)) (q:P.underlying t=some .string) (u:P.underlying e=some (.int .u8)) {es:List (List AV)} {l:List UInt8} (n:bytesX es=some l) {a:Option Addr} {c:Nat}
  (x:es=[] \/ ∃b o,a=some ⟨b,o,none⟩/\VE g b 1 o es):(convert s t (.slice a es.length c)).run P w=.ok (.string ⟨l.toArray⟩) w:=by
 have z:=bytesX_eq n;have f:es.length=l.length:=by simp_all
 have key:∀d:Addr,(∀j (A:j < l.length),w.cell? (d.add j)=some (.int .u8 (l[j].toNat:Int)))->(convert s t (.slice (some d) es.length c)).run P w=.ok (.string ⟨l.toArray⟩) w:=λd k=>by
  rw [f];exact run_convert_bytes_back w s t e d c l hs u q k
 cases a with
 | none =>
  rcases x with rfl | ⟨b,o,i,_⟩
  ·simp only [bytesX,uf] at n;subst n;simp [convert,run_underlying hs,run_underlying q,run_underlying u,Conv.bytesToString];rfl
  ·cases i
 | some d =>
  refine key d λj A=>?_;rcases x with rfl | ⟨b,o,i,m⟩
  ·grind
  ·injection i with i;subst i;obtain ⟨_,k⟩:=m.get j [AV.int .u8 (l[j].toNat:Int)] (by simp_all);simp only [VC] at k;obtain ⟨⟨v,y,_,p⟩,_⟩:=k;simp only [V] at p;subst p;have:=r.phi _ _ _ y;rw [show (⟨b,o,none⟩:Addr).add j=⟨b,o+j,none⟩ by unfold Addr.add;split <;> simp_all]
   simp_all
theorem buildSliceM_sound (r:Rel B w0 g h w) {t e:TypeId} {n:Nat} {i:TypeInfo} {z cs:List AV} {env:List AV} {a:Act} (L:VL g env a.tmps.toList) {parts:Array (Nat×Operand)} (A:(parts.all λp=>yf p.2)=true)
  (I:P.underlying t=some (.slice e)) (hi:P.info? e=some i) (G:xQ P e=some z) (K:0 < n) (c:0 < i.size) (J:n * i.size<=65536) (q:z.length=i.size)
  (H:qc (λj=>some (j * i.size,i.size)) ((List.replicate n z).flatten) (xj P (.slice e) env parts)=some cs) :
  ∃u w' g',(Instr.buildSlice t n (parts.map λ(i,x)=>(i,a.eval x))).run P w=.ok u w'/\g.le g'/\Rel B w0 g' (h.new (.cells cs)) w'/\V g' (.msl i.size h.blks.length 0 n) u:=by
 obtain ⟨M,m,b,s,f⟩:=vj (g:=g) G;rw [hi] at b;injection b with b;subst b;have y:m.cells.size=i.size:=by rw [<- q,f.length];rfl
 have C:¬ (n * i.size=0):=by
  have:=ph K c;omega
 obtain ⟨F,D⟩:=parts_rel (P:=P) (d:=.slice e) L A;have l:=VA.flatten f n;obtain ⟨xs,v,o⟩:=fill_sound (place':=λj=>some (j * i.size,i.size)) (λi x h=>h) (us:=(Array.range (n * i.size)).map (m.cells[· % m.cells.size]!))
  (by rw [<- y,s7,rx,range_rep];exact l) F D H
 have k:=run_buildSlice w t e n _ xs i m I hi s (by omega) C v;refine ⟨_,_,_,k,g.le_addS _,r.newCells e o,?_⟩;have E:=r.slen;simp only [V,Gh.addS];exact ⟨w.heap.size,n,by grind,rfl,ue _,by simp only [maxLen];have:=rz n c;omega⟩
theorem buildSliceR_sound (r:Rel B w0 g h w) {t e:TypeId} {n:Nat} {i:TypeInfo} {z cs out:List AV} {env:List AV} {a:Act} (W:VL g env a.tmps.toList) {parts:Array (Nat×Operand)} (U:(parts.all λp=>yf p.2)=true)
  (hu:P.underlying t=some (.slice e)) (hi:P.info? e=some i) (hz:xQ P e=some z) (hn:0 < n) (f:0 < i.size) (hsm:n * i.size<=65536) (C:z.length=i.size)
  (hf:qc (λj=>some (j * i.size,i.size)) ((List.replicate n z).flatten) (xj P (.slice e) env parts)=some cs) (Y:xF cs=some out) :
  ∃u w' g',(Instr.buildSlice t n (parts.map λ(i,x)=>(i,a.eval x))).run P w=.ok u w'/\g.le g'/\Rel B w0 g' (({ h with toks:=h.toks++[n] }:AH).new (.row h.toks.length i.size (rows i.size n out))) w'/\V g' (.rsl h.blks.length h.toks.length i.size n) u:=by
 obtain ⟨i',I,b,N,D⟩:=vj (g:=g) hz;rw [hi] at b;injection b with b;subst b;have S:I.cells.size=i.size:=by rw [<- C,D.length];rfl
 have X:¬ (n * i.size=0):=by
  have:=ph hn f;omega
 obtain ⟨h1,h2⟩:=parts_rel (P:=P) (d:=.slice e) W U;have F:=VA.flatten D n;obtain ⟨xs,O,L⟩:=fill_sound (place':=λj=>some (j * i.size,i.size)) (λi x h=>h) (us:=(Array.range (n * i.size)).map (I.cells[· % I.cells.size]!))
  (by rw [<- S,s7,rx,range_rep];exact F) h1 h2 hf
 have m:=clean_sound L Y;have q:out.length=n * i.size:=by
  rw [clean_len Y,aFill_len hf];simp [C]
 have M:xs.size=n * i.size:=by rw [<- q,m.length];rfl
 have E:=run_buildSlice w t e n _ xs i I hu hi N (by omega) X O;obtain ⟨K,Q,e3⟩:=rows_flat (k:=i.size) n out q;have r1:=r.alloc0 (.cells xs e);have c:(w.alloc (.cells xs e)).heap[w.heap.size]?=some (.cells xs e (0,0)):=heap_alloc_new w _;have o:∀j,g.Φ w.heap.size j=none:=λj=>by
  rcases W:g.Φ w.heap.size j with _ | v
  ·rfl
  ·exact absurd (r.phi_lt W) (tu _)
 have hloc:LocOk g.Φ B (w.alloc (.cells xs e)) w.heap.size (n * i.size) (n * i.size) :=
  ⟨r.bsz,by simp,⟨xs,e,c,by omega⟩,λj _=>o j⟩
 have A:∀(j H:Nat),g.σ[j]?=some (some H)->w.heap.size ≠ H:=λj H J e=>by
  have b:j < h.blks.length:=by rw [<- r.slen];exact (ua.1 J).1
  have:=(r.blk j H _ J (ui b)).2.1;omega
 have s:∀(j:Nat) (tt:TI) (y:Nat×Nat),g.τ[j]?=some tt->tt.loc ≠ some (w.heap.size,y):=λj tt y J e=>by
  have:=((r.tok j tt J).2 _ _ _ e).lt;omega
 let T:TI:=⟨n,some (w.heap.size,n * i.size,n * i.size),true⟩
 have hT:((g.addT T).addS none).τ[g.τ.length]?=some T:=by simp [Gh.addT,Gh.addS]
 have G:g.le ((g.addT T).addS none):=(g.le_addT T).trans (Gh.le_addS _ none);have r2:=r1.newRowT T i.size (rows i.size n out)
  (λb' l e' hl'=>by grind)
  (λb' x R=>by injection R with R;injection R with K _;subst K;exact ⟨s,A,r.nnew (ue _),r.nold (ue _)⟩)
  ⟨T,hT,rfl,Q.symm,e3,by rw [K];exact clean_pure Y,.inr ⟨w.heap.size,0,n * i.size,xs,e,by simp [T,Q],c,by
   rw [K,Q,sq,uO (by simp [M])];exact m.mono G _ _,by grind,λj _=>o j⟩⟩
 have Z:=r.tlen;have sl:=r.slen;rw [Z] at r2;refine ⟨_,_,_,E,G,r2,?_⟩;simp only [V];rw [<- Z];exact ⟨some ⟨w.heap.size,0,none⟩,n,rfl,ue _,by simp only [maxLen];have:=rz n f;omega,T,hT,rfl,ue _,.inr ⟨w.heap.size,0,rfl,λ_=>by simp [T]⟩⟩
theorem append0 {t u ty e f:TypeId} {i:TypeInfo} {a b:Option Addr} {n c m:Nat} (d:P.underlying t=some (.slice e)) (j:P.underlying u=some (.slice f)) (hi:P.info? e=some i) (k:n<=m) :
  (Builtin.append_ #[t,u] ty #[.slice a n m,.slice b 0 c]).run P w=.ok (.slice a n m) w:=by
 cases a <;> cases b <;> simp [Builtin.append_,run_underlying d,run_underlying j,sizeOf,typeInfo,hi,Builtin.lenOf,Builtin.firstCells,loadCells,loadCellsFrom,storeCells,k]
theorem bytes_new (r:Rel B w0 g h w) {s t e:TypeId} {l:List UInt8} (hs:P.underlying s=some .string) (o:P.underlying t=some (.slice e)) (L:P.underlying e=some (.int .u8)) (K:l.length<=maxLen) :
  ∃v w' g',(convert s t (.string ⟨l.toArray⟩)).run P w=.ok v w'/\g.le g'/\Rel B w0 g' h w'/\V g' (.sl 1 (l.map λb=>[AV.int .u8 (b.toNat:Int)])) v:=by
 have d:=run_bytes_of_string (P:=P) w s t e ⟨l.toArray⟩ hs o L;rw [str_size] at d;have k:=grownCap_ge w l.length 0 e;have m:=grownCap_le_maxLen w l.length 0 e K;generalize grownCap w l.length 0 e=C at d k m;generalize hrow:bytesRow ⟨l.toArray⟩ C=row at d;generalize ho:Obj.cells row e (row.size,row.size+1)=ob at d;have F:Rel B w0 g h (w.drew.alloc ob):=r.drew.alloc0 ob;have G:w.drew.heap.size=w.heap.size:=rfl;have p:∀j v,(if j < l.length then row[j]? else none)=some v->(w.drew.alloc ob).cell? ⟨w.heap.size,j,none⟩=some v:=λj v y=>by
  split at y
  ·have n:(w.drew.alloc ob).heap[w.heap.size]?=some ob:=heap_alloc_new w.drew ob;rw [cell_of_row _ w.heap.size j row e (row.size,row.size+1) (by rw [n,ho])];exact y
  ·cases y
 have J:=F.vow (b:=w.heap.size) (f:=λj=>if j < l.length then row[j]? else none) p
  (λi c D _ e=>by
   have hi:i < h.blks.length:=by rw [<- r.slen];exact (ua.1 D).1
   have:=(r.blk i c _ D (ui hi)).2.1;omega)
  (λi t l e o H=>by
   have:=((r.tok i t o).2 _ l e H).lt;omega) (r.nnew (ue _))
 refine ⟨_,_,_,d,Gh.le_vow g _ _,J,?_⟩;simp only [V];refine ⟨_,C,by rw [ut],by rw [ut];exact k,m,?_⟩;rcases ru l.length with h0 | h0
 ·left;have:l=[]:=uD h0;rw [this];rfl
 ·refine .inr ⟨w.heap.size,0,rfl,VE_iff.2 ⟨λx u=>?_,?_⟩⟩
  ·obtain ⟨b,_,rfl⟩:=u6.1 u;rfl
  ·rw [bytes_flat];refine VC.mk λi a A=>?_;rw [tO] at A;obtain ⟨b,n,rfl⟩:=tf.1 A;have hi:=(ua.1 n).1;refine ⟨.int .u8 (b.toNat:Int),?_,rfl,by simp only [V]⟩;have z:=bytesRow_at ⟨l.toArray⟩ C i (by simpa using hi);rw [hrow] at z;have E:(Gh.vow g w.heap.size λj=>if j < l.length then row[j]? else none).Φ w.heap.size (0+i)=row[i]?:=by
    have I:g.Φ w.heap.size (0+i)=none:=by
     rcases u:g.Φ w.heap.size (0+i) with _ | v
     ·rfl
     ·exact absurd (r.phi_lt u) (tu _)
    simp only [Gh.vow,ur,I];simp [hi]
   rw [E,z];have q:=(ua.1 n).2;simp [q]
theorem bfits (r:Rel B w0 g h w) {a:Act} {env:List AV} (K:VL g env a.tmps.toList) {o:Oper} {l:List (AV×AH)} (f:xT P o env h=some l):∃p ∈ l,wT P B w0 g a o w p.1 p.2:=by
 unfold xT at f;split at f
 ·-- range
  rename_i t x F;split at f
  ·rename_i A;have H:=V.ev K A;split at f
   ·rename_i kt et id M E;split at f
    ·rename_i es L;simp only [uf] at f;subst f;refine ⟨_,up.2 rfl,?_⟩;rw [E] at H;simp only [V] at H;obtain ⟨c,I,S⟩:=H;obtain ⟨hB,hlt,⟨ents,n,W,Z,k3⟩,_⟩:=r.blk id c _ I L;obtain ⟨rfl,k4⟩:=k3 rfl;have X:ents.size=es.length:=by have:=Z.len;simpa using this
     refine ⟨.pointer (some ⟨w.heap.size,0,none⟩),w.alloc (.mapIter (some c) ents.size #[] ents.size),g.addS w.heap.size,.inl ?_,g.le_addS _,r.newBlk _ _ ?_,?_⟩
     ·simp [execOp,F,S,run_range_map w t kt et c ents _ M W]
     ·exact ⟨c,(g.le_addS _).sig _ _ I,by rw [<- X];exact heap_alloc_new w _⟩
     ·have hsl:=r.slen;simp only [V,Gh.addS]
      simp_all
    ·cases f
   ·rename_i kt et M E;simp only [uf] at f;subst f;refine ⟨_,up.2 rfl,?_⟩;rw [E] at H;simp only [V] at H;refine ⟨.pointer (some ⟨w.heap.size,0,none⟩),w.alloc (.mapIter none 0 #[] 0),g.addS w.heap.size,.inl ?_,g.le_addS _,r.newBlk _ _ (heap_alloc_new w _),?_⟩
    ·simp [execOp,F,H,run_range_nilMap w t kt et M]
    ·have hsl:=r.slen;simp only [V,Gh.addS]
     simp_all
   ·cases f
  ·cases f
 ·-- next
  rename_i x F;split at f
  ·rename_i A;have H:=V.ev K A;split at f
   ·rename_i it E;rw [E] at H;simp only [V] at H;obtain ⟨ci,hci,S⟩:=H;split at f
    ·rename_i L;simp only [uf] at f;subst f;refine ⟨_,up.2 rfl,?_⟩;obtain ⟨_,_,W,_⟩:=r.blk it ci _ hci L;have W:w.heap[ci]?=some (.mapIter none 0 #[] 0):=W;refine ⟨.tuple #[.bool false],w,g,.inl ?_,Gh.le.refl g,r,by simp [V,VL]⟩;simp [execOp,F,S,Instr.next,getObj,Sem.run,W]
    ·rename_i id n seen L;split at f
     ·rename_i es hbm;split at f
      ·rename_i hn;simp only [uf] at f;obtain ⟨_,hltI,⟨cm,Y,hit⟩,_⟩:=r.blk it ci _ hci L;obtain ⟨_,_,⟨ents,m,W,Z,k3⟩,_⟩:=r.blk id cm _ Y hbm;obtain ⟨rfl,k4⟩:=k3 rfl;have X:ents.size=es.length:=by have:=Z.len;simpa using this
       have hold:∀x ∈ ents.toList,x.born < n:=λx E=>by
        obtain ⟨i,hi⟩:=tb.1 E
        grind
       rcases run_next_at (P:=P) w o.type ci cm n n seen.toArray ents ents.size hit W hold (ue _) with ⟨h0,O⟩ | ⟨e,hmem,w1,hw1,O⟩
       ·have hnil:es.zipIdx.filter (λp=>!seen.contains p.2)=[]:=by
         rw [rD]
         rintro ⟨p,i⟩ hp
         simp only [pr,Bool.not_eq_false'];have hp':=List.mem_zipIdx' hp;obtain ⟨e,he1,_,_⟩:=Z.getE (j:=i) (p:=p) (by simp_all);rw [uC] at he1;have U:=k4 i e he1;have:¬ e ∈ leftOf ents seen.toArray:=by
          simp_all
         simp only [leftOf,Array.mem_filter,not_and,tP,pj] at this
         grind
        rw [nextAlts,hnil] at f;subst f;refine ⟨_,up.2 rfl,.tuple #[.bool false],w,g,.inl ?_,Gh.le.refl g,r,by simp [V,VL]⟩;simp [execOp,F,S,O]
       ·simp only [leftOf,Array.toList_filter,u7] at hmem;obtain ⟨i,hi⟩:=tb.1 hmem.1;have hi':=hi;rw [uC] at hi';have U:=k4 i e hi';have hil:i < es.length:=by grind
        have hes:es[i]?=some es[i]:=ui hil;obtain ⟨e2,he2,hk,hv⟩:=Z.getE (j:=i) hes;rw [hi] at he2;injection he2 with he2;subst he2;have hin:(es[i],i) ∈ es.zipIdx.filter (λp=>!seen.contains p.2):=by
         grind
        have r1:=r.drewO hw1;have hit1:w1.heap[ci]?=some (.mapIter (some cm) n seen.toArray n):=by rcases hw1 with rfl | rfl <;> exact hit
        have r2:Rel B w0 g (h.put it (.miter id n (seen++[i]))) (w1.putObj ci (.mapIter (some cm) n (seen.toArray.push e.born) n)) :=
         r1.putObj hci L (by simp) rfl rfl rfl World.putObj_size (λb hb'=>World.putObj_heap_other hb') ⟨cm,Y,by
          rw [World.putObj_heap_same (by grind),U];simp⟩
        have hne:es.zipIdx.filter (λp=>!seen.contains p.2) ≠ []:=List.ne_nil_of_mem hin;have hal:((.tup [.bool true,es[i].1,es[i].2],h.put it (.miter id n (seen++[i]))):AV×AH) ∈ nextAlts h it id n seen es:=by
         unfold nextAlts
         grind
        subst f;refine ⟨_,hal,.tuple #[.bool true,e.key,e.val],_,g,.inl ?_,Gh.le.refl g,r2,?_⟩
        ·rw [<- X] at hn;simp only [execOp,F,S,Sem.run_bind,O,Result.andThen_ok,Sem.run_pure];rw [setBlock_eq,hn]
        ·simp only [V,VL]
         grind
      ·cases f
     ·cases f
    ·cases f
   ·cases f
  ·cases f
 ·-- entry
  rename_i x F;split at f
  ·rename_i A;have H:=V.ev K A;split at f
   ·rename_i it E;rw [E] at H;simp only [V] at H;obtain ⟨ci,hci,S⟩:=H;split at f
    ·rename_i id n seen L;split at f
     ·rename_i es i hbm hlast;split at f
      ·rename_i hn;split at f
       case h_2=>cases f
       rename_i p hp;simp only [uf] at f;subst f;refine ⟨_,up.2 rfl,?_⟩;obtain ⟨_,hltI,⟨cm,Y,hit⟩,_⟩:=r.blk it ci _ hci L;obtain ⟨_,_,⟨ents,m,W,Z,k3⟩,_⟩:=r.blk id cm _ Y hbm;obtain ⟨rfl,k4⟩:=k3 rfl;have X:ents.size=es.length:=by have:=Z.len;simpa using this
       obtain ⟨e,he1,hk,hv⟩:=Z.getE (j:=i) hp;have he1':=he1;rw [uC] at he1';have U:=k4 i e he1';have hseen:seen.toArray=seen.dropLast.toArray.push e.born:=by
        grind
       rw [hseen] at hit;have hnd:(ents.toList.map (·.born)).Nodup:=by
        have:ents.toList.map (·.born)=List.range ents.size:=by
         apply uT
         grind
        grind
       have O:=run_entry_at (P:=P) w ci cm n seen.dropLast.toArray ents ents.size e (by grind) W (Array.mem_toList_iff.2 (Array.mem_of_getElem? he1')) hnd;refine ⟨.tuple #[e.key,e.val],w,g,.inl ?_,Gh.le.refl g,r,?_⟩
       ·simp [execOp,F,S,O]
       ·simp only [V,VL]
        grind
      ·cases f
     ·cases f
    ·cases f
   ·cases f
  ·cases f
 ·-- buildSlice
  rename_i t n parts F;split at f
  ·rename_i A;split at f
   ·rename_i e hu;split at f
    ·rename_i i z hi hz;split at f
     ·rename_i I;split at f
      ·rename_i cs hf;split at f
       ·rename_i out hcl;simp only [uf] at f;subst f;obtain ⟨u,w',g',Q,T,h3,h4⟩:=buildSliceR_sound r K A hu hi hz I.1 I.2.1 I.2.2.1 I.2.2.2 hf hcl;exact ⟨_,up.2 rfl,u,w',g',.inl (by simp [execOp,F,Q]),T,h3,h4⟩
       ·simp only [uf] at f;subst f;obtain ⟨u,w',g',Q,T,h3,h4⟩:=buildSliceM_sound r K A hu hi hz I.1 I.2.1 I.2.2.1 I.2.2.2 hf;exact ⟨_,up.2 rfl,u,w',g',.inl (by simp [execOp,F,Q]),T,h3,h4⟩
      ·cases f
     ·cases f
    ·cases f
   ·cases f
  ·cases f
 ·-- convert
  rename_i s t x F;split at f
  ·rename_i A;have hV0:=V.ev K A;have H:=(V.ev K A).tyfix (P:=P) (t:=s);split at f
   case h_2 =>
    split at f
    ·rename_i l0 C;simp only [uf] at f;subst f;unfold convBy at C;split at C
     ·rename_i e l hs M E;split at C
      ·rename_i hu;simp only [uf] at C;subst C;rw [E] at hV0;simp only [V] at hV0;obtain ⟨v,w',g',W,Z,k3,k4⟩:=bytes_new (P:=P) r hs M hu hV0.2;exact ⟨_,up.2 rfl,v,w',g',.inl (by simp [execOp,F,hV0.1,W]),Z,k3,k4⟩
      ·cases C
     ·cases C
    ·cases f
   rename_i l0 C;simp only [uf] at f;subst f;unfold convX at C;split at C
   ·rename_i e hs M;have N:∀es l,P.underlying e=some (.int .u8)->bytesX es=some l->l.length<=maxLen->(∃J c,a.eval x=.slice J es.length c/\(es=[] \/ ∃b o,J=some ⟨b,o,none⟩/\VE g b 1 o es))->wT P B w0 g a o w (.str l) h:=by
     rintro es l hu L hm ⟨J,c,E,hve⟩
     refine ⟨.string ⟨l.toArray⟩,w,g,.inl ?_,Gh.le.refl g,r,by simp only [V];exact ⟨trivial,hm⟩⟩;simp [execOp,F,E,bytes_run r hs M hu L hve]
    split at C
    ·rename_i es hu E;rw [E] at H;simp only [V] at H;obtain ⟨J,c,Q,_,_,T⟩:=H;split at C
     ·rename_i l L;split at C
      ·rename_i hm;simp only [uf] at C;subst C;exact ⟨_,up.2 rfl,N _ _ hu L hm ⟨J,c,Q,T⟩⟩
      ·cases C
     ·cases C
    ·rename_i es q hu E;rw [E] at H;simp only [V] at H;obtain ⟨J,c,Q,_,_,T,_⟩:=H;split at C
     ·rename_i l L;split at C
      ·rename_i hm;simp only [uf] at C;subst C;exact ⟨_,up.2 rfl,N _ _ hu L hm ⟨J,c,Q,T⟩⟩
      ·cases C
     ·cases C
    ·cases C
   ·cases C
  ·cases f
 ·-- alloc
  rename_i t F;split at f
  ·rename_i x hz;split at f
   ·rename_i hone;simp only [uf] at f;subst f;obtain ⟨i,z,hi,hzz,hva⟩:=vj (g:=g) hz;have hsl:=r.slen;simp only [VA,V] at hva;obtain ⟨v0,s0,hz0,⟨_,rfl⟩,v1,s1,rfl,⟨_,hV1⟩,rfl⟩:=hva;have hzc:z.cells=#[.pointer none,v1]:=by
     apply rZ;rw [hz0]
    refine ⟨_,up.2 rfl,.pointer (some ⟨w.heap.size,0,none⟩),w.alloc (.cells z.cells t),g.addS w.heap.size,.inl ?_,g.le_addS _,r.newBlk _ _ ⟨.pointer none,v1,by rw [<- hzc];exact heap_alloc_new w _,.inl rfl,hone,V.mono (g.le_addS _) _ _ hV1⟩,?_⟩
    ·simp [execOp,F,Instr.alloc,run_zero hi hzz,newVar,newRow]
    ·simp only [V,Gh.addS]
     simp_all
   ·cases f
  ·cases f
 ·-- append
  rename_i c F;split at f
  ·rename_i ts x y I has;split at f
   ·rename_i A;simp only [ud] at A;have R:c.args=#[x,y]:=by grind
    have D:=V.ev K A.1;have G:=V.ev K A.2;split at f
    ·rename_i W a1 Z b1 E hy;split at f
     ·rename_i hk;subst hk;simp only [uf] at f;subst f;rw [E] at D;rw [hy] at G;simp only [V] at D G;refine ⟨_,up.2 rfl,.int W (if b1 > a1 then b1 else a1),w,g,.inl ?_,Gh.le.refl g,r,by simp only [V]⟩;simp only [execOp,F,resolve,I,Sem.run_bind,Sem.run_pure,Result.andThen_ok,invoke,R];simp [builtin,D,G,run_max_int2]
     ·cases f
    ·cases f
   ·cases f
  ·rename_i ts x y I has;split at f
   ·rename_i A;simp only [ud] at A;have R:c.args=#[x,y]:=by grind
    have D:=V.ev K A.1;have G:=V.ev K A.2;split at f
    ·rename_i W a1 Z b1 E hy;split at f
     ·rename_i hk;subst hk;simp only [uf] at f;subst f;rw [E] at D;rw [hy] at G;simp only [V] at D G;refine ⟨_,up.2 rfl,.int W (if b1 < a1 then b1 else a1),w,g,.inl ?_,Gh.le.refl g,r,by simp only [V]⟩;simp only [execOp,F,resolve,I,Sem.run_bind,Sem.run_pure,Result.andThen_ok,invoke,R];simp [builtin,D,G,run_min_int2]
     ·cases f
    ·cases f
   ·cases f
  ·rename_i t u s x I hts has;split at f
   ·rename_i A;simp only [ud] at A;have hta:c.argTypes=#[t,u]:=by grind
    have R:c.args=#[s,x]:=by grind
    have hVs:=(V.ev K A.1).tyfix (P:=P) (t:=t);have D:=(V.ev K A.2).tyfix (P:=P) (t:=u);split at f
    ·rename_i e e' M hu;have N:∀i k es,P.info? e=some i->tyfix P t (ev env s)=.osl none k es->(∃J c,a.eval x=.slice J 0 c)->wT P B w0 g a o w (.osl none k es) h:=by
      rintro i k es hi hs ⟨J,c2,E⟩
      rw [hs] at hVs;have hV2:=hVs;simp only [V] at hVs;obtain ⟨a1,c1,hs1,Q,_⟩:=hVs;refine ⟨a.eval s,w,g,.inl ?_,Gh.le.refl g,r,hV2⟩;simp only [execOp,F,resolve,I,Sem.run_bind,Sem.run_pure,Result.andThen_ok,invoke,hta,R];simp only [builtin,Array.map,hs1];simp [append0 M hu hi Q,hs1,E]
     split at f
     ·rename_i i k es q hi hs E;simp only [uf] at f;subst f;refine ⟨_,up.2 rfl,N _ k es hi hs ?_⟩;rw [E] at D;simp only [V] at D
      grind
     ·rename_i i k es q q2 hi hs E;simp only [uf] at f;subst f;refine ⟨_,up.2 rfl,N _ k es hi hs ?_⟩;rw [E] at D;simp only [V] at D
      grind
     ·cases f
    ·cases f
   ·cases f
  ·rename_i t x I hts has;split at f
   ·rename_i A;have hta:c.argTypes=#[t]:=by grind
    have R:c.args=#[x]:=by grind
    have D:=V.ev K A;split at f
    ·rename_i e id tk k n i M E;split at f
     ·rename_i z t' k' es hz L;split at f
      ·rename_i hcd;obtain ⟨⟨rfl,rfl,rfl⟩,hzl,hk0⟩:=hcd;split at f
       ·rename_i z' hcl;simp only [uf] at f;subst f;rw [E] at D;obtain ⟨w',Q,T⟩:=clear_sound (P:=P) (ty:=o.type) r M hz hcl hzl hk0 L rfl D;refine ⟨_,up.2 rfl,.tuple #[],w',g,.inl ?_,Gh.le.refl g,T,by simp [V,VL]⟩;simp only [execOp,F,resolve,I,Sem.run_bind,Sem.run_pure,Result.andThen_ok,invoke,hta,R];simp [builtin,Q]
       ·cases f
      ·cases f
     ·cases f
    ·cases f
   ·cases f
  ·cases f
 ·-- insert
  rename_i t m k x F;split at f
  ·rename_i v h' hs;simp only [uf] at f;subst f;refine ⟨_,up.2 rfl,?_⟩;have:=astep_fits (P:=P) r K { o with op:=.mapUpdate t m k x };rw [hs] at this;obtain ⟨u,w',g',Q,T⟩:=this;refine ⟨u,w',g',?_,T⟩;simpa only [execOp,F] using Q
  ·cases f
 ·-- makeInterface
  rename_i t x F;split at f
  ·rename_i A;have H:=(V.ev K A).tyfix (P:=P) (t:=t);split at f
   ·cases f
   ·rename_i d hne hd;simp only [uf] at f;subst f;refine ⟨_,up.2 rfl,.iface t (a.eval x),w,g,.inl ?_,Gh.le.refl g,r,?_⟩
    ·have:(Instr.makeInterface t (a.eval x)).run P w=.ok (.iface t (a.eval x)) w:=by
      simp only [Instr.makeInterface,Sem.run_bind,run_underlying hd,Result.andThen_ok];simp
     simp [execOp,F,this]
    ·simp only [V];exact ⟨_,rfl,H⟩
   ·cases f
  ·cases f
 ·-- typeAssert
  rename_i x xt t ok F;split at f
  ·rename_i A;have H:=V.ev K A;split at f
   ·cases f
   ·rename_i d u v hne hd E;rw [E] at H;simp only [V] at H;obtain ⟨y,hy,hv⟩:=H;split at f
    ·rename_i hut;subst hut;simp only [uf] at f;subst f;refine ⟨_,up.2 rfl,if ok then .tuple #[y,.bool true] else y,w,g,.inl ?_,Gh.le.refl g,r,?_⟩
     ·have:(Instr.typeAssert (.iface u y) xt u ok).run P w=.ok (if ok then .tuple #[y,.bool true] else y) w:=by
       simp only [Instr.typeAssert,Sem.run_bind,run_underlying hd,Result.andThen_ok];rfl
      simp [execOp,F,hy,this]
     ·cases ok
      ·exact hv
      ·simp only [ur,V,VL]
       simp_all
    ·rename_i hut;split at f
     ·rename_i hk;subst hk;split at f
      ·rename_i z hz;simp only [uf] at f;subst f;obtain ⟨zv,hz1,hz2⟩:=aZero_sound (P:=P) (w:=w) (g:=g) hz;refine ⟨_,up.2 rfl,.tuple #[zv,.bool false],w,g,.inl ?_,Gh.le.refl g,r,?_⟩
       ·have:(Instr.typeAssert (.iface u y) xt t true).run P w=.ok (.tuple #[zv,.bool false]) w:=by
         simp only [Instr.typeAssert,Sem.run_bind,run_underlying hd,Result.andThen_ok]
         simp_all
        simp [execOp,F,hy,this]
       ·simp only [V,VL]
        simp_all
      ·cases f
     ·cases f
   ·cases f
  ·cases f
 ·-- a row is cut
  rename_i t x y F;split at f
  ·rename_i A;simp only [ud] at A;have D:=V.ev K A.1;have G:=V.ev K A.2;split at f
   ·rename_i e id tk k m kk n M E hy;split at f
    ·rename_i i t' k' es hi L;split at f
     ·rename_i I;obtain ⟨⟨rfl,rfl,rfl⟩,hn0,hnm⟩:=I;simp only [uf] at f;subst f;rw [E] at D;rw [hy] at G;have hVx2:=D;simp only [V] at D G;obtain ⟨J,c,hev,hnc,Y,_⟩:=D;rw [hev] at hVx2;obtain ⟨g',Q,T,h3⟩:=r.shrink (n:=n.toNat) (a':=if c=0 then J else J.map (·.add (0 * i.size))) L hnm (by grind) hVx2;refine ⟨_,up.2 rfl,_,w,g',.inl ?_,Q,T,h3⟩;have hbd:=slice_bounds (P:=P) (w:=w) (isS:=true) (len:=es.length) (cap:=c) (l:=0) (hh:=n.toNat) (m:=c) (d:=0) (lo:=none) (hi:=some (.int kk n)) (mx:=none) (.inl ⟨rfl,rfl⟩)
       (.inr ⟨kk,n,rfl,hn0,by omega⟩) (.inl ⟨rfl,rfl⟩) (tU _) (by omega) (ue _) rfl
      have:(Instr.sliceAt t (.slice J es.length c) none (some (.int kk n)) none).run P w=.ok (.slice (if c=0 then J else J.map (·.add (0 * i.size))) n.toNat c) w:=by
       rw [sliceAt_of M (by simp)];simp [Instr.slice,yp M,hbd,xp hi]
      simp [execOp,F,hev,G,this]
     ·cases f
    ·cases f
   ·cases f
  ·cases f
 ·-- a row's end
  rename_i t x y F;split at f
  ·rename_i A;simp only [ud] at A;have D:=V.ev K A.1;have G:=V.ev K A.2;split at f
   ·rename_i e id tk k m kk n M E hy;split at f
    ·rename_i i hi;split at f
     ·rename_i I;obtain ⟨rfl,hn0,hnm⟩:=I;simp only [uf] at f;subst f;rw [E] at D;rw [hy] at G;simp only [V] at D G;obtain ⟨J,c,hev,hnc,Y,tt,htt,hrd,hle,hhd⟩:=D;refine ⟨_,up.2 rfl,.slice (if c=n.toNat then J else J.map (·.add (n.toNat * i.size))) (m - n.toNat) (c - n.toNat),w,g,.inl ?_,Gh.le.refl g,r,?_⟩
      ·have hbd:=slice_bounds (P:=P) (w:=w) (isS:=true) (len:=m) (cap:=c) (l:=n.toNat) (hh:=m) (m:=c) (d:=0) (lo:=some (.int kk n)) (hi:=none) (mx:=none) (.inr ⟨kk,n,rfl,hn0,by omega⟩)
        (.inl ⟨rfl,rfl,rfl⟩) (.inl ⟨rfl,rfl⟩) hnm hnc (ue _) rfl
       have:(Instr.sliceAt t (.slice J m c) (some (.int kk n)) none none).run P w=.ok (.slice (if c=n.toNat then J else J.map (·.add (n.toNat * i.size))) (m - n.toNat) (c - n.toNat)) w:=by
        rw [sliceAt_of M (by simp)];simp [Instr.slice,yp M,hbd,xp hi]
       simp [execOp,F,hev,G,this]
      ·simp only [V];refine ⟨_,_,rfl,⟨hnm,by omega⟩,tt,htt,?_⟩;by_cases h0:m - n.toNat=0
       ·omega
       ·right;rcases hhd with ⟨Q,_⟩ | ⟨b,o2,T,h3⟩
        ·omega
        ·have hcn:¬ c=n.toNat:=by omega
         refine ⟨b,o2+n.toNat * i.size,?_,hrd,hle,λhe'=>⟨o2,_,rfl,h3 he'⟩⟩;rw [te hcn,T];simp [xP]
     ·cases f
    ·cases f
   ·cases f
  ·cases f
 ·cases f
end
end Go.Vv
namespace Go.Vv
open Go Go.RowKit Go.Lib

def anew (P:Program) (o:Oper) (env:List AV):Option (Nat×List (List AV)) :=
 match o.op with
 | .call c=>match c.callee,c.argTypes.toList,c.args.toList with
  | .builtin .append,[t,u],[s,x]=>if yf s&&yf x then (match P.underlying t,P.underlying u with
   | some (.slice e),some (.slice _)=>match P.info? e with
    | some i=>if i.bytes<=65536/\0 < i.size/\(i.zero.map (·.cells.size))=some i.size then (match tyfix P t (ev env s),aNews i.size (tyfix P u (ev env x)) with
     | .osl none k [],some ys=>if k=i.size/\ys.length<=xe then some (i.size,ys) else none
     | _,_=>none) else none
    | none=>none
   | _,_=>none) else none
  | _,_,_=>none
 | _=>none

section
variable {P:Program} {w:World} {g:Gh} {h:AH} {B:Nat} {w0:World}
theorem news_ex (r:Rel B w0 g h w) {k:Nat} (E:0 < k) {F:AV} {x:Value} (p:V g F x) {i:List (List AV)} (d:aNews k F=some i) :
  ∃f,(∀e ∈ i,e.length=k)/\VA g i.flatten f/\i.flatten.all AV.pure=true/\∀W:World,(∀a v,w.cell? a=some v->W.cell? a=some v)->News P k i.length x f W:=by
 have slc:∀(es:List (List AV)) (l:Option Addr) (c:Nat),x=.slice l es.length c->(es=[] \/ ∃b o,l=some ⟨b,o,none⟩/\VE g b k o es)->i=es ->
   ∃f,(∀e ∈ i,e.length=k)/\VA g i.flatten f/\i.flatten.all AV.pure=true/\∀W:World,(∀a v,w.cell? a=some v->W.cell? a=some v)->News P k i.length x f W:=by
  rintro es l c q D rfl
  rcases D with rfl | ⟨b,oo,rfl,y⟩
  ·refine ⟨[],by simp,by simp [VA],rfl,λW _=>⟨by rw [q];rfl,?_⟩⟩;rw [q];cases l with
   | none=>simp [Builtin.firstCells]
   | some l=>simp [Builtin.firstCells,loadCells,loadCellsFrom]
  ·obtain ⟨n,u⟩:=VE_iff.1 y;obtain ⟨us,t,z,C⟩:=u.toVA;refine ⟨us,n,t,z,λW G=>?_⟩;rw [q];refine News.slice (by rw [<- t.length,yF n]) λj v I=>?_;rw [xP];exact G _ _ (r.phi _ _ _ (C j v I))
 unfold aNews at d;split at d
 ·split at d
  ·rename_i m;cases d;subst m;simp only [V] at p
   grind
  ·cases d
 ·split at d
  ·rename_i m;cases d;subst m;simp only [V] at p
   grind
  ·cases d
 ·split at d
  ·rename_i m;cases d;subst m;simp only [V] at p;obtain ⟨l,c,n,u,H,A⟩:=p;exact slc _ l c n (A.imp id λ⟨b,o,e,hh,_⟩=>⟨b,o,e,hh⟩) rfl
  ·cases d
 ·split at d
  ·rename_i m;cases d;subst m;simp only [V] at p;obtain ⟨l,c,n,u,H,A⟩:=p;exact slc _ l c n (A.imp id λ⟨b,o,e,hh,_⟩=>⟨b,o,e,hh⟩) rfl
  ·cases d
 ·rename_i s;split at d
  ·rename_i m;cases d;simp only [V] at p;obtain ⟨n,u⟩:=p;refine ⟨strCells ⟨s.toArray⟩,λe J=>?_,?_,by rw [bytes_flat,List.all_map];exact uv.2 λ_ _=>rfl,λW _=>?_⟩
   ·grind
   ·rw [bytes_flat];exact bytes_VA s
   ·rw [n];have:=News.str (P:=P) (size:=k) (s:=⟨s.toArray⟩) (w:=W);rw [str_size] at this
    simp_all
  ·cases d
 ·cases d

theorem new_fits (r:Rel B w0 g h w) {a:Act} {env:List AV} (D:VL g env a.tmps.toList) {o:Oper} {k:Nat} {C:List (List AV)} (b:anew P o env=some (k,C)):wT P B w0 g a o w (.nsl k C) h:=by
 unfold anew at b;split at b
 ·rename_i c O;split at b
  ·rename_i t u G U l S has;split at b
   ·rename_i d;simp only [ud] at d;split at b
    ·rename_i e Y H Q;split at b
     ·rename_i i hi;split at b
      ·rename_i y;obtain ⟨p,j,W⟩:=y;obtain ⟨z,M,s⟩:∃z,i.zero=some z/\z.cells.size=i.size:=by
        simp_all
       split at b
       ·rename_i k' N hs n;split at b
        ·rename_i I;obtain ⟨rfl,m⟩:=I;cases b;have f:=(V.ev D d.1).tyfix (P:=P) (t:=t);rw [hs] at f;obtain ⟨A,L,F,R,K⟩:=news_ex (P:=P) r j ((V.ev D d.2).tyfix (P:=P) (t:=u)) n;obtain ⟨v,w',g',E,T,J,X⟩:=append_new (ty:=o.type) r H Q (.inr ⟨_,rfl⟩) hi M s p f L F R K m;refine ⟨v,w',g',.inl ?_,T,J,X⟩;have x:c.argTypes=#[t,u]:=by grind
         have q:c.args=#[G,U]:=by grind
         simp only [execOp,O,resolve,l,Sem.run_bind,Sem.run_pure,Result.andThen_ok,invoke,x,q];simp [builtin,E]
        ·cases b
       ·cases b
      ·cases b
     ·cases b
    ·cases b
   ·cases b
  ·cases b
 ·cases b
end
end Go.Vv
