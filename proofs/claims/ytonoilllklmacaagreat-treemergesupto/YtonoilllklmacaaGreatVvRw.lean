/- Mutable rows: how one begins, and how it is cut. -/
import Derived.Test.YtonoilllklmacaaGreatVvF
import Derived.Test.YtonoilllklmacaaGreatVvMp
import Derived.Maps.RangeRun
import Derived.RangeFuncRecord
import Derived.Laws.IdiomStrings
set_option linter.all false
namespace Go.Vv
open Go Go.RowKit
section
variable {B:Nat} {w0 w:World} {g:Gh} {h:AH}
theorem Rel.adoptN (r:Rel B w0 g h w) (k:Blk) (v:RowB (g.addS none) w k) (F:∀t p es,k=.row t p es->∀(i k2:Nat) (o:List (List AV)),h.blks[i]? ≠ some (.row t k2 o)) :
  Rel B w0 (g.addS none) (h.new k) w:=by
 have key:∀(i:Nat) (x:Blk),(h.blks++[k])[i]?=some x->(h.blks[i]?=some x/\i < h.blks.length) \/ (i=h.blks.length/\x=k):=by
  grind
 refine ⟨r.below,r.bsz,r.phi,by simp [Gh.addS,AH.new,r.slen],λi c q hc d=>?_,r.tlen,r.tok,λi j c hi f=>?_,r.tinj,λi c j t b x hi f D=>?_,λc hc=>⟨(r.dfr c hc).1,(r.dfr c hc).2.1,λi hi=>?_⟩,
  λi q hi d=>?_,λi j t p k2 es es' hi f=>?_,λb x l=>(r.nb b x l).mono λ_ _ s=>⟨rfl,⟨λi hi=>(addS_get hi).elim (λhi=>s.1 i hi) (λa=>nomatch a.2),s.2⟩,λ_ h=>h⟩,r.ob,λb l=>⟨λi hi=>(addS_get hi).elim (λhi=>(r.oa b l).1 i hi) (λa=>nomatch a.2),(r.oa b l).2⟩⟩
 ·rcases addS_get hc with hc | ⟨_,a⟩
  ·have A:i < h.blks.length:=by rw [<- r.slen];exact (uc.1 hc).1
   rcases key i q d with ⟨d,_⟩ | ⟨rfl,_⟩
   ·obtain ⟨z,u,C,y⟩:=r.blk i c q hc d;exact ⟨z,u,C.mono (g.le_addS _) rfl,y⟩
   ·omega
  ·cases a
 ·rcases addS_get hi with hi | ⟨_,a⟩
  ·rcases addS_get f with f | ⟨_,a⟩
   ·exact r.sinj i j c hi f
   ·cases a
  ·cases a
 ·rcases addS_get hi with hi | ⟨_,a⟩
  ·exact r.sep i c j t b x hi f D
  ·cases a
 ·rcases addS_get hi with hi | ⟨_,a⟩
  ·exact (r.dfr c hc).2.2 i hi
  ·cases a
 ·rcases key i q d with ⟨d,A⟩ | ⟨_,rfl⟩
  ·rcases addS_get hi with hi | ⟨e,_⟩
   ·exact (r.row i q hi d).mono (g.le_addS _) (λ_ _ h _=>h) (λ_ _ _ _ _ _ _=>⟨rfl,λ_=>rfl⟩)
   ·rw [r.slen] at e;omega
  ·exact v
 ·rcases key i _ hi with ⟨m,_⟩ | ⟨rfl,G⟩ <;> rcases key j _ f with ⟨n,_⟩ | ⟨rfl,E⟩
  ·exact r.rinj _ _ _ _ _ _ _ m n
  ·grind
  ·grind
  ·rfl
theorem Rel.row_lt (r:Rel B w0 g h w) {i t k:Nat} {es:List (List AV)} (a:h.blks[i]?=some (.row t k es)):t < g.τ.length:=by
 obtain ⟨_,u,b,_⟩:=r.rowAt a
 grind
theorem Rel.newRowT (r:Rel B w0 g h w) (t:TI) (k:Nat) (es:List (List AV)) (a:∀b l e,t.loc=some (b,l,e)->LocOk g.Φ B w b l e)
  (hd:∀b x,t.loc=some (b,x)->(∀(j:Nat) (u:TI) (y:Nat×Nat),g.τ[j]?=some u->u.loc ≠ some (b,y))/\(∀(j c:Nat),g.σ[j]?=some (some c)->b ≠ c)/\g.N b=none/\¬ g.O b)
  (d:RowOk ((g.addT t).addS none) w g.τ.length k es) :
  Rel B w0 ((g.addT t).addS none) (({ h with toks:=h.toks++[t.n] }:AH).new (.row g.τ.length k es)) w:=by
 refine (r.addTok t a hd).adoptN _ d λt' p f e i k2 o hi=>?_;injection e with m _ _;subst m;exact tQ _ (r.row_lt hi)

theorem Rel.setRowG (r:Rel B w0 g h w) {i q k:Nat} {t t':TI} {es:List (List AV)} {nb:Blk} (hi:g.τ[i]?=some t) (hn:t.n < t'.n) (hf:t.row=true) (U:t'.row=true)
  (hq:g.σ[q]?=some none) (m:h.blks[q]?=some (.row i k es)) (hrow:RowB (g.setT i t') w nb) (I:∀t k es,nb=.row t k es->t=i)
  (G:∀b l e,t'.loc=some (b,l,e)->LocOk g.Φ B w b l e)
  (hd:∀b x,t'.loc=some (b,x)->(∃y,t.loc=some (b,y)) \/ ((∀(j:Nat) (u:TI) (y:Nat×Nat),g.τ[j]?=some u->u.loc ≠ some (b,y))/\(∀(j c:Nat),g.σ[j]?=some (some c)->b ≠ c)/\g.N b=none/\¬ g.O b)) :
  Rel B w0 (g.setT i t') { h.put q nb with toks:=h.toks.set i t'.n } w:=by
 have R:i < g.τ.length:=(uc.1 hi).1;have J:=Gh.le_setT hi hn (U.trans hf.symm);have key:∀(j:Nat) (u:TI),(g.setT i t').τ[j]?=some u->(j=i/\u=t') \/ (j ≠ i/\g.τ[j]?=some u):=by
  intro j u e;simp only [Gh.setT] at e
  grind
 have hql:q < h.blks.length:=(uc.1 m).1;have d:∀(j:Nat) (b:Blk),(h.blks.set q nb)[j]?=some b->(j=q/\b=nb) \/ (j ≠ q/\h.blks[j]?=some b):=by
  grind
 refine ⟨r.below,r.bsz,r.phi,by simp [AH.put,Gh.setT,r.slen],λY c b hc F=>?_,by simp [Gh.setT,r.tlen],λj u a=>?_,r.sinj,λj K u u' b x y Q s C V=>?_,λj c K u b x hc a C=>?_,r.dfr,
  λj b Q F=>?_,λj1 j2 t1 k1 k2 e1 Z S A=>?_,λb x m=>?_,r.ob,λb m=>?_⟩
 rotate_right
 rotate_right
 ·exact (r.nb b x m).mono λ_ _ v=>⟨rfl,⟨v.1,v.2.1,λj u y a H=>by
    rcases key j u a with ⟨rfl,rfl⟩ | ⟨_,a⟩
    ·rcases hd b y H with ⟨z,p⟩ | ⟨_,_,P,_⟩
     ·exact v.2.2 _ _ z hi p
     ·have m:g.N b=some x:=m
      grind
    ·exact v.2.2 j u y a H⟩,λ_ h=>h⟩
 ·have v:=r.oa b m;refine ⟨v.1,v.2.1,λj u y a H=>?_⟩;rcases key j u a with ⟨rfl,rfl⟩ | ⟨_,a⟩
  ·rcases hd b y H with ⟨z,p⟩ | ⟨_,_,_,P⟩
   ·exact v.2.2 _ _ z hi p
   ·exact P m
  ·exact v.2.2 j u y a H
 ·have hc:g.σ[Y]?=some (some c):=hc;rcases d Y b F with ⟨rfl,rfl⟩ | ⟨o,F⟩
  ·simp_all
  ·obtain ⟨L,D,P,h4⟩:=r.blk Y c b hc F;exact ⟨L,D,P.mono J rfl,h4⟩
 ·rcases key j u a with ⟨rfl,rfl⟩ | ⟨Q,a⟩
  ·exact ⟨uD (by rw [<- r.tlen];exact R),G⟩
  ·obtain ⟨L,D⟩:=r.tok j u a;exact ⟨by grind,D⟩
 ·rcases key j u Q with ⟨rfl,rfl⟩ | ⟨o,A⟩ <;> rcases key K u' s with ⟨rfl,rfl⟩ | ⟨hne',s⟩
  ·rfl
  ·rcases hd b x C with ⟨z,p⟩ | ⟨L,_⟩
   ·exact r.tinj _ _ _ _ b z y hi s p V
   ·grind
  ·rcases hd b y V with ⟨z,p⟩ | ⟨L,_⟩
   ·exact r.tinj _ _ _ _ b x z A hi C p
   ·grind
  ·exact r.tinj _ _ _ _ b x y A s C V
 ·rcases key K u a with ⟨rfl,rfl⟩ | ⟨o,a⟩
  ·rcases hd b x C with ⟨z,p⟩ | ⟨_,D,_⟩
   ·exact r.sep j c _ t b z hc hi p
   ·exact D j c hc
  ·exact r.sep j c K u b x hc a C
 ·rcases d j b F with ⟨rfl,rfl⟩ | ⟨o,f⟩
  ·omega
  ·have M:=r.row j b Q f;cases b with
   | row i2 k2 Z =>
    have M:RowOk g w i2 k2 Z:=M;have T:i2 ≠ i:=by rintro rfl;exact o (r.rinj _ _ _ _ _ _ _ f m)
    exact M.mono J (by simp only [Gh.setT];exact uR (λe=>T e.symm)) (λ_ _ _ _ _ _=>⟨rfl,λ_=>rfl⟩)
   | dead=>trivial
   | _=>exact M.elim
 ·rcases d j1 _ S with ⟨rfl,X⟩ | ⟨hne1,E⟩ <;> rcases d j2 _ A with ⟨rfl,W⟩ | ⟨hne2,f⟩
  ·rfl
  ·have:=I _ _ _ X.symm;subst this;exact r.rinj _ _ _ _ _ _ _ m f
  ·have:=I _ _ _ W.symm;subst this;exact r.rinj _ _ _ _ _ _ _ E m
  ·exact r.rinj _ _ _ _ _ _ _ E f

def AH.shr (h:AH) (id tk k n:Nat) (es:List (List AV)):AH:=({ h.put id .dead with toks:=h.toks.set tk (es.length+1)++[n] }:AH).new (.row h.toks.length k (es.take n))
theorem flat_takeN {k:Nat}:∀(n:Nat) (es:List (List AV)),(∀e ∈ es,e.length=k)->n<=es.length->(es.take n).flatten=es.flatten.take (n * k)
 | 0,_,_,_=>by simp
 | n+1,[],_,h=>by simp at h
 | n+1,e::r,hk,h=>by
  have b:=hk e tT;simp only [sK,uU];rw [flat_takeN n r (λx d=>hk x (tJ _ d)) (by simpa using h),tV,b];have a:(n+1) * k - k=n * k:=by grind
  have c:e.take ((n+1) * k)=e:=uK (by grind);rw [a,c]
def locOf (a:Option Addr) (n c k:Nat):Option (Nat×Nat×Nat):=match a with
 | some ⟨b,o,none⟩=>if c=0 then none else some (b,o+n * k,o+c * k)
 | _=>none
theorem Rel.shrink (r:Rel B w0 g h w) {id i k n c:Nat} {es:List (List AV)} (hb:h.blk id=some (.row i k es)) (S:n<=es.length) {a a':Option Addr} (ha:a'=a \/ a'=a.map (·.add 0))
  (hV:V g (.rsl id i k es.length) (.slice a es.length c)) :
  ∃g',g.le g'/\Rel B w0 g' (h.shr id i k n es) w/\V g' (.rsl h.blks.length h.toks.length k n) (.slice a' n c):=by
 obtain ⟨hq,t,m,I,U,q,hpure,z⟩:=r.rowAt hb;simp only [V] at hV;obtain ⟨ad,cc,R,hnc,W,u,Q,hur,hun,K⟩:=hV;simp only [Value.slice.injEq] at R;obtain ⟨rfl,_,rfl⟩:=R;rw [m] at Q;injection Q with Q;subst Q;have Z:h.blks[id]?=some (.row i k es):=hb
 let d:TI:=⟨es.length+1,none,true⟩
 have r1:=r.setRowG (t':=d) (nb:=.dead) m (by grind) I rfl hq Z trivial (λ_ _ _ e=>by cases e) (λ_ _ _ e=>by cases e) (λ_ _ e=>by cases e);have hlt:i < g.τ.length:=(uc.1 m).1;have s:g.le (g.setT i d):=Gh.le_setT m (by grind) I.symm;have hloc:t.loc=t.loc:=rfl
 -- where the new one lies
 let f:TI:=⟨n,locOf a n c k,true⟩
 have other:∀(j:Nat) (v:TI),(g.setT i d).τ[j]?=some v->(j=i/\v=d) \/ (j ≠ i/\g.τ[j]?=some v):=by
  intro j v e;simp only [Gh.setT] at e
  grind
 have L:∀b l e,f.loc=some (b,l,e)->∃o,a=some ⟨b,o,none⟩/\l=o+n * k/\e=o+c * k/\t.loc=some (b,o+es.length * k,o+c * k):=by
  intro b l e E;simp only [f,locOf] at E
  grind
 have free:∀b o,t.loc=some (b,o+es.length * k,o+c * k)->∀j,o+n * k<=j->g.Φ b j=none:=by
  intro b o E j p;rcases z with rfl | ⟨b2,P,e2,cs,ty,k1,k2,k3,k4,k5⟩
  ·have:=(r.tok i t m).2 _ _ _ E;exact this.free j (by simp_all)
  ·grind
 have F:∀b l e,f.loc=some (b,l,e)->LocOk (g.setT i d).Φ B w b l e:=by
  intro b l e E;obtain ⟨o,_,rfl,rfl,D⟩:=L b l e E;have M:=(r.tok i t m).2 _ _ _ D;exact ⟨M.lo,M.lt,M.cells,λj p=>free b o D j p⟩
 have hdN:∀b x,f.loc=some (b,x)->(∀(j:Nat) (u:TI) (y:Nat×Nat),(g.setT i d).τ[j]?=some u->u.loc ≠ some (b,y))/\(∀(j c:Nat),(g.setT i d).σ[j]?=some (some c)->b ≠ c)/\(g.setT i d).N b=none/\¬ (g.setT i d).O b:=by
  rintro b ⟨l,e⟩ E
  obtain ⟨o,_,_,_,D⟩:=L b l e E;refine ⟨λj v y p hv=>?_,λj c' p=>r.sep j c' i t b _ p m D,r.ntok m D,r.otok m D⟩;rcases other j v p with ⟨rfl,rfl⟩ | ⟨T,p⟩
  ·cases hv
  ·exact T (r.tinj _ _ _ _ b _ _ p m hv D)
 have A:(g.setT i d).τ.length=h.toks.length:=by simp [Gh.setT,r.tlen]
 have J:(((g.setT i d).addT f).addS none).τ[h.toks.length]?=some f:=by
  simp only [Gh.addS,Gh.addT]
  simp_all
 have Y:es ≠ []->c ≠ 0:=by
  grind
 have C:RowOk (((g.setT i d).addT f).addS none) w (g.setT i d).τ.length k (es.take n):=by
  rw [A];refine ⟨f,J,rfl,by grind,λe R=>q e (List.mem_of_mem_take R),?_,?_⟩
  ·grind
  ·by_cases hes:es=[]
   ·grind
   ·right;rcases z with h0 | ⟨b2,P,e2,cs,ty,k1,k2,k3,k4,k5⟩
    ·simp_all
    ·rcases K with ⟨h1,_⟩ | ⟨b,o,H,G⟩
     ·grind
     ·have G:=G U.symm;rw [k1] at G;simp only [ui,t6] at G;obtain ⟨rfl,M,rfl⟩:=G;have:P=o:=by omega
      subst this;have X:n * k<=es.length * k:=u7 k S;refine ⟨b2,P,P+c * k,cs,ty,?_,k2,?_,?_,λj p=>k5 j p⟩
      ·simp only [f,locOf,H,uM (Y hes),tq,sX S]
      ·rw [flat_takeN n es q S,tq,sX S];have:=VA.take (n * k) k3;rw [pP,sX X] at this;exact VA.mono ((s.trans (Gh.le_addT _ _)).trans (Gh.le_addS _ _)) _ _ this
      ·grind
 have r2:=r1.newRowT f k (es.take n) F hdN C;refine ⟨((g.setT i d).addT f).addS none,(s.trans (Gh.le_addT _ _)).trans (Gh.le_addS _ _),?_,?_⟩
 ·have e1:h.shr id i k n es=(({ ({ h.put id .dead with toks:=h.toks.set i d.n }:AH) with toks:=(h.toks.set i d.n)++[f.n] }:AH).new (.row (g.setT i d).τ.length k (es.take n))):=by
   unfold AH.shr
   grind
  simp_all
 ·simp only [V];refine ⟨a',c,rfl,by omega,W,f,J,rfl,ug _,?_⟩;rcases K with ⟨h1,H⟩ | ⟨b,o,H,G⟩
  ·omega
  ·by_cases hc0:c=0
   ·omega
   ·right;refine ⟨b,o,?_,λ_=>?_⟩
    ·rcases ha with rfl | rfl
     ·exact H
     ·rw [H];simp [Addr.add]
    ·simp only [f,locOf,H,uM hc0]
end
end Go.Vv
namespace Go.Vv
open Go Go.RowKit Go.Lib
section
variable {P:Program} {w:World} {g:Gh} {h:AH} {B:Nat} {w0:World}
theorem row_write (r:Rel B w0 g h w) {id q k p:Nat} {es:List (List AV)} (A:h.blk id=some (.row q k es)) (u:es ≠ []) {t:TI} {b D:Nat} (S:g.τ[q]?=some t) (l:rowPt t b D es.length k p) {us:List Value} {vs:List AV}
  (i:VA g vs us) (K:vs.all AV.pure=true) (hfit:p+us.length<=es.flatten.length) :
  ∃w',(storeCells ⟨b,D,none⟩ us).run P w=.ok () w'/\Rel B w0 g (h.put id (.row q k (rows k es.length (y8 es.flatten p vs)))) w':=by
 obtain ⟨R,O,l⟩:=l;obtain ⟨_,M,z,J,x,n,E,v⟩:=r.rowAt A;obtain rfl:M=t:=by simp_all
 obtain ⟨c,H,rfl,a⟩:=l x.symm;have y:es.flatten.length=es.length * k:=yT n;have F:vs.length=us.length:=i.length;obtain ⟨W,I,V,cs,ty2,d,k2,G,T,U⟩:=v.resolve_left u;rw [a] at d;injection d with d;injection d with N d;injection d with d _;obtain rfl:c=I:=by omega
 subst N;have f:=run_storeCells_at P b (c+p) ty2 us 0 cs w k2 (by omega) i.one';simp only [tL] at f;generalize hnew:(cs.toList.take (c+p)++us++cs.toList.drop (c+p+us.length)).toArray=new at f;have s:(y8 es.flatten p vs).length=es.length * k:=by unfold y8;rw [uq,uq,tq,rg,y];omega
 obtain ⟨C,L,f3⟩:=rows_flat (k:=k) es.length (y8 es.flatten p vs) s;have Q:cs.toList.length=cs.size:=by simp
 refine ⟨w.setRow b new,f,r.storeRow (e:=H) (cur:=cs) (ty:=ty2) (o:=c) A z a k2 (by grind) (λj X=>?_) L f3 ?_ ?_ u⟩
 ·rw [<- hnew,sD,uC,un (by simp;omega),uu,uz (by omega),uF]
 ·rw [C];unfold y8
  grind
 ·rw [C];have m:(new.toList.drop c).take (es.length * k)=((cs.toList.drop c).take (es.length * k)).take p++us++((cs.toList.drop c).take (es.length * k)).drop (p+us.length):=by
   rw [<- hnew];apply uZ;intro j;by_cases h1:j < p
   ·rw [uu,uz (by omega),uB,uC,un (by simp;omega),uu,uz (by omega)];rw [uC,un (by simp;omega),uu,uz h1,uu,uz (by omega),uB]
   ·by_cases h2:j < p+us.length
    ·rw [uu,uz (by omega),uB,uC,uj (by simp;omega),un (by simp;omega)];rw [uC,uj (by simp;omega),un (by simp;omega)]
     grind
    ·by_cases h3:j < es.length * k
     ·rw [uu,uz h3,uB,uj (by simp;omega),uB];rw [uj (by simp;omega),uB,uu,uz (by simp;omega),uB]
      grind
     ·rw [uu,uM h3,tF]
      grind
  rw [m];exact splice_VA (off:=p) G i
def zsuf (z:List AV) (n i:Nat):List AV:=(List.replicate (n - i) z).flatten
def AH.clr (h:AH) (id tk k i:Nat) (es:List (List AV)) (z:List AV):AH:=h.put id (.row tk k (rows k es.length (y8 es.flatten (i * k) (zsuf z es.length i))))
theorem put_same {h:AH} {id:Nat} {b:Blk} (a:h.blk id=some b):h.put id b=h:=by
 cases h with
 | mk B T =>
  simp only [AH.put,AH.mk.injEq,tM];refine uZ λj=>?_;by_cases hj:j=id
  ·subst hj;rw [uD (uc.1 a).1];exact a.symm
  ·grind
theorem clear_sound (r:Rel B w0 g h w) {t e ty:TypeId} {id s k n i:Nat} {es:List (List AV)} {z o:List AV} {x:Value} (F:P.underlying t=some (.slice e)) (hz:xl P e=some z) (hc:xB z=some o) (I:z.length=k) (hkp:0 < k) (C:h.blk id=some (.row s k es)) (hn:es.length=n)
  (U:V g (.rsuf id s k n i) x):∃w',(Builtin.clear_ #[t] ty #[x]).run P w=.ok (.tuple #[]) w'/\Rel B w0 g (h.clr id s k i es o) w':=by
 subst hn;simp only [V] at U;obtain ⟨a,c,rfl,hin,t2,L,h3⟩:=U;obtain ⟨_,ti,hti,htr,htn,f,Y,W⟩:=r.rowAt C;have y:es.flatten.length=es.length * k:=yT f;rcases h3 with h0 | ⟨b,q,rfl,M⟩
 ·have hi:i=es.length:=by omega
  subst hi;have O:h.clr id s k es.length es o=h:=by
   unfold AH.clr zsuf;have:y8 es.flatten (es.length * k) (List.replicate (es.length - es.length) o).flatten=es.flatten:=by
    simp [y8,<- y]
   rw [this];have J:rows k es.length es.flatten=es:=by
    have:∀(l:List (List AV)),(∀e ∈ l,e.length=k)->rows k l.length l.flatten=l:=by
     intro l
     induction l with
     | nil=>intro _;rfl
     | cons x r ih =>
      intro j;simp only [ux,rows,uU];rw [pO (j x tT),rY (j x tT),ih λe R=>j e (tJ _ R)]
    exact this es f
   rw [J];exact put_same C
  rw [O];refine ⟨w,?_,r⟩;rw [h0];cases a <;> simp [Builtin.clear_,run_underlying F]
 ·by_cases h0:es.length - i=0
  ·-- a5 above
   have hi:i=es.length:=by omega
   subst hi;have O:h.clr id s k es.length es o=h:=by
    unfold AH.clr zsuf;have:y8 es.flatten (es.length * k) (List.replicate (es.length - es.length) o).flatten=es.flatten:=by
     simp [y8,<- y]
    rw [this];have J:rows k es.length es.flatten=es:=by
     have:∀(l:List (List AV)),(∀e ∈ l,e.length=k)->rows k l.length l.flatten=l:=by
      intro l
      induction l with
      | nil=>intro _;rfl
      | cons x r ih =>
       intro j;simp only [ux,rows,uU];rw [pO (j x tT),rY (j x tT),ih λe R=>j e (tJ _ R)]
     exact this es f
    rw [J];exact put_same C
   rw [O];refine ⟨w,?_,r⟩;rw [h0];simp [Builtin.clear_,run_underlying F]
  ·have Q:es ≠ []:=by rintro rfl;simp at h0
   obtain ⟨iz,p,G,K,u⟩:=wW (g:=g) hz;have A:VA g o p.cells.toList:=qR u hc;have N:p.cells.size=k:=by rw [<- I,u.length];rfl
   have v:∀w,(zeroValue e).run P w=.ok p w:=λw=>by simp [zeroValue,typeInfo,G,K]
   have d:(Builtin.zeroCells p.cells (es.length - i)).toList=(List.replicate (es.length - i) p.cells.toList).flatten:=by
    unfold Builtin.zeroCells;rw [rh,rB];exact range_rep p.cells (es.length - i)
   have H:VA g (zsuf o es.length i) (Builtin.zeroCells p.cells (es.length - i)).toList:=by
    rw [d];exact VA.flatten A _
   have Z:(Builtin.zeroCells p.cells (es.length - i)).toList.length=(es.length - i) * k:=by
    rw [d];simp [N]
   have S:i * k+(es.length - i) * k=es.length * k:=by rw [<- te];congr 1;omega
   obtain ⟨w',T,X⟩:=row_write (P:=P) r C Q L M H (by
    unfold zsuf;rw [ur];intro a D;obtain ⟨l,j,D⟩:=pB.1 D;rw [ru j] at D;have:=clean_pure hc;rw [ur] at this;exact this a D) (by omega)
   refine ⟨w',?_,X⟩;have E:∃m,es.length - i=m+1:=⟨es.length - i - 1,by omega⟩
   obtain ⟨m,hm⟩:=E;rw [hm] at T ⊢;simp only [Builtin.clear_];simp [run_underlying F,v,T]
end
end Go.Vv
namespace Go.Vv
open Go Go.RowKit Go.Lib

def nextAlts (h:AH) (it id n:Nat) (seen:List Nat) (es:List (AV×AV)):List (AV×AH) :=
 match es.zipIdx.filter λp=>!seen.contains p.2 with
 | []=>[(.tup [.bool false],h)]
 | p::r=>(p::r).map λp=>(.tup [.bool true,p.1.1,p.1.2],h.put it (.miter id n (seen++[p.2])))
def bytesX:List (List AV)->Option (List UInt8)
 | []=>some []
 | [.int .u8 n]::r=>if 0<=n/\n < 256 then (match bytesX r with
  | some l=>some (UInt8.ofNat n.toNat::l)
  | none=>none) else none
 | _=>none
def convX (P:Program) (s t:TypeId) (a:AV):Option (List UInt8) :=
 match P.underlying s,P.underlying t with
 | some (.slice e),some .string=>match P.underlying e,tyfix P s a with
  | some (.int .u8),.sl 1 es | some (.int .u8),.osl _ 1 es=>match bytesX es with
   | some l=>if l.length<=maxLen then some l else none
   | none=>none
  | _,_=>none
 | _,_=>none
def convBy (P:Program) (s t:TypeId) (a:AV):Option (List UInt8) :=
 match P.underlying s,P.underlying t,a with
 | some .string,some (.slice e),.str l=>match P.underlying e with
  | some (.int .u8)=>some l
  | _=>none
 | _,_,_=>none
def wd (P:Program) (o:Oper) (env:List AV) (h:AH):Option (List (AV×AH)) :=
 match o.op with
 | .range t x=>if yv x then (match P.underlying t,ev env x with
  | some (.map _ _),.map id=>match h.blk id with
   | some (.mapo es 0)=>some [(.ptr h.blks.length 0,h.new (.miter id es.length []))]
   | _=>none
  | some (.map _ _),.nilm=>some [(.ptr h.blks.length 0,h.new .miter0)]
  | _,_=>none) else none
 | .next x false=>if yv x then (match ev env x with
  | .ptr it 0=>match h.blk it with
   | some .miter0=>some [(.tup [.bool false],h)]
   | some (.miter id n seen)=>match h.blk id with
    | some (.mapo es 0)=>if es.length=n then some (nextAlts h it id n seen es) else none
    | _=>none
   | _=>none
  | _=>none) else none
 | .entry x=>if yv x then (match ev env x with
  | .ptr it 0=>match h.blk it with
   | some (.miter id n seen)=>match h.blk id,seen.getLast? with
    | some (.mapo es 0),some i=>if es.length=n then (match es[i]? with
     | some e=>some [(.tup [e.1,e.2],h)]
     | none=>none) else none
    | _,_=>none
   | _=>none
  | _=>none) else none
 | .buildSlice t n parts=>if parts.all λp=>yv p.2 then (match P.underlying t with
  | some (.slice e)=>match P.info? e,xl P e with
   | some i,some z=>if 0 < n/\0 < i.size/\n * i.size<=65536/\z.length=i.size then
     (match (qd (λj=>some (j * i.size,i.size)) ((List.replicate n z).flatten) (xA P (.slice e) env parts)) with
           | some cs=>match xB cs with
             | some out=>some [(.rsl h.blks.length h.toks.length i.size n,({ h with toks:=h.toks++[n] }:AH).new (.row h.toks.length i.size (rows i.size n out)))]
             | none=>some [(.msl i.size h.blks.length 0 n,h.new (.cells cs))]
           | none=>none) else none
   | _,_=>none
  | _=>none) else none
 | .convert s t x=>if yv x then (match convX P s t (ev env x) with
  | some l=>some [(.str l,h)]
  | none=>match convBy P s t (ev env x) with
   | some l=>some [(.sl 1 (l.map λb=>[AV.int .u8 (b.toNat:Int)]),h)]
   | none=>none) else none
 | .alloc t=>match xl P t with
  | some [.nilp,x]=>if x.one then some [(.ptr h.blks.length 0,h.new (.bld t x))] else none
  | _=>none
 | .call c=>match c.callee,c.argTypes.toList,c.args.toList with
  | .builtin .max,_,[x,y]=>if yv x&&yv y then (match ev env x,ev env y with
   | .int k a,.int k' b=>if k=k' then some [(.int k (if b > a then b else a),h)] else none
   | _,_=>none) else none
  | .builtin .min,_,[x,y]=>if yv x&&yv y then (match ev env x,ev env y with
   | .int k a,.int k' b=>if k=k' then some [(.int k (if b < a then b else a),h)] else none
   | _,_=>none) else none
  | .builtin .append,[t,u],[s,x]=>if yv s&&yv x then (match P.underlying t,P.underlying u with
   | some (.slice e),some (.slice _)=>match P.info? e,tyfix P t (ev env s),tyfix P u (ev env x) with
    | some _,.osl none k es,.sl _ [] | some _,.osl none k es,.osl _ _ []=>some [(.osl none k es,h)]
    | _,_,_=>none
   | some (.slice e),some (.int _)=>match P.info? e,xl P e,tyfix P t (ev env s),ev env x with
    | some i,some z,.osl none k [],.int _ n=>if (i.size=k/\z.length=k/\i.bytes<=65536)/\0 < k/\0 < n/\n<=(lim:Int) then (match xB z with
     | some z'=>some [(.rsl h.blks.length h.toks.length k n.toNat,({ h with toks:=h.toks++[n.toNat] }:AH).new (.row h.toks.length k (List.replicate n.toNat z')))]
     | none=>none) else none
    | _,_,_,_=>none
   | _,_=>none) else none
  | .builtin .cap,[t],[x]=>if yv x then (match P.underlying t,tyfix P t (ev env x) with
   | some (.slice _),.osl none _ es=>some [(.int .i64 (es.length:Int),h)]
   | _,_=>none) else none
  | .builtin .clear,[t],[x]=>if yv x then (match P.underlying t,ev env x with
   | some (.slice e),.rsuf id tk k n i=>match xl P e,h.blk id with
    | some z,some (.row t' k' es)=>if (t'=tk/\k'=k/\es.length=n)/\z.length=k/\0 < k then (match xB z with
     | some z'=>some [(.tup [],h.clr id tk k i es z')]
     | none=>none) else none
    | _,_=>none
   | _,_=>none) else none
  | _,_,_=>none
 | .insert t m k x=>match zF P { o with op:=.mapUpdate t m k x } env h with
  | .ok v h'=>some [(v,h')]
  | _=>none
 | .makeInterface t x=>if yv x then (match P.underlying t with
  | some (.interface _)=>none
  | some _=>some [(.iface t (tyfix P t (ev env x)),h)]
  | none=>none) else none
 | .typeAssert x _ t ok=>if yv x then (match P.underlying t,ev env x with
  | some (.interface _),_=>none
  | some _,.iface u v=>if u=t then some [(if ok then .tup [v,.bool true] else v,h)] else if ok then (match aZero P t with
   | some z=>some [(.tup [z,.bool false],h)]
   | none=>none) else none
  | _,_=>none) else none
 | .slice t x none (some y) none=>if yv x&&yv y then (match P.underlying t,ev env x,ev env y with
  | some (.slice e),.rsl id tk k m,.int _ n=>match P.info? e,h.blk id with
   | some _,some (.row t' k' es)=>if (t'=tk/\k'=k/\es.length=m)/\0<=n/\n.toNat<=m then some [(.rsl h.blks.length h.toks.length k n.toNat,h.shr id tk k n.toNat es)] else none
   | _,_=>none
  | some (.slice e),.osl none k [],.int _ n=>match P.info? e with
   | some _=>if n=0 then some [(.osl none k [],h)] else none
   | none=>none
  | _,_,_=>none) else none
 | .slice t x (some y) none none=>if yv x&&yv y then (match P.underlying t,ev env x,ev env y with
  | some (.slice e),.rsl id tk k m,.int _ n=>match P.info? e with
   | some i=>if i.size=k/\0<=n/\n.toNat<=m then some [(.rsuf id tk k m n.toNat,h)] else none
   | none=>none
  | _,_,_=>none) else none
 | _=>none

def bdraw:Op->Bool
 | .buildSlice _ _ _ | .slice _ _ _ _ _=>false
 | _=>true

section
variable {P:Program} {w:World} {g:Gh} {h:AH} {B:Nat} {w0:World}
theorem Rel.drewO (r:Rel B w0 g h w) {a:World} (b:a=w \/ a=w.drew):Rel B w0 g h a:=by
 rcases b with rfl | rfl
 ·exact r
 ·exact r.drew
theorem setBlock_eq {w:World} {b:Nat} {o:Obj}:ChangeMaps.setBlock w b o=w.putObj b o:=by
 rfl
theorem bytesX_eq:∀{es:List (List AV)} {l:List UInt8},bytesX es=some l->es=l.map λb=>[AV.int .u8 b.toNat]
 | [],l,h=>by simp only [bytesX,ui] at h;subst h;rfl
 | e::r,l,h=>by
  unfold bytesX at h;split at h
  ·simp_all
  ·rename_i n i h0;injection h0 with d c;subst d c;split at h
   ·rename_i k;split at h
    ·rename_i j a;simp only [ui] at h;subst h;rw [bytesX_eq a];have:((UInt8.ofNat n.toNat).toNat:Int)=n:=by
      have f:n.toNat < 256:=by omega
      simp [pA f];omega
     simp_all
    ·cases h
   ·cases h
  ·cases h
theorem bytes_run (r:Rel B w0 g h w) {s t e:TypeId} (hs:P.underlying s=some (.slice e)) (p:P.underlying t=some .string) (q:P.underlying e=some (.int .u8)) {es:List (List AV)} {l:List UInt8} (m:bytesX es=some l) {a:Option Addr} {c:Nat}
  (u:es=[] \/ ∃b o,a=some ⟨b,o,none⟩/\VE g b 1 o es):(convert s t (.slice a es.length c)).run P w=.ok (.string ⟨l.toArray⟩) w:=by
 have y:=bytesX_eq m;have f:es.length=l.length:=by simp_all
 have key:∀d:Addr,(∀j (z:j < l.length),w.cell? (d.add j)=some (.int .u8 (l[j].toNat:Int)))->(convert s t (.slice (some d) es.length c)).run P w=.ok (.string ⟨l.toArray⟩) w:=λd hc=>by
  rw [f];exact run_convert_bytes_back w s t e d c l hs q p hc
 cases a with
 | none =>
  rcases u with rfl | ⟨b,o,i,_⟩
  ·simp only [bytesX,ui] at m;subst m;simp [convert,run_underlying hs,run_underlying p,run_underlying q,Conv.bytesToString];rfl
  ·cases i
 | some d =>
  refine key d λj z=>?_;rcases u with rfl | ⟨b,o,i,k⟩
  ·grind
  ·injection i with i;subst i;obtain ⟨_,hc⟩:=k.get j [AV.int .u8 (l[j].toNat:Int)] (by simp_all);simp only [VC] at hc;obtain ⟨⟨v,x,_,n⟩,_⟩:=hc;simp only [V] at n;subst n;have:=r.phi _ _ _ x;rw [show (⟨b,o,none⟩:Addr).add j=⟨b,o+j,none⟩ by unfold Addr.add;split <;> simp_all]
   simp_all
theorem buildSliceM_sound (r:Rel B w0 g h w) {t e:TypeId} {n:Nat} {i:TypeInfo} {z cs:List AV} {env:List AV} {a:Act} (K:VL g env a.tmps.toList) {parts:Array (Nat×Operand)} (A:(parts.all λp=>yv p.2)=true)
  (H:P.underlying t=some (.slice e)) (hi:P.info? e=some i) (F:xl P e=some z) (J:0 < n) (c:0 < i.size) (I:n * i.size<=65536) (q:z.length=i.size)
  (G:qd (λj=>some (j * i.size,i.size)) ((List.replicate n z).flatten) (xA P (.slice e) env parts)=some cs) :
  ∃u w' g',(Instr.buildSlice t n (parts.map λ(i,x)=>(i,a.eval x))).run P w=.ok u w'/\g.le g'/\Rel B w0 g' (h.new (.cells cs)) w'/\V g' (.msl i.size h.blks.length 0 n) u:=by
 obtain ⟨L,m,b,s,f⟩:=wW (g:=g) F;rw [hi] at b;injection b with b;subst b;have y:m.cells.size=i.size:=by rw [<- q,f.length];rfl
 have C:¬ (n * i.size=0):=by
  have:=rV J c;omega
 obtain ⟨E,D⟩:=parts_rel (P:=P) (d:=.slice e) K A;have l:=VA.flatten f n;obtain ⟨xs,v,o⟩:=fill_sound (place':=λj=>some (j * i.size,i.size)) (λi x h=>h) (us:=(Array.range (n * i.size)).map (m.cells[· % m.cells.size]!))
  (by rw [<- y,rh,rB,range_rep];exact l) E D G
 have k:=run_buildSlice w t e n _ xs i m H hi s (by omega) C v;refine ⟨_,_,_,k,g.le_addS _,r.newCells e o,?_⟩;have hsl:=r.slen;simp only [V,Gh.addS];exact ⟨w.heap.size,n,by grind,rfl,ug _,by simp only [maxLen];have:=rD n c;omega⟩
theorem zeros_row (r:Rel B w0 g h w) {t u ty e:TypeId} {kk:IntKind} {i:TypeInfo} {z F:List AV} (ht:P.underlying t=some (.slice e)) (hu:P.underlying u=some (.int kk)) (hi:P.info? e=some i) (hz:xl P e=some z)
  (E:z.length=i.size) (J:i.bytes<=65536) (hk:0 < i.size) {a:Option Addr} {k2:IntKind} {n:Int} (hn:0 < n) (Q:n<=(lim:Int)) (hc:xB z=some F) :
  ∃v w' g',(Builtin.append_ #[t,u] ty #[.slice a 0 0,.int k2 n]).run P w=.ok v w'/\g.le g'/\Rel B w0 g' (({ h with toks:=h.toks++[n.toNat] }:AH).new (.row h.toks.length i.size (List.replicate n.toNat F))) w'/\V g' (.rsl h.blks.length h.toks.length i.size n.toNat) v:=by
 obtain ⟨i',D,b,W,N⟩:=wW (g:=g) hz;rw [hi] at b;injection b with b;subst b;have q:D.cells.size=i.size:=by rw [<- E,N.length];rfl
 have o:=(qR N hc).flatten n.toNat
 obtain ⟨m,rfl⟩:∃m:Nat,n=(m:Int):=⟨n.toNat,by omega⟩
 simp only [uy] at o ⊢;have H:0 < m:=by omega
 unfold lim at Q;have hw:IntKind.i64.wrap (m:Int)=(m:Int):=by
  simp only [IntKind.wrap,IntKind.bits,IntKind.signed];simp;omega
 have X:¬ (m * i.size=0):=by have:=rV H hk;omega
 have Y:¬ ((281474976710656:Int) < (m:Int) * (i.bytes:Int)):=by
  have h2:m * i.bytes<=140737488355328:=sB (show m<=2147483648 by omega) J;rw [<- Int.natCast_mul];omega
 have hfit:¬ (281474976710656 < Builtin.nextslicecap m 0 * i.bytes):=by
  have:=growslice_fits (need:=m) (old:=0) (bytes:=i.bytes) H (by have:=sB (show m<=2147483648 by omega) J;omega);omega
 have Z:¬ (9223372036854775807 < (m:Int)):=by omega
 have f:(Builtin.append_ #[t,u] ty #[.slice a 0 0,.int k2 (m:Int)]).run P w=.ok (.slice (some ⟨w.heap.size,0,none⟩) m (grownCap w m 0 e))
    (w.drew.alloc (.cells (Builtin.zeroCells D.cells m++Builtin.zeroCells D.cells (grownCap w m 0 e - m)) e)):=by
  have hp:¬ ((m:Int) < 0):=by omega
  have hm3:¬ (m=0):=by omega
  cases a <;> simp [Builtin.append_,run_underlying ht,run_underlying hu,sizeOf,typeInfo,zeroValue,hi,W,hw,hp,X,hm3,Y,hfit,Z,newRow,grownCap,Question.forced,asInt,asIntOf,Builtin.firstCells,loadCells,loadCellsFrom]
 have A:=grownCap_ge w m 0 e;have M:grownCap w m 0 e<=maxLen:=grownCap_le_maxLen w _ 0 e (by simp only [maxLen];omega);generalize hC:grownCap w m 0 e=C at f A M;generalize hrow':Builtin.zeroCells D.cells m++Builtin.zeroCells D.cells (C - m)=row at f;have I:row.size=C * i.size:=by
  rw [<- hrow'];simp only [s7,size_zeroCells,q,<- te]
  simp_all
 have s:(row.toList.drop 0).take (m * i.size)=(List.replicate m D.cells.toList).flatten:=by
  rw [<- hrow',sa,tw,uV (by simp [size_zeroCells,q]),uK (by simp [size_zeroCells,q])];rw [<- range_rep];simp [Builtin.zeroCells]
 have p:∀j,g.Φ w.heap.size j=none:=λj=>by
  rcases he:g.Φ w.heap.size j with _ | v
  ·rfl
  ·exact absurd (r.phi_lt he) (tQ _)
 have r1:=(r.drew).alloc0 (.cells row e);have d:(w.drew.alloc (.cells row e)).heap[w.heap.size]?=some (.cells row e (0,0)):=heap_alloc_new w.drew _;have hloc:LocOk g.Φ B (w.drew.alloc (.cells row e)) w.heap.size (m * i.size) (C * i.size) :=
  ⟨r.bsz,by simp,⟨row,e,d,by omega⟩,λj _=>p j⟩
 have G:∀(j S:Nat),g.σ[j]?=some (some S)->w.heap.size ≠ S:=λj S R e=>by
  have b:j < h.blks.length:=by rw [<- r.slen];exact (uc.1 R).1
  have:=(r.blk j S _ R (uh b)).2.1;omega
 have O:∀(j:Nat) (U:TI) (y:Nat×Nat),g.τ[j]?=some U->U.loc ≠ some (w.heap.size,y):=λj U y R e=>by
  have:=((r.tok j U R).2 _ _ _ e).lt;omega
 let T:TI:=⟨m,some (w.heap.size,m * i.size,C * i.size),true⟩
 have hT:((g.addT T).addS none).τ[g.τ.length]?=some T:=by simp [Gh.addT,Gh.addS]
 have K:g.le ((g.addT T).addS none):=(g.le_addT T).trans (Gh.le_addS _ none);have L:F.length=i.size:=(qS hc).trans E;have c:(List.replicate m F).length=m:=by simp
 have r2:=r1.newRowT T i.size (List.replicate m F)
  (λb' l e' hl'=>by grind)
  (λb' x k=>by injection k with k;injection k with e1 _;subst e1;exact ⟨O,G,r.nnew (ug _),r.nold (ug _)⟩)
  ⟨T,hT,rfl,c.symm,λe he=>by rw [ru he];exact L,by
   have:=clean_pure hc;rw [ur] at this ⊢;intro x k;obtain ⟨l,hl,k⟩:=pB.1 k;rw [ru hl] at k;exact this x k,.inr ⟨w.heap.size,0,C * i.size,row,e,by simp [T],d,by
   rw [c,s];exact o.mono K,by rw [c,I];simpa using u7 i.size A,λj _=>p j⟩⟩
 have tl:=r.tlen;have sl:=r.slen;rw [tl] at r2;refine ⟨_,_,_,f,K,r2,?_⟩;simp only [V];rw [<- tl];exact ⟨some ⟨w.heap.size,0,none⟩,C,rfl,A,M,T,hT,rfl,ug _,.inr ⟨w.heap.size,0,rfl,λ_=>by simp [T]⟩⟩
theorem buildSliceR_sound (r:Rel B w0 g h w) {t e:TypeId} {n:Nat} {i:TypeInfo} {z cs out:List AV} {env:List AV} {a:Act} (W:VL g env a.tmps.toList) {parts:Array (Nat×Operand)} (U:(parts.all λp=>yv p.2)=true)
  (hu:P.underlying t=some (.slice e)) (hi:P.info? e=some i) (hz:xl P e=some z) (hn:0 < n) (f:0 < i.size) (hsm:n * i.size<=65536) (A:z.length=i.size)
  (hf:qd (λj=>some (j * i.size,i.size)) ((List.replicate n z).flatten) (xA P (.slice e) env parts)=some cs) (hc:xB cs=some out) :
  ∃u w' g',(Instr.buildSlice t n (parts.map λ(i,x)=>(i,a.eval x))).run P w=.ok u w'/\g.le g'/\Rel B w0 g' (({ h with toks:=h.toks++[n] }:AH).new (.row h.toks.length i.size (rows i.size n out))) w'/\V g' (.rsl h.blks.length h.toks.length i.size n) u:=by
 obtain ⟨i',I,b,N,C⟩:=wW (g:=g) hz;rw [hi] at b;injection b with b;subst b;have S:I.cells.size=i.size:=by rw [<- A,C.length];rfl
 have X:¬ (n * i.size=0):=by
  have:=rV hn f;omega
 obtain ⟨h1,h2⟩:=parts_rel (P:=P) (d:=.slice e) W U;have E:=VA.flatten C n;obtain ⟨xs,O,L⟩:=fill_sound (place':=λj=>some (j * i.size,i.size)) (λi x h=>h) (us:=(Array.range (n * i.size)).map (I.cells[· % I.cells.size]!))
  (by rw [<- S,rh,rB,range_rep];exact E) h1 h2 hf
 have m:=qR L hc;have hol:out.length=n * i.size:=by
  rw [qS hc,aFill_len hf];simp [A]
 have M:xs.size=n * i.size:=by rw [<- hol,m.length];rfl
 have D:=run_buildSlice w t e n _ xs i I hu hi N (by omega) X O;obtain ⟨K,Q,e3⟩:=rows_flat (k:=i.size) n out hol;have r1:=r.alloc0 (.cells xs e);have c:(w.alloc (.cells xs e)).heap[w.heap.size]?=some (.cells xs e (0,0)):=heap_alloc_new w _;have o:∀j,g.Φ w.heap.size j=none:=λj=>by
  rcases W:g.Φ w.heap.size j with _ | v
  ·rfl
  ·exact absurd (r.phi_lt W) (tQ _)
 have hloc:LocOk g.Φ B (w.alloc (.cells xs e)) w.heap.size (n * i.size) (n * i.size) :=
  ⟨r.bsz,by simp,⟨xs,e,c,by omega⟩,λj _=>o j⟩
 have s:∀(j G:Nat),g.σ[j]?=some (some G)->w.heap.size ≠ G:=λj G J e=>by
  have b:j < h.blks.length:=by rw [<- r.slen];exact (uc.1 J).1
  have:=(r.blk j G _ J (uh b)).2.1;omega
 have q:∀(j:Nat) (H:TI) (y:Nat×Nat),g.τ[j]?=some H->H.loc ≠ some (w.heap.size,y):=λj H y J e=>by
  have:=((r.tok j H J).2 _ _ _ e).lt;omega
 let T:TI:=⟨n,some (w.heap.size,n * i.size,n * i.size),true⟩
 have Z:((g.addT T).addS none).τ[g.τ.length]?=some T:=by simp [Gh.addT,Gh.addS]
 have F:g.le ((g.addT T).addS none):=(g.le_addT T).trans (Gh.le_addS _ none);have r2:=r1.newRowT T i.size (rows i.size n out)
  (λb' l e' hl'=>by grind)
  (λb' x R=>by injection R with R;injection R with K _;subst K;exact ⟨q,s,r.nnew (ug _),r.nold (ug _)⟩)
  ⟨T,Z,rfl,Q.symm,e3,by rw [K];exact clean_pure hc,.inr ⟨w.heap.size,0,n * i.size,xs,e,by simp [T,Q],c,by
   rw [K,Q,sa,uK (by simp [M])];exact m.mono F _ _,by grind,λj _=>o j⟩⟩
 have Y:=r.tlen;have sl:=r.slen;rw [Y] at r2;refine ⟨_,_,_,D,F,r2,?_⟩;simp only [V];rw [<- Y];exact ⟨some ⟨w.heap.size,0,none⟩,n,rfl,ug _,by simp only [maxLen];have:=rD n f;omega,T,Z,rfl,ug _,.inr ⟨w.heap.size,0,rfl,λ_=>by simp [T]⟩⟩
theorem append0 {t u ty e f:TypeId} {i:TypeInfo} {a b:Option Addr} {n c m:Nat} (d:P.underlying t=some (.slice e)) (j:P.underlying u=some (.slice f)) (hi:P.info? e=some i) (hc:n<=m) :
  (Builtin.append_ #[t,u] ty #[.slice a n m,.slice b 0 c]).run P w=.ok (.slice a n m) w:=by
 cases a <;> cases b <;> simp [Builtin.append_,run_underlying d,run_underlying j,sizeOf,typeInfo,hi,Builtin.lenOf,Builtin.firstCells,loadCells,loadCellsFrom,storeCells,hc]
theorem bytes_new (r:Rel B w0 g h w) {s t e:TypeId} {l:List UInt8} (hs:P.underlying s=some .string) (o:P.underlying t=some (.slice e)) (K:P.underlying e=some (.int .u8)) (J:l.length<=maxLen) :
  ∃v w' g',(convert s t (.string ⟨l.toArray⟩)).run P w=.ok v w'/\g.le g'/\Rel B w0 g' h w'/\V g' (.sl 1 (l.map λb=>[AV.int .u8 (b.toNat:Int)])) v:=by
 have d:=run_bytes_of_string (P:=P) w s t e ⟨l.toArray⟩ hs o K;rw [str_size] at d;have k:=grownCap_ge w l.length 0 e;have m:=grownCap_le_maxLen w l.length 0 e J;generalize grownCap w l.length 0 e=C at d k m;generalize hrow:bytesRow ⟨l.toArray⟩ C=row at d;generalize ho:Obj.cells row e (row.size,row.size+1)=ob at d;have E:Rel B w0 g h (w.drew.alloc ob):=r.drew.alloc0 ob;have F:w.drew.heap.size=w.heap.size:=rfl;have p:∀j v,(if j < l.length then row[j]? else none)=some v->(w.drew.alloc ob).cell? ⟨w.heap.size,j,none⟩=some v:=λj v y=>by
  split at y
  ·have n:(w.drew.alloc ob).heap[w.heap.size]?=some ob:=heap_alloc_new w.drew ob;rw [cell_of_row _ w.heap.size j row e (row.size,row.size+1) (by rw [n,ho])];exact y
  ·cases y
 have I:=E.vow (b:=w.heap.size) (f:=λj=>if j < l.length then row[j]? else none) p
  (λi c hc _ e=>by
   have hi:i < h.blks.length:=by rw [<- r.slen];exact (uc.1 hc).1
   have:=(r.blk i c _ hc (uh hi)).2.1;omega)
  (λi t l e o G=>by
   have:=((r.tok i t o).2 _ l e G).lt;omega) (r.nnew (ug _))
 refine ⟨_,_,_,d,Gh.le_vow g _ _,I,?_⟩;simp only [V];refine ⟨_,C,by rw [ul],by rw [ul];exact k,m,?_⟩;rcases sU l.length with h0 | h0
 ·left;have:l=[]:=uH h0;rw [this];rfl
 ·refine .inr ⟨w.heap.size,0,rfl,VE_iff.2 ⟨λx u=>?_,?_⟩⟩
  ·obtain ⟨b,_,rfl⟩:=tz.1 u;rfl
  ·rw [bytes_flat];refine VC.mk λi a A=>?_;rw [sn] at A;obtain ⟨b,n,rfl⟩:=sd.1 A;have hi:=(uc.1 n).1;refine ⟨.int .u8 (b.toNat:Int),?_,rfl,by simp only [V]⟩;have z:=bytesRow_at ⟨l.toArray⟩ C i (by simpa using hi);rw [hrow] at z;have D:(Gh.vow g w.heap.size λj=>if j < l.length then row[j]? else none).Φ w.heap.size (0+i)=row[i]?:=by
    have H:g.Φ w.heap.size (0+i)=none:=by
     rcases u:g.Φ w.heap.size (0+i) with _ | v
     ·rfl
     ·exact absurd (r.phi_lt u) (tQ _)
    simp only [Gh.vow,ut,H];simp [hi]
   rw [D,z];have q:=(uc.1 n).2;simp [q]
theorem bfits (r:Rel B w0 g h w) {a:Act} {env:List AV} (L:VL g env a.tmps.toList) {o:Oper} {l:List (AV×AH)} (f:wd P o env h=some l):∃p ∈ l,qi P B w0 g a o w p.1 p.2:=by
 unfold wd at f;split at f
 ·-- range
  rename_i t x H;split at f
  ·rename_i A;have J:=V.ev L A;split at f
   ·rename_i kt et id K F;split at f
    ·rename_i es O;simp only [ui] at f;subst f;refine ⟨_,uE.2 rfl,?_⟩;rw [F] at J;simp only [V] at J;obtain ⟨c,hc,U⟩:=J;obtain ⟨hB,hlt,⟨ents,n,Y,k2,k3⟩,_⟩:=r.blk id c _ hc O;obtain ⟨rfl,k4⟩:=k3 rfl;have hlen:ents.size=es.length:=by have:=k2.len;simpa using this
     refine ⟨.pointer (some ⟨w.heap.size,0,none⟩),w.alloc (.mapIter (some c) ents.size #[] ents.size),g.addS w.heap.size,.inl ?_,g.le_addS _,r.newBlk _ _ ?_,?_⟩
     ·simp [execOp,H,U,run_range_map w t kt et c ents _ K Y]
     ·exact ⟨c,(g.le_addS _).sig _ _ hc,by rw [<- hlen];exact heap_alloc_new w _⟩
     ·have hsl:=r.slen;simp only [V,Gh.addS]
      simp_all
    ·cases f
   ·rename_i kt et K F;simp only [ui] at f;subst f;refine ⟨_,uE.2 rfl,?_⟩;rw [F] at J;simp only [V] at J;refine ⟨.pointer (some ⟨w.heap.size,0,none⟩),w.alloc (.mapIter none 0 #[] 0),g.addS w.heap.size,.inl ?_,g.le_addS _,r.newBlk _ _ (heap_alloc_new w _),?_⟩
    ·simp [execOp,H,J,run_range_nilMap w t kt et K]
    ·have hsl:=r.slen;simp only [V,Gh.addS]
     simp_all
   ·cases f
  ·cases f
 ·-- next
  rename_i x H;split at f
  ·rename_i A;have J:=V.ev L A;split at f
   ·rename_i it F;rw [F] at J;simp only [V] at J;obtain ⟨ci,hci,U⟩:=J;split at f
    ·rename_i O;simp only [ui] at f;subst f;refine ⟨_,uE.2 rfl,?_⟩;obtain ⟨_,_,Y,_⟩:=r.blk it ci _ hci O;have Y:w.heap[ci]?=some (.mapIter none 0 #[] 0):=Y;refine ⟨.tuple #[.bool false],w,g,.inl ?_,Gh.le.refl g,r,by simp [V,VL]⟩;simp [execOp,H,U,Instr.next,getObj,Sem.run,Y]
    ·rename_i id n E O;split at f
     ·rename_i es hbm;split at f
      ·rename_i hn;simp only [ui] at f;obtain ⟨_,hltI,⟨cm,N,hit⟩,_⟩:=r.blk it ci _ hci O;obtain ⟨_,_,⟨ents,m,Y,k2,k3⟩,_⟩:=r.blk id cm _ N hbm;obtain ⟨rfl,k4⟩:=k3 rfl;have hlen:ents.size=es.length:=by have:=k2.len;simpa using this
       have hold:∀x ∈ ents.toList,x.born < n:=λx F=>by
        obtain ⟨i,hi⟩:=u2.1 F
        grind
       rcases run_next_at (P:=P) w o.type ci cm n n E.toArray ents ents.size hit Y hold (ug _) with ⟨h0,T⟩ | ⟨e,hmem,w1,hw1,T⟩
       ·have hnil:es.zipIdx.filter (λp=>!E.contains p.2)=[]:=by
         rw [tW]
         rintro ⟨p,i⟩ hp
         simp only [rS,Bool.not_eq_false'];have hp':=List.mem_zipIdx' hp;obtain ⟨e,he1,_,_⟩:=k2.getE (j:=i) (p:=p) (by simp_all);rw [uF] at he1;have X:=k4 i e he1;have:¬ e ∈ leftOf ents E.toArray:=by
          simp_all
         simp only [leftOf,Array.mem_filter,not_and,so,Bool.not_eq_false] at this
         grind
        rw [nextAlts,hnil] at f;subst f;refine ⟨_,uE.2 rfl,.tuple #[.bool false],w,g,.inl ?_,Gh.le.refl g,r,by simp [V,VL]⟩;simp [execOp,H,U,T]
       ·simp only [leftOf,Array.toList_filter,tO] at hmem;obtain ⟨i,hi⟩:=u2.1 hmem.1;have hi':=hi;rw [uF] at hi';have X:=k4 i e hi';have hil:i < es.length:=by grind
        have hes:es[i]?=some es[i]:=uh hil;obtain ⟨e2,he2,hk,hv⟩:=k2.getE (j:=i) hes;rw [hi] at he2;injection he2 with he2;subst he2;have hin:(es[i],i) ∈ es.zipIdx.filter (λp=>!E.contains p.2):=by
         grind
        have r1:=r.drewO hw1;have hit1:w1.heap[ci]?=some (.mapIter (some cm) n E.toArray n):=by rcases hw1 with rfl | rfl <;> exact hit
        have r2:Rel B w0 g (h.put it (.miter id n (E++[i]))) (w1.putObj ci (.mapIter (some cm) n (E.toArray.push e.born) n)) :=
         r1.putObj hci O (by simp) rfl rfl rfl World.putObj_size (λb hb'=>World.putObj_heap_other hb') ⟨cm,N,by
          rw [World.putObj_heap_same (by grind),X];simp⟩
        have hne:es.zipIdx.filter (λp=>!E.contains p.2) ≠ []:=List.ne_nil_of_mem hin;have hal:((.tup [.bool true,es[i].1,es[i].2],h.put it (.miter id n (E++[i]))):AV×AH) ∈ nextAlts h it id n E es:=by
         unfold nextAlts
         grind
        subst f;refine ⟨_,hal,.tuple #[.bool true,e.key,e.val],_,g,.inl ?_,Gh.le.refl g,r2,?_⟩
        ·rw [<- hlen] at hn;simp only [execOp,H,U,Sem.run_bind,T,Result.andThen_ok,Sem.run_pure];rw [setBlock_eq,hn]
        ·simp only [V,VL]
         grind
      ·cases f
     ·cases f
    ·cases f
   ·cases f
  ·cases f
 ·-- entry
  rename_i x H;split at f
  ·rename_i A;have J:=V.ev L A;split at f
   ·rename_i it F;rw [F] at J;simp only [V] at J;obtain ⟨ci,hci,U⟩:=J;split at f
    ·rename_i id n E O;split at f
     ·rename_i es i hbm hlast;split at f
      ·rename_i hn;split at f
       case h_2=>cases f
       rename_i p hp;simp only [ui] at f;subst f;refine ⟨_,uE.2 rfl,?_⟩;obtain ⟨_,hltI,⟨cm,N,hit⟩,_⟩:=r.blk it ci _ hci O;obtain ⟨_,_,⟨ents,m,Y,k2,k3⟩,_⟩:=r.blk id cm _ N hbm;obtain ⟨rfl,k4⟩:=k3 rfl;have hlen:ents.size=es.length:=by have:=k2.len;simpa using this
       obtain ⟨e,he1,hk,hv⟩:=k2.getE (j:=i) hp;have he1':=he1;rw [uF] at he1';have X:=k4 i e he1';have hseen:E.toArray=E.dropLast.toArray.push e.born:=by
        grind
       rw [hseen] at hit;have hnd:(ents.toList.map (·.born)).Nodup:=by
        have:ents.toList.map (·.born)=List.range ents.size:=by
         apply uZ
         grind
        grind
       have T:=run_entry_at (P:=P) w ci cm n E.dropLast.toArray ents ents.size e (by grind) Y (Array.mem_toList_iff.2 (Array.mem_of_getElem? he1')) hnd;refine ⟨.tuple #[e.key,e.val],w,g,.inl ?_,Gh.le.refl g,r,?_⟩
       ·simp [execOp,H,U,T]
       ·simp only [V,VL]
        grind
      ·cases f
     ·cases f
    ·cases f
   ·cases f
  ·cases f
 ·-- buildSlice
  rename_i t n parts H;split at f
  ·rename_i A;split at f
   ·rename_i e hu;split at f
    ·rename_i i z hi hz;split at f
     ·rename_i hc;split at f
      ·rename_i cs hf;split at f
       ·rename_i out hcl;simp only [ui] at f;subst f;obtain ⟨u,w',g',Q,R,h3,h4⟩:=buildSliceR_sound r L A hu hi hz hc.1 hc.2.1 hc.2.2.1 hc.2.2.2 hf hcl;exact ⟨_,uE.2 rfl,u,w',g',.inl (by simp [execOp,H,Q]),R,h3,h4⟩
       ·simp only [ui] at f;subst f;obtain ⟨u,w',g',Q,R,h3,h4⟩:=buildSliceM_sound r L A hu hi hz hc.1 hc.2.1 hc.2.2.1 hc.2.2.2 hf;exact ⟨_,uE.2 rfl,u,w',g',.inl (by simp [execOp,H,Q]),R,h3,h4⟩
      ·cases f
     ·cases f
    ·cases f
   ·cases f
  ·cases f
 ·-- convert
  rename_i s t x H;split at f
  ·rename_i A;have hV0:=V.ev L A;have J:=(V.ev L A).tyfix (P:=P) (t:=s);split at f
   case h_2 =>
    split at f
    ·rename_i l0 D;simp only [ui] at f;subst f;unfold convBy at D;split at D
     ·rename_i e l hs K F;split at D
      ·rename_i hu;simp only [ui] at D;subst D;rw [F] at hV0;simp only [V] at hV0;obtain ⟨v,w',g',Y,k2,k3,k4⟩:=bytes_new (P:=P) r hs K hu hV0.2;exact ⟨_,uE.2 rfl,v,w',g',.inl (by simp [execOp,H,hV0.1,Y]),k2,k3,k4⟩
      ·cases D
     ·cases D
    ·cases f
   rename_i l0 D;simp only [ui] at f;subst f;unfold convX at D;split at D
   ·rename_i e hs K;have S:∀es l,P.underlying e=some (.int .u8)->bytesX es=some l->l.length<=maxLen->(∃I c,a.eval x=.slice I es.length c/\(es=[] \/ ∃b o,I=some ⟨b,o,none⟩/\VE g b 1 o es))->qi P B w0 g a o w (.str l) h:=by
     rintro es l hu O hm ⟨I,c,F,hve⟩
     refine ⟨.string ⟨l.toArray⟩,w,g,.inl ?_,Gh.le.refl g,r,by simp only [V];exact ⟨trivial,hm⟩⟩;simp [execOp,H,F,bytes_run r hs K hu O hve]
    split at D
    ·rename_i es hu F;rw [F] at J;simp only [V] at J;obtain ⟨I,c,Q,_,_,R⟩:=J;split at D
     ·rename_i l O;split at D
      ·rename_i hm;simp only [ui] at D;subst D;exact ⟨_,uE.2 rfl,S _ _ hu O hm ⟨I,c,Q,R⟩⟩
      ·cases D
     ·cases D
    ·rename_i es q hu F;rw [F] at J;simp only [V] at J;obtain ⟨I,c,Q,_,_,R,_⟩:=J;split at D
     ·rename_i l O;split at D
      ·rename_i hm;simp only [ui] at D;subst D;exact ⟨_,uE.2 rfl,S _ _ hu O hm ⟨I,c,Q,R⟩⟩
      ·cases D
     ·cases D
    ·cases D
   ·cases D
  ·cases f
 ·-- alloc
  rename_i t H;split at f
  ·rename_i x hz;split at f
   ·rename_i hone;simp only [ui] at f;subst f;obtain ⟨i,z,hi,hzz,hva⟩:=wW (g:=g) hz;have hsl:=r.slen;simp only [VA,V] at hva;obtain ⟨v0,s0,hz0,⟨_,rfl⟩,v1,s1,rfl,⟨_,hV1⟩,rfl⟩:=hva;have hzc:z.cells=#[.pointer none,v1]:=by
     apply ph;rw [hz0]
    refine ⟨_,uE.2 rfl,.pointer (some ⟨w.heap.size,0,none⟩),w.alloc (.cells z.cells t),g.addS w.heap.size,.inl ?_,g.le_addS _,r.newBlk _ _ ⟨.pointer none,v1,by rw [<- hzc];exact heap_alloc_new w _,.inl rfl,hone,V.mono (g.le_addS _) _ _ hV1⟩,?_⟩
    ·simp [execOp,H,Instr.alloc,run_zero hi hzz,newVar,newRow]
    ·simp only [V,Gh.addS]
     simp_all
   ·cases f
  ·cases f
 ·-- append
  rename_i c H;split at f
  ·rename_i ts x y hc has;split at f
   ·rename_i A;simp only [ud] at A;have M:c.args=#[x,y]:=by grind
    have C:=V.ev L A.1;have G:=V.ev L A.2;split at f
    ·rename_i Y a1 k2 b1 F hy;split at f
     ·rename_i hk;subst hk;simp only [ui] at f;subst f;rw [F] at C;rw [hy] at G;simp only [V] at C G;refine ⟨_,uE.2 rfl,.int Y (if b1 > a1 then b1 else a1),w,g,.inl ?_,Gh.le.refl g,r,by simp only [V]⟩;simp only [execOp,H,resolve,hc,Sem.run_bind,Sem.run_pure,Result.andThen_ok,invoke,M];simp [builtin,C,G,run_max_int2]
     ·cases f
    ·cases f
   ·cases f
  ·rename_i ts x y hc has;split at f
   ·rename_i A;simp only [ud] at A;have M:c.args=#[x,y]:=by grind
    have C:=V.ev L A.1;have G:=V.ev L A.2;split at f
    ·rename_i Y a1 k2 b1 F hy;split at f
     ·rename_i hk;subst hk;simp only [ui] at f;subst f;rw [F] at C;rw [hy] at G;simp only [V] at C G;refine ⟨_,uE.2 rfl,.int Y (if b1 < a1 then b1 else a1),w,g,.inl ?_,Gh.le.refl g,r,by simp only [V]⟩;simp only [execOp,H,resolve,hc,Sem.run_bind,Sem.run_pure,Result.andThen_ok,invoke,M];simp [builtin,C,G,run_min_int2]
     ·cases f
    ·cases f
   ·cases f
  ·rename_i t u s x hc hts has;split at f
   ·rename_i A;simp only [ud] at A;have hta:c.argTypes=#[t,u]:=by grind
    have M:c.args=#[s,x]:=by grind
    have W:=(V.ev L A.1).tyfix (P:=P) (t:=t);have C:=(V.ev L A.2).tyfix (P:=P) (t:=u);split at f
    ·rename_i e e' K hu;have S:∀i k es,P.info? e=some i->tyfix P t (ev env s)=.osl none k es->(∃I c,a.eval x=.slice I 0 c)->qi P B w0 g a o w (.osl none k es) h:=by
      rintro i k es hi hs ⟨I,c2,F⟩
      rw [hs] at W;have hV2:=W;simp only [V] at W;obtain ⟨a1,c1,hs1,Q,_⟩:=W;refine ⟨a.eval s,w,g,.inl ?_,Gh.le.refl g,r,hV2⟩;simp only [execOp,H,resolve,hc,Sem.run_bind,Sem.run_pure,Result.andThen_ok,invoke,hta,M];simp only [builtin,Array.map,hs1];simp [append0 K hu hi Q,hs1,F]
     split at f
     ·rename_i i k es q hi hs F;simp only [ui] at f;subst f;refine ⟨_,uE.2 rfl,S _ k es hi hs ?_⟩;rw [F] at C;simp only [V] at C
      grind
     ·rename_i i k es q q2 hi hs F;simp only [ui] at f;subst f;refine ⟨_,uE.2 rfl,S _ k es hi hs ?_⟩;rw [F] at C;simp only [V] at C
      grind
     ·cases f
    ·rename_i e kk K hu;split at f
     ·rename_i i z k k2 n hi hz hs F;split at f
      ·rename_i hcd;obtain ⟨⟨rfl,hzl,hby⟩,hk,hn,hlim⟩:=hcd;split at f
       ·rename_i z' hcl;simp only [ui] at f;subst f;rw [hs] at W;have C:=V.ev L A.2;rw [F] at C;simp only [V] at W C;obtain ⟨a1,c1,hs1,_,_,_,h5⟩:=W;have h5:c1=0:=h5;subst h5;obtain ⟨v,w',g',Q,R,h3,h4⟩:=zeros_row (ty:=o.type) r K hu hi hz hzl hby hk (a:=a1) (k2:=k2) hn hlim hcl;refine ⟨_,uE.2 rfl,v,w',g',.inl ?_,R,h3,h4⟩;simp only [execOp,H,resolve,hc,Sem.run_bind,Sem.run_pure,Result.andThen_ok,invoke,hta,M];simp only [builtin,Array.map];simp [hs1,C,Q]
       ·cases f
      ·cases f
     ·cases f
    ·cases f
   ·cases f
  ·rename_i t x hc hts has;split at f
   ·rename_i A;have hta:c.argTypes=#[t]:=by grind
    have M:c.args=#[x]:=by grind
    have C:=(V.ev L A).tyfix (P:=P) (t:=t);split at f
    ·rename_i e q es K F;simp only [ui] at f;subst f;rw [F] at C;simp only [V] at C;obtain ⟨a1,c1,hs1,_,N,_,h5⟩:=C;have h5:c1=es.length:=h5;subst h5;refine ⟨_,uE.2 rfl,.int .i64 (es.length:Int),w,g,.inl ?_,Gh.le.refl g,r,by simp only [V]⟩;simp only [execOp,H,resolve,hc,Sem.run_bind,Sem.run_pure,Result.andThen_ok,invoke,hta,M];simp only [maxLen] at N;simp [builtin,Builtin.cap_,run_underlying K,hs1,goInt]
    ·cases f
   ·cases f
  ·rename_i t x hc hts has;split at f
   ·rename_i A;have hta:c.argTypes=#[t]:=by grind
    have M:c.args=#[x]:=by grind
    have C:=V.ev L A;split at f
    ·rename_i e id tk k n i K F;split at f
     ·rename_i z t' k' es hz O;split at f
      ·rename_i hcd;obtain ⟨⟨rfl,rfl,rfl⟩,hzl,hk0⟩:=hcd;split at f
       ·rename_i z' hcl;simp only [ui] at f;subst f;rw [F] at C;obtain ⟨w',Q,R⟩:=clear_sound (P:=P) (ty:=o.type) r K hz hcl hzl hk0 O rfl C;refine ⟨_,uE.2 rfl,.tuple #[],w',g,.inl ?_,Gh.le.refl g,R,by simp [V,VL]⟩;simp only [execOp,H,resolve,hc,Sem.run_bind,Sem.run_pure,Result.andThen_ok,invoke,hta,M];simp [builtin,Q]
       ·cases f
      ·cases f
     ·cases f
    ·cases f
   ·cases f
  ·cases f
 ·-- insert
  rename_i t m k x H;split at f
  ·rename_i v h' hs;simp only [ui] at f;subst f;refine ⟨_,uE.2 rfl,?_⟩;have:=astep_fits (P:=P) r L { o with op:=.mapUpdate t m k x };rw [hs] at this;obtain ⟨u,w',g',Q,R⟩:=this;refine ⟨u,w',g',?_,R⟩;simpa only [execOp,H] using Q
  ·cases f
 ·-- makeInterface
  rename_i t x H;split at f
  ·rename_i A;have J:=(V.ev L A).tyfix (P:=P) (t:=t);split at f
   ·cases f
   ·rename_i d hne hd;simp only [ui] at f;subst f;refine ⟨_,uE.2 rfl,.iface t (a.eval x),w,g,.inl ?_,Gh.le.refl g,r,?_⟩
    ·have:(Instr.makeInterface t (a.eval x)).run P w=.ok (.iface t (a.eval x)) w:=by
      simp only [Instr.makeInterface,Sem.run_bind,run_underlying hd,Result.andThen_ok];simp
     simp [execOp,H,this]
    ·simp only [V];exact ⟨_,rfl,J⟩
   ·cases f
  ·cases f
 ·-- typeAssert
  rename_i x xt t ok H;split at f
  ·rename_i A;have J:=V.ev L A;split at f
   ·cases f
   ·rename_i d u v hne hd F;rw [F] at J;simp only [V] at J;obtain ⟨y,hy,hv⟩:=J;split at f
    ·rename_i hut;subst hut;simp only [ui] at f;subst f;refine ⟨_,uE.2 rfl,if ok then .tuple #[y,.bool true] else y,w,g,.inl ?_,Gh.le.refl g,r,?_⟩
     ·have:(Instr.typeAssert (.iface u y) xt u ok).run P w=.ok (if ok then .tuple #[y,.bool true] else y) w:=by
       simp only [Instr.typeAssert,Sem.run_bind,run_underlying hd,Result.andThen_ok];rfl
      simp [execOp,H,hy,this]
     ·cases ok
      ·exact hv
      ·simp only [ut,V,VL]
       simp_all
    ·rename_i hut;split at f
     ·rename_i hk;subst hk;split at f
      ·rename_i z hz;simp only [ui] at f;subst f;obtain ⟨zv,hz1,hz2⟩:=aZero_sound (P:=P) (w:=w) (g:=g) hz;refine ⟨_,uE.2 rfl,.tuple #[zv,.bool false],w,g,.inl ?_,Gh.le.refl g,r,?_⟩
       ·have:(Instr.typeAssert (.iface u y) xt t true).run P w=.ok (.tuple #[zv,.bool false]) w:=by
         simp only [Instr.typeAssert,Sem.run_bind,run_underlying hd,Result.andThen_ok]
         simp_all
        simp [execOp,H,hy,this]
       ·simp only [V,VL]
        simp_all
      ·cases f
     ·cases f
   ·cases f
  ·cases f
 ·-- a row is cut
  rename_i t x y H;split at f
  ·rename_i A;simp only [ud] at A;have C:=V.ev L A.1;have G:=V.ev L A.2;split at f
   ·rename_i e id tk k m kk n K F hy;split at f
    ·rename_i i t' k' es hi O;split at f
     ·rename_i hc;obtain ⟨⟨rfl,rfl,rfl⟩,hn0,hnm⟩:=hc;simp only [ui] at f;subst f;rw [F] at C;rw [hy] at G;have hVx2:=C;simp only [V] at C G;obtain ⟨I,c,Z,hnc,N,_⟩:=C;rw [Z] at hVx2;obtain ⟨g',Q,R,h3⟩:=r.shrink (n:=n.toNat) (a':=if c=0 then I else I.map (·.add (0 * i.size))) O hnm (by grind) hVx2;refine ⟨_,uE.2 rfl,_,w,g',.inl ?_,Q,R,h3⟩;have hbd:=q9 (P:=P) (w:=w) (isS:=true) (len:=es.length) (cap:=c) (l:=0) (hh:=n.toNat) (m:=c) (d:=0) (lo:=none) (hi:=some (.int kk n)) (mx:=none) (.inl ⟨rfl,rfl⟩)
       (.inr ⟨kk,n,rfl,hn0,by omega⟩) (.inl ⟨rfl,rfl⟩) (tD _) (by omega) (ug _) rfl
      have:(Instr.sliceAt t (.slice I es.length c) none (some (.int kk n)) none).run P w=.ok (.slice (if c=0 then I else I.map (·.add (0 * i.size))) n.toNat c) w:=by
       rw [sliceAt_of K (by simp)];simp [Instr.slice,yr K,hbd,xy hi]
      simp [execOp,H,Z,G,this]
     ·cases f
    ·cases f
   ·rename_i e k kk n K F hy;split at f
    ·rename_i i hi;split at f
     ·rename_i h0;subst h0;simp only [ui] at f;subst f;rw [F] at C;rw [hy] at G;simp only [V] at C G;obtain ⟨I,c,Z,_,N,_,h5⟩:=C;have h5:c=0:=h5;subst h5;refine ⟨_,uE.2 rfl,.slice I 0 0,w,g,.inl ?_,Gh.le.refl g,r,?_⟩
      ·have hbd:=q9 (P:=P) (w:=w) (isS:=true) (len:=0) (cap:=0) (l:=0) (hh:=0) (m:=0) (d:=0) (lo:=none) (hi:=some (.int kk 0)) (mx:=none) (.inl ⟨rfl,rfl⟩)
        (.inr ⟨kk,0,rfl,by omega,by omega⟩) (.inl ⟨rfl,rfl⟩) (tD _) (by omega) (ug _) rfl
       have:(Instr.sliceAt t (.slice I 0 0) none (some (.int kk 0)) none).run P w=.ok (.slice I 0 0) w:=by
        rw [sliceAt_of K (by simp)];simp [Instr.slice,yr K,hbd,xy hi]
       simp only [u6] at Z;simp [execOp,H,Z,G,this]
      ·simp only [V];exact ⟨I,0,rfl,ug _,N,.inl trivial,rfl⟩
     ·cases f
    ·cases f
   ·cases f
  ·cases f
 ·-- a row's end
  rename_i t x y H;split at f
  ·rename_i A;simp only [ud] at A;have C:=V.ev L A.1;have G:=V.ev L A.2;split at f
   ·rename_i e id tk k m kk n K F hy;split at f
    ·rename_i i hi;split at f
     ·rename_i hc;obtain ⟨rfl,hn0,hnm⟩:=hc;simp only [ui] at f;subst f;rw [F] at C;rw [hy] at G;simp only [V] at C G;obtain ⟨I,c,Z,hnc,N,tt,htt,hrd,hle,hhd⟩:=C;refine ⟨_,uE.2 rfl,.slice (if c=n.toNat then I else I.map (·.add (n.toNat * i.size))) (m - n.toNat) (c - n.toNat),w,g,.inl ?_,Gh.le.refl g,r,?_⟩
      ·have hbd:=q9 (P:=P) (w:=w) (isS:=true) (len:=m) (cap:=c) (l:=n.toNat) (hh:=m) (m:=c) (d:=0) (lo:=some (.int kk n)) (hi:=none) (mx:=none) (.inr ⟨kk,n,rfl,hn0,by omega⟩)
        (.inl ⟨rfl,rfl,rfl⟩) (.inl ⟨rfl,rfl⟩) hnm hnc (ug _) rfl
       have:(Instr.sliceAt t (.slice I m c) (some (.int kk n)) none none).run P w=.ok (.slice (if c=n.toNat then I else I.map (·.add (n.toNat * i.size))) (m - n.toNat) (c - n.toNat)) w:=by
        rw [sliceAt_of K (by simp)];simp [Instr.slice,yr K,hbd,xy hi]
       simp [execOp,H,Z,G,this]
      ·simp only [V];refine ⟨_,_,rfl,⟨hnm,by omega⟩,tt,htt,?_⟩;by_cases h0:m - n.toNat=0
       ·omega
       ·right;rcases hhd with ⟨Q,_⟩ | ⟨b,o2,R,h3⟩
        ·omega
        ·have hcn:¬ c=n.toNat:=by omega
         refine ⟨b,o2+n.toNat * i.size,?_,hrd,hle,λhe'=>⟨o2,_,rfl,h3 he'⟩⟩;rw [uM hcn,R];simp [wi]
     ·cases f
    ·cases f
   ·cases f
  ·cases f
 ·cases f
end
end Go.Vv
namespace Go.Vv
open Go Go.RowKit Go.Lib

def anew (P:Program) (o:Oper) (env:List AV):Option (Nat×List (List AV)) :=
 match o.op with
 | .call c=>match c.callee,c.argTypes.toList,c.args.toList with
  | .builtin .append,[t,u],[s,x]=>if yv s&&yv x then (match P.underlying t,P.underlying u with
   | some (.slice e),some (.slice _)=>match P.info? e with
    | some i=>if i.bytes<=65536/\0 < i.size/\(i.zero.map (·.cells.size))=some i.size then (match tyfix P t (ev env s),aNews i.size (tyfix P u (ev env x)) with
     | .osl none k [],some ys=>if k=i.size/\ys.length<=lim then some (i.size,ys) else none
     | _,_=>none) else none
    | none=>none
   | _,_=>none) else none
  | _,_,_=>none
 | _=>none

section
variable {P:Program} {w:World} {g:Gh} {h:AH} {B:Nat} {w0:World}
theorem news_ex (r:Rel B w0 g h w) {k:Nat} (E:0 < k) {F:AV} {x:Value} (p:V g F x) {i:List (List AV)} (d:aNews k F=some i) :
  ∃f,(∀e ∈ i,e.length=k)/\VA g i.flatten f/\i.flatten.all AV.pure=true/\∀W:World,(∀a v,w.cell? a=some v->W.cell? a=some v)->News P k i.length x f W:=by
 have slc:∀(es:List (List AV)) (l:Option Addr) (c:Nat),x=.slice l es.length c->(es=[] \/ ∃b o,l=some ⟨b,o,none⟩/\VE g b k o es)->i=es ->
   ∃f,(∀e ∈ i,e.length=k)/\VA g i.flatten f/\i.flatten.all AV.pure=true/\∀W:World,(∀a v,w.cell? a=some v->W.cell? a=some v)->News P k i.length x f W:=by
  rintro es l c q D rfl
  rcases D with rfl | ⟨b,oo,rfl,y⟩
  ·refine ⟨[],by simp,by simp [VA],rfl,λW _=>⟨by rw [q];rfl,?_⟩⟩;rw [q];cases l with
   | none=>simp [Builtin.firstCells]
   | some l=>simp [Builtin.firstCells,loadCells,loadCellsFrom]
  ·obtain ⟨n,u⟩:=VE_iff.1 y;obtain ⟨us,t,z,C⟩:=u.toVA;refine ⟨us,n,t,z,λW G=>?_⟩;rw [q];refine News.slice (by rw [<- t.length,yT n]) λj v I=>?_;rw [wi];exact G _ _ (r.phi _ _ _ (C j v I))
 unfold aNews at d;split at d
 ·split at d
  ·rename_i m;cases d;subst m;simp only [V] at p
   grind
  ·cases d
 ·split at d
  ·rename_i m;cases d;subst m;simp only [V] at p
   grind
  ·cases d
 ·split at d
  ·rename_i m;cases d;subst m;simp only [V] at p;obtain ⟨l,c,n,u,H,A⟩:=p;exact slc _ l c n (A.imp id λ⟨b,o,e,hh,_⟩=>⟨b,o,e,hh⟩) rfl
  ·cases d
 ·split at d
  ·rename_i m;cases d;subst m;simp only [V] at p;obtain ⟨l,c,n,u,H,A⟩:=p;exact slc _ l c n (A.imp id λ⟨b,o,e,hh,_⟩=>⟨b,o,e,hh⟩) rfl
  ·cases d
 ·rename_i s;split at d
  ·rename_i m;cases d;simp only [V] at p;obtain ⟨n,u⟩:=p;refine ⟨strCells ⟨s.toArray⟩,λe J=>?_,?_,by rw [bytes_flat,List.all_map];exact ur.2 λ_ _=>rfl,λW _=>?_⟩
   ·grind
   ·rw [bytes_flat];exact bytes_VA s
   ·rw [n];have:=News.str (P:=P) (size:=k) (s:=⟨s.toArray⟩) (w:=W);rw [str_size] at this
    simp_all
  ·cases d
 ·cases d

theorem new_fits (r:Rel B w0 g h w) {a:Act} {env:List AV} (D:VL g env a.tmps.toList) {o:Oper} {k:Nat} {C:List (List AV)} (b:anew P o env=some (k,C)):qi P B w0 g a o w (.nsl k C) h:=by
 unfold anew at b;split at b
 ·rename_i c O;split at b
  ·rename_i t u G T l S has;split at b
   ·rename_i d;simp only [ud] at d;split at b
    ·rename_i e X H Q;split at b
     ·rename_i i hi;split at b
      ·rename_i y;obtain ⟨p,j,U⟩:=y;obtain ⟨z,M,s⟩:∃z,i.zero=some z/\z.cells.size=i.size:=by
        simp_all
       split at b
       ·rename_i k' N hs n;split at b
        ·rename_i I;obtain ⟨rfl,m⟩:=I;cases b;have f:=(V.ev D d.1).tyfix (P:=P) (t:=t);rw [hs] at f;obtain ⟨A,L,F,R,K⟩:=news_ex (P:=P) r j ((V.ev D d.2).tyfix (P:=P) (t:=u)) n;obtain ⟨v,w',g',E,k2,J,W⟩:=append_new (ty:=o.type) r H Q (.inr ⟨_,rfl⟩) hi M s p f L F R K m;refine ⟨v,w',g',.inl ?_,k2,J,W⟩;have x:c.argTypes=#[t,u]:=by grind
         have q:c.args=#[G,T]:=by grind
         simp only [execOp,O,resolve,l,Sem.run_bind,Sem.run_pure,Result.andThen_ok,invoke,x,q];simp [builtin,E]
        ·cases b
       ·cases b
      ·cases b
     ·cases b
    ·cases b
   ·cases b
  ·cases b
 ·cases b
end
end Go.Vv
namespace Go.Vv
open Go Go.RowKit
def laid (_:Program) (_:World):Prop:=True
theorem laid_below {P:Program} {B:Nat} {w0 w:World} (_:laid P w0) (_:w0.heap.size<=B) (_:Below B w0 w):laid P w:=trivial
end Go.Vv
