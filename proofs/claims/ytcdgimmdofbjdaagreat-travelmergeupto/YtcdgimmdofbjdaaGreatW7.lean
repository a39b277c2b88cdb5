/- Each function that the law reaches computes what its reading says; printed by a program. -/
import Derived.Test.YtcdgimmdofbjdaaGreatW6
set_option linter.all false
open Option renaming some→aa
open Go.IntKind renaming wrap→ai
open List renaming length→ak
namespace Go.Vv
open Go Go.Proofs
set_option maxRecDepth 100000
set_option synthInstance.maxSize 100000
set_option synthInstance.maxHeartbeats 1000000
set_option maxHeartbeats 1000000
variable{t0:(List GC)}{bl tl:Nat}{res:Int}{h:AH}{l0 a1 b2:GE}{fcmp2 ff1:FuncId}{acmp2 kcmp2 af1 kf1:List AV}{nn0:GC}{ss0:(List GJ)}{f1:(GJ->Option Bool)}
theorem ztj(n:Nat):∀{t0:(List GC)} {i:(GE->Option GE)} {g:FuncId} {d e:List AV} {res:(List GC)} {h:AH} (f:∀y v (L:List q6) (M:List Nat),i y=aa v->Sp g (d++[zD y]++e) (h.ext L M) (yb (zD v) (h.ext L M))),wi n t0 i=aa res->Sp 198 [za t0,.fn (.func g) d e] h (yb (za res) h):=by
 induction n with
 |zero=>intro t0 i g d e res h f a;simp[wi]at a
 |succ n ih =>
  intro t0 i g d e res h f a;unfold wi at a;refine zy Tryz.func198 rfl kr (sL 45 rfl) (λl P=>?_);simp only[zB,AV.low,tx,lq,kA]at l;have b:∀n m,ak h.zh<=n->ak h.zs<=m->zB n m d=true:=λn m C A=>zT C A _ (by simp[l]);have c:∀n m,ak h.zh<=n->ak h.zs<=m->zB n m e=true:=λn m C A=>zT C A _ (by simp[l]);apply R.r;refine xP λK=>qg (h0:=wk.trans (tZ rfl rfl (sx 4) rfl) (wk.le (by exact(.drop (.eq (.drop (.drop (.cons (g6.of_eq rfl) (.d4 (.drop (.eq (.eq (.cons (g6.of_eq rfl) (.d16 (.d16 fc.nil))))))))))))))) (λ(I:Nat)(q:(List GC))=>zo 2 2 (zo 5 5 (zo 13 32 [(0,.any),(4,cP h 0 3 (q.map GC.row)),(12,.int .i64 (I:Int))]))) (λq=>h.ext [] [ak q]) a (λI q J a=>cL a (λk S F E a G=>?_) (λa=>?_))
  ·refine zO (yu rfl wd gg gg oF (zu E) (GC.q8 _)) ?_;refine dk [1,3,5] [(1,[(0,.cells [.str k.name,zH k.leaves,za k.wa])]),(3,[(0,.cells [.str k.name,zH k.leaves,za k.wa])])] ?_;refine yg rfl rfl (by rintro _ ⟨B2,T2,rfl,p⟩;exact yT rfl cd gg (wH p) (zA rfl) (zc rfl)) ss (R.r ?_);refine yg rfl rfl (by rintro _ ⟨B2,T2,rfl,p⟩;exact yT rfl zsB gg (wH p) (zA rfl) (zc rfl)) ss (R.r ?_);refine zd a (λv23 x a=>yV rfl rfl (λ_=>sc rfl) (by rintro _ ⟨B2,T2,rfl,p⟩;exact ih (λy v L M O=>by rw[x5];exact f y v _ _ O) x) ss ?_);refine wl sb ?_;refine qs fN.out ?_;refine qs fN.out ?_;refine xP λH=>qg (h0:=wk.trans (zlC (j:=1) rfl rfl rfl (sx 1) rfl rfl) (wk.le (by exact(.drop (.eq (.drop (.drop (.eq (.drop (.drop (.eq (.drop (.drop (.eq (.eq (.eq (.d4 (.d4 (.drop (.drop (.drop (.eq (.eq (.cons (g6.of_eq rfl) (.d16 (.drop (.drop fc.nil))))))))))))))))))))))))))) (λ(n2:Nat)(s2:(List GE))=>zo 2 2 (zo 5 2 (zo 8 2 (zo 13 11 (zo 27 18 [(0,.any),(26,.int .i64 (n2:Int))]))))) (λs2=>h.ext [.cells [.str k.name,zH k.leaves,za k.wa],.cells [.str k.name,cP h 1 9 (s2.map GE.row),za v23]] [ak q,ak s2]) a (λn2 s2 N a=>cL a (λT Q B z a D=>?_) (λa=>?_))
   ·refine ix (zu z) (R.r ?_);refine dr [] ?_;refine zd a (λu t a=>wC rfl rfl (cg rfl) (f _ _ _ _ t) ss ?_);refine wl (bs (([u]:List GE).map GE.row)) ?_;refine zJ a (λs a=>dL (eT s) ?_);refine qs fN.out ?_;cases a;exact⟨(s2++([u]:List GE)),B,D,wk.trans (wk.le (by exact(.drop (.eq (.drop (.drop (.eq (.drop (.drop (.eq (.drop (.drop (.eq (.eq (.eq (.d4 (.d4 (.drop (.drop (.drop (.eq (.eq (.cons (g6.of_eq (oE (by omega) (by omega))) (.d16 (.drop (.drop fc.nil)))))))))))))))))))))))))) (yH (by simp[zB,AV.low,b,c]) rfl rfl (by simp[q6.low,zB,AV.low,b,c]))⟩
   ·refine zO (xh (es:=([(GC.mk k.name s2 v23)]:List GC).map GC.row) rfl wd o9 rfl rfl cQ.o cO.o rfl rfl (by simp only[m4,l9,GC.q8];rfl)) ?_;refine zJ a (λw a=>zO (eT w) ?_);cases a;exact⟨(q++([(GC.mk k.name s2 v23)]:List GC)),F,G,wk.trans (wk.le (by exact(.drop (.eq (.drop (.drop (.cons (g6.of_eq rfl) (.d4 (.drop (.eq (.eq (.cons (g6.of_eq (oE (by omega) (by omega))) (.d16 (.d16 fc.nil)))))))))))))) (yH (by simp[zB,AV.low,b,c]) rfl rfl (by simp[q6.low,zB,AV.low,b,c]))⟩
  ·exact Z
theorem zsW{p:(GE->Option GE)}{k:FuncId}{d e:List AV}{res:(List GC)}(z:ak h.zh=bl)(C:ak h.zs=tl)(i:∀y v (L:List q6) (M:List Nat),p y=aa v->Sp k (d++[zD y]++e) (h.ext L M) (yb (zD v) (h.ext L M)))(a:n9 t0 p=aa res):Sp 198 [za t0,.fn (.func k) d e] h (yb (.fo bl tl 3 (ak res)) (h.ext [.row tl 3 (res.map GC.row)] [ak res])):=by
 obtain⟨n,a⟩:=rE a;cases n with
 |zero=>simp[wi]at a
 |succ n =>
  unfold wi at a;subst z C;refine zy Tryz.func198 rfl kr (sL 45 rfl) (λg S=>?_);simp only[zB,AV.low,tx,lq,kA]at g;have b:∀n m,ak h.zh<=n->ak h.zs<=m->zB n m d=true:=λn m E A=>zT E A _ (by simp[g]);have c:∀n m,ak h.zh<=n->ak h.zs<=m->zB n m e=true:=λn m E A=>zT E A _ (by simp[g]);apply R.r;refine xP λO=>qg (h0:=wk.trans ((q9 rfl rfl rfl (sx 4) rfl rfl).wk) (wk.le ej.o)) (λ(K:Nat)(q:(List GC))=>zo 2 2 (zo 5 5 (zo 13 32 [(0,.any),(4,zU h 0 0 3 (ak q)),(12,.int .i64 (K:Int))]))) (λq=>h.ext [yr h 0 3 (q.map GC.row)] [ak q]) a (λK q N a=>cL a (λf U H G a I=>?_) (λa=>?_))
  ·refine zO (yu rfl wd gg gg oF (zu G) (GC.q8 _)) ?_;refine dk [1,3,5] [(1,[(1,.cells [.str f.name,zH f.leaves,za f.wa])]),(3,[(1,.cells [.str f.name,zH f.leaves,za f.wa])])] ?_;refine yg rfl rfl (by rintro _ ⟨B2,T2,rfl,l⟩;exact yT rfl cd gg (wH l) (zA rfl) (zc rfl)) ss (R.r ?_);refine yg rfl rfl (by rintro _ ⟨B2,T2,rfl,l⟩;exact yT rfl zsB gg (wH l) (zA rfl) (zc rfl)) ss (R.r ?_);refine zd a (λv23 x a=>yV rfl rfl (λ_=>sc rfl) (by rintro _ ⟨B2,T2,rfl,l⟩;exact ztj n (λy v L M Q=>by rw[x5];exact i y v _ _ Q) x) ss ?_);refine wl sb ?_;refine qs fN.out ?_;refine qs fN.out ?_;refine xP λJ=>qg (h0:=wk.trans (zlC (j:=2) rfl rfl rfl (sx 1) rfl rfl) (wk.le (by exact(.drop (.eq (.drop (.drop (.eq (.drop (.drop (.eq (.drop (.drop (.eq (.eq (.eq (.d4 (.d4 (.drop (.drop (.drop (.eq (.eq (.cons (g6.of_eq rfl) (.d16 (.drop (.drop fc.nil))))))))))))))))))))))))))) (λ(n2:Nat)(s2:(List GE))=>zo 2 2 (zo 5 2 (zo 8 2 (zo 13 11 (zo 27 18 [(0,.any),(26,.int .i64 (n2:Int))]))))) (λs2=>h.ext [yr h 0 3 (q.map GC.row),.cells [.str f.name,zH f.leaves,za f.wa],.cells [.str f.name,cP h 1 9 (s2.map GE.row),za v23]] [ak q,ak s2]) a (λn2 s2 P a=>cL a (λV T D B a F=>?_) (λa=>?_))
   ·refine ix (zu B) (R.r ?_);refine dr [] ?_;refine zd a (λt w a=>wC rfl rfl (cg rfl) (i _ _ _ _ w) ss ?_);refine wl (bs (([t]:List GE).map GE.row)) ?_;refine zJ a (λu a=>dL (eT u) ?_);refine qs fN.out ?_;cases a;exact⟨(s2++([t]:List GE)),D,F,wk.trans (wk.le (by exact(.drop (.eq (.drop (.drop (.eq (.drop (.drop (.eq (.drop (.drop (.eq (.eq (.eq (.d4 (.d4 (.drop (.drop (.drop (.eq (.eq (.cons (g6.of_eq (oE (by omega) (by omega))) (.d16 (.drop (.drop fc.nil)))))))))))))))))))))))))) (yH (by simp[zB,AV.low,b,c]) rfl rfl (by simp[q6.low,zB,AV.low,b,c]))⟩
   ·refine zO (xh (es:=([(GC.mk f.name s2 v23)]:List GC).map GC.row) rfl wd o9 rfl rfl cQ.o cO.o rfl rfl (by simp only[m4,l9,GC.q8];rfl)) ?_;refine zJ a (λs a=>zO (eR s) ?_);cases a;exact⟨(q++([(GC.mk f.name s2 v23)]:List GC)),H,I,wk.trans (wk.le (by exact(.drop (.eq (.drop (.drop (.cons (g6.of_eq rfl) (.d4 (.drop (.eq (.eq (.cons (g6.of_eq (oE (by omega) (by omega))) (.d16 (.d16 fc.nil)))))))))))))) (yH (by simp[zB,AV.low,b,c]) rfl rfl (by simp[q6.low,zB,AV.low,b,c]))⟩
  ·exact Z
theorem zwd{res:GE}(a:tg l0=aa res):Sp 199 [zD l0] h (yb (zD res) h):=by
 unfold tg at a;refine xb Tryz.func199 12 ?_;refine dr [] ?_;refine zd a (λe c a=>wI rfl f0.nil (by rfl) rfl (sc rfl) (oX (zrg c)) ss (R.r ?_));refine zd a (λd b a=>wI rfl f0.nil (by rfl) rfl (sc rfl) (oX (zit b)) ss (R.r ?_));refine qs fN.out ?_;refine qs fN.out ?_;exact Z
theorem zsY{res:(List GC)}(b:ak h.zh=bl)(d:ak h.zs=tl)(a:zaD t0=aa res):Sp 151 [za t0] h (yb (.fo bl tl 3 (ak res)) (h.ext [.row tl 3 (res.map GC.row)] [ak res])):=by
 unfold zaD at a;subst b d;refine xb Tryz.func151 5 ?_;refine zd a (λf c a=>e7 (rV (w:=zU h 0 0 3 (ak f)) (zsW (by rw[xn];rfl) (by rw[rn];rfl) (λ_ v L M e=>zwd  e) c) rfl) ?_);exact Z
theorem zvU{g:(List GC)}{b:zp}{f:(GC->zp->Option Int)}{res:(Int×Bool)}(d:∀t A v (L:List q6) (M:List Nat),f t A=aa v->Sp fcmp2 (acmp2++[.agg [.str t.name,zH t.leaves,za t.wa],.str A]++kcmp2) (h.ext L M) (yb (.int .i64 v) (h.ext L M)))(a:zg g b f=aa res):Sp 258 [za g,.str b,.fn (.func fcmp2) acmp2 kcmp2] h (yb (.fl [.int .i64 res.1,.bool res.2]) h):=by
 unfold zg at a;refine zy Tryz.func258 rfl kr (sL 49 rfl) (λc E=>?_);simp only[zB,AV.low,tx,lq,kA]at c;have q:∀n m,ak h.zh<=n->ak h.zs<=m->zB n m acmp2=true:=λn m w u=>zT w u _ (by simp[c]);have k:∀n m,ak h.zh<=n->ak h.zs<=m->zB n m kcmp2=true:=λn m w u=>zT w u _ (by simp[c]);apply R.r;refine xP λC=>xl (λ(e:Int×Int)=>zo 3 5 (zo 11 38 [(9,.int .i64 e.1),(10,.int .i64 e.2)])) (λe=>h.ext [] []) a (λ_=>UE) (wk.le ej.o) ?_;intro H e F a z;apply R.r;refine cF a (λy a=>?_) (λy a=>?_)
 ·refine zO (tI rfl ap zkG gg rfl) ?_;refine zO (tI rfl zkG ap gg rfl) ?_;refine zd a (λG x a=>zO (yu rfl wd gg gg oF x (GC.q8 _)) ?_);refine zd a (λB p a=>yf rfl (cg rfl) (d _ _ _ _ _ p) ss (R.r ?_));refine cF a (λs a=>?_) (λs a=>?_)
  ·exact ZL
  ·exact ZL
 ·cases a;replace a:=z;apply R.r;refine zJ a (λi a=>?_);refine qr rfl (λj=>qn default rfl wd (zM gg j) (zM gg j) oF (i j) (GC.q8 _)) ss (R.r ?_);refine qQ a (λD l a=>?_);refine vr rfl cg (λj=>d _ _ _ _ _ (l j)) ss (R.r ?_);exact Z
def zid:Go.Shelf.Ren :=
  { f:=λx=>match x with
      |106=>260
      |213=>299
      |265=>341
      |n=>n
    t:=λx=>match x with
      |3=>3
      |9=>9
      |n=>n
    g:=λn=>n }
theorem zgE:Go.Proofs.Lays.n106 Tryz.prog zid where
  mixed:=mixed
  f106:=Tryz.func260.trans (by kernel_rfl)
  f213:=Tryz.func299.trans (by kernel_rfl)
  f265:=Tryz.func341.trans (by kernel_rfl)
  t3:=Tryz.underlying3
  a3:=Tryz.isAgg3
  z3:=Tryz.sizeOf3
  v3:=Tryz.zeroValue3
  t9:=Tryz.underlying9
  a9:=Tryz.isAgg9
  z9:=Tryz.sizeOf9
  v9:=Tryz.zeroValue9
theorem zvS{c:zp}{b:zp}(a:pJ c b=aa res):Sp 260 [.str c,.str b] h (yb (.int .i64 res) h):=by
 cases a;exact zfk zgE
theorem zvT{b:zp}(a:zao nn0 b=aa res):Sp 259 [.agg [.str nn0.name,zH nn0.leaves,za nn0.wa],.str b] h (yb (.int .i64 res) h):=by
 unfold zao at a;refine xb Tryz.func259 9 ?_;refine cB a (λ_=>zvS) λc a=>?_;exact Z
theorem zwc{b:zp}{res:(Int×Bool)}(a:na t0 b=aa res):Sp 200 [za t0,.str b] h (yb (.fl [.int .i64 res.1,.bool res.2]) h):=by
 unfold na at a;refine xb Tryz.func200 11 ?_;refine cB a (λ_=>zvU (λ_ _ v L M c=>zvT  c)) λd a=>?_;exact Z
def zfX:Go.Shelf.Ren :=
  { f:=λx=>match x with
      |22=>201
      |29=>261
      |30=>262
      |n=>n
    t:=λx=>match x with
      |0=>0
      |3=>3
      |4=>4
      |9=>105
      |24=>26
      |n=>n
    g:=λn=>n }
theorem zd3:eC Tryz.prog zfX 25 3 where
  mixed:=by kernel_rfl
  f22:=⟨Tryz.f201.name,Tryz.f201.targs,Tryz.func201.trans (by kernel_rfl),by kernel_rfl⟩
  f29:=λargs w=>run_callFunc_extern Tryz.func261 (by kernel_rfl) (by kernel_rfl) (by kernel_rfl) (e:=Extern.SlicesOverlaps.overlaps #[25,25] #[4]) (by kernel_rfl) args w
  t0:=Tryz.underlying0
  a0:=Tryz.isAgg0
  z0:=Tryz.sizeOf0
  v0:=Tryz.zeroValue0
  t3:=Tryz.underlying3
  a3:=Tryz.isAgg3
  z3:=Tryz.sizeOf3
  v3:=Tryz.zeroValue3
  t4:=Tryz.underlying4
  a4:=Tryz.isAgg4
  z4:=Tryz.sizeOf4
  v4:=Tryz.zeroValue4
  t24:=Tryz.underlying26
  a24:=Tryz.isAgg26
  z24:=Tryz.sizeOf26
  v24:=Tryz.zeroValue26
  t23:=Tryz.underlying25
  a23:=Tryz.isAgg25
  z23:=Tryz.sizeOf25
  v23:=Tryz.zeroValue25
  i9:=⟨_,_,rfl,rfl,rfl,rfl,by decide⟩
  k0:=by decide
theorem zti{f:(List GE)}{b:Int}{e:(GE->Int->Option Int)}{res:(Int×Bool)}(d:∀y z v (L:List q6) (M:List Nat),e y z=aa v->Sp fcmp2 (acmp2++[zD y,.int .u8 z]++kcmp2) (h.ext L M) (yb (.int .i64 v) (h.ext L M)))(a:zL f b e=aa res):Sp 202 [zH f,.int .u8 b,.fn (.func fcmp2) acmp2 kcmp2] h (yb (.fl [.int .i64 res.1,.bool res.2]) h):=by
 unfold zL at a;refine zy Tryz.func202 rfl kr (sL 49 rfl) (λc E=>?_);simp only[zB,AV.low,tx,lq,kA]at c;have l:∀n m,ak h.zh<=n->ak h.zs<=m->zB n m acmp2=true:=λn m t s=>zT t s _ (by simp[c]);have i:∀n m,ak h.zh<=n->ak h.zs<=m->zB n m kcmp2=true:=λn m t s=>zT t s _ (by simp[c]);apply R.r;refine xP λB=>xl (λ(q:Int×Int)=>zo 3 5 (zo 11 38 [(9,.int .i64 q.1),(10,.int .i64 q.2)])) (λq=>h.ext [] []) a (λ_=>UE) (wk.le ej.o) ?_;intro H q F a x;apply R.r;refine cF a (λw a=>?_) (λw a=>?_)
 ·refine zO (tI rfl ap zkG gg rfl) ?_;refine zO (tI rfl zkG ap gg rfl) ?_;refine zd a (λG u a=>ix u (R.r ?_));refine zd a (λA k a=>yf rfl (cg rfl) (d _ _ _ _ _ k) ss (R.r ?_));refine cF a (λp a=>?_) (λp a=>?_)
  ·exact ZL
  ·exact ZL
 ·cases a;replace a:=x;apply R.r;refine zJ a (λg a=>gix g (R.r ?_));refine qQ a (λC j a=>?_);refine vr rfl cg (λD=>d _ _ _ _ _ (j D)) ss (R.r ?_);exact Z
theorem zth{b:GE}{eY:Int}(a:ql b eY=aa res):Sp 203 [zD b,.int .u8 eY] h (yb (.int .i64 res) h):=by
 unfold ql at a;refine xb Tryz.func203 9 ?_;refine cB a (λ_=>zts) λc a=>?_;exact Z
def zfW:Go.Shelf.Ren :=
  { f:=λx=>match x with
      |22=>204
      |29=>263
      |30=>264
      |n=>n
    t:=λx=>match x with
      |0=>0
      |3=>3
      |4=>4
      |9=>84
      |24=>103
      |n=>n
    g:=λn=>n }
theorem zai:eC Tryz.prog zfW 103 9 where
  mixed:=by kernel_rfl
  f22:=⟨Tryz.f204.name,Tryz.f204.targs,Tryz.func204.trans (by kernel_rfl),by kernel_rfl⟩
  f29:=λargs w=>run_callFunc_extern Tryz.func263 (by kernel_rfl) (by kernel_rfl) (by kernel_rfl) (e:=Extern.SlicesOverlaps.overlaps #[103,103] #[4]) (by kernel_rfl) args w
  t0:=Tryz.underlying0
  a0:=Tryz.isAgg0
  z0:=Tryz.sizeOf0
  v0:=Tryz.zeroValue0
  t3:=Tryz.underlying3
  a3:=Tryz.isAgg3
  z3:=Tryz.sizeOf3
  v3:=Tryz.zeroValue3
  t4:=Tryz.underlying4
  a4:=Tryz.isAgg4
  z4:=Tryz.sizeOf4
  v4:=Tryz.zeroValue4
  t24:=Tryz.underlying103
  a24:=Tryz.isAgg103
  z24:=Tryz.sizeOf103
  v24:=Tryz.zeroValue103
  t23:=Tryz.underlying103
  a23:=Tryz.isAgg103
  z23:=Tryz.sizeOf103
  v23:=Tryz.zeroValue103
  i9:=⟨_,_,rfl,rfl,rfl,rfl,by decide⟩
  k0:=by decide
theorem ztt(n:Nat):∀{t0:(List GC)} {u:(List zp)} {c:GE} {res:(List GC)} {h:AH} , wW n t0 u c=aa res->Sp 152 [za t0,yD u,zD c] h (yb (za res) h):=by
 induction n with
 |zero=>intro t0 u c res h  a;simp[wW]at a
 |succ n ih =>
  intro t0 u c res h  a;unfold wW at a;refine xb Tryz.func152 77 ?_;refine zd a (λt hv1 a=>e7 (rN (zp0 hv1)) ?_);refine zd a (λy2 hy2 a=>ix hy2 (R.r ?_));refine zd a (λv3 hv3 a=>cp (vn (by exact(.cons (.row _ _ _ _ _ (by rw[zX];rfl) (by simp)) (.cons (.low _ rfl) .nil))) rfl (zwc hv3) (λ_ _ h=>h.1)) (R.r ?_));refine cF a (λhc4 a=>?_) (λhc4 a=>?_)
  ·refine zd a (λy5 hy5 a=>ix hy5 (R.r ?_));refine zO sb ?_;refine zO (xh (es:=([(GC.mk y5 ([]:List GE) ([]:List GC))]:List GC).map GC.row) rfl zzg o9 rfl rfl cQ.o cO.o rfl rfl (by simp only[m4,l9,GC.q8];rfl)) ?_;refine zd a (λw hv6 a=>e7 (nf zd3 (row:=GC.row) (λ_=>by rw[GC.q8];rfl) hv6 (.inr rfl) (i:=1) (q:=0) (B':=[.cells (GE.row c),.dead,yr h 1 3 (w.map GC.row)]) (T':=[ak t+1,ak w]) rfl rfl rfl rfl rfl) ?_);refine zd a (λd K a=>zO (iR (y8 K rfl)) ?_);refine zO (vH (off:=0) (i:=2) (q:=ak h.zs+1) (z:=v3.1.toNat) (row:=GC.row) (λ_=>by rw[GC.q8];rfl) rfl el.choose_spec.1 (by decide) gg rfl rfl (wN K).2.2 (by rw[GC.q8 _];exact(z7 (cs':=[.str d.name,zH d.leaves,za d.wa]) el.choose_spec.2 rfl rfl)) (zc rfl)) ?_;refine xP λhn8=>si gg a (λhc9 a=>?_) (λhc9 a=>?_)
   ·refine dr [] ?_;refine zd a (λm10 W a=>wl (qU rfl b8 gg (.inl rfl) (.some rfl) .none W) ?_);refine zd a (λx Y a=>wC rfl rfl (sc rfl) (ih Y) ss (R.r ?_));refine qs fN.out ?_;refine zd a (λy12 E a=>zO (iR (y8 E rfl)) ?_);refine zO (qF (off:=0) (i:=2) (q:=ak h.zs+1) (z:=v3.1.toNat) (row:=GC.row) (y':=(GC.mk d.name d.leaves x)) (us:=[.str d.name,zH d.leaves,za x]) (B':=[.cells (GE.row c),.dead,yr h 1 3 ((w.set v3.1.toNat (GC.mk d.name d.leaves x)).map GC.row),.cells [.str d.name,zH d.leaves,za x]]) (λ_=>by rw[GC.q8];rfl) rfl el.choose_spec.1 gg gg (zc rfl) rfl rfl rfl rfl rfl (wN E).2.2 (by decide) (by simp only[GC.q8];rfl) rfl) ?_;obtain rfl:=oi a;refine fr rfl (xX ((yc (j:=2) (m:=1) (B':=[.cells (GE.row c),.dead,.dead,.cells [.str d.name,zH d.leaves,za x]]) (T':=[ak t+1,ak ((w.set v3.1.toNat (GC.mk d.name d.leaves x)).map GC.row)+1]) rfl (by exact(.cons (.fD _ _ (by rw[oa];exact kO ((lm.trans rfl)))) (.refl _))) rfl rfl).wk) ?_);refine wm (g6.refl _) rfl ?_;exact⟨rfl,rfl⟩
   ·apply R.r;refine zd a (λg Z a=>e7 (rN (zmu Z)) ?_);refine zd a (λf P a=>cp (vn (by exact(.cons (.row _ _ _ _ _ (by rw[zX];rfl) (by simp)) (.cons (.low _ rfl) (.cons (.low _ rfl) .nil)))) rfl (zti (λ_ _ v L M hv=>zth  hv) P) (λ_ _ h=>h.1)) (R.r ?_));refine cF a (λQ a=>?_) (λQ a=>?_)
    ·refine zO (bs (([c]:List GE).map GE.row)) ?_;refine zd a (λp S a=>e7 (nf zai (row:=GE.row) (λ_=>rfl) S (.inr rfl) (i:=4) (q:=2) (B':=[.cells (GE.row c),.dead,yr h 1 3 (w.map GC.row),.cells [.str d.name,zU h 4 2 9 (ak g),za d.wa],.dead,yr h 3 9 (p.map GE.row)]) (T':=[ak t+1,ak w,ak g+1,ak p]) rfl rfl rfl rfl rfl) ?_);refine zd a (λy17 D a=>zO (iR (y8 D rfl)) ?_);refine zt rfl (qF (off:=0) (i:=5) (q:=ak h.zs+3) (z:=f.1.toNat) (row:=GE.row) (y':=c) (us:=(GE.row c)) (B':=[.cells (GE.row c),.dead,yr h 1 3 (w.map GC.row),.cells [.str d.name,zU h 5 3 9 (ak p),za d.wa],.dead,yr h 3 9 ((p.set f.1.toNat c).map GE.row)]) (λ_=>rfl) rfl ao.choose_spec.1 gg gg (zc rfl) rfl rfl rfl rfl rfl (wN D).2.2 (by decide) rfl rfl) rfl ?_;refine yB (wt (wr (yF ?_)));refine zt rfl (yS rfl gg (zc rfl)) ss ?_;refine zt rfl (yS rfl gg (zc rfl)) ss ?_;refine vS (tH (j:=5) (jb:=3) (m:=3) (B':=[.cells (GE.row c),.dead,yr h 1 3 (w.map GC.row),.cells [.str d.name,.sl 9 ((p.set f.1.toNat c).map GE.row),za d.wa],.dead,.dead]) (T':=[ak t+1,ak w,ak g+1,ak ((p.set f.1.toNat c).map GE.row)+1]) rfl (by exact(.ch (.ch (.ch (.ch (.s (.cons (da.fD _ _ (by rw[oa];exact kO ((lm.trans rfl)))) (.s (.s (.cons (da.fD _ _ (by rw[oa];exact kO ((lm.trans rfl)))) (eL.refl _))))))))))) rfl (by exact(.s (.cons (da.fD _ _ (by rw[oa];exact kO ((lm.trans rfl)))) (eL.refl _)))) rfl rfl) (R.r ?_);refine zd a (λy18 J a=>zO (iR (y8 J rfl)) ?_);refine zO (qF (off:=0) (i:=2) (q:=ak h.zs+1) (z:=v3.1.toNat) (row:=GC.row) (y':=(GC.mk d.name (p.set f.1.toNat c) d.wa)) (us:=[.str d.name,.sl 9 ((p.set f.1.toNat c).map GE.row),za d.wa]) (B':=[.cells (GE.row c),.dead,yr h 1 3 ((w.set v3.1.toNat (GC.mk d.name (p.set f.1.toNat c) d.wa)).map GC.row),.cells [.str d.name,.sl 9 ((p.set f.1.toNat c).map GE.row),za d.wa],.dead,.dead]) (λ_=>by rw[GC.q8];rfl) rfl el.choose_spec.1 gg gg (zc rfl) rfl rfl rfl rfl rfl (wN J).2.2 (by decide) (by simp only[GC.q8];rfl) rfl) ?_;obtain rfl:=oi a;refine fr rfl (xX ((yc (j:=2) (m:=1) (B':=[.cells (GE.row c),.dead,.dead,.cells [.str d.name,.sl 9 ((p.set f.1.toNat c).map GE.row),za d.wa],.dead,.dead]) (T':=[ak t+1,ak ((w.set v3.1.toNat (GC.mk d.name (p.set f.1.toNat c) d.wa)).map GC.row)+1,ak g+1,ak ((p.set f.1.toNat c).map GE.row)+1]) rfl (by exact(.cons (.fD _ _ (by rw[oa];exact kO ((lm.trans rfl)))) (.refl _))) rfl rfl).wk) ?_);refine wm (g6.refl _) rfl ?_;exact⟨rfl,rfl⟩
    ·refine zd a (λy19 C a=>zO (iR (y8 C rfl)) ?_);refine zt rfl (qF (off:=0) (i:=4) (q:=ak h.zs+2) (z:=f.1.toNat) (row:=GE.row) (y':=c) (us:=(GE.row c)) (B':=[.cells (GE.row c),.dead,yr h 1 3 (w.map GC.row),.cells [.str d.name,zU h 4 2 9 (ak g),za d.wa],yr h 2 9 ((g.set f.1.toNat c).map GE.row)]) (λ_=>rfl) rfl ao.choose_spec.1 gg gg (zc rfl) rfl rfl rfl rfl rfl (wN C).2.2 (by decide) rfl rfl) rfl ?_;refine yB (wt (wr (yF ?_)));refine zt rfl (yS rfl gg (zc rfl)) ss ?_;refine zt rfl (yS rfl gg (zc rfl)) ss ?_;refine vS (tH (j:=4) (jb:=3) (m:=2) (B':=[.cells (GE.row c),.dead,yr h 1 3 (w.map GC.row),.cells [.str d.name,.sl 9 ((g.set f.1.toNat c).map GE.row),za d.wa],.dead]) (T':=[ak t+1,ak w,ak ((g.set f.1.toNat c).map GE.row)+1]) rfl (by exact(.ch (.ch (.ch (.cons (da.fD _ _ (by rw[oa];exact kO ((lm.trans rfl)))) (.s (.s (.s (.cons (da.fD _ _ (by rw[oa];exact kO ((lm.trans rfl)))) (.s4 (.s4 (.s4 (.s (.s (.s (.cons (da.fD _ _ (by rw[oa];exact kO ((lm.trans rfl)))) (eL.refl _))))))))))))))))) rfl (by exact(.s (.cons (da.fD _ _ (by rw[oa];exact kO ((lm.trans rfl)))) (eL.refl _)))) rfl rfl) (R.r ?_);refine zd a (λy20 G a=>zO (iR (y8 G rfl)) ?_);refine zO (qF (off:=0) (i:=2) (q:=ak h.zs+1) (z:=v3.1.toNat) (row:=GC.row) (y':=(GC.mk d.name (g.set f.1.toNat c) d.wa)) (us:=[.str d.name,.sl 9 ((g.set f.1.toNat c).map GE.row),za d.wa]) (B':=[.cells (GE.row c),.dead,yr h 1 3 ((w.set v3.1.toNat (GC.mk d.name (g.set f.1.toNat c) d.wa)).map GC.row),.cells [.str d.name,.sl 9 ((g.set f.1.toNat c).map GE.row),za d.wa],.dead]) (λ_=>by rw[GC.q8];rfl) rfl el.choose_spec.1 gg gg (zc rfl) rfl rfl rfl rfl rfl (wN G).2.2 (by decide) (by simp only[GC.q8];rfl) rfl) ?_;obtain rfl:=oi a;refine fr rfl (xX ((yc (j:=2) (m:=1) (B':=[.cells (GE.row c),.dead,.dead,.cells [.str d.name,.sl 9 ((g.set f.1.toNat c).map GE.row),za d.wa],.dead]) (T':=[ak t+1,ak ((w.set v3.1.toNat (GC.mk d.name (g.set f.1.toNat c) d.wa)).map GC.row)+1,ak ((g.set f.1.toNat c).map GE.row)+1]) rfl (by exact(.cons (.fD _ _ (by rw[oa];exact kO ((lm.trans rfl)))) (.refl _))) rfl rfl).wk) ?_);refine wm (g6.refl _) rfl ?_;exact⟨rfl,rfl⟩
  ·refine zd a (λb B a=>zO (iR (y8 B rfl)) ?_);refine zO (vH (off:=0) (i:=1) (q:=ak h.zs+0) (z:=v3.1.toNat) (row:=GC.row) (λ_=>by rw[GC.q8];rfl) rfl el.choose_spec.1 (by decide) gg rfl rfl (wN B).2.2 (by rw[GC.q8 _];exact(z7 (cs':=[.str b.name,zH b.leaves,za b.wa]) el.choose_spec.2 rfl rfl)) (zc rfl)) ?_;refine xP λhn22=>si gg a (λT a=>?_) (λT a=>?_)
   ·refine dr [] ?_;refine zd a (λm24 O a=>wl (qU rfl b8 gg (.inl rfl) (.some rfl) .none O) ?_);refine zd a (λv25 U a=>wC rfl rfl (sc rfl) (ih U) ss (R.r ?_));refine qs fN.out ?_;refine zd a (λy26 H a=>zO (iR (y8 H rfl)) ?_);refine zO (qF (off:=0) (i:=1) (q:=ak h.zs+0) (z:=v3.1.toNat) (row:=GC.row) (y':=(GC.mk b.name b.leaves v25)) (us:=[.str b.name,zH b.leaves,za v25]) (B':=[.cells (GE.row c),yr h 0 3 ((t.set v3.1.toNat (GC.mk b.name b.leaves v25)).map GC.row),.cells [.str b.name,zH b.leaves,za v25]]) (λ_=>by rw[GC.q8];rfl) rfl el.choose_spec.1 gg gg (zc rfl) rfl rfl rfl rfl rfl (wN H).2.2 (by decide) (by simp only[GC.q8];rfl) rfl) ?_;obtain rfl:=oi a;refine fr rfl (xX ((yc (j:=1) (m:=0) (B':=[.cells (GE.row c),.dead,.cells [.str b.name,zH b.leaves,za v25]]) (T':=[ak ((t.set v3.1.toNat (GC.mk b.name b.leaves v25)).map GC.row)+1]) rfl (by exact(.cons (.fD _ _ (by rw[oa];exact kO ((lm.trans rfl)))) (.refl _))) rfl rfl).wk) ?_);refine wm (g6.refl _) rfl ?_;exact⟨rfl,rfl⟩
   ·apply R.r;refine zd a (λk X a=>e7 (rN (zmu X)) ?_);refine zd a (λe hv28 a=>cp (vn (by exact(.cons (.row _ _ _ _ _ (by rw[zX];rfl) (by simp)) (.cons (.low _ rfl) (.cons (.low _ rfl) .nil)))) rfl (zti (λ_ _ v L M hv=>zth  hv) hv28) (λ_ _ h=>h.1)) (R.r ?_));refine cF a (λN a=>?_) (λN a=>?_)
    ·refine zO (bs (([c]:List GE).map GE.row)) ?_;refine zd a (λl V a=>e7 (nf zai (row:=GE.row) (λ_=>rfl) V (.inr rfl) (i:=3) (q:=1) (B':=[.cells (GE.row c),yr h 0 3 (t.map GC.row),.cells [.str b.name,zU h 3 1 9 (ak k),za b.wa],.dead,yr h 2 9 (l.map GE.row)]) (T':=[ak t,ak k+1,ak l]) rfl rfl rfl rfl rfl) ?_);refine zd a (λy31 I a=>zO (iR (y8 I rfl)) ?_);refine zt rfl (qF (off:=0) (i:=4) (q:=ak h.zs+2) (z:=e.1.toNat) (row:=GE.row) (y':=c) (us:=(GE.row c)) (B':=[.cells (GE.row c),yr h 0 3 (t.map GC.row),.cells [.str b.name,zU h 4 2 9 (ak l),za b.wa],.dead,yr h 2 9 ((l.set e.1.toNat c).map GE.row)]) (λ_=>rfl) rfl ao.choose_spec.1 gg gg (zc rfl) rfl rfl rfl rfl rfl (wN I).2.2 (by decide) rfl rfl) rfl ?_;refine yB (wt (wr (yF ?_)));refine zt rfl (yS rfl gg (zc rfl)) ss ?_;refine zt rfl (yS rfl gg (zc rfl)) ss ?_;refine vS (tH (j:=4) (jb:=2) (m:=2) (B':=[.cells (GE.row c),yr h 0 3 (t.map GC.row),.cells [.str b.name,.sl 9 ((l.set e.1.toNat c).map GE.row),za b.wa],.dead,.dead]) (T':=[ak t,ak k+1,ak ((l.set e.1.toNat c).map GE.row)+1]) rfl (by exact(.ch (.ch (.ch (.ch (.s (.cons (da.fD _ _ (by rw[oa];exact kO ((lm.trans rfl)))) (.s (.s (.cons (da.fD _ _ (by rw[oa];exact kO ((lm.trans rfl)))) (eL.refl _))))))))))) rfl (by exact(.s (.cons (da.fD _ _ (by rw[oa];exact kO ((lm.trans rfl)))) (eL.refl _)))) rfl rfl) (R.r ?_);refine zd a (λy32 y a=>zO (iR (y8 y rfl)) ?_);refine zO (qF (off:=0) (i:=1) (q:=ak h.zs+0) (z:=v3.1.toNat) (row:=GC.row) (y':=(GC.mk b.name (l.set e.1.toNat c) b.wa)) (us:=[.str b.name,.sl 9 ((l.set e.1.toNat c).map GE.row),za b.wa]) (B':=[.cells (GE.row c),yr h 0 3 ((t.set v3.1.toNat (GC.mk b.name (l.set e.1.toNat c) b.wa)).map GC.row),.cells [.str b.name,.sl 9 ((l.set e.1.toNat c).map GE.row),za b.wa],.dead,.dead]) (λ_=>by rw[GC.q8];rfl) rfl el.choose_spec.1 gg gg (zc rfl) rfl rfl rfl rfl rfl (wN y).2.2 (by decide) (by simp only[GC.q8];rfl) rfl) ?_;obtain rfl:=oi a;refine fr rfl (xX ((yc (j:=1) (m:=0) (B':=[.cells (GE.row c),.dead,.cells [.str b.name,.sl 9 ((l.set e.1.toNat c).map GE.row),za b.wa],.dead,.dead]) (T':=[ak ((t.set v3.1.toNat (GC.mk b.name (l.set e.1.toNat c) b.wa)).map GC.row)+1,ak k+1,ak ((l.set e.1.toNat c).map GE.row)+1]) rfl (by exact(.cons (.fD _ _ (by rw[oa];exact kO ((lm.trans rfl)))) (.refl _))) rfl rfl).wk) ?_);refine wm (g6.refl _) rfl ?_;exact⟨rfl,rfl⟩
    ·refine zd a (λy33 A a=>zO (iR (y8 A rfl)) ?_);refine zt rfl (qF (off:=0) (i:=3) (q:=ak h.zs+1) (z:=e.1.toNat) (row:=GE.row) (y':=c) (us:=(GE.row c)) (B':=[.cells (GE.row c),yr h 0 3 (t.map GC.row),.cells [.str b.name,zU h 3 1 9 (ak k),za b.wa],yr h 1 9 ((k.set e.1.toNat c).map GE.row)]) (λ_=>rfl) rfl ao.choose_spec.1 gg gg (zc rfl) rfl rfl rfl rfl rfl (wN A).2.2 (by decide) rfl rfl) rfl ?_;refine yB (wt (wr (yF ?_)));refine zt rfl (yS rfl gg (zc rfl)) ss ?_;refine zt rfl (yS rfl gg (zc rfl)) ss ?_;refine vS (tH (j:=3) (jb:=2) (m:=1) (B':=[.cells (GE.row c),yr h 0 3 (t.map GC.row),.cells [.str b.name,.sl 9 ((k.set e.1.toNat c).map GE.row),za b.wa],.dead]) (T':=[ak t,ak ((k.set e.1.toNat c).map GE.row)+1]) rfl (by exact(.ch (.ch (.ch (.cons (da.fD _ _ (by rw[oa];exact kO ((lm.trans rfl)))) (.s (.s (.s (.cons (da.fD _ _ (by rw[oa];exact kO ((lm.trans rfl)))) (.s4 (.s4 (.s4 (.s (.s (.s (.cons (da.fD _ _ (by rw[oa];exact kO ((lm.trans rfl)))) (eL.refl _))))))))))))))))) rfl (by exact(.s (.cons (da.fD _ _ (by rw[oa];exact kO ((lm.trans rfl)))) (eL.refl _)))) rfl rfl) (R.r ?_);refine zd a (λy34 F a=>zO (iR (y8 F rfl)) ?_);refine zO (qF (off:=0) (i:=1) (q:=ak h.zs+0) (z:=v3.1.toNat) (row:=GC.row) (y':=(GC.mk b.name (k.set e.1.toNat c) b.wa)) (us:=[.str b.name,.sl 9 ((k.set e.1.toNat c).map GE.row),za b.wa]) (B':=[.cells (GE.row c),yr h 0 3 ((t.set v3.1.toNat (GC.mk b.name (k.set e.1.toNat c) b.wa)).map GC.row),.cells [.str b.name,.sl 9 ((k.set e.1.toNat c).map GE.row),za b.wa],.dead]) (λ_=>by rw[GC.q8];rfl) rfl el.choose_spec.1 gg gg (zc rfl) rfl rfl rfl rfl rfl (wN F).2.2 (by decide) (by simp only[GC.q8];rfl) rfl) ?_;obtain rfl:=oi a;refine fr rfl (xX ((yc (j:=1) (m:=0) (B':=[.cells (GE.row c),.dead,.cells [.str b.name,.sl 9 ((k.set e.1.toNat c).map GE.row),za b.wa],.dead]) (T':=[ak ((t.set v3.1.toNat (GC.mk b.name (k.set e.1.toNat c) b.wa)).map GC.row)+1,ak ((k.set e.1.toNat c).map GE.row)+1]) rfl (by exact(.cons (.fD _ _ (by rw[oa];exact kO ((lm.trans rfl)))) (.refl _))) rfl rfl).wk) ?_);refine wm (g6.refl _) rfl ?_;exact⟨rfl,rfl⟩
theorem zwo{b:(List zp)}{c:GE}{res:(List GC)}(a:zfb t0 b c=aa res):Sp 152 [za t0,yD b,zD c] h (yb (za res) h):=by
 obtain⟨n,d⟩:=rE a;exact ztt n d
theorem zvp{c:GJ}{res:((List GC)×Int)}(d:ak h.zh=bl)(g:ak h.zs=tl)(a:fQ t0 c=aa res):Sp 97 [za t0,qf c] h (yb (.fl [.fo bl tl 3 (ak (res.1)),.int .i64 res.2]) (h.ext [.row tl 3 (res.1.map GC.row)] [ak (res.1)])):=by
 unfold fQ at a;subst d g;refine xb Tryz.func97 45 ?_;refine cB a (λ_=>zsi) λp a=>cG a (λ_=>zux) λq a=>cF a (λn a=>?_) (λn a=>?_)
 ·cases a;refine fr rfl (nP zdj rfl ?_);exact⟨rfl,rfl⟩
 ·refine dk [3,6,7,8] [(3,[(0,.cells (GJ.row c))]),(6,[(0,.cells (GJ.row c))])] ?_;refine yg rfl rfl (by rintro _ ⟨B2,T2,rfl,b⟩;exact yT rfl zyy gg (wH b) (zA rfl) (zc rfl)) ss (R.r ?_);refine yg rfl rfl (by rintro _ ⟨B2,T2,rfl,b⟩;exact yT rfl ty5 gg (wH b) (zA rfl) (zc rfl)) ss ?_;refine zd a (λv4 f a=>yV rfl rfl (λ_=>sc rfl) (by rintro _ ⟨B2,T2,rfl,b⟩;exact ztu f) ss ?_);refine cM a (λ_ e _=>ztv e) λv5 a=>qs fN.out ?_;refine qs fN.out ?_;refine cB a (λ_=>zwp) λo a=>cF a (λm a=>?_) (λm a=>?_)
  ·cases a;refine fr rfl (nP zdj rfl ?_);exact⟨rfl,rfl⟩
  ·refine zd a (λs l a=>cp (zwo l) ?_);refine zd a (λv9 k a=>e7 (rV (w:=zU h 2 0 3 (ak v9)) (zsY (by rw[xn];rfl) (by rw[rn];rfl) k) rfl) ?_);cases a;refine fr rfl (nP (pm (j:=2) (i:=0) rfl (by simp)) rfl ?_);exact⟨by simp only[oa];try rfl,by simp only[oa];try rfl⟩
theorem zws(k:∀o v (L:List q6) (M:List Nat),f1 o=aa v->Sp ff1 (af1++[qf o]++kf1) (h.ext L M) (yb (.bool v) (h.ext L M)))(a:vt ss0 f1=aa res):Sp 142 [sV ss0,.fn (.func ff1) af1 kf1] h (yb (.int .i64 res) h):=by
 unfold vt at a;refine zy Tryz.func142 rfl kr (sL 19 rfl) (λb w=>?_);simp only[zB,AV.low,tx,lq,kA]at b;have g:∀n m,ak h.zh<=n->ak h.zs<=m->zB n m af1=true:=λn m e c=>zT e c _ (by simp[b]);have d:∀n m,ak h.zh<=n->ak h.zs<=m->zB n m kf1=true:=λn m e c=>zT e c _ (by simp[b]);apply R.r;refine xP λt=>qg (λ(q:Nat)(p:Unit)=>zo 2 5 (zo 9 10 [(8,.int .i64 (q:Int))])) (λp=>h.ext [] []) a (λq p s a=>cL a (λz y u f a l=>?_) (λa=>?_))
 ·refine ix (zu f) (R.r ?_);refine zd a (λx j a=>yf rfl (cg rfl) (k _ _ _ _ j) ss (R.r ?_));refine cF a (λi a=>?_) (λi a=>?_)
  ·cases a;replace a:=l;apply R.r;exact Z
  ·exact ZL
 ·exact Z
theorem zyO{res:Bool}(e:∀c v (L:List q6) (M:List Nat),f1 c=aa v->Sp ff1 (af1++[qf c]++kf1) (h.ext L M) (yb (.bool v) (h.ext L M)))(a:yZ ss0 f1=aa res):Sp 92 [sV ss0,.fn (.func ff1) af1 kf1] h (yb (.bool res) h):=by
 unfold yZ at a;refine zy Tryz.func92 rfl kr (sL 9 rfl) (λb k=>?_);simp only[zB,AV.low,tx,lq,kA]at b;have d:∀n m,ak h.zh<=n->ak h.zs<=m->zB n m af1=true:=λn m i f=>zT i f _ (by simp[b]);have g:∀n m,ak h.zh<=n->ak h.zs<=m->zB n m kf1=true:=λn m i f=>zT i f _ (by simp[b]);apply R.r;refine cB a (λ_=>zws (λc v L M j=>by rw[x5];exact e c v _ _ j)) λl a=>?_;exact Z
theorem zyN{b:GJ}{res:Bool}(a:rg b=aa res):Sp 93 [qf b] h (yb (.bool res) h):=by
 unfold rg at a;refine xb Tryz.func93 6 ?_;refine cB a (λ_=>zux) λc a=>?_;exact Z
def zcD:Go.Shelf.Ren :=
  { f:=λx=>match x with
      |54=>244
      |61=>326
      |64=>169
      |65=>287
      |69=>307
      |78=>227
      |79=>228
      |80=>320
      |81=>321
      |82=>322
      |83=>323
      |84=>324
      |85=>325
      |86=>327
      |87=>328
      |89=>279
      |90=>280
      |93=>348
      |94=>349
      |95=>350
      |97=>361
      |n=>n
    t:=λx=>match x with
      |0=>0
      |3=>3
      |4=>4
      |5=>5
      |9=>9
      |25=>66
      |26=>9
      |44=>255
      |51=>222
      |60=>279
      |61=>280
      |67=>30
      |69=>22
      |75=>323
      |79=>327
      |83=>353
      |84=>354
      |n=>n
    g:=λn=>n }
theorem ni:Go.Proofs.SlLaysN.n54 Tryz.prog zcD where
  mixed:=mixed
  f54:=⟨Tryz.f244.name,by kernel_rfl,Tryz.func244.trans (by kernel_rfl)⟩
  f61:=⟨Tryz.f326.name,by kernel_rfl,Tryz.func326.trans (by kernel_rfl)⟩
  f64:=Tryz.func169.trans (by kernel_rfl)
  f65:=⟨Tryz.f287.name,by kernel_rfl,Tryz.func287.trans (by kernel_rfl)⟩
  f69:=⟨Tryz.f307.name,by kernel_rfl,Tryz.func307.trans (by kernel_rfl)⟩
  f78:=Tryz.func227.trans (by kernel_rfl)
  f79:=Tryz.func228.trans (by kernel_rfl)
  f80:=⟨Tryz.f320.name,by kernel_rfl,Tryz.func320.trans (by kernel_rfl)⟩
  f81:=⟨Tryz.f321.name,by kernel_rfl,Tryz.func321.trans (by kernel_rfl)⟩
  f82:=⟨Tryz.f322.name,by kernel_rfl,Tryz.func322.trans (by kernel_rfl)⟩
  f83:=⟨Tryz.f323.name,by kernel_rfl,Tryz.func323.trans (by kernel_rfl)⟩
  f84:=⟨Tryz.f324.name,by kernel_rfl,Tryz.func324.trans (by kernel_rfl)⟩
  f85:=⟨Tryz.f325.name,by kernel_rfl,Tryz.func325.trans (by kernel_rfl)⟩
  f86:=⟨Tryz.f327.name,by kernel_rfl,Tryz.func327.trans (by kernel_rfl)⟩
  f87:=⟨Tryz.f328.name,by kernel_rfl,Tryz.func328.trans (by kernel_rfl)⟩
  f89:=Tryz.func279.trans (by kernel_rfl)
  f90:=Tryz.func280.trans (by kernel_rfl)
  f93:=⟨Tryz.f348.name,by kernel_rfl,Tryz.func348.trans (by kernel_rfl)⟩
  f94:=⟨Tryz.f349.name,by kernel_rfl,Tryz.func349.trans (by kernel_rfl)⟩
  f95:=⟨Tryz.f350.name,by kernel_rfl,Tryz.func350.trans (by kernel_rfl)⟩
  f97:=⟨Tryz.f361.name,by kernel_rfl,Tryz.func361.trans (by kernel_rfl)⟩
  t0:=Tryz.underlying0
  a0:=Tryz.isAgg0
  z0:=Tryz.sizeOf0
  v0:=Tryz.zeroValue0
  t3:=Tryz.underlying3
  a3:=Tryz.isAgg3
  z3:=Tryz.sizeOf3
  v3:=Tryz.zeroValue3
  t4:=Tryz.underlying4
  a4:=Tryz.isAgg4
  z4:=Tryz.sizeOf4
  v4:=Tryz.zeroValue4
  t5:=Tryz.underlying5
  a5:=Tryz.isAgg5
  z5:=Tryz.sizeOf5
  v5:=Tryz.zeroValue5
  t9:=Tryz.underlying9
  a9:=Tryz.isAgg9
  z9:=Tryz.sizeOf9
  v9:=Tryz.zeroValue9
  t25:=Tryz.underlying66
  a25:=Tryz.isAgg66
  z25:=Tryz.sizeOf66
  v25:=Tryz.zeroValue66
  t26:=Tryz.underlying9
  a26:=Tryz.isAgg9
  z26:=Tryz.sizeOf9
  v26:=Tryz.zeroValue9
  t44:=Tryz.underlying255
  a44:=Tryz.isAgg255
  z44:=Tryz.sizeOf255
  v44:=Tryz.zeroValue255
  t51:=Tryz.underlying222
  a51:=Tryz.isAgg222
  z51:=Tryz.sizeOf222
  v51:=Tryz.zeroValue222
  t60:=Tryz.underlying279
  a60:=Tryz.isAgg279
  z60:=Tryz.sizeOf279
  v60:=Tryz.zeroValue279
  t61:=Tryz.underlying280
  a61:=Tryz.isAgg280
  z61:=Tryz.sizeOf280
  v61:=Tryz.zeroValue280
  t67:=Tryz.underlying30
  a67:=Tryz.isAgg30
  z67:=Tryz.sizeOf30
  v67:=Tryz.zeroValue30
  t69:=Tryz.underlying22
  a69:=Tryz.isAgg22
  z69:=Tryz.sizeOf22
  v69:=Tryz.zeroValue22
  t75:=Tryz.underlying323
  a75:=Tryz.isAgg323
  z75:=Tryz.sizeOf323
  v75:=Tryz.zeroValue323
  t79:=Tryz.underlying327
  a79:=Tryz.isAgg327
  z79:=Tryz.sizeOf327
  v79:=Tryz.zeroValue327
  t83:=Tryz.underlying353
  a83:=Tryz.isAgg353
  z83:=Tryz.sizeOf353
  v83:=Tryz.zeroValue353
  t84:=Tryz.underlying354
  a84:=Tryz.isAgg354
  z84:=Tryz.sizeOf354
  v84:=Tryz.zeroValue354
theorem zvZ{c:(List zp)}{res:(List zp)}(a:nc t0 c=aa res):Sp 243 [za t0,yD c] h (yb (yD res) h):=by
 unfold nc at a;refine xb Tryz.func243 41 ?_;refine xP λp=>qg (λ(l:Nat)(k:(List GC))=>zo 1 3 (zo 5 6 (zo 14 27 [(0,za k),(13,.int .i64 (l:Int))]))) (λk=>h.ext [] []) a (λl k n a=>cL a (λC B x g a y=>?_) (λa=>?_))
 ·refine ix (zu g) (R.r ?_);refine cB a (λ_=>zg1) λz a=>?_;exact ZL
 ·refine xP λq=>qg (h0:=wk.trans ((q9 (gx 4) rfl rfl (sx 4) rfl rfl).wk) (wk.le ej.o)) (λ(n2:Nat)(s2:(List zp))=>zo 0 4 (zo 5 21 (zo 29 12 [(4,zU h 0 0 1 (ak s2)),(28,.int .i64 (n2:Int))]))) (λs2=>h.ext [yr h 0 1 (s2.map yl)] [ak s2]) a (λn2 s2 u a=>cL a (λw A t f a v=>?_) (λa=>?_))
  ·refine zO (yu rfl wd gg gg oF (zu f) (GC.q8 _)) ?_;refine zO (bs (([w.name]:List zp).map yl)) ?_;refine zJ a (λe a=>zO (eR e) ?_);exact ZL
  ·refine zd a (λd b a=>zaQ rfl (sc rfl) (zd6 ni b (i:=0) (B':=[yr h 0 1 (d.map yl)]) rfl rfl) ss ?_);refine yB ?_;refine zmd ((yc (j:=0) (m:=0) (B':=[.dead]) (T':=[ak (d.map yl)+1]) rfl (by exact(.s4 (.cons (da.fD _ _ (by rw[oa];exact kO (nh b))) (.ch (.ch (.s (.cons (da.fD _ _ (by rw[oa];exact kO (nh b))) (eL.refl _)))))))) rfl rfl).wk) ?_;apply R.r;exact Z
theorem zsV{ss0:(List zp)}{res:(List zp)}(B:ak h.zh=bl)(C:ak h.zs=tl)(a:wo ss0=aa res):Sp 245 [.fo bl tl 1 (ak ss0)] (h.ext [.row tl 1 (ss0.map yl)] [ak ss0]) (zpN h bl tl 1 (ak res) (res.map yl)):=by
 unfold wo at a;subst B C;refine df Tryz.func245 61 ?_;refine xP λI=>cF a (λE a=>?_) (λE a=>?_)
 ·cases a;refine fr rfl (nO (row:=yl) ?_);exact⟨rfl,_,rfl⟩
 ·refine xl (λ(m:Int)=>zo 1 2 (zo 4 57 [(3,.int .i64 m)])) (λm=>h.ext [yr h 0 1 (ss0.map yl)] [ak ss0]) a (λ_=>UE) (wk.le ej.o) ?_;intro Q m P a y;apply R.r;refine xP λF=>cF a (λA a=>?_) (λA a=>?_)
  ·refine dr [] ?_;refine zd a (λH l a=>wl (iR (y8 l rfl)) ?_);refine wl (vH (off:=0) (i:=0) (q:=ak h.zs+0) (z:=m.toNat) (row:=yl) (λ_=>rfl) rfl cd (by decide) gg rfl rfl (wN l).2.2 (zA rfl) (zc rfl)) ?_;refine zd a (λJ k a=>wl (iR (y8 k rfl)) ?_);refine wl (vH (off:=0) (i:=0) (q:=ak h.zs+0) (z:=(ai .i64 (m-(1:Int))).toNat) (row:=yl) (λ_=>rfl) rfl cd (by decide) gg rfl rfl (wN k).2.2 (zA rfl) (zc rfl)) ?_;refine cF a (λu a=>?_) (λu a=>?_)
   ·refine zJ a (λx a=>mX (zhx rfl b8 gg gg x) ?_);refine xl (λ(s2:Int×Int×(List zp))=>zo 1 2 (zo 6 55 [(3,.int .i64 s2.1),(5,.int .i64 s2.2.1)])) (λs2=>h.ext [yr h 0 1 (s2.2.2.map yl)] [ak ss0]) a (λ_=>UE) (wk.le ej.o) ?_;intro n2 s2 O a D;refine zJ a (λb a=>R.r ?_);refine ln λG=>R.r ?_;refine cF a (λs a=>?_) (λs a=>?_)
    ·refine dr [] ?_;refine zd a (λK c a=>?_);replace c:=zsl c;refine wl (zeK rfl b8 gg gg ⟨c.1,by have:=c.2.1;have:=b;omega⟩) ?_;refine wl (vH (off:=0) (i:=0) (q:=ak h.zs+0) (z:=(m.toNat+s2.2.1.toNat)) (row:=yl) (λ_=>rfl) rfl cd (by decide) gg rfl b c.2.2 (zA rfl) (zc rfl)) ?_;refine zd a (λN f a=>?_);replace f:=zsl f;refine wl (zeK rfl b8 gg gg ⟨f.1,by have:=f.2.1;have:=b;omega⟩) ?_;refine wl (vH (off:=0) (i:=0) (q:=ak h.zs+0) (z:=(m.toNat+(ai .i64 (s2.2.1-(1:Int))).toNat)) (row:=yl) (λ_=>rfl) rfl cd (by decide) gg rfl b f.2.2 (zA rfl) (zc rfl)) ?_;refine cF a (λt a=>?_) (λt a=>?_)
     ·refine zd a (λp e a=>?_);replace e:=zsl e;refine zO (zeK rfl b8 gg gg ⟨e.1,by have:=e.2.1;have:=b;omega⟩) ?_;refine zO (vH (off:=0) (i:=0) (q:=ak h.zs+0) (z:=(m.toNat+s2.2.1.toNat)) (row:=yl) (λ_=>rfl) rfl cd (by decide) gg rfl b e.2.2 (zA rfl) (zc rfl)) ?_;refine zd a (λM n a=>zO (iR (y8 n b)) ?_);refine zO (qF (off:=0) (i:=0) (q:=ak h.zs+0) (z:=s2.1.toNat) (row:=yl) (y':=p) (us:=[.str p]) (B':=[yr h 0 1 ((s2.2.2.set s2.1.toNat p).map yl)]) (λ_=>rfl) rfl cd gg gg (zc rfl) rfl rfl rfl rfl b (wN n).2.2 (by decide) rfl rfl) ?_;exact ZL
     ·exact ZL
    ·cases a;replace a:=D;apply R.r;refine zJ a (λg a=>mX (zhx rfl b8 gg gg g) ?_);refine mX (znq (i:=0) (q:=ak h.zs+0) (L:=s2.2.2) (row:=yl) (d:=([]:zp)) (B':=[yr h 0 1 ((s2.2.2.take s2.1.toNat++List.replicate ((ak ss0)-s2.1.toNat) ([]:zp)).map yl)]) (λ_=>rfl) rfl rfl rfl rfl b8 ze9 rfl gg rfl b (iQ.2 g.2) rfl) ?_;refine zd a (λv w a=>mX (zeL (i:=0) (j:=0) (L:=(s2.2.2.take s2.1.toNat++List.replicate ((ak ss0)-s2.1.toNat) ([]:zp))) (row:=yl) (B':=[.dead,yr h 1 1 (v.map yl)]) (T':=[ak ss0+1,ak v]) rfl b8 gg gg rfl (zi3 b (iQ.2 g.2)) w rfl rfl rfl rfl) ?_);cases a;replace a:=y;apply R.r;exact Z
   ·exact ZL
  ·cases a;replace a:=y;apply R.r;cases a;refine fr rfl (nO (row:=yl) ?_);exact⟨rfl,_,rfl⟩
theorem ztm{l0:(List (List GC))}{res:(List zp)}(a:pH l0=aa res):Sp 185 [.sl 1 (l0.map (λl=>[za l]))] h (yb (yD res) h):=by
 unfold pH at a;refine xb Tryz.func185 20 ?_;refine xP λt=>qg (h0:=wk.trans ((q9 (gx 2) rfl rfl (sx 2) rfl rfl).wk) (wk.le ej.o)) (λ(q:Nat)(e:(List zp))=>zo 0 2 (zo 3 2 (zo 8 12 [(2,zU h 0 0 1 (ak e)),(7,.int .i64 (q:Int))]))) (λe=>h.ext [yr h 0 1 (e.map yl)] [ak e]) a (λq e s a=>cL a (λx w u n a v=>?_) (λa=>?_))
 ·refine ix (zu n) (R.r ?_);refine zd a (λy k a=>cp ((zvZ k).le (.eq (.cons (g6.gW _ _ _) fc.nil))) ?_);refine zJ a (λp a=>zO (eR p) ?_);exact ZL
 ·refine zd a (λb c a=>e7 (zd6 ni c (i:=0) (B':=[yr h 0 1 (b.map yl)]) rfl rfl) ?_);refine vS (zaF (j:=0) (i:=0) (n2:=ak b) (B':=[.dead,yr h 1 1 (b.map yl)]) (T':=[ak b+1,ak b]) (gx 18) rfl (by rw[oa];exact nh c) (kO (nh c)) rfl rfl (sx 18) rfl rfl) ?_;refine zd a (λg f a=>zci (B1:=[.dead]) (T1:=[ak b+1]) (j:=1) (i:=1) (B':=[.dead,.dead,yr h 2 1 (g.map yl)]) rfl (ye rfl rfl rfl f9.o fZ.o) (zsV (by simp[AH.ext]) (by simp[AH.ext]) f) rfl rfl ss rfl (λd=>?_));apply R.r;obtain rfl:=oi a;refine fr rfl (xX ((yc (j:=2) (m:=2) (B':=[.dead,.dead,.dead]) (T':=[ak b+1,d,ak (g.map yl)+1]) rfl (by exact(.cons (.fD _ _ (by simp)) (.refl _))) rfl rfl).wk) ?_);refine wm (g6.refl _) rfl ?_;exact⟨rfl,rfl⟩
theorem zre{eY:Int}{res:(GE×Bool)}(a:wh nn0 eY=aa res):Sp 248 [.agg [.str nn0.name,zH nn0.leaves,za nn0.wa],.int .u8 eY] h (yb (.fl [zD res.1,.bool res.2]) h):=by
 unfold wh at a;refine xb Tryz.func248 15 ?_;refine zO (xh (es:=([nn0]:List GC).map GC.row) rfl wd o9 rfl rfl cQ.o cO.o rfl rfl (by simp only[m4,l9,GC.q8];rfl)) ?_;refine zO (bs (([nn0.name]:List zp).map yl)) ?_;refine zd a (λc b a=>cp ((ztv b).le (.cons (g6.gW _ _ _) (.cons (g6.gW _ _ _) (.eq fc.nil)))) (R.r ?_));exact Z
theorem zvO{res:GE}(a:uH l0 a1 b2=aa res):Sp 288 [zD l0,zD a1,zD b2] h (yb (zD res) h):=by
 unfold uH at a;refine xb Tryz.func288 17 ?_;exact Z
theorem zvN{b:GE}{res:GE}(a:qO b a1 b2=aa res):Sp 289 [zD b,zD a1,zD b2] h (yb (zD res) h):=by
 unfold qO at a;refine xb Tryz.func289 29 ?_;refine cG a (λ_=>zk2) λd a=>cF a (λc a=>?_) (λc a=>?_)
 ·exact Z
 ·exact Z
theorem zsR{b:Int}{res:(List GA)}(c:ak h.zh=bl)(k:ak h.zs=tl)(a:uQ ([]:List GA) b=aa res):Sp 351 [.gW none 3 [],.int .i64 b] h (yb (.fo bl tl 3 (ak res)) (h.ext [.row tl 3 (res.map GA.row)] [ak res])):=by
 unfold uQ at a;subst c k;refine xb Tryz.func351 27 ?_;refine cF a (λl a=>?_) (λl a=>?_)
 ·refine mX (zhM rfl cd rfl rfl (zc rfl)) ?_;cases a
 ·refine mX (zpE rfl rfl rfl rfl o7 gg (zc rfl)) ?_;refine ln λo=>R.r ?_;refine cF a (λg a=>?_) (λg a=>?_)
  ·refine mX (zpE rfl rfl rfl rfl o7 gg (zc rfl)) ?_;refine mX (zqo rfl o7 gg gg) ?_;refine zJ a (λf a=>mX (znP (row:=GA.row) (d:=(GA.mk (GH.mk (0:Int) (0:Int)) (0:Int))) (B':=[yr h 0 3 ((List.replicate (ai .i64 (b-(ai .i64 ((0:Int)-((0:Nat):Int))))).toNat (GA.mk (GH.mk (0:Int) (0:Int)) (0:Int))).map GA.row)]) (T':=[(ai .i64 (b-(ai .i64 ((0:Int)-((0:Nat):Int))))).toNat]) rfl rfl rfl rfl o7 ap zsg rfl rfl gg (zc rfl) gg f rfl rfl rfl rfl) ?_);refine ln λn=>zd a (λm e a=>mX (zeL (i:=0) (j:=0) (L:=(List.replicate (ai .i64 (b-(ai .i64 ((0:Int)-((0:Nat):Int))))).toNat (GA.mk (GH.mk (0:Int) (0:Int)) (0:Int)))) (row:=GA.row) (B':=[.dead,yr h 1 3 (m.map GA.row)]) (T':=[((ai .i64 (b-(ai .i64 ((0:Int)-((0:Nat):Int))))).toNat)+1,ak m]) rfl o7 gg gg rfl List.length_replicate e rfl rfl rfl rfl) ?_);cases a;refine fr rfl (sG (pm (j:=1) (i:=1) rfl (by simp)) ?_);exact⟨by simp only[oa];try rfl,by simp only[oa];try rfl⟩
  ·cases a;refine fr rfl (sG zdj ?_);exact⟨rfl,rfl⟩
end Go.Vv
