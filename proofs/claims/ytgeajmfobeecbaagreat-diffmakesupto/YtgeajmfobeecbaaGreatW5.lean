/- Each function that the law reaches computes what its reading says; printed by a program. -/
import Derived.Test.YtgeajmfobeecbaaGreatW4
set_option linter.all false
namespace Go.Vv
open Go Go.Proofs
set_option maxRecDepth 100000
set_option synthInstance.maxSize 100000
set_option synthInstance.maxHeartbeats 1000000
set_option maxHeartbeats 1000000
variable {kind2:Int} {res:Bool} {h:AH} {x0:GE} {t0:(List GA)} {i0:Nat} {s0:(List GE)} {f1:(GE->Option Bool)} {ff1:FuncId} {af1 kf1:List AV} {n0:GA}
theorem ok37 {a:Bool} {f:GE}  (b:qx a f kind2=some res):Sp 37 [.bool a,.agg (GE.row f),.int .u8 kind2] h (yy (.bool res) h):=by
 unfold qx at b;refine zb Tryz.func37 rfl (by kernel_rfl) (yV 19 rfl) (R.r ?_);refine zf gg b (λe b=>?_) (λe b=>?_)
 ·apply R.r;refine zN b (λi c b=>zA rfl sc (λg=>ok67 (c g)) ss (R.r ?_));cases b;exact fz rfl rfl
 ·apply R.r;refine zc rfl (yQ (cs':=lit0x) rfl su47 ze47 pl47 zq .nil rfl rfl) ss ?_;refine zi b (λv3 d b=>cp ((ok31 d).le (.eq (.cons (leV.agg (.eq (.eq (.eq (.eq (.eq (.eq (.eq (.cons (leV.osl _ _ _) (.cons (leV.osl _ _ _) leL.nil))))))))) rfl) leL.nil))) (R.r ?_));cases b;exact fz rfl rfl
theorem ok10 {q:(List GC)}  (a:wU q=some res):Sp 10 [.sl 22 (q.map GC.row)] h (yy (.bool res) h):=by
 unfold wU at a;refine zb Tryz.func10 rfl (by kernel_rfl) (yV 75 rfl) (R.r ?_);refine zB (λ(t:Nat) (s:Unit)=>zo 1 2 (zo 4 71 [(3,.int .i64 (t:Int))])) (λs=>h.ext [] []) a (λ_ _=>by simp only [zo,x5,ue,uf];try rfl) (wk.le LEL.o) ?_;intro t s u a;apply R.r;refine ln λb=>?_;replace b:=zZ b;apply R.r;refine zL gg a (λB A p n a d=>?_) (λa=>?_)
 ·apply R.r;refine ix (zF n) (R.r ?_);refine zi a (λw j a=>cp (ok36 j) (R.r ?_));refine zN a (λx g a=>zA rfl sc (λc=>ok37 (g c)) ss (R.r ?_));refine zN a (λy l a=>zA rfl sc (λc=>ok37 (l c)) ss (R.r ?_));refine zN a (λz f a=>zA rfl sc (λc=>ok38 (f c)) ss (R.r ?_));refine zf gg a (λe a=>?_) (λe a=>?_)
  ·apply R.r;cases a;replace a:=d;apply R.r;cases a;exact fz rfl rfl
  ·apply R.r;refine yE (by kernel_rfl) (R.r ?_);refine yj a (λm a=>dgix m (R.r ?_));refine zN a (λv k a=>yU rfl rfl sc (λc=>ok39 (k c)) ss (R.r ?_));refine zf gg a (λi a=>?_) (λi a=>?_)
   ·apply R.r;cases a;replace a:=d;apply R.r;cases a;exact fz rfl rfl
   ·apply R.r;cases a;exact ⟨(),p,d,wk.trans (wk.le (by exact (.eq (.drop (.drop (.cons (leV.of_eq (yF (by omega) (by omega))) (.d16 (.d16 (.d16 (.d16 (.d4 (.drop (.drop (.drop leL.nil)))))))))))))) (z8 (by simp [zG,AV.low]) rfl rfl (by simp [Blk.low,zG,AV.low]))⟩
 ·apply R.r;cases a;exact fz rfl rfl
theorem ok40 {p:(List GC)} {t:(List GC)} {k:(GC->GC->Option Bool)} {g:FuncId} {f e:List AV} (u:∀x0 C v (L:List Blk) (M:List Nat),k x0 C=some v->Sp g (f++[.agg (GC.row x0),.agg (GC.row C)]++e) (h.ext L M) (yy (.bool v) (h.ext L M))) (a:yY p t k=some res):Sp 40 [.sl 22 (p.map GC.row),.sl 22 (t.map GC.row),.fn (.func g) f e] h (yy (.bool res) h):=by
 unfold yY at a;refine zY Tryz.func40 rfl (by kernel_rfl) (yV 32 rfl) (λd J=>?_);simp only [zG,AV.low,ud,u2,t7] at d;have c:∀n m,h.blks.length<=n->h.toks.length<=m->zG n m f=true:=λn m z y=>ym z y _ (by simp [d]);have b:∀n m,h.blks.length<=n->h.toks.length<=m->zG n m e=true:=λn m z y=>ym z y _ (by simp [d]);apply R.r;refine ln λj=>?_;replace j:=zZ j;apply R.r;refine ln λq=>?_;replace q:=zZ q;apply R.r;refine zf gg a (λD a=>?_) (λD a=>?_)
 ·apply R.r;cases a;exact fz rfl rfl
 ·apply R.r;refine ln λi=>?_;replace i:=zZ i;apply R.r;refine zB (λ(F:Nat) (E:Unit)=>zo 3 12 (zo 18 14 [(0,.any),(17,.int .i64 (F:Int))])) (λE=>h.ext [] []) a (λ_ _=>by simp only [zo,x5,ue,uf];try rfl) (wk.le LEL.o) ?_;intro F E G a;apply R.r;refine zL gg a (λC K B A a x=>?_) (λa=>?_)
  ·apply R.r;refine ix (zF A) (R.r ?_);refine zi a (λI w a=>ix w (R.r ?_));refine zi a (λH s a=>yb rfl (scC rfl) (u _ _ _ _ _ s) ss (R.r ?_));refine zf gg a (λl a=>?_) (λl a=>?_)
   ·apply R.r;cases a;replace a:=x;apply R.r;cases a;exact fz rfl rfl
   ·apply R.r;cases a;exact ⟨(),B,x,wk.trans (wk.le (by exact (.drop (.eq (.eq (.d4 (.d4 (.d4 (.eq (.eq (.cons (leV.of_eq (yF (by omega) (by omega))) (.d4 (.d4 (.d4 (.drop (.drop leL.nil)))))))))))))))) (z8 (by simp [zG,AV.low,c,b]) rfl rfl (by simp [Blk.low,zG,AV.low,c,b]))⟩
  ·apply R.r;cases a;exact fz rfl rfl
theorem ok42 {f:(List zd)} {i:(List zd)}  (a:wN f i=some res):Sp 42 [.sl 1 (f.map zC),.sl 1 (i.map zC)] h (yy (.bool res) h):=by
 unfold wN at a;refine zb Tryz.func42 rfl (by kernel_rfl) (yV 26 rfl) (R.r ?_);refine ln λd=>?_;replace d:=zZ d;apply R.r;refine ln λg=>?_;replace g:=zZ g;apply R.r;refine zf gg a (λm a=>?_) (λm a=>?_)
 ·apply R.r;cases a;exact fz rfl rfl
 ·apply R.r;refine ln λb=>?_;replace b:=zZ b;apply R.r;refine zB (λ(p:Nat) (n:Unit)=>zo 2 10 (zo 14 12 [(13,.int .i64 (p:Int))])) (λn=>h.ext [] []) a (λ_ _=>by simp only [zo,x5,ue,uf];try rfl) (wk.le LEL.o) ?_;intro p n q a;apply R.r;refine zL gg a (λu t l k a j=>?_) (λa=>?_)
  ·apply R.r;refine yE (by kernel_rfl) (R.r ?_);refine dix (zF k) (R.r ?_);refine zi a (λs c a=>dix c (R.r ?_));refine zf gg a (λe a=>?_) (λe a=>?_)
   ·apply R.r;cases a;replace a:=j;apply R.r;cases a;exact fz rfl rfl
   ·apply R.r;cases a;exact ⟨(),l,j,wk.le (by exact (.eq (.eq (.d4 (.d4 (.drop (.drop (.eq (.cons (leV.of_eq (yF (by omega) (by omega))) (.d4 (.d4 (.d4 leL.nil))))))))))))⟩
  ·apply R.r;cases a;exact fz rfl rfl
theorem ok41 {x0:GC} {f:GC}  (b:diffSameC1 x0 f=some res):Sp 41 [.agg (GC.row x0),.agg (GC.row f)] h (yy (.bool res) h):=by
 unfold diffSameC1 at b;refine zb Tryz.func41 rfl (by kernel_rfl) (yV 45 rfl) (R.r ?_);refine zi b (λi e b=>cp (ok42 e) (R.r ?_));refine z7 rfl (λa=>yK rfl (zI gg a) (zI gg a) (bin_boolE ty4)) ss (R.r ?_);refine z7 rfl (λa=>yK rfl (zI gg a) (zI gg a) (bin_boolE ty4)) ss (R.r ?_);refine zN b (λg c b=>zA rfl sc (λa=>ok32 (c a)) ss (R.r ?_));refine zN b (λv3 d b=>zA rfl sc (λa=>ok32 (d a)) ss (R.r ?_));cases b;exact fz rfl rfl
theorem ok11 {a0:(List GC)} {c:(List GC)}  (a:diffSame a0 c=some res):Sp 11 [.sl 22 (a0.map GC.row),.sl 22 (c.map GC.row)] h (yy (.bool res) h):=by
 unfold diffSame at a;refine zb Tryz.func11 rfl (by kernel_rfl) (yV 8 rfl) (R.r ?_);refine zi a (λe b a=>cp (ok40 (λ_ _ v L M d=>ok41  d) b) (R.r ?_));cases a;exact fz rfl rfl
theorem ok69N (n:Nat):∀{t0:(List GA)} {d:(List zd)} {t:((List zd)->Option Bool)} {k:FuncId} {f g:List AV} {res:(List GA)} {h:AH} (l:∀x0 v (L:List Blk) (M:List Nat),t x0=some v->Sp k (f++[.sl 1 (x0.map zC)]++g) (h.ext L M) (yy (.bool v) (h.ext L M))),wZ n t0 d t=some res->Sp 69 [.sl 3 (t0.map GA.row),.sl 1 (d.map zC),.fn (.func k) f g] h (yy (.sl 3 (res.map GA.row)) h):=by
 induction n with
 | zero=>intro t0 d t k f g res h l c;simp [wZ] at c
 | succ n ih =>
  intro t0 d t k f g res h l c;unfold wZ at c;refine zY Tryz.func69 rfl (by kernel_rfl) (yV 65 rfl) (λp hC=>?_);simp only [zG,AV.low,ud,u2,t7] at p;have a:∀n m,h.blks.length<=n->h.toks.length<=m->zG n m f=true:=λn m S Q=>ym S Q _ (by simp [p]);have b:∀n m,h.blks.length<=n->h.toks.length<=m->zG n m g=true:=λn m S Q=>ym S Q _ (by simp [p]);apply R.r;refine ln λA=>?_;replace A:=zZ A;apply R.r;refine zB (λ(U:Nat) (s:(List GA))=>zo 3 3 (zo 7 6 (zo 16 49 [(0,.any),(6,osA h 0 3 (s.map GA.row)),(15,.int .i64 (U:Int))]))) (λs=>h.ext [] [s.length]) c (λ_ _=>by simp only [zo,x5,ue,uf];try rfl) (wk.trans (wk_tok gt6 rfl st6 rfl) (wk.le (by exact (.drop (.eq (.eq (.drop (.drop (.drop (.cons (leV.of_eq rfl) (.d4 (.drop (.drop (.eq (.eq (.cons (leV.of_eq rfl) (.d16 (.d16 (.d16 (.drop leL.nil)))))))))))))))))))) ?_;intro U s W c;apply R.r;refine zL gg c (λe o1 N T c O=>?_) (λc=>?_)
  ·apply R.r;refine zc rfl (yh rfl el23 gg gg isl (zF T) (GA.row_eq _)) ss (R.r ?_);refine yE (by kernel_rfl) (R.r ?_);refine zi c (λo E c=>wd rfl FOk.nil (by rfl) rfl (sc rfl) (vj (T':=[s.length,o.length]) (ok91 E) (m:=1) rfl rfl) ss (R.r ?_));refine zx rfl rfl (zw (es:=([e.name]:List zd).map zC) rfl el37 ze9 rfl rfl (zk gg zq) (.cons (za rfl) .nil) rfl rfl rfl) ss ?_;refine yj c (λK c=>xD rfl FOk.nil (by rfl) rfl (yH (j:=1) (T':=[s.length,((o++([e.name]:List zd))).length]) rfl rfl rfl rfl el37 el37 gg gg (za rfl) (za rfl) yq K rfl rfl) ss (R.r ?_));refine yl [1,3,6] [(1,[(0,.cells [.str e.name,.sl 9 (e.leaves.map GE.row),.sl 3 (e.subs.map GA.row)])]),(3,[(0,.cells [.str e.name,.sl 9 (e.leaves.map GE.row),.sl 3 (e.subs.map GA.row)])])] ⟨⟨rfl,trivial⟩,⟨rfl,trivial⟩,trivial⟩ mixed (by kernel_rfl) (R.r ?_);refine w8 rfl rfl (by rintro _ ⟨B2,T2,rfl,q⟩;exact yG rfl ty9 gg (keeps1 q) (yd rfl) (za rfl)) ss (R.r ?_);refine w8 rfl rfl (by rintro _ ⟨B2,T2,rfl,q⟩;exact yG rfl ty23 gg (keeps1 q) (yd rfl) (za rfl)) ss (R.r ?_);refine zi c (λi I c=>zK rfl rfl (λ_=>sc rfl) (by rintro _ ⟨B2,T2,rfl,q⟩;exact (ih (λx0 v L M Y=>by rw [xf];exact l x0 v _ _ Y) I).le (.eq (.cons (leV.osl _ _ _) (.eq leL.nil)))) ss ?_);refine zx rfl rfl (yQ (cs':=[.str e.name,.osl none 9 (([]:List GE).map GE.row),.sl 3 (i.map GA.row)]) rfl su56 ze56 pl56 (zk gg (zk gg zq)) (.cons (za rfl) (.cons (za rfl) .nil)) rfl rfl) ss ?_;refine zP rfl (FOk.cons (.inr (yo ⟨rfl,trivial⟩)) (FOk.cons (.inr (yo ⟨rfl,trivial⟩)) (FOk.cons (.inr (yo trivial)) FOk.nil))) (by kernel_rfl) rfl (wy (n:=1) rfl ze56 rfl) ss ?_;refine zP rfl (FOk.cons (.inr (yo ⟨rfl,trivial⟩)) (FOk.cons (.inr (yo ⟨rfl,trivial⟩)) (FOk.cons (.inr (yo trivial)) FOk.nil))) (by kernel_rfl) rfl (zQ (cs':=[.str e.name,.osl none 9 (([]:List GE).map GE.row),.sl 3 (i.map GA.row)]) rfl ty56.choose_spec.1 gg gg (za rfl) rfl rfl rfl rfl rfl) rfl (R.r ?_);refine ln λw=>?_;replace w:=zZ w;apply R.r;refine zB (λ(V:Nat) (s2:(List GE))=>zo 3 3 (zo 7 2 (zo 11 2 (zo 16 18 (zo 37 28 [(0,.any),(36,.int .i64 (V:Int))]))))) (λs2=>h.ext [.cells [.str e.name,.sl 9 (e.leaves.map GE.row),.sl 3 (e.subs.map GA.row)],.cells [.str e.name,osA h 2 9 (s2.map GE.row),.sl 3 (i.map GA.row)]] [s.length,((o++([e.name]:List zd))).length,s2.length]) c (λ_ _=>by simp only [zo,x5,ue,uf];try rfl) (wk.trans (wk_tokB (j:=1) rfl gt1 rfl st1 rfl rfl) (wk.le (by exact (.drop (.eq (.eq (.drop (.drop (.drop (.eq (.drop (.drop (.eq (.eq (.drop (.drop (.eq (.eq (.eq (.d16 (.drop (.drop (.eq (.eq (.cons (leV.of_eq rfl) (.d16 (.d4 (.d4 (.d4 leL.nil))))))))))))))))))))))))))))) ?_;intro V s2 X c;apply R.r;refine zL gg c (λx2 o2 D P c G=>?_) (λc=>?_)
   ·apply R.r;refine ix (zF P) (R.r ?_);refine zi c (λZ J c=>yb rfl (scC rfl) ((l _ _ _ _ J).le (leL.app (leL.pre (.cons (leV.osl _ _ _) leL.nil)))) ss (R.r ?_));refine zf gg c (λz c=>?_) (λz c=>?_)
    ·refine yl [3] [] trivial mixed (by kernel_rfl) (R.r ?_);refine zi c (λu C c=>zK rfl rfl (λ_=>sc rfl) (by rintro _ ⟨B2,T2,rfl,q⟩;exact ok94 C) ss ?_);refine zx rfl rfl (zw (es:=([u]:List GE).map GE.row) rfl el54 ze47 rfl rfl (zk gg zq) (.cons (za rfl) .nil) rfl rfl rfl) ss ?_;refine yj c (λB c=>xD rfl (FOk.cons (.inr (yo trivial)) FOk.nil) (by rfl) rfl (yH (j:=2) (T':=[s.length,((o++([e.name]:List zd))).length,((s2++([u]:List GE))).length]) rfl rfl rfl rfl el54 el54 gg gg (za rfl) (za rfl) yq B rfl rfl) ss (R.r ?_));refine zP rfl (FOk.cons (.inr (yo trivial)) FOk.nil) (by kernel_rfl) rfl (zQ (cs':=[.str e.name,osA h 2 9 ((s2++([u]:List GE)).map GE.row),.sl 3 (i.map GA.row)]) rfl ty54 gg gg (za rfl) rfl rfl rfl rfl rfl) rfl (R.r ?_);cases c;exact ⟨(s2++([u]:List GE)),D,G,wk.trans (wk.le (by exact (.drop (.eq (.eq (.drop (.drop (.drop (.eq (.drop (.drop (.eq (.eq (.drop (.drop (.eq (.eq (.eq (.d16 (.drop (.drop (.eq (.eq (.cons (leV.of_eq (yF (by omega) (by omega))) (.d16 (.d4 (.d4 (.d4 leL.nil)))))))))))))))))))))))))))) (z8 (by simp [zG,AV.low,a,b]) rfl rfl (by simp [Blk.low,zG,AV.low,a,b]))⟩
    ·apply R.r;cases c;exact ⟨s2,D,G,wk.trans (wk.le (by exact (.drop (.eq (.eq (.drop (.drop (.drop (.eq (.drop (.drop (.eq (.eq (.drop (.drop (.eq (.eq (.eq (.d16 (.drop (.drop (.eq (.eq (.cons (leV.of_eq (yF (by omega) (by omega))) (.d16 (.d4 (.d4 (.d4 leL.nil)))))))))))))))))))))))))))) (z8 (by simp [zG,AV.low,a,b]) rfl rfl (by simp [Blk.low,zG,AV.low,a,b]))⟩
   ·apply R.r;refine ln λy=>?_;replace y:=zZ y;apply R.r;refine ln λx=>?_;replace x:=zZ x;apply R.r;refine zf gg c (λF c=>?_) (λF c=>?_)
    ·apply R.r;refine zc rfl (zw (es:=([(GA.mk e.name s2 i)]:List GA).map GA.row) rfl el23 ze56 rfl rfl (zk gg zq) (.cons (za rfl) .nil) rfl rfl (by simp only [uD,tS,GA.row_eq];rfl)) ss ?_;refine yj c (λH c=>zc rfl (yH (j:=0) (T':=[((s++([(GA.mk e.name s2 i)]:List GA))).length,((o++([e.name]:List zd))).length,s2.length]) rfl rfl rfl rfl el23 el23 gg gg (za rfl) (za rfl) yq H rfl rfl) ss (R.r ?_));cases c;exact ⟨(s++([(GA.mk e.name s2 i)]:List GA)),N,O,wk.trans (wk.le (by exact (.drop (.eq (.eq (.drop (.drop (.drop (.cons (leV.of_eq rfl) (.d4 (.drop (.drop (.eq (.eq (.cons (leV.of_eq (yF (by omega) (by omega))) (.d16 (.d16 (.d16 (.drop leL.nil))))))))))))))))))) (z8 (by simp [zG,AV.low,a,b]) rfl rfl (by simp [Blk.low,zG,AV.low,a,b]))⟩
    ·apply R.r;cases c;exact ⟨s,N,O,wk.trans (wk.le (by exact (.drop (.eq (.eq (.drop (.drop (.drop (.cons (leV.of_eq rfl) (.d4 (.drop (.drop (.eq (.eq (.cons (leV.of_eq (yF (by omega) (by omega))) (.d16 (.d16 (.d16 (.drop leL.nil))))))))))))))))))) (z8 (by simp [zG,AV.low,a,b]) rfl rfl (by simp [Blk.low,zG,AV.low,a,b]))⟩
  ·apply R.r;cases c;exact fe rfl rfl (leV.osl _ _ _)
theorem ok69 {a:(List zd)} {e:((List zd)->Option Bool)} {c:FuncId} {b d:List AV} {res:(List GA)} (f:∀x0 v (L:List Blk) (M:List Nat),e x0=some v->Sp c (b++[.sl 1 (x0.map zC)]++d) (h.ext L M) (yy (.bool v) (h.ext L M))) (i:pathsXkept t0 a e=some res):Sp 69 [.sl 3 (t0.map GA.row),.sl 1 (a.map zC),.fn (.func c) b d] h (yy (.sl 3 (res.map GA.row)) h):=by
 obtain ⟨n,g⟩:=anyN_is i;exact ok69N n f g
theorem ok115 {f:(List zd)} {res:((List zd)×Bool)}  (a:vT f=some res):Sp 115 [.sl 1 (f.map zC)] h (yy (.tup [.sl 1 (res.1.map zC),.bool res.2]) h):=by
 unfold vT at a;refine zb Tryz.func115 rfl (by kernel_rfl) (yV 22 rfl) (R.r ?_);refine ln λb=>?_;replace b:=zZ b;apply R.r;refine yj a (λd a=>gix d (R.r ?_));refine zf gg a (λc a=>?_) (λc a=>?_)
 ·apply R.r;refine zi a (λg e a=>zc rfl (wi rfl el37 gg (.inl rfl) .none (.some gg) e) ss (R.r ?_));cases a;exact fz rfl rfl
 ·apply R.r;cases a;exact fz rfl rfl
theorem ok116 {s0:zd}  (a:wO s0=some res):Sp 116 [.str s0] h (yy (.bool res) h):=by
 unfold wO at a;refine zb Tryz.func116 rfl (by kernel_rfl) (yV 10 rfl) (R.r ?_);refine zN a (λd b a=>zA rfl sc (λc=>ok61 (b c)) ss (R.r ?_));cases a;exact fz rfl rfl
theorem ok68 {e:(List zd)}  (a:xT e=some res):Sp 68 [.sl 1 (e.map zC)] h (yy (.bool res) h):=by
 unfold xT at a;refine zb Tryz.func68 rfl (by kernel_rfl) (yV 28 rfl) (R.r ?_);refine zi a (λj c a=>cp (ok115 c) (R.r ?_));refine ln λb=>?_;replace b:=zZ b;apply R.r;refine lng λi=>R.r ?_;refine zN a (λv4 d a=>zA rfl sc (λg=>ok59 (λ_ v L M f=>ok116  f) (d g)) ss (R.r ?_));cases a;exact fz rfl rfl
theorem ok71 {p:(List zd)} {b:(List zd)}  (a:pathsMatch p b=some res):Sp 71 [.sl 1 (p.map zC),.sl 1 (b.map zC)] h (yy (.bool res) h):=by
 unfold pathsMatch at a;refine zb Tryz.func71 rfl (by kernel_rfl) (yV 58 rfl) (R.r ?_);refine zi a (λy g a=>cp (ok115 g) (R.r ?_));refine zi a (λA i a=>cp (ok68 i) (R.r ?_));refine zN a (λv3 k a=>zA rfl sc (λv=>ok33 (k v)) ss (R.r ?_));refine lng λs=>R.r ?_;refine lng λu=>R.r ?_;refine lng λw=>R.r ?_;refine lng λx=>R.r ?_;refine zf gg a (λl a=>?_) (λl a=>?_)
 ·apply R.r;cases a;exact fz rfl rfl
 ·apply R.r;refine ln λf=>?_;replace f:=zZ f;apply R.r;refine zB (λ(q:Nat) (n:Unit)=>zo 2 38 (zo 43 15 [(0,.any),(42,.int .i64 (q:Int))])) (λn=>h.ext [] []) a (λ_ _=>by simp only [zo,x5,ue,uf];try rfl) (wk.le LEL.o) ?_;intro q n t a;apply R.r;refine zL gg a (λB z m j a e=>?_) (λa=>?_)
  ·apply R.r;refine ix (zF j) (R.r ?_);refine yj a (λd a=>gix d (R.r ?_));refine zf gg a (λc a=>?_) (λc a=>?_)
   ·apply R.r;cases a;replace a:=e;apply R.r;cases a;exact fz rfl rfl
   ·apply R.r;cases a;exact ⟨(),m,e,wk.le (by exact (.drop (.eq (.d16 (.d16 (.d4 (.drop (.drop (.eq (.eq (.cons (leV.of_eq (yF (by omega) (by omega))) (.d4 (.d4 (.d4 (.drop (.drop (.drop leL.nil)))))))))))))))))⟩
  ·apply R.r;cases a;exact fz rfl rfl
theorem ok70 {a:(List zd)} {e:(List zd)} (c:h.blk i0=some (.cells [.sl 1 (e.map zC)])) (b:qS a e=some res):Sp 70 [.sl 1 (a.map zC),.ptr i0 0] h (yy (.bool res) h):=by
 unfold qS at b;refine zb Tryz.func70 rfl (by kernel_rfl) (yV 7 rfl) (R.r ?_);refine zc rfl (b_load rfl ty37 gg c (yd rfl) (za rfl)) ss (R.r ?_);refine zi b (λf d b=>cp (ok71 d) (R.r ?_));cases b;exact fz rfl rfl
theorem ok43 {f:(List zd)} {res:((List GA)×Int)}  (a:w5 t0 f=some res):Sp 43 [.sl 3 (t0.map GA.row),.sl 1 (f.map zC)] h (yy (.tup [.sl 3 (res.1.map GA.row),.int .i64 res.2]) h):=by
 unfold w5 at a;refine zb Tryz.func43 rfl (by kernel_rfl) (yV 17 rfl) (R.r ?_);refine zi a (λl c a=>cp (ok21 c) (R.r ?_));refine zN a (λk b a=>zA rfl sc (λi=>ok68 (b i)) ss (R.r ?_));refine zf gg a (λd a=>?_) (λd a=>?_)
 ·apply R.r;cases a;exact fe rfl rfl (leV.tup (.cons (leV.osl _ _ _) (.eq leL.nil)))
 ·apply R.r;refine zc rfl (qv rfl rfl rfl) ss ?_;refine zi a (λv4 e a=>cp ((ok69 (λ_ v L M g=>ok70 (blk_ext2 (j:=0) rfl) g) e).le (.eq (.cons (leV.osl _ _ _) (.eq leL.nil)))) (R.r ?_));cases a;exact fz rfl rfl
theorem ok117 {s0:(List GA)} {f1:(GA->Option Bool)} {res:Int} (q:∀x0 v (L:List Blk) (M:List Nat),f1 x0=some v->Sp ff1 (af1++[.agg [.str x0.name,.sl 9 (x0.leaves.map GE.row),.sl 3 (x0.subs.map GA.row)]]++kf1) (h.ext L M) (yy (.bool v) (h.ext L M))) (a:xl s0 f1=some res):Sp 117 [.sl 3 (s0.map GA.row),.fn (.func ff1) af1 kf1] h (yy (.int .i64 res) h):=by
 unfold xl at a;refine zY Tryz.func117 rfl (by kernel_rfl) (yV 19 rfl) (λb w=>?_);simp only [zG,AV.low,ud,u2,t7] at b;have j:∀n m,h.blks.length<=n->h.toks.length<=m->zG n m af1=true:=λn m g e=>ym g e _ (by simp [b]);have f:∀n m,h.blks.length<=n->h.toks.length<=m->zG n m kf1=true:=λn m g e=>ym g e _ (by simp [b]);apply R.r;refine ln λc=>?_;replace c:=zZ c;apply R.r;refine zB (λ(t:Nat) (s:Unit)=>zo 2 5 (zo 9 10 [(8,.int .i64 (t:Int))])) (λs=>h.ext [] []) a (λ_ _=>by simp only [zo,x5,ue,uf];try rfl) (wk.le LEL.o) ?_;intro t s u a;apply R.r;refine zL gg a (λz y p i a d=>?_) (λa=>?_)
 ·apply R.r;refine zc rfl (yh rfl el23 gg gg isl (zF i) (GA.row_eq _)) ss (R.r ?_);refine zi a (λx l a=>yb rfl (scC rfl) (q _ _ _ _ l) ss (R.r ?_));refine zf gg a (λk a=>?_) (λk a=>?_)
  ·apply R.r;cases a;replace a:=d;apply R.r;cases a;exact fz rfl rfl
  ·apply R.r;cases a;exact ⟨(),p,d,wk.le (by exact (.eq (.eq (.d4 (.drop (.eq (.cons (leV.of_eq (yF (by omega) (by omega))) (.d4 (.d4 (.drop (.drop leL.nil)))))))))))⟩
 ·apply R.r;cases a;exact fz rfl rfl
theorem ok118 {b:zd} (a:h.blk i0=some (.cells [.str b])) (c:qN n0 b=some res):Sp 118 [.agg [.str n0.name,.sl 9 (n0.leaves.map GE.row),.sl 3 (n0.subs.map GA.row)],.ptr i0 0] h (yy (.bool res) h):=by
 unfold qN at c;refine zb Tryz.func118 rfl (by kernel_rfl) (yV 8 rfl) (R.r ?_);refine zc rfl (b_load rfl ty9 gg a (yd rfl) (za rfl)) ss (R.r ?_);cases c;exact fz rfl rfl
theorem ok72 {a:zd} {res:(GA×Bool)}  (b:vN t0 a=some res):Sp 72 [.sl 3 (t0.map GA.row),.str a] h (yy (.tup [.agg [.str res.1.name,.sl 9 (res.1.leaves.map GE.row),.sl 3 (res.1.subs.map GA.row)],.bool res.2]) h):=by
 unfold vN at b;refine zb Tryz.func72 rfl (by kernel_rfl) (yV 17 rfl) (R.r ?_);refine zc rfl (qv rfl rfl rfl) ss ?_;refine zi b (λi d b=>cp (ok117 (λ_ v L M f=>ok118 (blk_ext2 (j:=0) rfl) f) d) (R.r ?_));refine zf gg b (λe b=>?_) (λe b=>?_)
 ·apply R.r;refine zc rfl (yQ (cs':=lit2x) rfl su56 ze56 pl56 zq .nil rfl rfl) ss (R.r ?_);cases b;exact fe rfl rfl (leV.tup (.cons (leV.agg (.eq (.cons (leV.osl _ _ _) (.cons (leV.osl _ _ _) leL.nil))) rfl) (.eq leL.nil)))
 ·apply R.r;refine zi b (λg c b=>zc rfl (yh rfl el23 gg gg isl c (GA.row_eq _)) ss (R.r ?_));cases b;exact fz rfl rfl
theorem ok73 {res:Int} (q:∀x0 v (L:List Blk) (M:List Nat),f1 x0=some v->Sp ff1 (af1++[.agg (GE.row x0)]++kf1) (h.ext L M) (yy (.bool v) (h.ext L M))) (a:ya s0 f1=some res):Sp 73 [.sl 9 (s0.map GE.row),.fn (.func ff1) af1 kf1] h (yy (.int .i64 res) h):=by
 unfold ya at a;refine zY Tryz.func73 rfl (by kernel_rfl) (yV 19 rfl) (λb w=>?_);simp only [zG,AV.low,ud,u2,t7] at b;have j:∀n m,h.blks.length<=n->h.toks.length<=m->zG n m af1=true:=λn m g e=>ym g e _ (by simp [b]);have f:∀n m,h.blks.length<=n->h.toks.length<=m->zG n m kf1=true:=λn m g e=>ym g e _ (by simp [b]);apply R.r;refine ln λc=>?_;replace c:=zZ c;apply R.r;refine zB (λ(t:Nat) (s:Unit)=>zo 2 5 (zo 9 10 [(8,.int .i64 (t:Int))])) (λs=>h.ext [] []) a (λ_ _=>by simp only [zo,x5,ue,uf];try rfl) (wk.le LEL.o) ?_;intro t s u a;apply R.r;refine zL gg a (λz y p i a d=>?_) (λa=>?_)
 ·apply R.r;refine ix (zF i) (R.r ?_);refine zi a (λx l a=>yb rfl (scC rfl) (q _ _ _ _ l) ss (R.r ?_));refine zf gg a (λk a=>?_) (λk a=>?_)
  ·apply R.r;cases a;replace a:=d;apply R.r;cases a;exact fz rfl rfl
  ·apply R.r;cases a;exact ⟨(),p,d,wk.le (by exact (.eq (.eq (.d4 (.drop (.eq (.cons (leV.of_eq (yF (by omega) (by omega))) (.d4 (.d4 (.drop (.drop leL.nil)))))))))))⟩
 ·apply R.r;cases a;exact fz rfl rfl
theorem okR73 {w e:Nat} {res:Int} (f:h.blks.length=w) (j:h.toks.length=e) (t:∀x0 v (L:List Blk) (M:List Nat),f1 x0=some v->Sp ff1 (af1++[.agg (GE.row x0)]++kf1) (h.ext L M) (yy (.bool v) (h.ext L M))) (l:∀n m,h.blks.length<=n->h.toks.length<=m->zG n m af1=true) (g:∀n m,h.blks.length<=n->h.toks.length<=m->zG n m kf1=true) (a:ya s0 f1=some res):Sp 73 [.rsl w e 9 s0.length,.fn (.func ff1) af1 kf1] (h.ext [.row e 9 (s0.map GE.row)] [s0.length]) (yy (.int .i64 res) (h.ext [.row e 9 (s0.map GE.row)] [s0.length])):=by
 unfold ya at a;subst f j;refine spec_of_body_R Tryz.func73 rfl (by kernel_rfl) (yV 19 rfl) (R.r ?_);refine ln λb=>?_;replace b:=zZ b;apply R.r;refine zB (λ(u:Nat) (x:Unit)=>zo 2 5 (zo 9 10 [(8,.int .i64 (u:Int))])) (λx=>h.ext [rwA h 0 9 (s0.map GE.row)] [s0.length]) a (λ_ _=>by simp only [zo,x5,ue,uf];try rfl) (wk.le LEL.o) ?_;intro u x y a;apply R.r;refine zL gg a (λA B s c a d=>?_) (λa=>?_)
 ·apply R.r;refine zc rfl (e_idxR rfl el54 gg gg (idxRn (zF c) rfl)) ss ?_;refine zc rfl (e_ldR (off:=0) (i:=0) (q:=h.toks.length+0) (z:=(u:Int).toNat) (row:=GE.row) (λ_=>rfl) rfl ty47.choose_spec.1 (by decide) gg rfl rfl (idxR (zF c)).2.2 (yR (cs':=(GE.row A)) ty47.choose_spec.2 rfl rfl) (za rfl)) ss ?_;refine zi a (λC k a=>yb rfl (scC rfl) (t _ _ _ _ k) ss (R.r ?_));refine zf gg a (λp a=>?_) (λp a=>?_)
  ·apply R.r;cases a;replace a:=d;apply R.r;cases a;refine fr rfl (fin_extR (L:=[]) (M:=[]) rfl rfl (leV.refl _) rfl ?_);exact ⟨rfl,rfl⟩
  ·apply R.r;cases a;exact ⟨(),s,d,wk.le (by exact (.eq (.eq (.d4 (.drop (.eq (.cons (leV.of_eq (yF (by omega) (by omega))) (.d4 (.d4 (.drop (.drop leL.nil)))))))))))⟩
 ·apply R.r;cases a;refine fr rfl (fin_extR (L:=[]) (M:=[]) rfl rfl (leV.refl _) rfl ?_);exact ⟨rfl,rfl⟩
theorem ok74 {d:GE} {b:Int} (a:h.blk i0=some (.cells [.int .u8 b])) (c:treeLeafC1 d b=some res):Sp 74 [.agg (GE.row d),.ptr i0 0] h (yy (.bool res) h):=by
 unfold treeLeafC1 at c;refine zb Tryz.func74 rfl (by kernel_rfl) (yV 8 rfl) (R.r ?_);refine zc rfl (b_load rfl ty5 gg a (yd rfl) (za rfl)) ss (R.r ?_);cases c;exact fz rfl rfl
theorem ok75 {a:Int} {res:GE}  (b:qg a=some res):Sp 75 [.int .u8 a] h (yy (.agg (GE.row res)) h):=by
 unfold qg at b;refine zb Tryz.func75 rfl (by kernel_rfl) (yV 12 rfl) (R.r ?_);refine zf gg b (λc b=>?_) (λc b=>?_)
 ·apply R.r;refine zc rfl (yQ (cs':=lit0x) rfl su47 ze47 pl47 zq .nil rfl rfl) ss (R.r ?_);cases b;exact fe rfl rfl (leV.agg (.eq (.eq (.eq (.eq (.eq (.eq (.eq (.cons (leV.osl _ _ _) (.cons (leV.osl _ _ _) leL.nil))))))))) rfl)
 ·apply R.r;refine zc rfl (yQ (cs':=[.int .u8 a,.int .i64 (0:Int),.int .u64 (0:Int),.int .u8 (0:Int),.int .u32 (0:Int),.int .u64 (0:Int),.str ([]:zd),.osl none 5 (([]:List GI).map GI.row),.osl none 3 (([]:List GF).map GF.row)]) rfl su47 ze47 pl47 (zk gg zq) (.cons (za rfl) .nil) rfl rfl) ss (R.r ?_);cases b;exact fe rfl rfl (leV.agg (.eq (.eq (.eq (.eq (.eq (.eq (.eq (.cons (leV.osl _ _ _) (.cons (leV.osl _ _ _) leL.nil))))))))) rfl)
theorem ok44 {c:(List zd)} {res:(GE×Bool)}  (a:treeLeaf t0 c kind2=some res):Sp 44 [.sl 3 (t0.map GA.row),.sl 1 (c.map zC),.int .u8 kind2] h (yy (.tup [.agg (GE.row res.1),.bool res.2]) h):=by
 unfold treeLeaf at a;refine zb Tryz.func44 rfl (by kernel_rfl) (yV 66 rfl) (R.r ?_);refine ln λn=>?_;replace n:=zZ n;refine zc rfl (yK rfl gg rfl rfl) ss ?_;refine zc rfl (zO rfl gg (za rfl)) ss ?_;refine zD (zU ?_);refine r_join (λ(g:Bool×zd×(List GE)×(List GA))=>zo 0 5 (zo 10 56 [(7,.any),(9,.bool g.1)])) (λg=>h.ext [.cells [.int .u8 kind2],.cells lit0x,.cells [.str g.2.1,.sl 9 (g.2.2.1.map GE.row),.sl 3 (g.2.2.2.map GA.row)]] []) a (λ_=>by simp only [zo,x5,ue,uf];try rfl) (λI a x=>?_) (λg a=>?_)
 ·apply R.r;refine ln λe=>?_;replace e:=zZ e;apply R.r;refine zB (λ(C:Nat) (s2:(List GA)×Bool×zd×(List GE)×(List GA))=>zo 1 4 (zo 10 7 (zo 20 46 [(7,.any),(0,.sl 3 (s2.1.map GA.row)),(9,.bool s2.2.1),(19,.int .i64 (C:Int))]))) (λs2=>h.ext [.cells [.int .u8 kind2],.cells lit0x,.cells [.str s2.2.2.1,.sl 9 (s2.2.2.2.1.map GE.row),.sl 3 (s2.2.2.2.2.map GA.row)]] []) a (λ_ _=>by simp only [zo,x5,ue,uf];try rfl) (wk.trans (wk_leB (j:=2) rfl (by exact (.eq (.cons (leV.osl _ _ _) (.cons (leV.osl _ _ _) leL.nil)))) rfl rfl) (wk.le LEL.o)) ?_;intro C s2 E a;apply R.r;refine zL gg a (λJ H B z a q=>?_) (λa=>?_)
  ·apply R.r;refine ix (zF z) (R.r ?_);refine zi a (λb u a=>cp (ok72 u) (R.r ?_));refine zf gg a (λw a=>?_) (λw a=>?_)
   ·apply R.r;refine q_block_miss (by decide) (R.r ?_);cases a;replace a:=q;apply R.r;refine q_join ?_;cases a;exact ⟨(b.2,b.1.name,b.1.leaves,b.1.subs),x,wk.le LEL.o⟩
   ·apply R.r;cases a;exact ⟨(b.1.subs,b.2,b.1.name,b.1.leaves,b.1.subs),B,q,wk.le (by exact (.cons (leV.of_eq rfl) (.d4 (.eq (.eq (.drop (.eq (.cons (leV.of_eq rfl) (.d4 (.drop (.drop (.drop (.eq (.eq (.cons (leV.of_eq (yF (by omega) (by omega))) (.d16 (.d16 (.d4 (.d4 (.d4 (.drop (.drop leL.nil))))))))))))))))))))))⟩
  ·apply R.r;refine q_join ?_;cases a;exact ⟨(s2.2.1,s2.2.2.1,s2.2.2.2.1,s2.2.2.2.2),x,wk.le LEL.o⟩
 ·apply R.r;refine zc rfl (qv rfl rfl rfl) ss ?_;refine zi a (λG t a=>cp (ok73 (λ_ v L M F=>ok74 (blk_ext2 (j:=0) rfl) F) t) (R.r ?_));refine zN a (λv50 k a=>zA rfl sc (λA=>ok75 (k A)) ss ?_);refine z7 rfl (λA=>s_field rfl fo47x0 ty5 (zI gg A) rfl (za rfl)) ss (R.r ?_);refine zf gg a (λi a=>?_) (λi a=>?_)
  ·apply R.r;refine zi a (λD y a=>cp (ok75 y) (R.r ?_));cases a;exact fz rfl rfl
  ·apply R.r;refine zi a (λf p a=>ix p (R.r ?_));refine yE (by kernel_rfl) (R.r ?_);refine zi a (λd s a=>wd rfl FOk.nil (by rfl) rfl (sc rfl) (vj (T':=[d.length]) (ok76 s) (m:=0) rfl rfl) ss (R.r ?_));refine zi a (λv55 l a=>wd rfl FOk.nil (by rfl) rfl (sc rfl) (vj (T':=[d.length,v55.length]) (ok77 l) (m:=1) rfl rfl) ss (R.r ?_));refine zP rfl FOk.nil (by kernel_rfl) rfl (zQ (cs':=(GLeafRw f (osA h 0 5 (d.map GI.row)) (.sl 3 (f.tombs.map GF.row)))) rfl ty44 gg gg (za rfl) rfl rfl rfl rfl rfl) rfl (R.r ?_);refine zP rfl FOk.nil (by kernel_rfl) rfl (zQ (cs':=(GLeafRw f (osA h 0 5 (d.map GI.row)) (osA h 1 3 (v55.map GF.row)))) rfl ty45 gg gg (za rfl) rfl rfl rfl rfl rfl) rfl (R.r ?_);cases a;exact fe rfl rfl (leV.tup (.cons (leV.agg (.eq (.eq (.eq (.eq (.eq (.eq (.eq (.cons (leV.osl _ _ _) (.cons (leV.osl _ _ _) leL.nil))))))))) rfl) (.eq leL.nil)))
theorem ok78 {x0:(List GA)} {c:zd} {j:(GA->zd->Option Int)} {i:FuncId} {e d:List AV} {res:(Int×Bool)} (g:∀x0 C v (L:List Blk) (M:List Nat),j x0 C=some v->Sp i (e++[.agg [.str x0.name,.sl 9 (x0.leaves.map GE.row),.sl 3 (x0.subs.map GA.row)],.str C]++d) (h.ext L M) (yy (.int .i64 v) (h.ext L M))) (a:zt x0 c j=some res):Sp 78 [.sl 3 (x0.map GA.row),.str c,.fn (.func i) e d] h (yy (.tup [.int .i64 res.1,.bool res.2]) h):=by
 unfold zt at a;refine zY Tryz.func78 rfl (by kernel_rfl) (yV 49 rfl) (λf F=>?_);simp only [zG,AV.low,ud,u2,t7] at f;have w:∀n m,h.blks.length<=n->h.toks.length<=m->zG n m e=true:=λn m z y=>ym z y _ (by simp [f]);have s:∀n m,h.blks.length<=n->h.toks.length<=m->zG n m d=true:=λn m z y=>ym z y _ (by simp [f]);apply R.r;refine ln λp=>?_;replace p:=zZ p;apply R.r;refine vt (λ(b:Int×Int)=>zo 3 5 (zo 11 38 [(9,.int .i64 b.1),(10,.int .i64 b.2)])) (λb=>h.ext [] []) a (λ_=>by simp only [zo,x5,ue,uf];try rfl) (wk.le LEL.o) ?_;intro I b G a k;apply R.r;refine zf gg a (λB a=>?_) (λB a=>?_)
 ·apply R.r;refine zc rfl (s_convert rfl ty3 ty134 gg rfl) ss (R.r ?_);refine zc rfl (s_convert rfl ty134 ty3 gg rfl) ss (R.r ?_);refine zi a (λH A a=>zc rfl (yh rfl el23 gg gg isl A (GA.row_eq _)) ss (R.r ?_));refine zi a (λD u a=>yb rfl (scC rfl) (g _ _ _ _ _ u) ss (R.r ?_));refine zf gg a (λx a=>?_) (λx a=>?_)
  ·apply R.r;cases a;exact ⟨((IntKind.wrap .i64 ((IntKind.wrap .i64 ((Int.fdiv (IntKind.wrap .u64 ((IntKind.wrap .i64 (b.1+b.2)))) (2 ^ (min (1:Int).toNat (IntKind.bits .u64))))))+(1:Int))),b.2),k,wk.le LEL.o⟩
  ·apply R.r;cases a;exact ⟨(b.1,(IntKind.wrap .i64 ((Int.fdiv (IntKind.wrap .u64 ((IntKind.wrap .i64 (b.1+b.2)))) (2 ^ (min (1:Int).toNat (IntKind.bits .u64))))))),k,wk.le LEL.o⟩
 ·apply R.r;cases a;replace a:=k;apply R.r;refine yj a (λl a=>z7 rfl (λq=>wu default rfl el23 (zI gg q) (zI gg q) isl (l q) (GA.row_eq _)) ss (R.r ?_));refine zN a (λE t a=>zA rfl scC (λq=>g _ _ _ _ _ (t q)) ss (R.r ?_));cases a;exact fz rfl rfl
def scmpTryzRen:Go.Shelf.Ren :=
  { f:=λx=>match x with
      | 106=>80
      | 213=>119
      | 265=>141
      | n=>n
    t:=λx=>match x with
      | 3=>3
      | 9=>9
      | n=>n
    g:=λn=>n }
theorem scmpTryzLays:Go.Proofs.Lays.n106 Tryz.prog scmpTryzRen where
  mixed:=mixed
  f106:=Tryz.func80.trans (by kernel_rfl)
  f213:=Tryz.func119.trans (by kernel_rfl)
  f265:=Tryz.func141.trans (by kernel_rfl)
  t3:=Tryz.underlying3
  a3:=Tryz.isAgg3
  z3:=Tryz.sizeOf3
  v3:=Tryz.zeroValue3
  t9:=Tryz.underlying9
  a9:=Tryz.isAgg9
  z9:=Tryz.sizeOf9
  v9:=Tryz.zeroValue9
theorem ok80 {b:zd} {a:zd} {res:Int} (c:stringsCompare b a=some res):Sp 80 [.str b,.str a] h (yy (.int .i64 res) h):=by
 cases c;exact spec_scompare scmpTryzLays
theorem ok79 {a:zd} {res:Int}  (b:xy n0 a=some res):Sp 79 [.agg [.str n0.name,.sl 9 (n0.leaves.map GE.row),.sl 3 (n0.subs.map GA.row)],.str a] h (yy (.int .i64 res) h):=by
 unfold xy at b;refine zb Tryz.func79 rfl (by kernel_rfl) (yV 9 rfl) (R.r ?_);refine zi b (λd c b=>cp (ok80 c) (R.r ?_));cases b;exact fz rfl rfl
theorem okR81 {K F:Nat} {x:(GE->Option Bool)} {t:FuncId} {f g:List AV} {res:(List GE)} (G:h.blks.length=K) (J:h.toks.length=F) (p:∀x0 v (L:List Blk) (M:List Nat),x x0=some v->Sp t (f++[.agg (GE.row x0)]++g) (h.ext L M) (yy (.bool v) (h.ext L M))) (b:∀n m,h.blks.length<=n->h.toks.length<=m->zG n m f=true) (a:∀n m,h.blks.length<=n->h.toks.length<=m->zG n m g=true) (c:yL s0 x=some res):Sp 81 [.rsl K F 9 s0.length,.fn (.func t) f g] (h.ext [.row F 9 (s0.map GE.row)] [s0.length]) (TurnK h K F 9 res.length (res.map GE.row)):=by
 unfold yL at c;subst G J;refine spec_of_body_R Tryz.func81 rfl (by kernel_rfl) (yV 42 rfl) (R.r ?_);refine zi c (λU I c=>cp (row_read (B1:=[]) (T1:=[]) (okR73 (by simp [AH.ext]) (by simp [AH.ext]) (λx0 v L M T=>by rw [xf];exact p x0 v _ _ T) (λn m N H=>b n m (by simp [AH.ext] at N;omega) (by simp [AH.ext] at H;omega)) (λn m N H=>a n m (by simp [AH.ext] at N;omega) (by simp [AH.ext] at H;omega)) I) rfl rfl) (R.r ?_));refine zf gg c (λO c=>?_) (λO c=>?_)
 ·apply R.r;cases c;refine fr rfl (fin_turn0 (row:=GE.row) ?_);exact ⟨rfl,_,rfl⟩
 ·apply R.r;refine vt (λ(e:Int×Int×(List GE))=>zo 2 3 (zo 7 35 [(5,.int .i64 e.1),(6,.int .i64 e.2.1)])) (λe=>h.ext [rwA h 0 9 (e.2.2.map GE.row)] [s0.length]) c (λ_=>by simp only [zo,x5,ue,uf];try rfl) (wk.le LEL.o) ?_;intro W e V c y;refine yj c (λl c=>R.r ?_);refine ln λP=>R.r ?_;refine zf gg c (λC c=>?_) (λC c=>?_)
  ·apply R.r;refine zi c (λk u c=>zc rfl (e_idxR rfl el54 gg gg (idxRn u l)) ss ?_);refine zc rfl (e_ldR (off:=0) (i:=0) (q:=h.toks.length+0) (z:=e.2.1.toNat) (row:=GE.row) (λ_=>rfl) rfl ty47.choose_spec.1 (by decide) gg rfl l (idxR u).2.2 (yR (cs':=(GE.row k)) ty47.choose_spec.2 rfl rfl) (za rfl)) ss (R.r ?_);refine zi c (λQ B c=>yb rfl (scC rfl) (p _ _ _ _ B) ss (R.r ?_));refine zf gg c (λD c=>?_) (λD c=>?_)
   ·apply R.r;refine zi c (λS w c=>zc rfl (e_idxR rfl el54 gg gg (idxRn w l)) ss ?_);refine zc rfl (e_stR (off:=0) (i:=0) (q:=h.toks.length+0) (z:=e.1.toNat) (row:=GE.row) (y':=k) (us:=(GE.row k)) (B':=[rwA h 0 9 ((e.2.2.set e.1.toNat k).map GE.row),.cells (GE.row k)]) (λ_=>rfl) rfl ty47.choose_spec.1 gg gg (za rfl) rfl rfl rfl rfl l (idxR w).2.2 (by decide) rfl rfl) rfl (R.r ?_);cases c;exact ⟨((IntKind.wrap .i64 (e.1+(1:Int))),(IntKind.wrap .i64 (e.2.1+(1:Int))),(e.2.2.set e.1.toNat k)),y,wk.trans (wk.le LEL.o) (z8 (by simp [zG,AV.low,b,a]) rfl rfl (by simp [Blk.low,zG,AV.low,b,a]))⟩
   ·apply R.r;cases c;exact ⟨(e.1,(IntKind.wrap .i64 (e.2.1+(1:Int))),e.2.2),y,wk.trans (wk.le LEL.o) (z8 (by simp [zG,AV.low,b,a]) rfl rfl (by simp [Blk.low,zG,AV.low,b,a]))⟩
  ·apply R.r;cases c;replace c:=y;apply R.r;refine yj c (λs c=>ops_b rfl (e_sufR rfl el54 gg gg s) ss ?_);refine ops_b rfl (e_clrR (i:=0) (q:=h.toks.length+0) (L:=e.2.2) (row:=GE.row) (d:=zp) (B':=[rwA h 0 9 ((e.2.2.take e.1.toNat++List.replicate (s0.length - e.1.toNat) zp).map GE.row)]) (λ_=>rfl) rfl rfl rfl rfl el54 ze47 rfl gg rfl l (Int.toNat_le.2 s.2) rfl) rfl (R.r ?_);refine zi c (λA E c=>ops_b rfl (e_cutR (i:=0) (j:=0) (L:=(e.2.2.take e.1.toNat++List.replicate (s0.length - e.1.toNat) zp)) (row:=GE.row) (B':=[.dead,rwA h 1 9 (A.map GE.row)]) (T':=[s0.length+1,A.length]) rfl el54 gg gg rfl (clr_len l (Int.toNat_le.2 s.2)) E rfl rfl rfl rfl) ss (R.r ?_));cases c;refine fr rfl (fin_at ?_);exact ⟨rfl,_,rfl⟩
theorem okR82 {res:(List GE)}  (a:wC s0=some res):Sp 82 [.sl 9 (s0.map GE.row)] h (NewK h 9 res.length (res.map GE.row)):=by
 unfold wC at a;refine zb Tryz.func82 rfl (by kernel_rfl) (yV 8 rfl) (R.r ?_);refine vV rfl rfl el54 gg isl rfl (λ_=>ss) a (λe d a=>R.r ?_);refine zf gg a (λb a=>?_) (λb a=>?_)
 ·apply R.r;cases a;refine fr rfl (fin_row0 ?_);exact ⟨rfl,rfl⟩
 ·apply R.r;refine zc rfl (zw (es:=([]:List GE).map GE.row) rfl el54 ze47 rfl rfl zq .nil rfl rfl rfl) ss (R.r ?_);refine ops_swk (swk_thaw gt5 rfl rfl st5 rfl rfl) ?_;refine yj a (λc a=>zc rfl (e_appR (i:=0) (j:=0) (B':=[rwA h 0 9 ((([]:List GE)++s0).map GE.row)]) (T':=[((([]:List GE)++s0)).length]) rfl rfl rfl rfl el54 el54 gg gg rfl (za rfl) xd c rfl rfl rfl rfl rfl) ss (R.r ?_));cases a;refine fr rfl (fin_at ?_);exact ⟨rfl,rfl⟩
theorem ok83 {b:Int} (a:h.blk i0=some (.cells [.int .u8 b])) (c:diffXlayC2 x0 b=some res):Sp 83 [.agg (GE.row x0),.ptr i0 0] h (yy (.bool res) h):=by
 unfold diffXlayC2 at c;refine zb Tryz.func83 rfl (by kernel_rfl) (yV 8 rfl) (R.r ?_);refine zc rfl (b_load rfl ty5 gg a (yd rfl) (za rfl)) ss (R.r ?_);cases c;exact fz rfl rfl
def sort85TryzRen:Go.Shelf.Ren :=
  { f:=λx=>match x with
      | 6=>85
      | 15=>99
      | 14=>120
      | 28=>131
      | 29=>132
      | 20=>142
      | 21=>143
      | 22=>144
      | 23=>145
      | 24=>146
      | 25=>147
      | 26=>148
      | 27=>149
      | 46=>163
      | 47=>153
      | 48=>154
      | 49=>164
      | 50=>165
      | 57=>170
      | n=>n
    t:=λx=>match x with
      | 22=>54
      | 24=>47
      | 25=>117
      | 3=>3
      | 39=>134
      | 0=>0
      | 53=>39
      | 55=>38
      | 4=>4
      | 46=>155
      | 45=>154
      | 50=>109
      | 5=>5
      | 9=>9
      | 66=>175
      | 70=>179
      | 76=>190
      | 77=>191
      | n=>n
    g:=λn=>n }
theorem sort85TryzLays:Go.Proofs.SlLaysF0.n6 Tryz.prog sort85TryzRen where
  mixed:=mixed
  f6:=⟨Tryz.f85.name,by kernel_rfl,Tryz.func85.trans (by kernel_rfl)⟩
  f15:=Tryz.func99.trans (by kernel_rfl)
  f14:=⟨Tryz.f120.name,by kernel_rfl,Tryz.func120.trans (by kernel_rfl)⟩
  f28:=Tryz.func131.trans (by kernel_rfl)
  f29:=Tryz.func132.trans (by kernel_rfl)
  f20:=⟨Tryz.f142.name,by kernel_rfl,Tryz.func142.trans (by kernel_rfl)⟩
  f21:=⟨Tryz.f143.name,by kernel_rfl,Tryz.func143.trans (by kernel_rfl)⟩
  f22:=⟨Tryz.f144.name,by kernel_rfl,Tryz.func144.trans (by kernel_rfl)⟩
  f23:=⟨Tryz.f145.name,by kernel_rfl,Tryz.func145.trans (by kernel_rfl)⟩
  f24:=⟨Tryz.f146.name,by kernel_rfl,Tryz.func146.trans (by kernel_rfl)⟩
  f25:=⟨Tryz.f147.name,by kernel_rfl,Tryz.func147.trans (by kernel_rfl)⟩
  f26:=⟨Tryz.f148.name,by kernel_rfl,Tryz.func148.trans (by kernel_rfl)⟩
  f27:=⟨Tryz.f149.name,by kernel_rfl,Tryz.func149.trans (by kernel_rfl)⟩
  f46:=⟨Tryz.f163.name,by kernel_rfl,Tryz.func163.trans (by kernel_rfl)⟩
  f47:=Tryz.func153.trans (by kernel_rfl)
  f48:=Tryz.func154.trans (by kernel_rfl)
  f49:=⟨Tryz.f164.name,by kernel_rfl,Tryz.func164.trans (by kernel_rfl)⟩
  f50:=⟨Tryz.f165.name,by kernel_rfl,Tryz.func165.trans (by kernel_rfl)⟩
  f57:=⟨Tryz.f170.name,by kernel_rfl,Tryz.func170.trans (by kernel_rfl)⟩
  t0:=Tryz.underlying0
  a0:=Tryz.isAgg0
  z0:=Tryz.sizeOf0
  v0:=Tryz.zeroValue0
  t3:=Tryz.underlying3
  a3:=Tryz.isAgg3
  z3:=Tryz.sizeOf3
  v3:=Tryz.zeroValue3
  t4:=Tryz.underlying4
  a4:=Tryz.isAgg4
  z4:=Tryz.sizeOf4
  v4:=Tryz.zeroValue4
  t5:=Tryz.underlying5
  a5:=Tryz.isAgg5
  z5:=Tryz.sizeOf5
  v5:=Tryz.zeroValue5
  t9:=Tryz.underlying9
  a9:=Tryz.isAgg9
  z9:=Tryz.sizeOf9
  v9:=Tryz.zeroValue9
  t22:=Tryz.underlying54
  a22:=Tryz.isAgg54
  z22:=Tryz.sizeOf54
  v22:=Tryz.zeroValue54
  t25:=Tryz.underlying117
  a25:=Tryz.isAgg117
  z25:=Tryz.sizeOf117
  v25:=Tryz.zeroValue117
  t39:=Tryz.underlying134
  a39:=Tryz.isAgg134
  z39:=Tryz.sizeOf134
  v39:=Tryz.zeroValue134
  t45:=Tryz.underlying154
  a45:=Tryz.isAgg154
  z45:=Tryz.sizeOf154
  v45:=Tryz.zeroValue154
  t46:=Tryz.underlying155
  a46:=Tryz.isAgg155
  z46:=Tryz.sizeOf155
  v46:=Tryz.zeroValue155
  t50:=Tryz.underlying109
  a50:=Tryz.isAgg109
  z50:=Tryz.sizeOf109
  v50:=Tryz.zeroValue109
  t53:=Tryz.underlying39
  a53:=Tryz.isAgg39
  z53:=Tryz.sizeOf39
  v53:=Tryz.zeroValue39
  t55:=Tryz.underlying38
  a55:=Tryz.isAgg38
  z55:=Tryz.sizeOf38
  v55:=Tryz.zeroValue38
  t66:=Tryz.underlying175
  a66:=Tryz.isAgg175
  z66:=Tryz.sizeOf175
  v66:=Tryz.zeroValue175
  t70:=Tryz.underlying179
  a70:=Tryz.isAgg179
  z70:=Tryz.sizeOf179
  v70:=Tryz.zeroValue179
  t76:=Tryz.underlying190
  a76:=Tryz.isAgg190
  z76:=Tryz.sizeOf190
  v76:=Tryz.zeroValue190
  t77:=Tryz.underlying191
  a77:=Tryz.isAgg191
  z77:=Tryz.sizeOf191
  v77:=Tryz.zeroValue191
theorem ok86 {c:GE} {res:Int}  (a:qM x0 c=some res):Sp 86 [.agg (GE.row x0),.agg (GE.row c)] h (yy (.int .i64 res) h):=by
 unfold qM at a;refine zb Tryz.func86 rfl (by kernel_rfl) (yV 10 rfl) (R.r ?_);refine zi a (λd b a=>cp (ok65 b) (R.r ?_));cases a;exact fz rfl rfl
theorem ok87 {s0:(List GA)} {res:(List GA)}  (a:xC s0=some res):Sp 87 [.sl 3 (s0.map GA.row)] h (OwnK h 3 res.length (res.map GA.row)):=by
 unfold xC at a;refine zb Tryz.func87 rfl (by kernel_rfl) (yV 8 rfl) (R.r ?_);refine vV rfl rfl el23 gg isl rfl (λ_=>ss) a (λe d a=>R.r ?_);refine zf gg a (λb a=>?_) (λb a=>?_)
 ·apply R.r;cases a;refine fr rfl (fin_own0 (row:=GA.row) (L:=([]:List GA)) ?_);exact ⟨rfl,rfl⟩
 ·apply R.r;refine zc rfl (zw (es:=([]:List GA).map GA.row) rfl el23 ze56 rfl rfl zq .nil rfl rfl (by simp only [uD,tS,GA.row_eq];rfl)) ss (R.r ?_);refine yj a (λc a=>zc rfl (e_appN (m:=0) (T':=[((([]:List GA)++s0)).length]) rfl rfl rfl rfl el23 el23 gg gg (za rfl) (za rfl) xd c rfl rfl) ss (R.r ?_));cases a;refine fr rfl (fin_own ?_);exact ⟨rfl,rfl⟩
theorem ok45N (n:Nat):∀{t0:(List GA)} {d:(List zd)} {kind2:Int} {g:GE} {c:Bool} {res:(List GA)} {h:AH} , xn n t0 d kind2 g c=some res->Sp 45 [.sl 3 (t0.map GA.row),.sl 1 (d.map zC),.int .u8 kind2,.agg (GE.row g),.bool c] h (yy (.sl 3 (res.map GA.row)) h):=by
 induction n with
 | zero=>intro t0 d kind2 g c res h  a;simp [xn] at a
 | succ n ih =>
  intro t0 d kind2 g c res h  a;unfold xn at a;refine zb Tryz.func45 rfl (by kernel_rfl) (yV 85 rfl) (R.r ?_);refine zi a (λy1 hy1 a=>ix hy1 (R.r ?_));refine zi a (λv2 hv2 a=>cp (ok78 (λ_ _ v L M hv=>ok79  hv) hv2) (R.r ?_));refine zi a (λy3 hy3 a=>ix hy3 (R.r ?_));refine zc rfl (yQ (cs':=[.str y3,.osl none 9 (([]:List GE).map GE.row),.osl none 3 (([]:List GA).map GA.row)]) rfl su56 ze56 pl56 (zk gg zq) (.cons (za rfl) .nil) rfl rfl) ss ?_;refine zc rfl (wy (n:=2) rfl ze56 rfl) ss ?_;refine zc rfl (zQ (cs':=[.str y3,.osl none 9 (([]:List GE).map GE.row),.osl none 3 (([]:List GA).map GA.row)]) rfl ty56.choose_spec.1 gg gg (za rfl) rfl rfl rfl rfl rfl) rfl ?_;refine zD (zU ?_);refine r_join (λ(b:zd×(List GE)×(List GA))=>zo 2 2 (zo 5 2 (zo 9 2 (zo 14 71 [])))) (λb=>h.ext [.cells [.int .u8 kind2],.cells (GE.row g),.cells [.str b.1,.sl 9 (b.2.1.map GE.row),.sl 3 (b.2.2.map GA.row)]] []) a (λ_=>by simp only [zo,x5,ue,uf];try rfl) (λo1 a P=>?_) (λb a=>?_)
  ·apply R.r;refine zf gg a (λhc6 a=>?_) (λhc6 a=>?_)
   ·apply R.r;refine zi a (λY X a=>zc rfl (yh rfl el23 gg gg isl X (GA.row_eq _)) ss (R.r ?_));refine q_join ?_;cases a;exact ⟨(Y.name,Y.leaves,Y.subs),P,wk.le LEL.o⟩
   ·apply R.r;refine q_join ?_;cases a;exact ⟨(y3,([]:List GE),([]:List GA)),P,wk.trans (wk_leB (j:=2) rfl LEL.o rfl rfl) (wk.le LEL.o)⟩
  ·refine r_join (λ(s2:(List GE)×(List GA))=>zo 1 10 (zo 14 71 [])) (λs2=>h.ext [.cells [.int .u8 kind2],.cells (GE.row g),.cells [.str b.1,.sl 9 (s2.1.map GE.row),.sl 3 (s2.2.map GA.row)]] []) a (λ_=>by simp only [zo,x5,ue,uf];try rfl) (λo2 a u=>?_) (λs2 a=>?_)
   ·apply R.r;refine ln λp=>?_;replace p:=zZ p;apply R.r;refine zf gg a (λA a=>?_) (λA a=>?_)
    ·refine yl [7] [] trivial mixed (by kernel_rfl) (R.r ?_);refine zi a (λm20 C a=>zx rfl rfl (wi rfl el37 gg (.inl rfl) (.some rfl) .none C) ss (R.r ?_));refine zi a (λw H a=>zK rfl rfl (λ_=>sc rfl) (by rintro _ ⟨B2,T2,rfl,hk2⟩;exact ih H) ss (R.r ?_));refine zP rfl (FOk.cons (.inr (yo trivial)) FOk.nil) (by kernel_rfl) rfl (zQ (cs':=[.str b.1,.sl 9 (b.2.1.map GE.row),.sl 3 (w.map GA.row)]) rfl ty23 gg gg (za rfl) rfl rfl rfl rfl rfl) rfl (R.r ?_);refine q_join ?_;cases a;exact ⟨(b.2.1,w),u,wk.le LEL.o⟩
    ·apply R.r;refine zi a (λv22 x a=>xU rfl (sc rfl) (row_new (B':=[.cells [.int .u8 kind2],.cells (GE.row g),.cells [.str b.1,.sl 9 (b.2.1.map GE.row),.sl 3 (b.2.2.map GA.row)],rwA h 0 9 (v22.map GE.row)]) (T':=[v22.length]) (okR82 x) rfl rfl rfl rfl) ss ?_);refine zc rfl (qv rfl rfl rfl) ss ?_;refine zi a (λv23 V a=>ops_turn (B1:=[.cells [.int .u8 kind2],.cells (GE.row g),.cells [.str b.1,.sl 9 (b.2.1.map GE.row),.sl 3 (b.2.2.map GA.row)]]) (T1:=[]) (j:=3) (i:=0) (B':=[.cells [.int .u8 kind2],.cells (GE.row g),.cells [.str b.1,.sl 9 (b.2.1.map GE.row),.sl 3 (b.2.2.map GA.row)],.dead,rwA h 1 9 (v23.map GE.row)]) rfl (yc rfl rfl rfl (zu gg (zu gg zV)) (.cons (za rfl) (.cons (za rfl) .nil))) (okR81 (by simp [AH.ext]) (by simp [AH.ext]) (λ_ v L M hv=>ok83 (blk_ext2 (j:=0) rfl) hv) (λ_ _ _ _=>rfl) (λn m h1 h2=>by simp [AH.ext] at h1;simp [zG,AV.low];omega) V) rfl rfl ss rfl (λe=>?_));apply R.r;refine zf gg a (λB a=>?_) (λB a=>?_)
     ·apply R.r;refine yl [3] [] trivial mixed (by kernel_rfl) (R.r ?_);refine zi a (λv25 G a=>zK rfl rfl (λ_=>sc rfl) (by rintro _ ⟨B2,T2,rfl,hk2⟩;exact ok84 G) ss ?_);refine zx rfl rfl (zw (es:=([v25]:List GE).map GE.row) rfl el54 ze47 rfl rfl (zk gg zq) (.cons (za rfl) .nil) rfl rfl rfl) ss ?_;refine yj a (λy a=>zP rfl (FOk.cons (.inr (yo trivial)) FOk.nil) (by kernel_rfl) rfl (e_appR (i:=4) (j:=1) (B':=[.cells [.int .u8 kind2],.cells (GE.row g),.cells [.str b.1,rsA h 4 1 9 (v23.length),.sl 3 (b.2.2.map GA.row)],.dead,rwA h 1 9 ((v23++([v25]:List GE)).map GE.row)]) (T':=[e,((v23++([v25]:List GE))).length]) rfl rfl rfl rfl el54 el54 gg gg rfl (za rfl) yq y rfl rfl rfl rfl rfl) ss (R.r ?_));refine zP rfl (FOk.cons (.inr (yo trivial)) FOk.nil) (by kernel_rfl) rfl (zQ (cs':=[.str b.1,rsA h 4 1 9 (((v23++([v25]:List GE))).length),.sl 3 (b.2.2.map GA.row)]) rfl ty54 gg gg (za rfl) rfl rfl rfl rfl rfl) rfl (R.r ?_);refine zi a (λl f a=>xU rfl (sc rfl) (spec_sortO sort85TryzLays Tryz.isAgg47 Tryz.sizeOf47 (λ_=>rfl) (λ_=>rfl) (λ_=>by simp [plL,AV.pl,plE_map,zC,intRow,byteRow,boolRow,GJ.row,GF.row,GI.row,GE.row,GC.row,GH.row,GK.row]) (enters_fn Tryz.func86 rfl (by kernel_rfl)) (λ_ _ _ h=>ok86 h) f (i:=4) (B':=[.cells [.int .u8 kind2],.cells (GE.row g),.cells [.str b.1,rsA h 4 1 9 (((v23++([v25]:List GE))).length),.sl 3 (b.2.2.map GA.row)],.dead,rwA h 1 9 (l.map GE.row)]) rfl rfl) ss (R.r ?_));refine q_join ?_;cases a;exact ⟨(l,b.2.2),u,wk.trans (wk.trans ((swk_freezeB (j:=4) (jb:=2) (m:=1) (B':=[.cells [.int .u8 kind2],.cells (GE.row g),.cells [.str b.1,.sl 9 (l.map GE.row),.sl 3 (b.2.2.map GA.row)],.dead,.dead]) (T':=[e,(l.map GE.row).length+1]) rfl (by exact (.s16 (.s16 (.s16 (.s4 (.s4 (.cons (FzA.hit2 _ _ (by rw [uA];exact pL (sortO_len f))) (.s (.s (.cons (FzA.hit2 _ _ (by rw [uA];exact pL (sortO_len f))) (FzL.refl _))))))))))) rfl (by exact (.s (.cons (FzA.hit2 _ _ (by rw [uA];exact pL (sortO_len f))) (FzL.refl _)))) rfl rfl).wk) (wk.le LEL.o)) (z8 (by simp [zG,AV.low]) rfl rfl (by simp [Blk.low,zG,AV.low]))⟩
     ·apply R.r;refine q_join ?_;cases a;exact ⟨(v23,b.2.2),u,wk.trans (wk.trans ((swk_freezeB (j:=4) (jb:=2) (m:=1) (B':=[.cells [.int .u8 kind2],.cells (GE.row g),.cells [.str b.1,.sl 9 (v23.map GE.row),.sl 3 (b.2.2.map GA.row)],.dead,.dead]) (T':=[e,(v23.map GE.row).length+1]) rfl (by exact (.s16 (.s16 (.s16 (.cons (FzA.hit2 _ _ (by simp)) (FzL.refl _)))))) rfl (by exact (.s (.cons (FzA.hit2 _ _ (by simp)) (FzL.refl _)))) rfl rfl).wk) (wk.le LEL.o)) (z8 (by simp [zG,AV.low]) rfl rfl (by simp [Blk.low,zG,AV.low]))⟩
   ·apply R.r;refine zi a (λm28 N a=>zc rfl (wi rfl el23 gg (.inl rfl) .none (.some gg) N) ss ?_);refine zi a (λk E a=>xU rfl (sc rfl) (vj (T':=[k.length]) (ok87 E) (m:=0) rfl rfl) ss (R.r ?_));refine ln λq=>?_;replace q:=zZ q;apply R.r;refine ln λt=>?_;replace t:=zZ t;apply R.r;refine zf gg a (λD a=>?_) (λD a=>?_)
    ·apply R.r;refine zc rfl (zw (es:=([(GA.mk b.1 s2.1 s2.2)]:List GA).map GA.row) rfl el23 ze56 rfl rfl (zk gg zq) (.cons (za rfl) .nil) rfl rfl (by simp only [uD,tS,GA.row_eq];rfl)) ss ?_;refine yj a (λI a=>zc rfl (yH (j:=0) (T':=[((k++([(GA.mk b.1 s2.1 s2.2)]:List GA))).length]) rfl rfl rfl rfl el23 el23 gg gg (za rfl) (za rfl) yq I rfl rfl) ss (R.r ?_));refine zf gg a (λQ a=>?_) (λQ a=>?_)
     ·apply R.r;refine zi a (λm35 F a=>zc rfl (wi rfl el23 gg (.inl rfl) (.some gg) .none F) ss ?_);refine yj a (λT a=>zc rfl (yH (j:=0) (T':=[(((k++([(GA.mk b.1 s2.1 s2.2)]:List GA))++m35)).length]) rfl rfl rfl rfl el23 el23 gg gg (za rfl) (za rfl) xd T rfl rfl) ss (R.r ?_));cases a;exact fe rfl rfl (leV.osl _ _ _)
     ·apply R.r;refine zi a (λm37 K a=>zc rfl (wi rfl el23 gg (.inl rfl) (.some gg) .none K) ss ?_);refine yj a (λO a=>zc rfl (yH (j:=0) (T':=[(((k++([(GA.mk b.1 s2.1 s2.2)]:List GA))++m37)).length]) rfl rfl rfl rfl el23 el23 gg gg (za rfl) (za rfl) xd O rfl rfl) ss (R.r ?_));cases a;exact fe rfl rfl (leV.osl _ _ _)
    ·apply R.r;refine zf gg a (λU a=>?_) (λU a=>?_)
     ·apply R.r;refine zi a (λZ S a=>zc rfl (wi rfl el23 gg (.inl rfl) (.some gg) .none S) ss ?_);refine yj a (λW a=>zc rfl (yH (j:=0) (T':=[((k++Z)).length]) rfl rfl rfl rfl el23 el23 gg gg (za rfl) (za rfl) xd W rfl rfl) ss (R.r ?_));cases a;exact fe rfl rfl (leV.osl _ _ _)
     ·apply R.r;refine zi a (λm42 z a=>zc rfl (wi rfl el23 gg (.inl rfl) (.some gg) .none z) ss ?_);refine yj a (λJ a=>zc rfl (yH (j:=0) (T':=[((k++m42)).length]) rfl rfl rfl rfl el23 el23 gg gg (za rfl) (za rfl) xd J rfl rfl) ss (R.r ?_));cases a;exact fe rfl rfl (leV.osl _ _ _)
theorem ok45 {b:(List zd)} {c:GE} {a:Bool} {res:(List GA)}  (e:diffXlay t0 b kind2 c a=some res):Sp 45 [.sl 3 (t0.map GA.row),.sl 1 (b.map zC),.int .u8 kind2,.agg (GE.row c),.bool a] h (yy (.sl 3 (res.map GA.row)) h):=by
 obtain ⟨n,d⟩:=anyN_is e;exact ok45N n d
theorem ok12 {t:(List GC)} {res:((List GA)×Int)}  (a:vl t0 t=some res):Sp 12 [.sl 3 (t0.map GA.row),.sl 22 (t.map GC.row)] h (yy (.tup [.sl 3 (res.1.map GA.row),.int .i64 res.2]) h):=by
 unfold vl at a;refine zb Tryz.func12 rfl (by kernel_rfl) (yV 67 rfl) (R.r ?_);refine zi a (λy i a=>cp (ok21 i) (R.r ?_));refine zN a (λA l a=>zA rfl sc (λj=>ok9 (l j)) ss (R.r ?_));refine zf gg a (λs a=>?_) (λs a=>?_)
 ·apply R.r;cases a;exact fe rfl rfl (leV.tup (.cons (leV.osl _ _ _) (.eq leL.nil)))
 ·apply R.r;refine zc rfl (zw (es:=([([42,42]:zd)]:List zd).map zC) rfl el37 ze9 rfl rfl (zk rfl zq) (.cons (za rfl) .nil) rfl rfl rfl) ss ?_;refine zi a (λv4 k a=>cp ((ok43 k).le (.eq (.cons (leV.osl _ _ _) leL.nil))) (R.r ?_));refine ln λb=>?_;replace b:=zZ b;apply R.r;refine zB (λ(u:Nat) (n:(List GA))=>zo 1 5 (zo 7 19 (zo 29 38 [(6,.sl 3 (n.map GA.row)),(28,.int .i64 (u:Int))]))) (λn=>h.ext [] []) a (λ_ _=>by simp only [zo,x5,ue,uf];try rfl) (wk.le LEL.o) ?_;intro u n v a;apply R.r;refine zL gg a (λB z q m a g=>?_) (λa=>?_)
  ·apply R.r;refine ix (zF m) (R.r ?_);refine zi a (λx c a=>cp (ok44 c) (R.r ?_));refine zc rfl (yK rfl gg gg (wn ty4)) ss (R.r ?_);refine zN a (λw d a=>zA (aG_gv rfl rfl rfl) sc (λj=>ok32 (d j)) ss (R.r ?_));refine zf gg a (λf a=>?_) (λf a=>?_)
   ·apply R.r;cases a;replace a:=g;apply R.r;cases a;exact fe rfl rfl (leV.tup (.cons (leV.osl _ _ _) (.eq leL.nil)))
   ·apply R.r;refine zi a (λp e a=>cp (ok45 e) (R.r ?_));cases a;exact ⟨p,q,g,wk.trans (wk.le (by exact (.eq (.d4 (.drop (.cons (leV.of_eq rfl) (.d16 (.drop (.drop (.drop (.eq (.eq (.cons (leV.of_eq (yF (by omega) (by omega))) (.d16 (.d16 (.d4 (.drop (.drop leL.nil)))))))))))))))))) (z8 (by simp [zG,AV.low]) rfl rfl (by simp [Blk.low,zG,AV.low]))⟩
  ·apply R.r;cases a;exact fz rfl rfl
end Go.Vv
