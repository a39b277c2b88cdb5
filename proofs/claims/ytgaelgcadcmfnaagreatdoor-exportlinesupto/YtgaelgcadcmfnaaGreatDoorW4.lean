/- Each function that the law reaches computes what its reading says; printed by a program. -/
import Derived.Test.YtgaelgcadcmfnaaGreatDoorW3
set_option linter.all false
namespace Go.Vv
open Go Go.Proofs
set_option maxRecDepth 100000
set_option synthInstance.maxSize 100000
set_option synthInstance.maxHeartbeats 1000000
set_option maxHeartbeats 1000000
variable {res:Bool} {h:AH} {kind2:Int} {l0 x0:GE} {t0:(List GA)} {i0:Nat} {s0:(List GE)} {f1:(GE->Option Bool)} {ff1:FuncId} {af1 kf1:List AV} {n0:GA}
theorem ok169 {x0:zd}  (a:xf x0=some res):Sp 169 [.str x0] h (yv (.bool res) h):=by
 unfold xf at a;refine za Tryz.func169 rfl (by kernel_rfl) (yx 6 rfl) (R.r ?_);cases a;exact fz rfl rfl
theorem ok117 {x0:zd} {j:zd} {res:Int}  (a:yi x0 j=some res):Sp 117 [.str x0,.str j] h (yv (.int .i64 res) h):=by
 unfold yi at a;refine za Tryz.func117 rfl (by kernel_rfl) (yx 20 rfl) (R.r ?_);refine zf a (λk f a=>cp (ok169 f) (R.r ?_));refine zf a (λv2 b a=>cp (ok169 b) (R.r ?_));refine zi gg a (λi a=>?_) (λi a=>?_)
 ·apply R.r;refine zi gg a (λd a=>?_) (λd a=>?_)
  ·apply R.r;cases a;exact fz rfl rfl
  ·apply R.r;cases a;exact fz rfl rfl
 ·apply R.r;refine zi gg a (λc a=>?_) (λc a=>?_)
  ·apply R.r;cases a;exact fz rfl rfl
  ·apply R.r;refine zi gg a (λe a=>?_) (λe a=>?_)
   ·apply R.r;cases a;exact fz rfl rfl
   ·apply R.r;refine zi gg a (λg a=>?_) (λg a=>?_)
    ·apply R.r;cases a;exact fz rfl rfl
    ·apply R.r;cases a;exact fz rfl rfl
theorem ok78 {l:(List zd)} {m:(List zd)} {res:Int}  (a:yk l m=some res):Sp 78 [.sl 1 (l.map zg),.sl 1 (m.map zg)] h (yv (.int .i64 res) h):=by
 unfold yk at a;refine za Tryz.func78 rfl (by kernel_rfl) (yx 36 rfl) (R.r ?_);refine ln λf=>?_;replace f:=yl f;apply R.r;refine zF (λ(t:Nat) (s:Unit)=>zu 2 7 (zu 12 24 [(11,.int .i64 (t:Int))])) (λs=>h.ext [] []) a (λ_ _=>by simp only [zu,vE,ul,um];try rfl) (wk.le LEL.o) ?_;intro t s u a;apply R.r;refine zT gg a (λy x q p a e=>?_) (λa=>?_)
 ·apply R.r;refine ix (zM p) (R.r ?_);refine ln λc=>?_;replace c:=yl c;apply R.r;refine zi gg a (λk a=>?_) (λk a=>?_)
  ·apply R.r;cases a;replace a:=e;apply R.r;cases a;exact fz rfl rfl
  ·apply R.r;refine zf a (λw j a=>ix j (R.r ?_));refine zf a (λv n a=>cp (ok117 n) (R.r ?_));refine zi gg a (λg a=>?_) (λg a=>?_)
   ·apply R.r;cases a;replace a:=e;apply R.r;cases a;exact fz rfl rfl
   ·apply R.r;cases a;exact ⟨(),q,e,wk.le (by exact (.eq (.eq (.d4 (.drop (.drop (.drop (.eq (.eq (.cons (leV.of_eq (xB (by omega) (by omega))) (.d16 (.d4 (.d4 leL.nil)))))))))))))⟩
 ·apply R.r;refine ln λd=>?_;replace d:=yl d;apply R.r;refine ln λb=>?_;replace b:=yl b;apply R.r;refine zi gg a (λi a=>?_) (λi a=>?_)
  ·apply R.r;cases a;exact fz rfl rfl
  ·apply R.r;cases a;exact fz rfl rfl
theorem ok38 {a0:GH} {f:GH} {res:Int}  (a:vL a0 f=some res):Sp 38 [.agg (GH.row a0),.agg (GH.row f)] h (yv (.int .i64 res) h):=by
 unfold vL at a;refine za Tryz.func38 rfl (by kernel_rfl) (yx 19 rfl) (R.r ?_);refine yn [4,11,13] [] trivial mixed (by kernel_rfl) (R.r ?_);refine zf a (λg e a=>zw rfl rfl (λ_=>sc rfl) (by rintro _ ⟨B2,T2,rfl,b⟩;exact ok78 e) ss (R.r ?_));refine zf a (λv2 c a=>zw rfl rfl (λ_=>sc rfl) (by rintro _ ⟨B2,T2,rfl,b⟩;exact ok79 c) ss ?_);refine zB rfl rfl (zr (es:=([g,v2]:List Int).map (intRow .i64)) rfl el47 ze3 rfl rfl (ze gg (ze gg zk)) (.cons (zb rfl) (.cons (zb rfl) .nil)) rfl rfl rfl) ss ?_;refine zf a (λv3 d a=>zw rfl rfl (λ_=>sc rfl) (by rintro _ ⟨B2,T2,rfl,b⟩;exact (ok77 d).le (.cons (leV.osl _ _ _) leL.nil)) ss (R.r ?_));cases a;exact fz rfl rfl
theorem ok119 {a:Bool} {f:GE}  (b:xS a f kind2=some res):Sp 119 [.bool a,.agg (GE.row f),.int .u8 kind2] h (yv (.bool res) h):=by
 unfold xS at b;refine za Tryz.func119 rfl (by kernel_rfl) (yx 20 rfl) (R.r ?_);refine zi gg b (λe b=>?_) (λe b=>?_)
 ·apply R.r;refine zc rfl (yf (cs':=lit2x) rfl su34 ze34 pl34 zk .nil rfl rfl) ss ?_;refine zf b (λv2 c b=>cp ((ok56 c).le (.eq (.cons (leV.agg (.eq (.eq (.eq (.eq (.eq (.eq (.eq (.cons (leV.osl _ _ _) (.cons (leV.osl _ _ _) leL.nil))))))))) rfl) leL.nil))) (R.r ?_));cases b;exact fz rfl rfl
 ·apply R.r;refine zZ b (λv3 d b=>zH rfl sc (λg=>ok24 (d g)) ss (R.r ?_));cases b;exact fz rfl rfl
theorem ok120 {a0:GJ} {f:GJ} {res:Int}  (a:qj a0 f=some res):Sp 120 [.agg (GJ.row a0),.agg (GJ.row f)] h (yv (.int .i64 res) h):=by
 unfold qj at a;refine za Tryz.func120 rfl (by kernel_rfl) (yx 17 rfl) (R.r ?_);refine yn [4,9,11] [] trivial mixed (by kernel_rfl) (R.r ?_);refine zf a (λg e a=>zw rfl rfl (λ_=>sc rfl) (by rintro _ ⟨B2,T2,rfl,b⟩;exact ok78 e) ss (R.r ?_));refine zf a (λv2 c a=>zw rfl rfl (λ_=>sc rfl) (by rintro _ ⟨B2,T2,rfl,b⟩;exact ok79 c) ss ?_);refine zB rfl rfl (zr (es:=([g,v2]:List Int).map (intRow .i64)) rfl el47 ze3 rfl rfl (ze gg (ze gg zk)) (.cons (zb rfl) (.cons (zb rfl) .nil)) rfl rfl rfl) ss ?_;refine zf a (λv3 d a=>zw rfl rfl (λ_=>sc rfl) (by rintro _ ⟨B2,T2,rfl,b⟩;exact (ok77 d).le (.cons (leV.osl _ _ _) leL.nil)) ss (R.r ?_));cases a;exact fz rfl rfl
theorem ok80 {l0:(List GJ)}  (a:diffMay l0=some res):Sp 80 [.sl 22 (l0.map GJ.row)] h (yv (.bool res) h):=by
 unfold diffMay at a;refine za Tryz.func80 rfl (by kernel_rfl) (yx 89 rfl) (R.r ?_);refine ln λd=>?_;replace d:=yl d;apply R.r;refine zF (λ(s:Nat) (q:Unit)=>zu 1 6 (zu 10 79 [(9,.int .i64 (s:Int))])) (λq=>h.ext [] []) a (λ_ _=>by simp only [zu,vE,ul,um];try rfl) (wk.le LEL.o) ?_;intro s q t a;apply R.r;refine zT gg a (λA z p n a c=>?_) (λa=>?_)
 ·apply R.r;refine ix (zM n) (R.r ?_);refine zZ a (λu m a=>zH rfl sc (λb=>ok56 (m b)) ss (R.r ?_));refine zf a (λy e a=>cp (ok23 e) (R.r ?_));refine zZ a (λv i a=>zH rfl sc (λb=>ok119 (i b)) ss (R.r ?_));refine zZ a (λx f a=>zH rfl sc (λb=>ok119 (f b)) ss (R.r ?_));refine zi gg a (λg a=>?_) (λg a=>?_)
  ·apply R.r;cases a;replace a:=c;apply R.r;cases a;exact fz rfl rfl
  ·apply R.r;refine xk (by kernel_rfl) (R.r ?_);refine z7 a (λl a=>dgix l (R.r ?_));refine zZ a (λw k a=>x7 rfl rfl sc (λb=>ok120 (k b)) ss (R.r ?_));refine zi gg a (λj a=>?_) (λj a=>?_)
   ·apply R.r;cases a;replace a:=c;apply R.r;cases a;exact fz rfl rfl
   ·apply R.r;cases a;exact ⟨(),p,c,wk.trans (wk.le (by exact (.eq (.d4 (.drop (.drop (.eq (.eq (.cons (leV.of_eq (xB (by omega) (by omega))) (.d16 (.d16 (.d16 (.d16 (.d4 (.d4 (.d4 (.drop (.drop (.drop leL.nil))))))))))))))))))) (zN (by simp [zy,AV.low]) rfl rfl (by simp [Blk.low,zy,AV.low]))⟩
 ·apply R.r;cases a;exact fz rfl rfl
theorem ok170 {f:(List zd)} {res:((List zd)×Bool)}  (a:vw f=some res):Sp 170 [.sl 1 (f.map zg)] h (yv (.tup [.sl 1 (res.1.map zg),.bool res.2]) h):=by
 unfold vw at a;refine za Tryz.func170 rfl (by kernel_rfl) (yx 22 rfl) (R.r ?_);refine ln λb=>?_;replace b:=yl b;apply R.r;refine z7 a (λd a=>gix d (R.r ?_));refine zi gg a (λc a=>?_) (λc a=>?_)
 ·apply R.r;refine zf a (λm4 e a=>zc rfl (s_slcSl rfl el24 gg (.inl rfl) .none (.some gg) e) ss (R.r ?_));cases a;exact fz rfl rfl
 ·apply R.r;cases a;exact fz rfl rfl
theorem ok171 {s0:zd}  (a:wq s0=some res):Sp 171 [.str s0] h (yv (.bool res) h):=by
 unfold wq at a;refine za Tryz.func171 rfl (by kernel_rfl) (yx 10 rfl) (R.r ?_);refine zZ a (λd b a=>zH rfl sc (λc=>ok50 (b c)) ss (R.r ?_));cases a;exact fz rfl rfl
theorem ok121 {e:(List zd)}  (a:xE e=some res):Sp 121 [.sl 1 (e.map zg)] h (yv (.bool res) h):=by
 unfold xE at a;refine za Tryz.func121 rfl (by kernel_rfl) (yx 28 rfl) (R.r ?_);refine zf a (λj c a=>cp (ok170 c) (R.r ?_));refine ln λb=>?_;replace b:=yl b;apply R.r;refine lng λi=>R.r ?_;refine zZ a (λv4 d a=>zH rfl sc (λg=>ok48 (λ_ v L M f=>ok171  f) (d g)) ss (R.r ?_));cases a;exact fz rfl rfl
theorem ok122N (n:Nat):∀{t0:(List GA)} {d:(List zd)} {s:((List zd)->Option Bool)} {i:FuncId} {f g:List AV} {res:(List GA)} {h:AH} (k:∀x0 v (L:List Blk) (M:List Nat),s x0=some v->Sp i (f++[.sl 1 (x0.map zg)]++g) (h.ext L M) (yv (.bool v) (h.ext L M))),wx n t0 d s=some res->Sp 122 [.sl 3 (t0.map GA.row),.sl 1 (d.map zg),.fn (.func i) f g] h (yv (.sl 3 (res.map GA.row)) h):=by
 induction n with
 | zero=>intro t0 d s i f g res h k c;simp [wx] at c
 | succ n ih =>
  intro t0 d s i f g res h k c;unfold wx at c;refine zO Tryz.func122 rfl (by kernel_rfl) (yx 65 rfl) (λo Y=>?_);simp only [zy,AV.low,ud,u5,tF] at o;have a:∀n m,h.blks.length<=n->h.toks.length<=m->zy n m f=true:=λn m P O=>ya P O _ (by simp [o]);have b:∀n m,h.blks.length<=n->h.toks.length<=m->zy n m g=true:=λn m P O=>ya P O _ (by simp [o]);apply R.r;refine ln λy=>?_;replace y:=yl y;apply R.r;refine zF (λ(S:Nat) (q:(List GA))=>zu 3 3 (zu 7 6 (zu 16 49 [(0,.any),(6,ve h 0 3 (q.map GA.row)),(15,.int .i64 (S:Int))]))) (λq=>h.ext [] [q.length]) c (λ_ _=>by simp only [zu,vE,ul,um];try rfl) (wk.trans (wk_tok gt6 rfl st6 rfl) (wk.le (by exact (.drop (.eq (.eq (.drop (.drop (.drop (.cons (leV.of_eq rfl) (.d4 (.drop (.drop (.eq (.eq (.cons (leV.of_eq rfl) (.d16 (.d16 (.d16 (.drop leL.nil)))))))))))))))))))) ?_;intro S q U c;apply R.r;refine zT gg c (λe o1 J Q c K=>?_) (λc=>?_)
  ·apply R.r;refine zc rfl (yN rfl el23 gg gg isl (zM Q) (GA.row_eq _)) ss (R.r ?_);refine xk (by kernel_rfl) (R.r ?_);refine zf c (λl C c=>x8 rfl FOk.nil (by rfl) rfl (sc rfl) (qY (T':=[q.length,l.length]) (ok90 C) (m:=1) rfl rfl) ss (R.r ?_));refine zB rfl rfl (zr (es:=([e.name]:List zd).map zg) rfl el24 ze9 rfl rfl (ze gg zk) (.cons (zb rfl) .nil) rfl rfl rfl) ss ?_;refine z7 c (λI c=>wF rfl FOk.nil (by rfl) rfl (xw (j:=1) (T':=[q.length,((l++([e.name]:List zd))).length]) rfl rfl rfl rfl el24 el24 gg gg (zb rfl) (zb rfl) yI I rfl rfl) ss (R.r ?_));refine yn [1,3,6] [(1,[(0,.cells [.str e.name,.sl 9 (e.leaves.map GE.row),.sl 3 (e.subs.map GA.row)])]),(3,[(0,.cells [.str e.name,.sl 9 (e.leaves.map GE.row),.sl 3 (e.subs.map GA.row)])])] ⟨⟨rfl,trivial⟩,⟨rfl,trivial⟩,trivial⟩ mixed (by kernel_rfl) (R.r ?_);refine draw_okN rfl rfl (by rintro _ ⟨B2,T2,rfl,p⟩;exact wn rfl ty9 gg (keeps1 p) (yy rfl) (zb rfl)) ss (R.r ?_);refine draw_okN rfl rfl (by rintro _ ⟨B2,T2,rfl,p⟩;exact wn rfl ty23 gg (keeps1 p) (yy rfl) (zb rfl)) ss (R.r ?_);refine zf c (λv34 G c=>zw rfl rfl (λ_=>sc rfl) (by rintro _ ⟨B2,T2,rfl,p⟩;exact (ih (λx0 v L M W=>by rw [yZ];exact k x0 v _ _ W) G).le (.eq (.cons (leV.osl _ _ _) (.eq leL.nil)))) ss ?_);refine zB rfl rfl (yf (cs':=[.str e.name,.osl none 9 (([]:List GE).map GE.row),.sl 3 (v34.map GA.row)]) rfl su94 ze94 pl94 (ze gg (ze gg zk)) (.cons (zb rfl) (.cons (zb rfl) .nil)) rfl rfl) ss ?_;refine zX rfl (FOk.cons (.inr (yT ⟨rfl,trivial⟩)) (FOk.cons (.inr (yT ⟨rfl,trivial⟩)) (FOk.cons (.inr (yT trivial)) FOk.nil))) (by kernel_rfl) rfl (e_alloc (n:=1) rfl ze94 rfl) ss ?_;refine zX rfl (FOk.cons (.inr (yT ⟨rfl,trivial⟩)) (FOk.cons (.inr (yT ⟨rfl,trivial⟩)) (FOk.cons (.inr (yT trivial)) FOk.nil))) (by kernel_rfl) rfl (yo (cs':=[.str e.name,.osl none 9 (([]:List GE).map GE.row),.sl 3 (v34.map GA.row)]) rfl ty94.choose_spec.1 gg gg (zb rfl) rfl rfl rfl rfl rfl) rfl (R.r ?_);refine ln λt=>?_;replace t:=yl t;apply R.r;refine zF (λ(T:Nat) (s2:(List GE))=>zu 3 3 (zu 7 2 (zu 11 2 (zu 16 18 (zu 37 28 [(0,.any),(36,.int .i64 (T:Int))]))))) (λs2=>h.ext [.cells [.str e.name,.sl 9 (e.leaves.map GE.row),.sl 3 (e.subs.map GA.row)],.cells [.str e.name,ve h 2 9 (s2.map GE.row),.sl 3 (v34.map GA.row)]] [q.length,((l++([e.name]:List zd))).length,s2.length]) c (λ_ _=>by simp only [zu,vE,ul,um];try rfl) (wk.trans (wk_tokB (j:=1) rfl gt1 rfl st1 rfl rfl) (wk.le (by exact (.drop (.eq (.eq (.drop (.drop (.drop (.eq (.drop (.drop (.eq (.eq (.drop (.drop (.eq (.eq (.eq (.d16 (.drop (.drop (.eq (.eq (.cons (leV.of_eq rfl) (.d16 (.d4 (.d4 (.d4 leL.nil))))))))))))))))))))))))))))) ?_;intro T s2 V c;apply R.r;refine zT gg c (λx2 Z B N c E=>?_) (λc=>?_)
   ·apply R.r;refine ix (zM N) (R.r ?_);refine zf c (λX H c=>yO rfl (scC rfl) ((k _ _ _ _ H).le (leL.app (leL.pre (.cons (leV.osl _ _ _) leL.nil)))) ss (R.r ?_));refine zi gg c (λx c=>?_) (λx c=>?_)
    ·refine yn [3] [] trivial mixed (by kernel_rfl) (R.r ?_);refine zf c (λv51 A c=>zw rfl rfl (λ_=>sc rfl) (by rintro _ ⟨B2,T2,rfl,p⟩;exact ok91 A) ss ?_);refine zB rfl rfl (zr (es:=([v51]:List GE).map GE.row) rfl el92 ze34 rfl rfl (ze gg zk) (.cons (zb rfl) .nil) rfl rfl rfl) ss ?_;refine z7 c (λz c=>wF rfl (FOk.cons (.inr (yT trivial)) FOk.nil) (by rfl) rfl (xw (j:=2) (T':=[q.length,((l++([e.name]:List zd))).length,((s2++([v51]:List GE))).length]) rfl rfl rfl rfl el92 el92 gg gg (zb rfl) (zb rfl) yI z rfl rfl) ss (R.r ?_));refine zX rfl (FOk.cons (.inr (yT trivial)) FOk.nil) (by kernel_rfl) rfl (yo (cs':=[.str e.name,ve h 2 9 ((s2++([v51]:List GE)).map GE.row),.sl 3 (v34.map GA.row)]) rfl ty92 gg gg (zb rfl) rfl rfl rfl rfl rfl) rfl (R.r ?_);cases c;exact ⟨(s2++([v51]:List GE)),B,E,wk.trans (wk.le (by exact (.drop (.eq (.eq (.drop (.drop (.drop (.eq (.drop (.drop (.eq (.eq (.drop (.drop (.eq (.eq (.eq (.d16 (.drop (.drop (.eq (.eq (.cons (leV.of_eq (xB (by omega) (by omega))) (.d16 (.d4 (.d4 (.d4 leL.nil)))))))))))))))))))))))))))) (zN (by simp [zy,AV.low,a,b]) rfl rfl (by simp [Blk.low,zy,AV.low,a,b]))⟩
    ·apply R.r;cases c;exact ⟨s2,B,E,wk.trans (wk.le (by exact (.drop (.eq (.eq (.drop (.drop (.drop (.eq (.drop (.drop (.eq (.eq (.drop (.drop (.eq (.eq (.eq (.d16 (.drop (.drop (.eq (.eq (.cons (leV.of_eq (xB (by omega) (by omega))) (.d16 (.d4 (.d4 (.d4 leL.nil)))))))))))))))))))))))))))) (zN (by simp [zy,AV.low,a,b]) rfl rfl (by simp [Blk.low,zy,AV.low,a,b]))⟩
   ·apply R.r;refine ln λw=>?_;replace w:=yl w;apply R.r;refine ln λu=>?_;replace u:=yl u;apply R.r;refine zi gg c (λD c=>?_) (λD c=>?_)
    ·apply R.r;refine zc rfl (zr (es:=([(GA.mk e.name s2 v34)]:List GA).map GA.row) rfl el23 ze94 rfl rfl (ze gg zk) (.cons (zb rfl) .nil) rfl rfl (by simp only [uu,tN,GA.row_eq];rfl)) ss ?_;refine z7 c (λF c=>zc rfl (xw (j:=0) (T':=[((q++([(GA.mk e.name s2 v34)]:List GA))).length,((l++([e.name]:List zd))).length,s2.length]) rfl rfl rfl rfl el23 el23 gg gg (zb rfl) (zb rfl) yI F rfl rfl) ss (R.r ?_));cases c;exact ⟨(q++([(GA.mk e.name s2 v34)]:List GA)),J,K,wk.trans (wk.le (by exact (.drop (.eq (.eq (.drop (.drop (.drop (.cons (leV.of_eq rfl) (.d4 (.drop (.drop (.eq (.eq (.cons (leV.of_eq (xB (by omega) (by omega))) (.d16 (.d16 (.d16 (.drop leL.nil))))))))))))))))))) (zN (by simp [zy,AV.low,a,b]) rfl rfl (by simp [Blk.low,zy,AV.low,a,b]))⟩
    ·apply R.r;cases c;exact ⟨q,J,K,wk.trans (wk.le (by exact (.drop (.eq (.eq (.drop (.drop (.drop (.cons (leV.of_eq rfl) (.d4 (.drop (.drop (.eq (.eq (.cons (leV.of_eq (xB (by omega) (by omega))) (.d16 (.d16 (.d16 (.drop leL.nil))))))))))))))))))) (zN (by simp [zy,AV.low,a,b]) rfl rfl (by simp [Blk.low,zy,AV.low,a,b]))⟩
  ·apply R.r;cases c;exact fe rfl rfl (leV.osl _ _ _)
theorem ok122 {a:(List zd)} {e:((List zd)->Option Bool)} {c:FuncId} {b d:List AV} {res:(List GA)} (f:∀x0 v (L:List Blk) (M:List Nat),e x0=some v->Sp c (b++[.sl 1 (x0.map zg)]++d) (h.ext L M) (yv (.bool v) (h.ext L M))) (i:pathsXkept t0 a e=some res):Sp 122 [.sl 3 (t0.map GA.row),.sl 1 (a.map zg),.fn (.func c) b d] h (yv (.sl 3 (res.map GA.row)) h):=by
 obtain ⟨n,g⟩:=anyN_is i;exact ok122N n f g
theorem ok124 {p:(List zd)} {b:(List zd)}  (a:pathsMatch p b=some res):Sp 124 [.sl 1 (p.map zg),.sl 1 (b.map zg)] h (yv (.bool res) h):=by
 unfold pathsMatch at a;refine za Tryz.func124 rfl (by kernel_rfl) (yx 58 rfl) (R.r ?_);refine zf a (λy g a=>cp (ok170 g) (R.r ?_));refine zf a (λv2 i a=>cp (ok121 i) (R.r ?_));refine zZ a (λv3 k a=>zH rfl sc (λv=>ok23 (k v)) ss (R.r ?_));refine lng λs=>R.r ?_;refine lng λu=>R.r ?_;refine lng λw=>R.r ?_;refine lng λx=>R.r ?_;refine zi gg a (λl a=>?_) (λl a=>?_)
 ·apply R.r;cases a;exact fz rfl rfl
 ·apply R.r;refine ln λf=>?_;replace f:=yl f;apply R.r;refine zF (λ(q:Nat) (n:Unit)=>zu 2 38 (zu 43 15 [(0,.any),(42,.int .i64 (q:Int))])) (λn=>h.ext [] []) a (λ_ _=>by simp only [zu,vE,ul,um];try rfl) (wk.le LEL.o) ?_;intro q n t a;apply R.r;refine zT gg a (λA z m j a e=>?_) (λa=>?_)
  ·apply R.r;refine ix (zM j) (R.r ?_);refine z7 a (λd a=>gix d (R.r ?_));refine zi gg a (λc a=>?_) (λc a=>?_)
   ·apply R.r;cases a;replace a:=e;apply R.r;cases a;exact fz rfl rfl
   ·apply R.r;cases a;exact ⟨(),m,e,wk.le (by exact (.drop (.eq (.d16 (.d16 (.d4 (.drop (.drop (.eq (.eq (.cons (leV.of_eq (xB (by omega) (by omega))) (.d4 (.d4 (.d4 (.drop (.drop (.drop leL.nil)))))))))))))))))⟩
  ·apply R.r;cases a;exact fz rfl rfl
theorem ok123 {a:(List zd)} {c0:(List zd)} (c:h.blk i0=some (.cells [.sl 1 (c0.map zg)])) (b:qt a c0=some res):Sp 123 [.sl 1 (a.map zg),.ptr i0 0] h (yv (.bool res) h):=by
 unfold qt at b;refine za Tryz.func123 rfl (by kernel_rfl) (yx 7 rfl) (R.r ?_);refine zc rfl (b_load rfl ty24 gg c (yy rfl) (zb rfl)) ss (R.r ?_);refine zf b (λe d b=>cp (ok124 d) (R.r ?_));cases b;exact fz rfl rfl
theorem ok81 {f:(List zd)} {res:((List GA)×Int)}  (a:wy t0 f=some res):Sp 81 [.sl 3 (t0.map GA.row),.sl 1 (f.map zg)] h (yv (.tup [.sl 3 (res.1.map GA.row),.int .i64 res.2]) h):=by
 unfold wy at a;refine za Tryz.func81 rfl (by kernel_rfl) (yx 17 rfl) (R.r ?_);refine zf a (λk c a=>cp (ok44 c) (R.r ?_));refine zZ a (λv2 b a=>zH rfl sc (λi=>ok121 (b i)) ss (R.r ?_));refine zi gg a (λd a=>?_) (λd a=>?_)
 ·apply R.r;cases a;exact fe rfl rfl (leV.tup (.cons (leV.osl _ _ _) (.eq leL.nil)))
 ·apply R.r;refine zc rfl (vg rfl rfl rfl) ss ?_;refine zf a (λv4 e a=>cp ((ok122 (λ_ v L M g=>ok123 (blk_ext2 (j:=0) rfl) g) e).le (.eq (.cons (leV.osl _ _ _) (.eq leL.nil)))) (R.r ?_));cases a;exact fz rfl rfl
theorem ok128 {a:Int} {res:GE}  (b:vJ a=some res):Sp 128 [.int .u8 a] h (yv (.agg (GE.row res)) h):=by
 unfold vJ at b;refine za Tryz.func128 rfl (by kernel_rfl) (yx 12 rfl) (R.r ?_);refine zi gg b (λc b=>?_) (λc b=>?_)
 ·apply R.r;refine zc rfl (yf (cs':=lit2x) rfl su34 ze34 pl34 zk .nil rfl rfl) ss (R.r ?_);cases b;exact fe rfl rfl (leV.agg (.eq (.eq (.eq (.eq (.eq (.eq (.eq (.cons (leV.osl _ _ _) (.cons (leV.osl _ _ _) leL.nil))))))))) rfl)
 ·apply R.r;refine zc rfl (yf (cs':=[.int .u8 a,.int .i64 (0:Int),.int .u64 (0:Int),.int .u8 (0:Int),.int .u32 (0:Int),.int .u64 (0:Int),.str ([]:zd),.osl none 5 (([]:List GF).map GF.row),.osl none 3 (([]:List GC).map GC.row)]) rfl su34 ze34 pl34 (ze gg zk) (.cons (zb rfl) .nil) rfl rfl) ss (R.r ?_);cases b;exact fe rfl rfl (leV.agg (.eq (.eq (.eq (.eq (.eq (.eq (.eq (.cons (leV.osl _ _ _) (.cons (leV.osl _ _ _) leL.nil))))))))) rfl)
theorem ok172 {s0:(List GA)} {f1:(GA->Option Bool)} {res:Int} (q:∀x0 v (L:List Blk) (M:List Nat),f1 x0=some v->Sp ff1 (af1++[.agg [.str x0.name,.sl 9 (x0.leaves.map GE.row),.sl 3 (x0.subs.map GA.row)]]++kf1) (h.ext L M) (yv (.bool v) (h.ext L M))) (a:yX s0 f1=some res):Sp 172 [.sl 3 (s0.map GA.row),.fn (.func ff1) af1 kf1] h (yv (.int .i64 res) h):=by
 unfold yX at a;refine zO Tryz.func172 rfl (by kernel_rfl) (yx 19 rfl) (λb w=>?_);simp only [zy,AV.low,ud,u5,tF] at b;have j:∀n m,h.blks.length<=n->h.toks.length<=m->zy n m af1=true:=λn m g e=>ya g e _ (by simp [b]);have f:∀n m,h.blks.length<=n->h.toks.length<=m->zy n m kf1=true:=λn m g e=>ya g e _ (by simp [b]);apply R.r;refine ln λc=>?_;replace c:=yl c;apply R.r;refine zF (λ(t:Nat) (s:Unit)=>zu 2 5 (zu 9 10 [(8,.int .i64 (t:Int))])) (λs=>h.ext [] []) a (λ_ _=>by simp only [zu,vE,ul,um];try rfl) (wk.le LEL.o) ?_;intro t s u a;apply R.r;refine zT gg a (λz y p i a d=>?_) (λa=>?_)
 ·apply R.r;refine zc rfl (yN rfl el23 gg gg isl (zM i) (GA.row_eq _)) ss (R.r ?_);refine zf a (λx l a=>yO rfl (scC rfl) (q _ _ _ _ l) ss (R.r ?_));refine zi gg a (λk a=>?_) (λk a=>?_)
  ·apply R.r;cases a;replace a:=d;apply R.r;cases a;exact fz rfl rfl
  ·apply R.r;cases a;exact ⟨(),p,d,wk.le (by exact (.eq (.eq (.d4 (.drop (.eq (.cons (leV.of_eq (xB (by omega) (by omega))) (.d4 (.d4 (.drop (.drop leL.nil)))))))))))⟩
 ·apply R.r;cases a;exact fz rfl rfl
theorem ok173 {c0:zd} (a:h.blk i0=some (.cells [.str c0])) (b:qp n0 c0=some res):Sp 173 [.agg [.str n0.name,.sl 9 (n0.leaves.map GE.row),.sl 3 (n0.subs.map GA.row)],.ptr i0 0] h (yv (.bool res) h):=by
 unfold qp at b;refine za Tryz.func173 rfl (by kernel_rfl) (yx 8 rfl) (R.r ?_);refine zc rfl (b_load rfl ty9 gg a (yy rfl) (zb rfl)) ss (R.r ?_);cases b;exact fz rfl rfl
theorem ok125 {a:zd} {res:(GA×Bool)}  (b:vr t0 a=some res):Sp 125 [.sl 3 (t0.map GA.row),.str a] h (yv (.tup [.agg [.str res.1.name,.sl 9 (res.1.leaves.map GE.row),.sl 3 (res.1.subs.map GA.row)],.bool res.2]) h):=by
 unfold vr at b;refine za Tryz.func125 rfl (by kernel_rfl) (yx 17 rfl) (R.r ?_);refine zc rfl (vg rfl rfl rfl) ss ?_;refine zf b (λi d b=>cp (ok172 (λ_ v L M f=>ok173 (blk_ext2 (j:=0) rfl) f) d) (R.r ?_));refine zi gg b (λe b=>?_) (λe b=>?_)
 ·apply R.r;refine zc rfl (yf (cs':=[.str ([]:zd),.osl none 9 (([]:List GE).map GE.row),.osl none 3 (([]:List GA).map GA.row)]) rfl su94 ze94 pl94 zk .nil rfl rfl) ss (R.r ?_);cases b;exact fe rfl rfl (leV.tup (.cons (leV.agg (.eq (.cons (leV.osl _ _ _) (.cons (leV.osl _ _ _) leL.nil))) rfl) (.eq leL.nil)))
 ·apply R.r;refine zf b (λg c b=>zc rfl (yN rfl el23 gg gg isl c (GA.row_eq _)) ss (R.r ?_));cases b;exact fz rfl rfl
theorem ok126 {res:Int} (q:∀x0 v (L:List Blk) (M:List Nat),f1 x0=some v->Sp ff1 (af1++[.agg (GE.row x0)]++kf1) (h.ext L M) (yv (.bool v) (h.ext L M))) (a:zS s0 f1=some res):Sp 126 [.sl 9 (s0.map GE.row),.fn (.func ff1) af1 kf1] h (yv (.int .i64 res) h):=by
 unfold zS at a;refine zO Tryz.func126 rfl (by kernel_rfl) (yx 19 rfl) (λb w=>?_);simp only [zy,AV.low,ud,u5,tF] at b;have j:∀n m,h.blks.length<=n->h.toks.length<=m->zy n m af1=true:=λn m g e=>ya g e _ (by simp [b]);have f:∀n m,h.blks.length<=n->h.toks.length<=m->zy n m kf1=true:=λn m g e=>ya g e _ (by simp [b]);apply R.r;refine ln λc=>?_;replace c:=yl c;apply R.r;refine zF (λ(t:Nat) (s:Unit)=>zu 2 5 (zu 9 10 [(8,.int .i64 (t:Int))])) (λs=>h.ext [] []) a (λ_ _=>by simp only [zu,vE,ul,um];try rfl) (wk.le LEL.o) ?_;intro t s u a;apply R.r;refine zT gg a (λz y p i a d=>?_) (λa=>?_)
 ·apply R.r;refine ix (zM i) (R.r ?_);refine zf a (λx l a=>yO rfl (scC rfl) (q _ _ _ _ l) ss (R.r ?_));refine zi gg a (λk a=>?_) (λk a=>?_)
  ·apply R.r;cases a;replace a:=d;apply R.r;cases a;exact fz rfl rfl
  ·apply R.r;cases a;exact ⟨(),p,d,wk.le (by exact (.eq (.eq (.d4 (.drop (.eq (.cons (leV.of_eq (xB (by omega) (by omega))) (.d4 (.d4 (.drop (.drop leL.nil)))))))))))⟩
 ·apply R.r;cases a;exact fz rfl rfl
theorem okR126 {w e:Nat} {res:Int} (f:h.blks.length=w) (j:h.toks.length=e) (t:∀x0 v (L:List Blk) (M:List Nat),f1 x0=some v->Sp ff1 (af1++[.agg (GE.row x0)]++kf1) (h.ext L M) (yv (.bool v) (h.ext L M))) (l:∀n m,h.blks.length<=n->h.toks.length<=m->zy n m af1=true) (g:∀n m,h.blks.length<=n->h.toks.length<=m->zy n m kf1=true) (a:zS s0 f1=some res):Sp 126 [.rsl w e 9 s0.length,.fn (.func ff1) af1 kf1] (h.ext [.row e 9 (s0.map GE.row)] [s0.length]) (yv (.int .i64 res) (h.ext [.row e 9 (s0.map GE.row)] [s0.length])):=by
 unfold zS at a;subst f j;refine zt Tryz.func126 rfl (by kernel_rfl) (yx 19 rfl) (R.r ?_);refine ln λb=>?_;replace b:=yl b;apply R.r;refine zF (λ(u:Nat) (x:Unit)=>zu 2 5 (zu 9 10 [(8,.int .i64 (u:Int))])) (λx=>h.ext [rwA h 0 9 (s0.map GE.row)] [s0.length]) a (λ_ _=>by simp only [zu,vE,ul,um];try rfl) (wk.le LEL.o) ?_;intro u x y a;apply R.r;refine zT gg a (λA B s c a d=>?_) (λa=>?_)
 ·apply R.r;refine zc rfl (e_idxR rfl el92 gg gg (idxRn (zM c) rfl)) ss ?_;refine zc rfl (e_ldR (off:=0) (i:=0) (q:=h.toks.length+0) (z:=(u:Int).toNat) (row:=GE.row) (λ_=>rfl) rfl ty34.choose_spec.1 (by decide) gg rfl rfl (idxR (zM c)).2.2 (wN (cs':=(GE.row A)) ty34.choose_spec.2 rfl rfl) (zb rfl)) ss ?_;refine zf a (λC k a=>yO rfl (scC rfl) (t _ _ _ _ k) ss (R.r ?_));refine zi gg a (λp a=>?_) (λp a=>?_)
  ·apply R.r;cases a;replace a:=d;apply R.r;cases a;refine fr rfl (fin_extR (L:=[]) (M:=[]) rfl rfl (leV.refl _) rfl ?_);exact ⟨rfl,rfl⟩
  ·apply R.r;cases a;exact ⟨(),s,d,wk.le (by exact (.eq (.eq (.d4 (.drop (.eq (.cons (leV.of_eq (xB (by omega) (by omega))) (.d4 (.d4 (.drop (.drop leL.nil)))))))))))⟩
 ·apply R.r;cases a;refine fr rfl (fin_extR (L:=[]) (M:=[]) rfl rfl (leV.refl _) rfl ?_);exact ⟨rfl,rfl⟩
theorem ok127 {c0:Int} (a:h.blk i0=some (.cells [.int .u8 c0])) (b:treeLeafC1 l0 c0=some res):Sp 127 [.agg (GE.row l0),.ptr i0 0] h (yv (.bool res) h):=by
 unfold treeLeafC1 at b;refine za Tryz.func127 rfl (by kernel_rfl) (yx 8 rfl) (R.r ?_);refine zc rfl (b_load rfl ty5 gg a (yy rfl) (zb rfl)) ss (R.r ?_);cases b;exact fz rfl rfl
theorem ok82 {b:(List zd)} {res:(GE×Bool)}  (a:treeLeaf t0 b kind2=some res):Sp 82 [.sl 3 (t0.map GA.row),.sl 1 (b.map zg),.int .u8 kind2] h (yv (.tup [.agg (GE.row res.1),.bool res.2]) h):=by
 unfold treeLeaf at a;refine za Tryz.func82 rfl (by kernel_rfl) (yx 66 rfl) (R.r ?_);refine ln λl=>?_;replace l:=yl l;refine zc rfl (xX rfl gg rfl rfl) ss ?_;refine zc rfl (yG rfl gg (zb rfl)) ss ?_;refine ops_nil (q_seq ?_);refine r_join (λ(f:Bool×zd×(List GE)×(List GA))=>zu 0 5 (zu 10 56 [(7,.any),(9,.bool f.1)])) (λf=>h.ext [.cells [.int .u8 kind2],.cells lit2x,.cells [.str f.2.1,.sl 9 (f.2.2.1.map GE.row),.sl 3 (f.2.2.2.map GA.row)]] []) a (λ_=>by simp only [zu,vE,ul,um];try rfl) (λG a w=>?_) (λf a=>?_)
 ·apply R.r;refine ln λd=>?_;replace d:=yl d;apply R.r;refine zF (λ(B:Nat) (s2:(List GA)×Bool×zd×(List GE)×(List GA))=>zu 1 4 (zu 10 7 (zu 20 46 [(7,.any),(0,.sl 3 (s2.1.map GA.row)),(9,.bool s2.2.1),(19,.int .i64 (B:Int))]))) (λs2=>h.ext [.cells [.int .u8 kind2],.cells lit2x,.cells [.str s2.2.2.1,.sl 9 (s2.2.2.2.1.map GE.row),.sl 3 (s2.2.2.2.2.map GA.row)]] []) a (λ_ _=>by simp only [zu,vE,ul,um];try rfl) (wk.trans (wk_leB (j:=2) rfl (by exact (.eq (.cons (leV.osl _ _ _) (.cons (leV.osl _ _ _) leL.nil)))) rfl rfl) (wk.le LEL.o)) ?_;intro B s2 C a;apply R.r;refine zT gg a (λH F A y a p=>?_) (λa=>?_)
  ·apply R.r;refine ix (zM y) (R.r ?_);refine zf a (λv47 t a=>cp (ok125 t) (R.r ?_));refine zi gg a (λu a=>?_) (λu a=>?_)
   ·apply R.r;refine q_block_miss (by decide) (R.r ?_);cases a;replace a:=p;apply R.r;refine q_join ?_;cases a;exact ⟨(v47.2,v47.1.name,v47.1.leaves,v47.1.subs),w,wk.le LEL.o⟩
   ·apply R.r;cases a;exact ⟨(v47.1.subs,v47.2,v47.1.name,v47.1.leaves,v47.1.subs),A,p,wk.le (by exact (.cons (leV.of_eq rfl) (.d4 (.eq (.eq (.drop (.eq (.cons (leV.of_eq rfl) (.d4 (.drop (.drop (.drop (.eq (.eq (.cons (leV.of_eq (xB (by omega) (by omega))) (.d16 (.d16 (.d4 (.d4 (.d4 (.drop (.drop leL.nil))))))))))))))))))))))⟩
  ·apply R.r;refine q_join ?_;cases a;exact ⟨(s2.2.1,s2.2.2.1,s2.2.2.2.1,s2.2.2.2.2),w,wk.le LEL.o⟩
 ·apply R.r;refine zc rfl (vg rfl rfl rfl) ss ?_;refine zf a (λE s a=>cp (ok126 (λ_ v L M D=>ok127 (blk_ext2 (j:=0) rfl) D) s) (R.r ?_));refine zZ a (λv50 i a=>zH rfl sc (λz=>ok128 (i z)) ss ?_);refine qa rfl (λz=>s_field rfl fo34x0 ty5 (zK gg z) rfl (zb rfl)) ss (R.r ?_);refine zi gg a (λg a=>?_) (λg a=>?_)
  ·apply R.r;refine zf a (λv52 x a=>cp (ok128 x) (R.r ?_));cases a;exact fz rfl rfl
  ·apply R.r;refine zf a (λe n a=>ix n (R.r ?_));refine xk (by kernel_rfl) (R.r ?_);refine zf a (λc q a=>x8 rfl FOk.nil (by rfl) rfl (sc rfl) (qY (T':=[c.length]) (ok129 q) (m:=0) rfl rfl) ss (R.r ?_));refine zf a (λv55 k a=>x8 rfl FOk.nil (by rfl) rfl (sc rfl) (qY (T':=[c.length,v55.length]) (ok130 k) (m:=1) rfl rfl) ss (R.r ?_));refine zX rfl FOk.nil (by kernel_rfl) rfl (yo (cs':=(GLeafRw e (ve h 0 5 (c.map GF.row)) (.sl 3 (e.tombs.map GC.row)))) rfl ty31 gg gg (zb rfl) rfl rfl rfl rfl rfl) rfl (R.r ?_);refine zX rfl FOk.nil (by kernel_rfl) rfl (yo (cs':=(GLeafRw e (ve h 0 5 (c.map GF.row)) (ve h 1 3 (v55.map GC.row)))) rfl ty32 gg gg (zb rfl) rfl rfl rfl rfl rfl) rfl (R.r ?_);cases a;exact fe rfl rfl (leV.tup (.cons (leV.agg (.eq (.eq (.eq (.eq (.eq (.eq (.eq (.cons (leV.osl _ _ _) (.cons (leV.osl _ _ _) leL.nil))))))))) rfl) (.eq leL.nil)))
theorem ok131 {x0:(List GA)} {c:zd} {j:(GA->zd->Option Int)} {i:FuncId} {e d:List AV} {res:(Int×Bool)} (g:∀x0 C v (L:List Blk) (M:List Nat),j x0 C=some v->Sp i (e++[.agg [.str x0.name,.sl 9 (x0.leaves.map GE.row),.sl 3 (x0.subs.map GA.row)],.str C]++d) (h.ext L M) (yv (.int .i64 v) (h.ext L M))) (a:zz x0 c j=some res):Sp 131 [.sl 3 (x0.map GA.row),.str c,.fn (.func i) e d] h (yv (.tup [.int .i64 res.1,.bool res.2]) h):=by
 unfold zz at a;refine zO Tryz.func131 rfl (by kernel_rfl) (yx 49 rfl) (λf F=>?_);simp only [zy,AV.low,ud,u5,tF] at f;have w:∀n m,h.blks.length<=n->h.toks.length<=m->zy n m e=true:=λn m z y=>ya z y _ (by simp [f]);have s:∀n m,h.blks.length<=n->h.toks.length<=m->zy n m d=true:=λn m z y=>ya z y _ (by simp [f]);apply R.r;refine ln λp=>?_;replace p:=yl p;apply R.r;refine wX (λ(b:Int×Int)=>zu 3 5 (zu 11 38 [(9,.int .i64 b.1),(10,.int .i64 b.2)])) (λb=>h.ext [] []) a (λ_=>by simp only [zu,vE,ul,um];try rfl) (wk.le LEL.o) ?_;intro I b G a k;apply R.r;refine zi gg a (λB a=>?_) (λB a=>?_)
 ·apply R.r;refine zc rfl (yF rfl ty3 ty208 gg rfl) ss (R.r ?_);refine zc rfl (yF rfl ty208 ty3 gg rfl) ss (R.r ?_);refine zf a (λH A a=>zc rfl (yN rfl el23 gg gg isl A (GA.row_eq _)) ss (R.r ?_));refine zf a (λD u a=>yO rfl (scC rfl) (g _ _ _ _ _ u) ss (R.r ?_));refine zi gg a (λx a=>?_) (λx a=>?_)
  ·apply R.r;cases a;exact ⟨((IntKind.wrap .i64 ((IntKind.wrap .i64 ((Int.fdiv (IntKind.wrap .u64 ((IntKind.wrap .i64 (b.1+b.2)))) (2 ^ (min (1:Int).toNat (IntKind.bits .u64))))))+(1:Int))),b.2),k,wk.le LEL.o⟩
  ·apply R.r;cases a;exact ⟨(b.1,(IntKind.wrap .i64 ((Int.fdiv (IntKind.wrap .u64 ((IntKind.wrap .i64 (b.1+b.2)))) (2 ^ (min (1:Int).toNat (IntKind.bits .u64))))))),k,wk.le LEL.o⟩
 ·apply R.r;cases a;replace a:=k;apply R.r;refine z7 a (λl a=>qa rfl (λq=>s_gidxRowE default rfl el23 (zK gg q) (zK gg q) isl (l q) (GA.row_eq _)) ss (R.r ?_));refine zZ a (λE t a=>zH rfl scC (λq=>g _ _ _ _ _ (t q)) ss (R.r ?_));cases a;exact fz rfl rfl
def scmpTryzRen:Go.Shelf.Ren :=
  { f:=λx=>match x with
      | 106=>133
      | 213=>174
      | 265=>199
      | n=>n
    t:=λx=>match x with
      | 3=>3
      | 9=>9
      | n=>n
    g:=λn=>n }
theorem scmpTryzLays:Go.Proofs.Lays.n106 Tryz.prog scmpTryzRen where
  mixed:=mixed
  f106:=Tryz.func133.trans (by kernel_rfl)
  f213:=Tryz.func174.trans (by kernel_rfl)
  f265:=Tryz.func199.trans (by kernel_rfl)
  t3:=Tryz.underlying3
  a3:=Tryz.isAgg3
  z3:=Tryz.sizeOf3
  v3:=Tryz.zeroValue3
  t9:=Tryz.underlying9
  a9:=Tryz.isAgg9
  z9:=Tryz.sizeOf9
  v9:=Tryz.zeroValue9
theorem ok133 {b:zd} {a:zd} {res:Int} (c:stringsCompare b a=some res):Sp 133 [.str b,.str a] h (yv (.int .i64 res) h):=by
 cases c;exact spec_scompare scmpTryzLays
theorem ok132 {a:zd} {res:Int}  (b:wH n0 a=some res):Sp 132 [.agg [.str n0.name,.sl 9 (n0.leaves.map GE.row),.sl 3 (n0.subs.map GA.row)],.str a] h (yv (.int .i64 res) h):=by
 unfold wH at b;refine za Tryz.func132 rfl (by kernel_rfl) (yx 9 rfl) (R.r ?_);refine zf b (λd c b=>cp (ok133 c) (R.r ?_));cases b;exact fz rfl rfl
theorem okR134 {K F:Nat} {x:(GE->Option Bool)} {t:FuncId} {f g:List AV} {res:(List GE)} (G:h.blks.length=K) (J:h.toks.length=F) (p:∀x0 v (L:List Blk) (M:List Nat),x x0=some v->Sp t (f++[.agg (GE.row x0)]++g) (h.ext L M) (yv (.bool v) (h.ext L M))) (b:∀n m,h.blks.length<=n->h.toks.length<=m->zy n m f=true) (a:∀n m,h.blks.length<=n->h.toks.length<=m->zy n m g=true) (c:yB s0 x=some res):Sp 134 [.rsl K F 9 s0.length,.fn (.func t) f g] (h.ext [.row F 9 (s0.map GE.row)] [s0.length]) (TurnK h K F 9 res.length (res.map GE.row)):=by
 unfold yB at c;subst G J;refine zt Tryz.func134 rfl (by kernel_rfl) (yx 42 rfl) (R.r ?_);refine zf c (λU I c=>cp (row_read (B1:=[]) (T1:=[]) (okR126 (by simp [AH.ext]) (by simp [AH.ext]) (λx0 v L M T=>by rw [yZ];exact p x0 v _ _ T) (λn m N H=>b n m (by simp [AH.ext] at N;omega) (by simp [AH.ext] at H;omega)) (λn m N H=>a n m (by simp [AH.ext] at N;omega) (by simp [AH.ext] at H;omega)) I) rfl rfl) (R.r ?_));refine zi gg c (λO c=>?_) (λO c=>?_)
 ·apply R.r;cases c;refine fr rfl (fin_turn0 (row:=GE.row) ?_);exact ⟨rfl,_,rfl⟩
 ·apply R.r;refine wX (λ(e:Int×Int×(List GE))=>zu 2 3 (zu 7 35 [(5,.int .i64 e.1),(6,.int .i64 e.2.1)])) (λe=>h.ext [rwA h 0 9 (e.2.2.map GE.row)] [s0.length]) c (λ_=>by simp only [zu,vE,ul,um];try rfl) (wk.le LEL.o) ?_;intro W e V c y;refine z7 c (λl c=>R.r ?_);refine ln λP=>R.r ?_;refine zi gg c (λC c=>?_) (λC c=>?_)
  ·apply R.r;refine zf c (λk u c=>zc rfl (e_idxR rfl el92 gg gg (idxRn u l)) ss ?_);refine zc rfl (e_ldR (off:=0) (i:=0) (q:=h.toks.length+0) (z:=e.2.1.toNat) (row:=GE.row) (λ_=>rfl) rfl ty34.choose_spec.1 (by decide) gg rfl l (idxR u).2.2 (wN (cs':=(GE.row k)) ty34.choose_spec.2 rfl rfl) (zb rfl)) ss (R.r ?_);refine zf c (λQ B c=>yO rfl (scC rfl) (p _ _ _ _ B) ss (R.r ?_));refine zi gg c (λD c=>?_) (λD c=>?_)
   ·apply R.r;refine zf c (λS w c=>zc rfl (e_idxR rfl el92 gg gg (idxRn w l)) ss ?_);refine zc rfl (e_stR (off:=0) (i:=0) (q:=h.toks.length+0) (z:=e.1.toNat) (row:=GE.row) (y':=k) (us:=(GE.row k)) (B':=[rwA h 0 9 ((e.2.2.set e.1.toNat k).map GE.row),.cells (GE.row k)]) (λ_=>rfl) rfl ty34.choose_spec.1 gg gg (zb rfl) rfl rfl rfl rfl l (idxR w).2.2 (by decide) rfl rfl) rfl (R.r ?_);cases c;exact ⟨((IntKind.wrap .i64 (e.1+(1:Int))),(IntKind.wrap .i64 (e.2.1+(1:Int))),(e.2.2.set e.1.toNat k)),y,wk.trans (wk.le LEL.o) (zN (by simp [zy,AV.low,b,a]) rfl rfl (by simp [Blk.low,zy,AV.low,b,a]))⟩
   ·apply R.r;cases c;exact ⟨(e.1,(IntKind.wrap .i64 (e.2.1+(1:Int))),e.2.2),y,wk.trans (wk.le LEL.o) (zN (by simp [zy,AV.low,b,a]) rfl rfl (by simp [Blk.low,zy,AV.low,b,a]))⟩
  ·apply R.r;cases c;replace c:=y;apply R.r;refine z7 c (λs c=>ops_b rfl (e_sufR rfl el92 gg gg s) ss ?_);refine ops_b rfl (e_clrR (i:=0) (q:=h.toks.length+0) (L:=e.2.2) (row:=GE.row) (d:=zLf) (B':=[rwA h 0 9 ((e.2.2.take e.1.toNat++List.replicate (s0.length - e.1.toNat) zLf).map GE.row)]) (λ_=>rfl) rfl rfl rfl rfl el92 ze34 rfl gg rfl l (Int.toNat_le.2 s.2) rfl) rfl (R.r ?_);refine zf c (λA E c=>ops_b rfl (e_cutR (i:=0) (j:=0) (L:=(e.2.2.take e.1.toNat++List.replicate (s0.length - e.1.toNat) zLf)) (row:=GE.row) (B':=[.dead,rwA h 1 9 (A.map GE.row)]) (T':=[s0.length+1,A.length]) rfl el92 gg gg rfl (clr_len l (Int.toNat_le.2 s.2)) E rfl rfl rfl rfl) ss (R.r ?_));cases c;refine fr rfl (yE ?_);exact ⟨rfl,_,rfl⟩
theorem okR135 {res:(List GE)}  (a:we s0=some res):Sp 135 [.sl 9 (s0.map GE.row)] h (NewK h 9 res.length (res.map GE.row)):=by
 unfold we at a;refine za Tryz.func135 rfl (by kernel_rfl) (yx 8 rfl) (R.r ?_);refine ops_nilqE rfl rfl el92 gg isl rfl (λ_=>ss) a (λe d a=>R.r ?_);refine zi gg a (λb a=>?_) (λb a=>?_)
 ·apply R.r;cases a;refine fr rfl (fin_row0 ?_);exact ⟨rfl,rfl⟩
 ·apply R.r;refine zc rfl (zr (es:=([]:List GE).map GE.row) rfl el92 ze34 rfl rfl zk .nil rfl rfl rfl) ss (R.r ?_);refine ops_swk (swk_thaw gt5 rfl rfl st5 rfl rfl) ?_;refine z7 a (λc a=>zc rfl (e_appR (i:=0) (j:=0) (B':=[rwA h 0 9 ((([]:List GE)++s0).map GE.row)]) (T':=[((([]:List GE)++s0)).length]) rfl rfl rfl rfl el92 el92 gg gg rfl (zb rfl) vf c rfl rfl rfl rfl rfl) ss (R.r ?_));cases a;refine fr rfl (yE ?_);exact ⟨rfl,rfl⟩
theorem ok136 {c0:Int} (a:h.blk i0=some (.cells [.int .u8 c0])) (b:diffXlayC2 x0 c0=some res):Sp 136 [.agg (GE.row x0),.ptr i0 0] h (yv (.bool res) h):=by
 unfold diffXlayC2 at b;refine za Tryz.func136 rfl (by kernel_rfl) (yx 8 rfl) (R.r ?_);refine zc rfl (b_load rfl ty5 gg a (yy rfl) (zb rfl)) ss (R.r ?_);cases b;exact fz rfl rfl
theorem ok137 {res:GE}  (a:diffXown l0=some res):Sp 137 [.agg (GE.row l0)] h (yv (.agg (GE.row res)) h):=by
 unfold diffXown at a;refine za Tryz.func137 rfl (by kernel_rfl) (yx 12 rfl) (R.r ?_);refine xk (by kernel_rfl) (R.r ?_);refine zf a (λb d a=>x8 rfl FOk.nil (by rfl) rfl (sc rfl) (qY (T':=[b.length]) (ok129 d) (m:=0) rfl rfl) ss (R.r ?_));refine zf a (λv2 c a=>x8 rfl FOk.nil (by rfl) rfl (sc rfl) (qY (T':=[b.length,v2.length]) (ok130 c) (m:=1) rfl rfl) ss (R.r ?_));refine zX rfl FOk.nil (by kernel_rfl) rfl (yo (cs':=(GLeafRw l0 (ve h 0 5 (b.map GF.row)) (.sl 3 (l0.tombs.map GC.row)))) rfl ty31 gg gg (zb rfl) rfl rfl rfl rfl rfl) rfl (R.r ?_);refine zX rfl FOk.nil (by kernel_rfl) rfl (yo (cs':=(GLeafRw l0 (ve h 0 5 (b.map GF.row)) (ve h 1 3 (v2.map GC.row)))) rfl ty32 gg gg (zb rfl) rfl rfl rfl rfl rfl) rfl (R.r ?_);cases a;exact fe rfl rfl (leV.agg (.eq (.eq (.eq (.eq (.eq (.eq (.eq (.cons (leV.osl _ _ _) (.cons (leV.osl _ _ _) leL.nil))))))))) rfl)
def sort138TryzRen:Go.Shelf.Ren :=
  { f:=λx=>match x with
      | 6=>138
      | 15=>176
      | 14=>175
      | 28=>208
      | 29=>183
      | 20=>200
      | 21=>201
      | 22=>202
      | 23=>203
      | 24=>204
      | 25=>205
      | 26=>206
      | 27=>207
      | 46=>218
      | 47=>219
      | 48=>220
      | 49=>221
      | 50=>222
      | 57=>224
      | n=>n
    t:=λx=>match x with
      | 22=>92
      | 24=>34
      | 25=>177
      | 3=>3
      | 39=>208
      | 0=>0
      | 53=>26
      | 55=>25
      | 4=>4
      | 46=>236
      | 45=>235
      | 50=>171
      | 5=>5
      | 9=>9
      | 66=>246
      | 70=>250
      | 76=>261
      | 77=>262
      | n=>n
    g:=λn=>n }
theorem sort138TryzLays:Go.Proofs.SlLaysF0.n6 Tryz.prog sort138TryzRen where
  mixed:=mixed
  f6:=⟨Tryz.f138.name,by kernel_rfl,Tryz.func138.trans (by kernel_rfl)⟩
  f15:=Tryz.func176.trans (by kernel_rfl)
  f14:=⟨Tryz.f175.name,by kernel_rfl,Tryz.func175.trans (by kernel_rfl)⟩
  f28:=Tryz.func208.trans (by kernel_rfl)
  f29:=Tryz.func183.trans (by kernel_rfl)
  f20:=⟨Tryz.f200.name,by kernel_rfl,Tryz.func200.trans (by kernel_rfl)⟩
  f21:=⟨Tryz.f201.name,by kernel_rfl,Tryz.func201.trans (by kernel_rfl)⟩
  f22:=⟨Tryz.f202.name,by kernel_rfl,Tryz.func202.trans (by kernel_rfl)⟩
  f23:=⟨Tryz.f203.name,by kernel_rfl,Tryz.func203.trans (by kernel_rfl)⟩
  f24:=⟨Tryz.f204.name,by kernel_rfl,Tryz.func204.trans (by kernel_rfl)⟩
  f25:=⟨Tryz.f205.name,by kernel_rfl,Tryz.func205.trans (by kernel_rfl)⟩
  f26:=⟨Tryz.f206.name,by kernel_rfl,Tryz.func206.trans (by kernel_rfl)⟩
  f27:=⟨Tryz.f207.name,by kernel_rfl,Tryz.func207.trans (by kernel_rfl)⟩
  f46:=⟨Tryz.f218.name,by kernel_rfl,Tryz.func218.trans (by kernel_rfl)⟩
  f47:=Tryz.func219.trans (by kernel_rfl)
  f48:=Tryz.func220.trans (by kernel_rfl)
  f49:=⟨Tryz.f221.name,by kernel_rfl,Tryz.func221.trans (by kernel_rfl)⟩
  f50:=⟨Tryz.f222.name,by kernel_rfl,Tryz.func222.trans (by kernel_rfl)⟩
  f57:=⟨Tryz.f224.name,by kernel_rfl,Tryz.func224.trans (by kernel_rfl)⟩
  t0:=Tryz.underlying0
  a0:=Tryz.isAgg0
  z0:=Tryz.sizeOf0
  v0:=Tryz.zeroValue0
  t3:=Tryz.underlying3
  a3:=Tryz.isAgg3
  z3:=Tryz.sizeOf3
  v3:=Tryz.zeroValue3
  t4:=Tryz.underlying4
  a4:=Tryz.isAgg4
  z4:=Tryz.sizeOf4
  v4:=Tryz.zeroValue4
  t5:=Tryz.underlying5
  a5:=Tryz.isAgg5
  z5:=Tryz.sizeOf5
  v5:=Tryz.zeroValue5
  t9:=Tryz.underlying9
  a9:=Tryz.isAgg9
  z9:=Tryz.sizeOf9
  v9:=Tryz.zeroValue9
  t22:=Tryz.underlying92
  a22:=Tryz.isAgg92
  z22:=Tryz.sizeOf92
  v22:=Tryz.zeroValue92
  t25:=Tryz.underlying177
  a25:=Tryz.isAgg177
  z25:=Tryz.sizeOf177
  v25:=Tryz.zeroValue177
  t39:=Tryz.underlying208
  a39:=Tryz.isAgg208
  z39:=Tryz.sizeOf208
  v39:=Tryz.zeroValue208
  t45:=Tryz.underlying235
  a45:=Tryz.isAgg235
  z45:=Tryz.sizeOf235
  v45:=Tryz.zeroValue235
  t46:=Tryz.underlying236
  a46:=Tryz.isAgg236
  z46:=Tryz.sizeOf236
  v46:=Tryz.zeroValue236
  t50:=Tryz.underlying171
  a50:=Tryz.isAgg171
  z50:=Tryz.sizeOf171
  v50:=Tryz.zeroValue171
  t53:=Tryz.underlying26
  a53:=Tryz.isAgg26
  z53:=Tryz.sizeOf26
  v53:=Tryz.zeroValue26
  t55:=Tryz.underlying25
  a55:=Tryz.isAgg25
  z55:=Tryz.sizeOf25
  v55:=Tryz.zeroValue25
  t66:=Tryz.underlying246
  a66:=Tryz.isAgg246
  z66:=Tryz.sizeOf246
  v66:=Tryz.zeroValue246
  t70:=Tryz.underlying250
  a70:=Tryz.isAgg250
  z70:=Tryz.sizeOf250
  v70:=Tryz.zeroValue250
  t76:=Tryz.underlying261
  a76:=Tryz.isAgg261
  z76:=Tryz.sizeOf261
  v76:=Tryz.zeroValue261
  t77:=Tryz.underlying262
  a77:=Tryz.isAgg262
  z77:=Tryz.sizeOf262
  v77:=Tryz.zeroValue262
theorem ok139 {c:GE} {res:Int}  (a:qk x0 c=some res):Sp 139 [.agg (GE.row x0),.agg (GE.row c)] h (yv (.int .i64 res) h):=by
 unfold qk at a;refine za Tryz.func139 rfl (by kernel_rfl) (yx 10 rfl) (R.r ?_);refine zf a (λd b a=>cp (ok79 b) (R.r ?_));cases a;exact fz rfl rfl
theorem ok140 {s0:(List GA)} {res:(List GA)}  (a:xh s0=some res):Sp 140 [.sl 3 (s0.map GA.row)] h (OwnK h 3 res.length (res.map GA.row)):=by
 unfold xh at a;refine za Tryz.func140 rfl (by kernel_rfl) (yx 8 rfl) (R.r ?_);refine ops_nilqE rfl rfl el23 gg isl rfl (λ_=>ss) a (λe d a=>R.r ?_);refine zi gg a (λb a=>?_) (λb a=>?_)
 ·apply R.r;cases a;refine fr rfl (fin_own0 (row:=GA.row) (L:=([]:List GA)) ?_);exact ⟨rfl,rfl⟩
 ·apply R.r;refine zc rfl (zr (es:=([]:List GA).map GA.row) rfl el23 ze94 rfl rfl zk .nil rfl rfl (by simp only [uu,tN,GA.row_eq];rfl)) ss (R.r ?_);refine z7 a (λc a=>zc rfl (e_appN (m:=0) (T':=[((([]:List GA)++s0)).length]) rfl rfl rfl rfl el23 el23 gg gg (zb rfl) (zb rfl) vf c rfl rfl) ss (R.r ?_));cases a;refine fr rfl (fin_own ?_);exact ⟨rfl,rfl⟩
theorem ok83N (n:Nat):∀{t0:(List GA)} {d:(List zd)} {kind2:Int} {g:GE} {c:Bool} {res:(List GA)} {h:AH} , wP n t0 d kind2 g c=some res->Sp 83 [.sl 3 (t0.map GA.row),.sl 1 (d.map zg),.int .u8 kind2,.agg (GE.row g),.bool c] h (yv (.sl 3 (res.map GA.row)) h):=by
 induction n with
 | zero=>intro t0 d kind2 g c res h  a;simp [wP] at a
 | succ n ih =>
  intro t0 d kind2 g c res h  a;unfold wP at a;refine za Tryz.func83 rfl (by kernel_rfl) (yx 85 rfl) (R.r ?_);refine zf a (λy1 hy1 a=>ix hy1 (R.r ?_));refine zf a (λv2 hv2 a=>cp (ok131 (λ_ _ v L M hv=>ok132  hv) hv2) (R.r ?_));refine zf a (λy3 hy3 a=>ix hy3 (R.r ?_));refine zc rfl (yf (cs':=[.str y3,.osl none 9 (([]:List GE).map GE.row),.osl none 3 (([]:List GA).map GA.row)]) rfl su94 ze94 pl94 (ze gg zk) (.cons (zb rfl) .nil) rfl rfl) ss ?_;refine zc rfl (e_alloc (n:=2) rfl ze94 rfl) ss ?_;refine zc rfl (yo (cs':=[.str y3,.osl none 9 (([]:List GE).map GE.row),.osl none 3 (([]:List GA).map GA.row)]) rfl ty94.choose_spec.1 gg gg (zb rfl) rfl rfl rfl rfl rfl) rfl ?_;refine ops_nil (q_seq ?_);refine r_join (λ(b:zd×(List GE)×(List GA))=>zu 2 2 (zu 5 2 (zu 9 2 (zu 14 71 [])))) (λb=>h.ext [.cells [.int .u8 kind2],.cells (GE.row g),.cells [.str b.1,.sl 9 (b.2.1.map GE.row),.sl 3 (b.2.2.map GA.row)]] []) a (λ_=>by simp only [zu,vE,ul,um];try rfl) (λo1 a O=>?_) (λb a=>?_)
  ·apply R.r;refine zi gg a (λhc6 a=>?_) (λhc6 a=>?_)
   ·apply R.r;refine zf a (λX W a=>zc rfl (yN rfl el23 gg gg isl W (GA.row_eq _)) ss (R.r ?_));refine q_join ?_;cases a;exact ⟨(X.name,X.leaves,X.subs),O,wk.le LEL.o⟩
   ·apply R.r;refine q_join ?_;cases a;exact ⟨(y3,([]:List GE),([]:List GA)),O,wk.trans (wk_leB (j:=2) rfl LEL.o rfl rfl) (wk.le LEL.o)⟩
  ·refine r_join (λ(s2:(List GE)×(List GA))=>zu 1 10 (zu 14 71 [])) (λs2=>h.ext [.cells [.int .u8 kind2],.cells (GE.row g),.cells [.str b.1,.sl 9 (s2.1.map GE.row),.sl 3 (s2.2.map GA.row)]] []) a (λ_=>by simp only [zu,vE,ul,um];try rfl) (λo2 a u=>?_) (λs2 a=>?_)
   ·apply R.r;refine ln λp=>?_;replace p:=yl p;apply R.r;refine zi gg a (λz a=>?_) (λz a=>?_)
    ·refine yn [7] [] trivial mixed (by kernel_rfl) (R.r ?_);refine zf a (λm20 B a=>zB rfl rfl (s_slcSl rfl el24 gg (.inl rfl) (.some rfl) .none B) ss (R.r ?_));refine zf a (λv21 G a=>zw rfl rfl (λ_=>sc rfl) (by rintro _ ⟨B2,T2,rfl,Z⟩;exact ih G) ss (R.r ?_));refine zX rfl (FOk.cons (.inr (yT trivial)) FOk.nil) (by kernel_rfl) rfl (yo (cs':=[.str b.1,.sl 9 (b.2.1.map GE.row),.sl 3 (v21.map GA.row)]) rfl ty23 gg gg (zb rfl) rfl rfl rfl rfl rfl) rfl (R.r ?_);refine q_join ?_;cases a;exact ⟨(b.2.1,v21),u,wk.le LEL.o⟩
    ·apply R.r;refine zf a (λv22 w a=>ops_callH rfl (sc rfl) (row_new (B':=[.cells [.int .u8 kind2],.cells (GE.row g),.cells [.str b.1,.sl 9 (b.2.1.map GE.row),.sl 3 (b.2.2.map GA.row)],rwA h 0 9 (v22.map GE.row)]) (T':=[v22.length]) (okR135 w) rfl rfl rfl rfl) ss ?_);refine zc rfl (vg rfl rfl rfl) ss ?_;refine zf a (λv23 U a=>ops_turn (B1:=[.cells [.int .u8 kind2],.cells (GE.row g),.cells [.str b.1,.sl 9 (b.2.1.map GE.row),.sl 3 (b.2.2.map GA.row)]]) (T1:=[]) (j:=3) (i:=0) (B':=[.cells [.int .u8 kind2],.cells (GE.row g),.cells [.str b.1,.sl 9 (b.2.1.map GE.row),.sl 3 (b.2.2.map GA.row)],.dead,rwA h 1 9 (v23.map GE.row)]) rfl (z8 rfl rfl rfl (zo gg (zo gg zQ)) (.cons (zb rfl) (.cons (zb rfl) .nil))) (okR134 (by simp [AH.ext]) (by simp [AH.ext]) (λ_ v L M hv=>ok136 (blk_ext2 (j:=0) rfl) hv) (λ_ _ _ _=>rfl) (λn m h1 h2=>by simp [AH.ext] at h1;simp [zy,AV.low];omega) U) rfl rfl ss rfl (λe=>?_));apply R.r;refine zi gg a (λA a=>?_) (λA a=>?_)
     ·apply R.r;refine yn [3] [] trivial mixed (by kernel_rfl) (R.r ?_);refine zf a (λv25 F a=>zw rfl rfl (λ_=>sc rfl) (by rintro _ ⟨B2,T2,rfl,Z⟩;exact ok137 F) ss ?_);refine zB rfl rfl (zr (es:=([v25]:List GE).map GE.row) rfl el92 ze34 rfl rfl (ze gg zk) (.cons (zb rfl) .nil) rfl rfl rfl) ss ?_;refine z7 a (λx a=>zX rfl (FOk.cons (.inr (yT trivial)) FOk.nil) (by kernel_rfl) rfl (e_appR (i:=4) (j:=1) (B':=[.cells [.int .u8 kind2],.cells (GE.row g),.cells [.str b.1,rsA h 4 1 9 (v23.length),.sl 3 (b.2.2.map GA.row)],.dead,rwA h 1 9 ((v23++([v25]:List GE)).map GE.row)]) (T':=[e,((v23++([v25]:List GE))).length]) rfl rfl rfl rfl el92 el92 gg gg rfl (zb rfl) yI x rfl rfl rfl rfl rfl) ss (R.r ?_));refine zX rfl (FOk.cons (.inr (yT trivial)) FOk.nil) (by kernel_rfl) rfl (yo (cs':=[.str b.1,rsA h 4 1 9 (((v23++([v25]:List GE))).length),.sl 3 (b.2.2.map GA.row)]) rfl ty92 gg gg (zb rfl) rfl rfl rfl rfl rfl) rfl (R.r ?_);refine zf a (λl f a=>ops_callH rfl (sc rfl) (spec_sortO sort138TryzLays Tryz.isAgg34 Tryz.sizeOf34 (λ_=>rfl) (λ_=>rfl) (λ_=>by simp [plL,AV.pl,plE_map,zg,intRow,wQ,boolRow,GI.row,GC.row,GF.row,GE.row,GL.row,GH.row,GJ.row]) (enters_fn Tryz.func139 rfl (by kernel_rfl)) (λ_ _ _ h=>ok139 h) f (i:=4) (B':=[.cells [.int .u8 kind2],.cells (GE.row g),.cells [.str b.1,rsA h 4 1 9 (((v23++([v25]:List GE))).length),.sl 3 (b.2.2.map GA.row)],.dead,rwA h 1 9 (l.map GE.row)]) rfl rfl) ss (R.r ?_));refine q_join ?_;cases a;exact ⟨(l,b.2.2),u,wk.trans (wk.trans ((swk_freezeB (j:=4) (jb:=2) (m:=1) (B':=[.cells [.int .u8 kind2],.cells (GE.row g),.cells [.str b.1,.sl 9 (l.map GE.row),.sl 3 (b.2.2.map GA.row)],.dead,.dead]) (T':=[e,(l.map GE.row).length+1]) rfl (by exact (.s16 (.s16 (.s16 (.s4 (.s4 (.cons (FzA.hit2 _ _ (by rw [ux];exact Eq.symm (sortO_len f))) (.s (.s (.cons (FzA.hit2 _ _ (by rw [ux];exact Eq.symm (sortO_len f))) (FzL.refl _))))))))))) rfl (by exact (.s (.cons (FzA.hit2 _ _ (by rw [ux];exact Eq.symm (sortO_len f))) (FzL.refl _)))) rfl rfl).wk) (wk.le LEL.o)) (zN (by simp [zy,AV.low]) rfl rfl (by simp [Blk.low,zy,AV.low]))⟩
     ·apply R.r;refine q_join ?_;cases a;exact ⟨(v23,b.2.2),u,wk.trans (wk.trans ((swk_freezeB (j:=4) (jb:=2) (m:=1) (B':=[.cells [.int .u8 kind2],.cells (GE.row g),.cells [.str b.1,.sl 9 (v23.map GE.row),.sl 3 (b.2.2.map GA.row)],.dead,.dead]) (T':=[e,(v23.map GE.row).length+1]) rfl (by exact (.s16 (.s16 (.s16 (.cons (FzA.hit2 _ _ (by simp)) (FzL.refl _)))))) rfl (by exact (.s (.cons (FzA.hit2 _ _ (by simp)) (FzL.refl _)))) rfl rfl).wk) (wk.le LEL.o)) (zN (by simp [zy,AV.low]) rfl rfl (by simp [Blk.low,zy,AV.low]))⟩
   ·apply R.r;refine zf a (λm28 K a=>zc rfl (s_slcSl rfl el23 gg (.inl rfl) .none (.some gg) K) ss ?_);refine zf a (λk D a=>ops_callH rfl (sc rfl) (qY (T':=[k.length]) (ok140 D) (m:=0) rfl rfl) ss (R.r ?_));refine ln λq=>?_;replace q:=yl q;apply R.r;refine ln λt=>?_;replace t:=yl t;apply R.r;refine zi gg a (λC a=>?_) (λC a=>?_)
    ·apply R.r;refine zc rfl (zr (es:=([(GA.mk b.1 s2.1 s2.2)]:List GA).map GA.row) rfl el23 ze94 rfl rfl (ze gg zk) (.cons (zb rfl) .nil) rfl rfl (by simp only [uu,tN,GA.row_eq];rfl)) ss ?_;refine z7 a (λH a=>zc rfl (xw (j:=0) (T':=[((k++([(GA.mk b.1 s2.1 s2.2)]:List GA))).length]) rfl rfl rfl rfl el23 el23 gg gg (zb rfl) (zb rfl) yI H rfl rfl) ss (R.r ?_));refine zi gg a (λP a=>?_) (λP a=>?_)
     ·apply R.r;refine zf a (λm35 E a=>zc rfl (s_slcSl rfl el23 gg (.inl rfl) (.some gg) .none E) ss ?_);refine z7 a (λS a=>zc rfl (xw (j:=0) (T':=[(((k++([(GA.mk b.1 s2.1 s2.2)]:List GA))++m35)).length]) rfl rfl rfl rfl el23 el23 gg gg (zb rfl) (zb rfl) vf S rfl rfl) ss (R.r ?_));cases a;exact fe rfl rfl (leV.osl _ _ _)
     ·apply R.r;refine zf a (λm37 J a=>zc rfl (s_slcSl rfl el23 gg (.inl rfl) (.some gg) .none J) ss ?_);refine z7 a (λN a=>zc rfl (xw (j:=0) (T':=[(((k++([(GA.mk b.1 s2.1 s2.2)]:List GA))++m37)).length]) rfl rfl rfl rfl el23 el23 gg gg (zb rfl) (zb rfl) vf N rfl rfl) ss (R.r ?_));cases a;exact fe rfl rfl (leV.osl _ _ _)
    ·apply R.r;refine zi gg a (λT a=>?_) (λT a=>?_)
     ·apply R.r;refine zf a (λY Q a=>zc rfl (s_slcSl rfl el23 gg (.inl rfl) (.some gg) .none Q) ss ?_);refine z7 a (λV a=>zc rfl (xw (j:=0) (T':=[((k++Y)).length]) rfl rfl rfl rfl el23 el23 gg gg (zb rfl) (zb rfl) vf V rfl rfl) ss (R.r ?_));cases a;exact fe rfl rfl (leV.osl _ _ _)
     ·apply R.r;refine zf a (λm42 y a=>zc rfl (s_slcSl rfl el23 gg (.inl rfl) (.some gg) .none y) ss ?_);refine z7 a (λI a=>zc rfl (xw (j:=0) (T':=[((k++m42)).length]) rfl rfl rfl rfl el23 el23 gg gg (zb rfl) (zb rfl) vf I rfl rfl) ss (R.r ?_));cases a;exact fe rfl rfl (leV.osl _ _ _)
theorem ok83 {b:(List zd)} {c:GE} {a:Bool} {res:(List GA)}  (e:diffXlay t0 b kind2 c a=some res):Sp 83 [.sl 3 (t0.map GA.row),.sl 1 (b.map zg),.int .u8 kind2,.agg (GE.row c),.bool a] h (yv (.sl 3 (res.map GA.row)) h):=by
 obtain ⟨n,d⟩:=anyN_is e;exact ok83N n d
theorem ok39 {t:(List GJ)} {res:((List GA)×Int)}  (a:ql t0 t=some res):Sp 39 [.sl 3 (t0.map GA.row),.sl 22 (t.map GJ.row)] h (yv (.tup [.sl 3 (res.1.map GA.row),.int .i64 res.2]) h):=by
 unfold ql at a;refine za Tryz.func39 rfl (by kernel_rfl) (yx 67 rfl) (R.r ?_);refine zf a (λy i a=>cp (ok44 i) (R.r ?_));refine zZ a (λv2 l a=>zH rfl sc (λj=>ok80 (l j)) ss (R.r ?_));refine zi gg a (λs a=>?_) (λs a=>?_)
 ·apply R.r;cases a;exact fe rfl rfl (leV.tup (.cons (leV.osl _ _ _) (.eq leL.nil)))
 ·apply R.r;refine zc rfl (zr (es:=([([42,42]:zd)]:List zd).map zg) rfl el24 ze9 rfl rfl (ze rfl zk) (.cons (zb rfl) .nil) rfl rfl rfl) ss ?_;refine zf a (λv4 k a=>cp ((ok81 k).le (.eq (.cons (leV.osl _ _ _) leL.nil))) (R.r ?_));refine ln λb=>?_;replace b:=yl b;apply R.r;refine zF (λ(u:Nat) (n:(List GA))=>zu 1 5 (zu 7 19 (zu 29 38 [(6,.sl 3 (n.map GA.row)),(28,.int .i64 (u:Int))]))) (λn=>h.ext [] []) a (λ_ _=>by simp only [zu,vE,ul,um];try rfl) (wk.le LEL.o) ?_;intro u n v a;apply R.r;refine zT gg a (λA z q m a g=>?_) (λa=>?_)
  ·apply R.r;refine ix (zM m) (R.r ?_);refine zf a (λx c a=>cp (ok82 c) (R.r ?_));refine zc rfl (xX rfl gg gg (bin_boolN ty4)) ss (R.r ?_);refine zZ a (λw d a=>zH (aG_gv rfl rfl rfl) sc (λj=>ok56 (d j)) ss (R.r ?_));refine zi gg a (λf a=>?_) (λf a=>?_)
   ·apply R.r;cases a;replace a:=g;apply R.r;cases a;exact fe rfl rfl (leV.tup (.cons (leV.osl _ _ _) (.eq leL.nil)))
   ·apply R.r;refine zf a (λp e a=>cp (ok83 e) (R.r ?_));cases a;exact ⟨p,q,g,wk.trans (wk.le (by exact (.eq (.d4 (.drop (.cons (leV.of_eq rfl) (.d16 (.drop (.drop (.drop (.eq (.eq (.cons (leV.of_eq (xB (by omega) (by omega))) (.d16 (.d16 (.d4 (.drop (.drop leL.nil)))))))))))))))))) (zN (by simp [zy,AV.low]) rfl rfl (by simp [Blk.low,zy,AV.low]))⟩
  ·apply R.r;cases a;exact fz rfl rfl
end Go.Vv
