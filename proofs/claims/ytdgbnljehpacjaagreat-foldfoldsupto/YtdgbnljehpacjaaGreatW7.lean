/- Each function that the law reaches computes what its reading says; printed by a program. -/
import Derived.Test.YtdgbnljehpacjaaGreatW6
set_option linter.all false
namespace Go.Vv
open Go Go.Proofs
set_option maxRecDepth 100000
set_option synthInstance.maxSize 100000
set_option synthInstance.maxHeartbeats 1000000
set_option maxHeartbeats 1000000
variable {l0:GC} {res:Bool} {h:AH} {t0:(List GA)} {kind0:Int}
theorem ok82  (a:ref05May l0=some res):Sp 82 [.agg (GC.row l0)] h (yL (.bool res) h):=by
 unfold ref05May at a;refine zb Tryz.func82 rfl (by kernel_rfl) (yK 205 rfl) (R.r ?_);refine lng λO=>R.r ?_;refine lng λT=>R.r ?_;refine ze gg a (λG a=>?_) (λG a=>?_)
 ·apply R.r;cases a;exact fz rfl rfl
 ·apply R.r;refine zc rfl (yi (cs':=lit4x) rfl su36 ze36 pl36 zg .nil rfl rfl) ss ?_;refine zc rfl (vi (n:=1) rfl ze36 rfl) ss ?_;refine zc rfl (zY (cs':=lit4x) rfl ty36.choose_spec.1 gg gg (za rfl) rfl rfl rfl rfl rfl) rfl ?_;refine zO (yo ?_);refine r_join (λ(J:Unit)=>zo 2 203 [(0,.any)]) (λJ=>h.ext [.cells (GC.row l0),.cells lit4x] []) a (λ_=>by simp only [zo,wg,uf,ug];try rfl) (λZ a c=>?_) (λJ a=>?_)
  ·apply R.r;refine ze gg a (λE a=>?_) (λE a=>?_)
   ·apply R.r;refine vd rfl (λb=>xK rfl (yd gg b) (yd gg b) (bin_ne pk36 rfl)) ss (R.r ?_);refine ze gg a (λy a=>?_) (λy a=>?_)
    ·apply R.r;refine q_join_ret ?_;cases a;replace a:=c;cases a;exact fz rfl rfl
    ·apply R.r;refine q_join ?_;cases a;exact ⟨(),c,wk.le LEL.o⟩
   ·apply R.r;refine ya a (λU z a=>zL rfl sc (λb=>ok47 (z b)) ss (R.r ?_));refine lng λI=>R.r ?_;refine ze gg a (λw a=>?_) (λw a=>?_)
    ·apply R.r;refine q_join_ret ?_;cases a;replace a:=c;cases a;exact fz rfl rfl
    ·apply R.r;refine q_join ?_;cases a;exact ⟨(),c,wk.le LEL.o⟩
  ·apply R.r;refine zy (λ(n2:Nat) (s2:Unit)=>zo 2 2 (zo 5 200 [(0,.any),(4,.int .i64 (n2:Int))])) (λs2=>h.ext [.cells (GC.row l0),.cells lit4x] []) a (λ_ _=>by simp only [zo,wg,uf,ug];try rfl) (wk.le LEL.o) ?_;intro n2 s2 P a;apply R.r;refine ln λd=>?_;replace d:=yh d;apply R.r;refine zF gg a (λx2 Y D C a f=>?_) (λa=>?_)
   ·apply R.r;refine ix (zB C) (R.r ?_);refine zd a (λM s a=>cp (ok47 s) (R.r ?_));refine lng λK=>R.r ?_;refine ya a (λS k a=>zL rfl sc (λb=>ok126 (k b)) ss (R.r ?_));refine ya a (λv44 g a=>zL rfl sc (λb=>ok87 (g b)) ss (R.r ?_));refine ze gg a (λv a=>?_) (λv a=>?_)
    ·apply R.r;cases a;replace a:=f;apply R.r;cases a;exact fz rfl rfl
    ·apply R.r;refine zX (by kernel_rfl) (R.r ?_);refine yf a (λq a=>dgix q (R.r ?_));refine yf a (λp a=>dgix p (R.r ?_));refine ya a (λQ i a=>xi rfl rfl sc (λb=>ok19 (i b)) ss (R.r ?_));refine ze gg a (λm a=>?_) (λm a=>?_)
     ·apply R.r;cases a;replace a:=f;apply R.r;cases a;exact fz rfl rfl
     ·apply R.r;cases a;exact ⟨(),D,f,wk.trans (wk.le (by exact (.drop (.eq (.drop (.drop (.cons (leV.of_eq (xc (by omega) (by omega))) (.d16 (.d16 (.d16 (.d16 (.d16 (.d16 (.d16 (.d16 (.d16 (.d16 (.d16 (.d16 (.d4 (.d4 leL.nil))))))))))))))))))))) (yz (by simp [zD,AV.low]) rfl rfl (by simp [Blk.low,zD,AV.low]))⟩
   ·apply R.r;refine zy (λ(H:Nat) (L:Unit)=>zo 2 4 (zo 7 198 [(0,.any),(6,.int .i64 (H:Int))])) (λL=>h.ext [.cells (GC.row l0),.cells lit4x] []) a (λ_ _=>by simp only [zo,wg,uf,ug];try rfl) (wk.le LEL.o) ?_;intro H L V a;apply R.r;refine ln λe=>?_;replace e:=yh e;apply R.r;refine zF gg a (λX o3 F B a j=>?_) (λa=>?_)
    ·apply R.r;refine yN [5] [] trivial mixed (by kernel_rfl) (R.r ?_);refine dix (zB B) (R.r ?_);refine zd a (λW u a=>zJ rfl rfl (λ_=>sc rfl) (by rintro _ ⟨B2,T2,rfl,N⟩;exact ok47 u) ss (R.r ?_));refine yf a (λt a=>dgix t (R.r ?_));refine yf a (λA a=>dgix A (R.r ?_));refine ya a (λv76 l a=>xi rfl (aG_gv rfl rfl rfl) sc (λb=>ok35 (l b)) ss (R.r ?_));refine ze gg a (λx a=>?_) (λx a=>?_)
     ·apply R.r;cases a;replace a:=j;apply R.r;cases a;exact fz rfl rfl
     ·apply R.r;cases a;exact ⟨(),F,j,wk.le (by exact (.drop (.eq (.d4 (.cons (leV.of_eq (xc (by omega) (by omega))) (.d16 (.d16 (.d16 (.d16 (.d16 (.d16 (.d16 (.d16 (.d16 (.d16 (.d16 (.d16 (.d4 (.drop (.drop leL.nil))))))))))))))))))))⟩
    ·apply R.r;cases a;exact fz rfl rfl
theorem ok46N (n:Nat):∀{t0:(List GA)} {b:Int} {res:Bool} {h:AH} , vp n t0 b=some res->Sp 46 [.sl 3 (t0.map GA.row),.int .i64 b] h (yL (.bool res) h):=by
 induction n with
 | zero=>intro t0 b res h  a;simp [vp] at a
 | succ n ih =>
  intro t0 b res h  a;unfold vp at a;refine zb Tryz.func46 rfl (by kernel_rfl) (yK 95 rfl) (R.r ?_);refine zy (λ(z:Nat) (y:Unit)=>zo 2 3 (zo 6 89 [(5,.int .i64 (z:Int))])) (λy=>h.ext [] []) a (λ_ _=>by simp only [zo,wg,uf,ug];try rfl) (wk.le LEL.o) ?_;intro z y A a;apply R.r;refine ln λe=>?_;replace e:=yh e;apply R.r;refine zF gg a (λx G w v a f=>?_) (λa=>?_)
  ·apply R.r;refine zc rfl (yw rfl el23 gg gg isl (zB v) (GA.row_eq _)) ss (R.r ?_);refine zX (by kernel_rfl) (R.r ?_);refine ya a (λC i a=>xi rfl rfl sc (λc=>ok81 (i c)) ss (R.r ?_));refine yf a (λk a=>qQ rfl (aG_gv rfl rfl rfl) (λc=>wK default rfl el23 (yd gg c) (yd gg c) isl (k c) (GA.row_eq _)) ss (R.r ?_));refine draw_glen rfl rfl (λc=>xU rfl rfl rfl rfl el47 (yd gg c) wN) ss (R.r ?_);refine draw_glen rfl (aG_gv rfl rfl rfl) (λc=>xU rfl rfl rfl rfl el23 (yd gg c) wN) ss (R.r ?_);refine ya a (λE q a=>xi rfl rfl sc (λc=>ih (q c)) ss (R.r ?_));refine ze gg a (λl a=>?_) (λl a=>?_)
   ·apply R.r;cases a;replace a:=f;apply R.r;cases a;exact fz rfl rfl
   ·apply R.r;refine zy (λ(n2:Nat) (s2:Unit)=>zo 2 3 (zo 8 87 [(7,.int .i64 (n2:Int))])) (λs2=>h.ext [.cells [.str x.name,.sl 9 (x.leaves.map GC.row),.sl 3 (x.subs.map GA.row)]] []) a (λ_ _=>by simp only [zo,wg,uf,ug];try rfl) (wk.le LEL.o) ?_;intro n2 s2 D a;apply R.r;refine ln λd=>?_;replace d:=yh d;apply R.r;refine zF gg a (λH F u t a p=>?_) (λa=>?_)
    ·apply R.r;refine yN [5] [] trivial mixed (by kernel_rfl) (R.r ?_);refine dix (zB t) (R.r ?_);refine zd a (λv50 g a=>zJ rfl rfl (λ_=>sc rfl) (by rintro _ ⟨B2,T2,rfl,B⟩;exact ok82 g) ss (R.r ?_));refine yf a (λs a=>dgix s (R.r ?_));refine yf a (λm a=>dgix m (R.r ?_));refine ze gg a (λj a=>?_) (λj a=>?_)
     ·apply R.r;cases a;replace a:=p;apply R.r;cases a;replace a:=f;apply R.r;cases a;exact fz rfl rfl
     ·apply R.r;cases a;exact ⟨(),u,p,wk.le (by exact (.eq (.eq (.drop (.drop (.drop (.eq (.eq (.cons (leV.of_eq (xc (by omega) (by omega))) (.d16 (.d16 (.d16 (.d16 (.d16 (.d4 (.drop (.drop (.drop leL.nil))))))))))))))))))⟩
    ·apply R.r;cases a;exact ⟨(),w,f,wk.trans (wk.le (by exact (.eq (.eq (.drop (.drop (.drop (.cons (leV.of_eq (xc (by omega) (by omega))) (.d16 (.d16 (.d16 (.d16 (.d16 (.d4 (.d4 (.drop leL.nil)))))))))))))))) (yz (by simp [zD,AV.low]) rfl rfl (by simp [Blk.low,zD,AV.low]))⟩
  ·apply R.r;cases a;exact fz rfl rfl
theorem ok46 {a:Int}  (c:ref07Xmay t0 a=some res):Sp 46 [.sl 3 (t0.map GA.row),.int .i64 a] h (yL (.bool res) h):=by
 obtain ⟨n,b⟩:=anyN_is c;exact ok46N n b
theorem ok27  (a:ref07May t0=some res):Sp 27 [.sl 3 (t0.map GA.row)] h (yL (.bool res) h):=by
 unfold ref07May at a;refine zb Tryz.func27 rfl (by kernel_rfl) (yK 5 rfl) (R.r ?_);refine zd a (λc b a=>cp (ok46 b) (R.r ?_));cases a;exact fz rfl rfl
theorem ok50 {res:Int}  (a:ref04Type kind0=some res):Sp 50 [.int .u8 kind0] h (yL (.int .u8 res) h):=by
 unfold ref04Type at a;refine zb Tryz.func50 rfl (by kernel_rfl) (yK 13 rfl) (R.r ?_);refine ze gg a (λi a=>?_) (λi a=>?_)
 ·apply R.r;cases a;exact fz rfl rfl
 ·apply R.r;refine ze gg a (λf a=>?_) (λf a=>?_)
  ·apply R.r;cases a;exact fz rfl rfl
  ·apply R.r;refine ze gg a (λg a=>?_) (λg a=>?_)
   ·apply R.r;refine ze gg a (λc a=>?_) (λc a=>?_)
    ·apply R.r;cases a;exact fz rfl rfl
    ·apply R.r;refine ze gg a (λb a=>?_) (λb a=>?_)
     ·apply R.r;cases a;exact fz rfl rfl
     ·apply R.r;cases a;exact fz rfl rfl
   ·apply R.r;refine ze gg a (λd a=>?_) (λd a=>?_)
    ·apply R.r;cases a;exact fz rfl rfl
    ·apply R.r;refine ze gg a (λe a=>?_) (λe a=>?_)
     ·apply R.r;cases a;exact fz rfl rfl
     ·apply R.r;cases a;exact fz rfl rfl
theorem ok84 {j:(List zu)}  (a:ref04MayPath j=some res):Sp 84 [.sl 1 (j.map zN)] h (yL (.bool res) h):=by
 unfold ref04MayPath at a;refine zb Tryz.func84 rfl (by kernel_rfl) (yK 24 rfl) (R.r ?_);refine zy (λ(l:Nat) (m:Unit)=>zo 1 2 (zo 4 20 [(3,.int .i64 (l:Int))])) (λm=>h.ext [] []) a (λ_ _=>by simp only [zo,wg,uf,ug];try rfl) (wk.le LEL.o) ?_;intro l m n a;apply R.r;refine ln λd=>?_;replace d:=yh d;apply R.r;refine zF gg a (λp q f i a e=>?_) (λa=>?_)
 ·apply R.r;refine ix (zB i) (R.r ?_);refine zd a (λv9 g a=>cp (ok81 g) (R.r ?_));refine ze gg a (λc a=>?_) (λc a=>?_)
  ·apply R.r;cases a;replace a:=e;apply R.r;cases a;exact fz rfl rfl
  ·apply R.r;cases a;exact ⟨(),f,e,wk.le (by exact (.eq (.drop (.drop (.cons (leV.of_eq (xc (by omega) (by omega))) (.d16 (.d4 leL.nil)))))))⟩
 ·apply R.r;refine ln λb=>?_;replace b:=yh b;apply R.r;refine lng λk=>R.r ?_;cases a;exact fz rfl rfl
theorem ok48 {q:GK}  (a:ref04May q=some res):Sp 48 [.agg (GK.row q)] h (yL (.bool res) h):=by
 unfold ref04May at a;refine zb Tryz.func48 rfl (by kernel_rfl) (yK 95 rfl) (R.r ?_);refine zd a (λD j a=>cp (ok50 j) (R.r ?_));refine ya a (λF m a=>zL rfl sc (λk=>ok84 (m k)) ss (R.r ?_));refine lng λA=>R.r ?_;refine lng λw=>R.r ?_;refine ze gg a (λl a=>?_) (λl a=>?_)
 ·apply R.r;cases a;exact fz rfl rfl
 ·apply R.r;refine ze gg a (λt a=>?_) (λt a=>?_)
  ·apply R.r;refine lng λB=>R.r ?_;cases a;exact fz rfl rfl
  ·apply R.r;refine lng λz=>R.r ?_;refine ze gg a (λp a=>?_) (λp a=>?_)
   ·apply R.r;cases a;exact fz rfl rfl
   ·apply R.r;refine zy (λ(v:Nat) (u:Unit)=>zo 4 91 [(0,.any),(2,.any),(3,.int .i64 (v:Int))]) (λu=>h.ext [.cells (GK.row q)] []) a (λ_ _=>by simp only [zo,wg,uf,ug];try rfl) (wk.le LEL.o) ?_;intro v u x a;apply R.r;refine ln λb=>?_;replace b:=yh b;apply R.r;refine zF gg a (λG E s n a i=>?_) (λa=>?_)
    ·apply R.r;refine yN [5] [] trivial mixed (by kernel_rfl) (R.r ?_);refine dix (zB n) (R.r ?_);refine zd a (λv26 g a=>zJ rfl rfl (λ_=>sc rfl) (by rintro _ ⟨B2,T2,rfl,y⟩;exact ok47 g) ss (R.r ?_));refine yf a (λe a=>dgix e (R.r ?_));refine yf a (λc a=>dgix c (R.r ?_));refine ya a (λC d a=>xi rfl (aG_gv rfl rfl rfl) sc (λk=>ok35 (d k)) ss (R.r ?_));refine ze gg a (λf a=>?_) (λf a=>?_)
     ·apply R.r;cases a;replace a:=i;apply R.r;cases a;exact fz rfl rfl
     ·apply R.r;cases a;exact ⟨(),s,i,wk.le (by exact (.drop (.eq (.drop (.cons (leV.of_eq (xc (by omega) (by omega))) (.d16 (.d16 (.d16 (.d16 (.d16 (.d4 (.d4 (.drop (.drop (.drop leL.nil)))))))))))))))⟩
    ·apply R.r;cases a;exact fz rfl rfl
theorem ok28 {d:GH}  (a:x7 d=some res):Sp 28 [.agg (GH.row d)] h (yL (.bool res) h):=by
 unfold x7 at a;refine zb Tryz.func28 rfl (by kernel_rfl) (yK 21 rfl) (R.r ?_);refine zd a (λg c a=>cp (ok47 c) (R.r ?_));refine ya a (λf b a=>zL rfl sc (λe=>ok48 (b e)) ss (R.r ?_));cases a;exact fz rfl rfl
theorem ok85 {res:GC}  (a:ref05New kind0=some res):Sp 85 [.int .u8 kind0] h (yL (.agg (GC.row res)) h):=by
 unfold ref05New at a;refine zb Tryz.func85 rfl (by kernel_rfl) (yK 12 rfl) (R.r ?_);refine ze gg a (λb a=>?_) (λb a=>?_)
 ·apply R.r;refine zc rfl (yi (cs':=[.int .u8 kind0,.int .i64 (0:Int),.int .u64 (0:Int),.int .u8 (0:Int),.int .u32 (0:Int),.int .u64 (0:Int),.str ([]:zu),.osl none 5 (([]:List GF).map GF.row),.osl none 3 (([]:List GE).map GE.row)]) rfl su55 ze55 pl55 (zf gg zg) (.cons (za rfl) .nil) rfl rfl) ss (R.r ?_);cases a;exact fe rfl rfl (leV.agg (.eq (.eq (.eq (.eq (.eq (.eq (.eq (.cons (leV.osl _ _ _) (.cons (leV.osl _ _ _) leL.nil))))))))) rfl)
 ·apply R.r;refine zc rfl (yi (cs':=xb) rfl su55 ze55 pl55 zg .nil rfl rfl) ss (R.r ?_);cases a;exact fe rfl rfl (leV.agg (.eq (.eq (.eq (.eq (.eq (.eq (.eq (.cons (leV.osl _ _ _) (.cons (leV.osl _ _ _) leL.nil))))))))) rfl)
theorem ok86 {b:zu} {res:(GA×Bool)}  (a:ref07Xnode t0 b=some res):Sp 86 [.sl 3 (t0.map GA.row),.str b] h (yL (.tup [.agg [.str res.1.name,.sl 9 (res.1.leaves.map GC.row),.sl 3 (res.1.subs.map GA.row)],.bool res.2]) h):=by
 unfold ref07Xnode at a;refine zb Tryz.func86 rfl (by kernel_rfl) (yK 25 rfl) (R.r ?_);refine zy (λ(j:Nat) (d:Unit)=>zo 2 2 (zo 7 18 [(5,.any),(6,.int .i64 (j:Int))])) (λd=>h.ext [.cells lit3x] []) a (λ_ _=>by simp only [zo,wg,uf,ug];try rfl) (wk.le LEL.o) ?_;intro j d k a;apply R.r;refine ln λc=>?_;replace c:=yh c;apply R.r;refine zF gg a (λl m i f a e=>?_) (λa=>?_)
 ·apply R.r;refine zc rfl (yw rfl el23 gg gg isl (zB f) (GA.row_eq _)) ss (R.r ?_);refine ze gg a (λg a=>?_) (λg a=>?_)
  ·apply R.r;refine zc rfl (yw rfl el23 gg gg isl (zB f) (GA.row_eq _)) ss (R.r ?_);cases a;replace a:=e;apply R.r;cases a;exact fz rfl rfl
  ·apply R.r;cases a;exact ⟨(),i,e,wk.le (by exact (.eq (.eq (.drop (.drop (.eq (.drop (.cons (leV.of_eq (xc (by omega) (by omega))) (.d16 (.drop (.drop leL.nil)))))))))))⟩
 ·apply R.r;refine zc rfl (yi (cs':=lit3x) rfl su49 q9 pl49 zg .nil rfl rfl) ss (R.r ?_);cases a;exact fe rfl rfl (leV.tup (.cons (leV.agg (.eq (.cons (leV.osl _ _ _) (.cons (leV.osl _ _ _) leL.nil))) rfl) (.eq leL.nil)))
theorem ok49 {b:(List zu)} {c:Int} {res:(GC×Bool)}  (a:ref07Leaf t0 b c=some res):Sp 49 [.sl 3 (t0.map GA.row),.sl 1 (b.map zN),.int .u8 c] h (yL (.tup [.agg (GC.row res.1),.bool res.2]) h):=by
 unfold ref07Leaf at a;refine zb Tryz.func49 rfl (by kernel_rfl) (yK 67 rfl) (R.r ?_);refine zd a (λw t a=>cp (ok85 t) (R.r ?_));refine zc rfl (yi (cs':=lit3x) rfl su49 q9 pl49 zg .nil rfl rfl) ss (R.r ?_);refine zy (λ(x:Nat) (e:(List GA)×zu×(List GC)×(List GA))=>zo 3 3 (zo 11 56 [(7,.any),(0,.sl 3 (e.1.map GA.row)),(10,.int .i64 (x:Int))])) (λe=>h.ext [.cells xb,.cells (GC.row w),.cells [.str e.2.1,.sl 9 (e.2.2.1.map GC.row),.sl 3 (e.2.2.2.map GA.row)]] []) a (λ_ _=>by simp only [zo,wg,uf,ug];try rfl) (wk.trans (wk_leB (j:=2) rfl (by exact (.eq (.cons (leV.osl _ _ _) (.cons (leV.osl _ _ _) leL.nil)))) rfl rfl) (wk.le LEL.o)) ?_;intro x e y a;apply R.r;refine ln λg=>?_;replace g:=yh g;apply R.r;refine zF gg a (λD C v u a q=>?_) (λa=>?_)
 ·apply R.r;refine ix (zB u) (R.r ?_);refine zd a (λd n a=>cp (ok86 n) (R.r ?_));refine ze gg a (λk a=>?_) (λk a=>?_)
  ·apply R.r;cases a;replace a:=q;apply R.r;cases a;exact fz rfl rfl
  ·apply R.r;cases a;exact ⟨(d.1.subs,d.1.name,d.1.leaves,d.1.subs),v,q,wk.trans (wk.le (by exact (.cons (leV.of_eq rfl) (.eq (.eq (.drop (.drop (.drop (.eq (.drop (.eq (.eq (.cons (leV.of_eq (xc (by omega) (by omega))) (.d16 (.d16 (.d16 (.d4 (.d4 leL.nil)))))))))))))))))) (yz (by simp [zD,AV.low]) rfl rfl (by simp [Blk.low,zD,AV.low]))⟩
 ·apply R.r;refine xe (λ(s2:Int)=>zo 0 2 (zo 3 3 (zo 10 3 (zo 14 53 [(7,.any),(13,.int .i64 s2)])))) (λs2=>h.ext [.cells xb,.cells (GC.row w),.cells [.str e.2.1,.sl 9 (e.2.2.1.map GC.row),.sl 3 (e.2.2.2.map GA.row)]] []) a (λ_=>by simp only [zo,wg,uf,ug];try rfl) (wk.le LEL.o) ?_;intro n2 s2 B a i;apply R.r;refine ln λf=>?_;replace f:=yh f;apply R.r;refine ze gg a (λm a=>?_) (λm a=>?_)
  ·apply R.r;refine zd a (λz p a=>ix p (R.r ?_));refine ze gg a (λs a=>?_) (λs a=>?_)
   ·apply R.r;refine zd a (λA l a=>ix l (R.r ?_));cases a;replace a:=i;apply R.r;cases a;exact fz rfl rfl
   ·apply R.r;cases a;exact ⟨(IntKind.wrap .i64 (s2+(1:Int))),i,wk.le LEL.o⟩
  ·apply R.r;cases a;replace a:=i;apply R.r;cases a;exact fz rfl rfl
theorem ok88 {l0:(List GF)} {b:GF} {res:(List GF)}  (a:ref05Lay l0 b=some res):Sp 88 [.sl 5 (l0.map GF.row),.agg [.int .u64 b.time,.int .u8 b.dot.actor.rep,.int .u32 b.dot.actor.inc,.int .u64 b.dot.seq,.str b.text]] h (yL (.sl 5 (res.map GF.row)) h):=by
 unfold ref05Lay at a;refine zb Tryz.func88 rfl (by kernel_rfl) (yK 53 rfl) (R.r ?_);refine zd a (λz t a=>cp (ok126 t) (R.r ?_));refine ze gg a (λw a=>?_) (λw a=>?_)
 ·apply R.r;refine zc rfl (zr (es:=([]:List GF).map GF.row) rfl el53 ze73 rfl rfl zg .nil rfl rfl rfl) ss (R.r ?_);refine yf a (λu a=>zc rfl (e_appN (m:=0) (T':=[((([]:List GF)++l0)).length]) rfl rfl rfl rfl el53 el53 gg gg (za rfl) (za rfl) xk u rfl rfl) ss (R.r ?_));cases a;exact fe rfl rfl (leV.osl _ _ _)
 ·apply R.r;refine xe (λ(c:(List GF)×Int)=>zo 1 2 (zo 7 46 [(4,.any),(5,osA h 0 5 (c.1.map GF.row)),(6,.int .i64 c.2)])) (λc=>h.ext [.cells [.int .u64 b.time,.int .u8 b.dot.actor.rep,.int .u32 b.dot.actor.inc,.int .u64 b.dot.seq,.str b.text]] [(c.1).length]) a (λ_=>by simp only [zo,wg,uf,ug];try rfl) (wk.trans (wk_tok gt5 rfl st5 rfl) (wk.le (by exact (.eq (.drop (.drop (.eq (.drop (.cons (leV.of_eq rfl) (.cons (leV.of_eq rfl) (.d16 (.d16 (.d4 (.d4 (.d4 (.drop (.drop leL.nil))))))))))))))))) ?_;intro B c A a s;apply R.r;refine zX (by kernel_rfl) (R.r ?_);refine draw_len rfl rfl (xU rfl rfl rfl rfl el53 gg wN) ss (R.r ?_);refine yf a (λl a=>dgix l (R.r ?_));refine yf a (λq a=>dgix q (R.r ?_));refine ya a (λx k a=>xi rfl rfl sc (λy=>ok19 (k y)) ss (R.r ?_));refine ze gg a (λg a=>?_) (λg a=>?_)
  ·apply R.r;refine zd a (λd p a=>ix p (R.r ?_));refine zc rfl (zr (es:=([d]:List GF).map GF.row) rfl el53 ze73 rfl rfl (zf gg zg) (.cons (za rfl) .nil) rfl rfl rfl) ss ?_;refine yf a (λf a=>zc rfl (xq (j:=0) (T':=[((c.1++([d]:List GF))).length]) rfl rfl rfl rfl el53 el53 gg gg (za rfl) (za rfl) yH f rfl rfl) ss (R.r ?_));cases a;exact ⟨((c.1++([d]:List GF)),(IntKind.wrap .i64 (c.2+(1:Int)))),s,wk.le LEL.o⟩
  ·apply R.r;cases a;replace a:=s;apply R.r;refine zX (by kernel_rfl) (R.r ?_);refine zq rfl rfl (zr (es:=([b]:List GF).map GF.row) rfl el53 ze73 rfl rfl (zf gg zg) (.cons (za rfl) .nil) rfl rfl rfl) ss ?_;refine yf a (λn a=>xu rfl FOk.nil (by rfl) rfl (xq (j:=0) (T':=[((c.1++([b]:List GF))).length]) rfl rfl rfl rfl el53 el53 gg gg (za rfl) (za rfl) yH n rfl rfl) ss (R.r ?_));refine zd a (λv e a=>zq rfl rfl (vW rfl el53 gg (.inl rfl) (.some gg) .none e) ss ?_);refine yf a (λi a=>xu rfl FOk.nil (by rfl) rfl (xq (j:=0) (T':=[(((c.1++([b]:List GF))++v)).length]) rfl rfl rfl rfl el53 el53 gg gg (za rfl) (za rfl) xk i rfl rfl) ss (R.r ?_));cases a;exact fe rfl rfl (leV.osl _ _ _)
theorem ok89 {l0:(List GE)} {d:GE} {res:(List GE)}  (a:ref05Bury l0 d=some res):Sp 89 [.sl 3 (l0.map GE.row),.agg (GE.row d)] h (yL (.sl 3 (res.map GE.row)) h):=by
 unfold ref05Bury at a;refine zb Tryz.func89 rfl (by kernel_rfl) (yK 40 rfl) (R.r ?_);refine zd a (λw q a=>cp (ok87 q) (R.r ?_));refine ze gg a (λs a=>?_) (λs a=>?_)
 ·apply R.r;cases a;exact fz rfl rfl
 ·apply R.r;refine xe (λ(b:(List GE)×Int)=>zo 1 2 (zo 7 33 [(4,.any),(5,osA h 0 3 (b.1.map GE.row)),(6,.int .i64 b.2)])) (λb=>h.ext [.cells (GE.row d)] [(b.1).length]) a (λ_=>by simp only [zo,wg,uf,ug];try rfl) (wk.trans (wk_tok gt5 rfl st5 rfl) (wk.le (by exact (.eq (.drop (.drop (.eq (.drop (.cons (leV.of_eq rfl) (.cons (leV.of_eq rfl) (.d16 (.d16 (.drop leL.nil))))))))))))) ?_;intro y b x a n;apply R.r;refine zX (by kernel_rfl) (R.r ?_);refine draw_len rfl rfl (xU rfl rfl rfl rfl el38 gg wN) ss (R.r ?_);refine yf a (λm a=>dgix m (R.r ?_));refine ya a (λv g a=>xi rfl rfl sc (λu=>ok35 (g u)) ss (R.r ?_));refine ze gg a (λi a=>?_) (λi a=>?_)
  ·apply R.r;refine zd a (λc l a=>ix l (R.r ?_));refine zc rfl (zr (es:=([c]:List GE).map GE.row) rfl el38 ze36 rfl rfl (zf gg zg) (.cons (za rfl) .nil) rfl rfl rfl) ss ?_;refine yf a (λp a=>zc rfl (xq (j:=0) (T':=[((b.1++([c]:List GE))).length]) rfl rfl rfl rfl el38 el38 gg gg (za rfl) (za rfl) yH p rfl rfl) ss (R.r ?_));cases a;exact ⟨((b.1++([c]:List GE)),(IntKind.wrap .i64 (b.2+(1:Int)))),n,wk.le LEL.o⟩
  ·apply R.r;cases a;replace a:=n;apply R.r;refine zX (by kernel_rfl) (R.r ?_);refine zq rfl rfl (zr (es:=([d]:List GE).map GE.row) rfl el38 ze36 rfl rfl (zf gg zg) (.cons (za rfl) .nil) rfl rfl rfl) ss ?_;refine yf a (λe a=>xu rfl FOk.nil (by rfl) rfl (xq (j:=0) (T':=[((b.1++([d]:List GE))).length]) rfl rfl rfl rfl el38 el38 gg gg (za rfl) (za rfl) yH e rfl rfl) ss (R.r ?_));refine zd a (λt f a=>zq rfl rfl (vW rfl el38 gg (.inl rfl) (.some gg) .none f) ss ?_);refine yf a (λk a=>xu rfl FOk.nil (by rfl) rfl (xq (j:=0) (T':=[(((b.1++([d]:List GE))++t)).length]) rfl rfl rfl rfl el38 el38 gg gg (za rfl) (za rfl) xk k rfl rfl) ss (R.r ?_));cases a;exact fe rfl rfl (leV.osl _ _ _)
theorem ok90 {l0:(List GF)} {b:(List GE)} {res:(List GF)}  (a:ref05Left l0 b=some res):Sp 90 [.sl 5 (l0.map GF.row),.sl 3 (b.map GE.row)] h (yL (.sl 5 (res.map GF.row)) h):=by
 unfold ref05Left at a;refine zb Tryz.func90 rfl (by kernel_rfl) (yK 29 rfl) (R.r ?_);refine zy (λ(n:Nat) (d:(List GF))=>zo 2 3 (zo 7 22 [(5,osA h 0 5 (d.map GF.row)),(6,.int .i64 (n:Int))])) (λd=>h.ext [] [d.length]) a (λ_ _=>by simp only [zo,wg,uf,ug];try rfl) (wk.trans (wk_tok gt5 rfl st5 rfl) (wk.le (by exact (.eq (.eq (.drop (.drop (.drop (.cons (leV.of_eq rfl) (.cons (leV.of_eq rfl) (.d16 (.d4 (.drop (.drop leL.nil)))))))))))))) ?_;intro n d o a;apply R.r;refine ln λc=>?_;replace c:=yh c;apply R.r;refine zF gg a (λm q g l a i=>?_) (λa=>?_)
 ·apply R.r;refine ix (zB l) (R.r ?_);refine zd a (λp e a=>cp (ok87 e) (R.r ?_));refine ze gg a (λf a=>?_) (λf a=>?_)
  ·apply R.r;refine ix (zB l) (R.r ?_);refine zc rfl (zr (es:=([m]:List GF).map GF.row) rfl el53 ze73 rfl rfl (zf gg zg) (.cons (za rfl) .nil) rfl rfl rfl) ss ?_;refine yf a (λk a=>zc rfl (xq (j:=0) (T':=[((d++([m]:List GF))).length]) rfl rfl rfl rfl el53 el53 gg gg (za rfl) (za rfl) yH k rfl rfl) ss (R.r ?_));cases a;exact ⟨(d++([m]:List GF)),g,i,wk.le (by exact (.eq (.eq (.drop (.drop (.drop (.cons (leV.of_eq rfl) (.cons (leV.of_eq (xc (by omega) (by omega))) (.d16 (.d4 (.drop (.drop leL.nil))))))))))))⟩
  ·apply R.r;cases a;exact ⟨d,g,i,wk.le (by exact (.eq (.eq (.drop (.drop (.drop (.cons (leV.of_eq rfl) (.cons (leV.of_eq (xc (by omega) (by omega))) (.d16 (.d4 (.drop (.drop leL.nil))))))))))))⟩
 ·apply R.r;cases a;exact fe rfl rfl (leV.osl _ _ _)
theorem ok51 {b:GH} {res:(GC×Int)}  (a:ref05Apply l0 b=some res):Sp 51 [.agg (GC.row l0),.agg (GH.row b)] h (yL (.tup [.agg (GC.row res.1),.int .i64 res.2]) h):=by
 unfold ref05Apply at a;refine zb Tryz.func51 rfl (by kernel_rfl) (yK 121 rfl) (R.r ?_);refine zd a (λK q a=>cp (ok82 q) (R.r ?_));refine ya a (λM v a=>zL rfl sc (λs=>ok28 (v s)) ss (R.r ?_));refine ze gg a (λE a=>?_) (λE a=>?_)
 ·apply R.r;refine zc rfl (yi (cs':=xb) rfl su55 ze55 pl55 zg .nil rfl rfl) ss (R.r ?_);cases a;exact fe rfl rfl (leV.tup (.cons (leV.agg (.eq (.eq (.eq (.eq (.eq (.eq (.eq (.cons (leV.osl _ _ _) (.cons (leV.osl _ _ _) leL.nil))))))))) rfl) (.eq leL.nil)))
 ·apply R.r;refine yN [3] [] trivial mixed (by kernel_rfl) (R.r ?_);refine zd a (λv4 t a=>zJ rfl rfl (λ_=>sc rfl) (by rintro _ ⟨B2,T2,rfl,p⟩;exact ok50 t) ss (R.r ?_));refine ze gg a (λu a=>?_) (λu a=>?_)
  ·apply R.r;refine zc rfl (yi (cs':=xb) rfl su55 ze55 pl55 zg .nil rfl rfl) ss (R.r ?_);cases a;exact fe rfl rfl (leV.tup (.cons (leV.agg (.eq (.eq (.eq (.eq (.eq (.eq (.eq (.cons (leV.osl _ _ _) (.cons (leV.osl _ _ _) leL.nil))))))))) rfl) (.eq leL.nil)))
  ·apply R.r;refine ze gg a (λC a=>?_) (λC a=>?_)
   ·apply R.r;cases a;exact fz rfl rfl
   ·apply R.r;refine ze gg a (λz a=>?_) (λz a=>?_)
    ·apply R.r;refine ya a (λO w a=>zL rfl sc (λs=>ok19 (w s)) ss (R.r ?_));refine ze gg a (λy a=>?_) (λy a=>?_)
     ·apply R.r;cases a;exact fz rfl rfl
     ·apply R.r;cases a;exact fz rfl rfl
    ·apply R.r;refine ze gg a (λi a=>?_) (λi a=>?_)
     ·apply R.r;refine zd a (λJ k a=>cp (ok87 k) (R.r ?_));refine ze gg a (λj a=>?_) (λj a=>?_)
      ·apply R.r;refine zc rfl (yi (cs':=[.int .u64 (0:Int),.int .u8 b.dot.actor.rep,.int .u32 b.dot.actor.inc,.int .u64 b.dot.seq,.str b.op.text]) rfl su73 ze73 pl73 (zf gg (zf gg zg)) (.cons (za rfl) (.cons (za rfl) .nil)) rfl rfl) ss ?_;refine zd a (λI m a=>cp (ok88 m) (R.r ?_));cases a;exact fz rfl rfl
      ·apply R.r;cases a;exact fz rfl rfl
     ·apply R.r;refine ze gg a (λf a=>?_) (λf a=>?_)
      ·apply R.r;refine zy (λ(F:Nat) (A:(List GE))=>zo 0 2 (zo 7 114 [(5,.any),(6,.int .i64 (F:Int))])) (λA=>h.ext [.cells (zw l0 (.sl 5 (l0.items.map GF.row)) (.sl 3 (A.map GE.row))),.cells (GH.row b),.cells xb] []) a (λ_ _=>by simp only [zo,wg,uf,ug];try rfl) (wk.le LEL.o) ?_;intro F A H a;apply R.r;refine ln λc=>?_;replace c:=yh c;apply R.r;refine zF gg a (λN L B x a D=>?_) (λa=>?_)
       ·apply R.r;refine yN [8] [] trivial mixed (by kernel_rfl) (R.r ?_);refine dix (zB x) (R.r ?_);refine zd a (λl g a=>zJ rfl rfl (λ_=>sc rfl) (by rintro _ ⟨B2,T2,rfl,p⟩;exact ok89 g) ss (R.r ?_));refine zz rfl (FOk.cons (.inr (yD trivial)) FOk.nil) (by kernel_rfl) rfl (zY (cs':=(zw l0 (.sl 5 (l0.items.map GF.row)) (.sl 3 (l.map GE.row)))) rfl ty38 gg gg (za rfl) rfl rfl rfl rfl rfl) rfl (R.r ?_);cases a;exact ⟨l,B,D,wk.le (by exact (.drop (.drop (.eq (.eq (.eq (.drop (.cons (leV.of_eq (xc (by omega) (by omega))) (.d16 (.d16 (.d16 (.d16 (.d16 (.d16 (.d16 (.drop (.drop leL.nil)))))))))))))))))⟩
       ·apply R.r;refine zd a (λv50 e a=>cp (ok90 e) (R.r ?_));cases a;exact fz rfl rfl
      ·apply R.r;refine ze gg a (λd a=>?_) (λd a=>?_)
       ·apply R.r;refine zc rfl (yi (cs':=[.int .u64 b.time,.int .u8 b.dot.actor.rep,.int .u32 b.dot.actor.inc,.int .u64 b.dot.seq,.str b.op.text]) rfl su73 ze73 pl73 (zf gg (zf gg (zf gg zg))) (.cons (za rfl) (.cons (za rfl) (.cons (za rfl) .nil))) rfl rfl) ss ?_;refine zd a (λG n a=>cp (ok88 n) (R.r ?_));cases a;exact fz rfl rfl
       ·apply R.r;cases a;exact fz rfl rfl
end Go.Vv
