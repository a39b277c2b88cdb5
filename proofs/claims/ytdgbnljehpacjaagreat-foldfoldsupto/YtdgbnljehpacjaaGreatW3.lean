/- Each function that the law reaches computes what its reading says; printed by a program. -/
import Derived.Test.YtdgbnljehpacjaaGreatW2
set_option linter.all false
namespace Go.Vv
open Go Go.Proofs
set_option maxRecDepth 100000
set_option synthInstance.maxSize 100000
set_option synthInstance.maxHeartbeats 1000000
set_option maxHeartbeats 1000000
variable {s0:(List GE)} {ff1:FuncId} {af1 kf1:List AV} {res l0 a1 b2 p0 x0 x1 x2:GC} {h:AH} {n0:GA} {t0:(List GA)} {bl tl:Nat} {v1:GE}
theorem ok106 {s0:(List GA)} {s:(GA->Option Bool)} {res:Int} (q:∀x0 v (L:List Blk) (M:List Nat),s x0=some v->Sp ff1 (af1++[.agg [.str x0.name,.sl 9 (x0.leaves.map GC.row),.sl 3 (x0.subs.map GA.row)]]++kf1) (h.ext L M) (yL (.bool v) (h.ext L M))) (a:xS s0 s=some res):Sp 106 [.sl 3 (s0.map GA.row),.fn (.func ff1) af1 kf1] h (yL (.int .i64 res) h):=by
 unfold xS at a;refine zR Tryz.func106 rfl (by kernel_rfl) (yK 19 rfl) (λb x=>?_);simp only [zD,AV.low,ud,uU,tQ] at b;have j:∀n m,h.blks.length<=n->h.toks.length<=m->zD n m af1=true:=λn m g e=>yk g e _ (by simp [b]);have f:∀n m,h.blks.length<=n->h.toks.length<=m->zD n m kf1=true:=λn m g e=>yk g e _ (by simp [b]);apply R.r;refine ln λc=>?_;replace c:=yh c;apply R.r;refine zy (λ(u:Nat) (t:Unit)=>zo 2 5 (zo 9 10 [(8,.int .i64 (u:Int))])) (λt=>h.ext [] []) a (λ_ _=>by simp only [zo,wg,uf,ug];try rfl) (wk.le LEL.o) ?_;intro u t w a;apply R.r;refine zF gg a (λx1 z p i a d=>?_) (λa=>?_)
 ·apply R.r;refine zc rfl (yw rfl el23 gg gg isl (zB i) (GA.row_eq _)) ss (R.r ?_);refine zd a (λy l a=>yg rfl (scC rfl) (q _ _ _ _ l) ss (R.r ?_));refine ze gg a (λk a=>?_) (λk a=>?_)
  ·apply R.r;cases a;replace a:=d;apply R.r;cases a;exact fz rfl rfl
  ·apply R.r;cases a;exact ⟨(),p,d,wk.le (by exact (.eq (.eq (.d4 (.drop (.eq (.cons (leV.of_eq (xc (by omega) (by omega))) (.d4 (.d4 (.drop (.drop leL.nil)))))))))))⟩
 ·apply R.r;cases a;exact fz rfl rfl
theorem ok107 {c:zu} {b:Nat} {res:Bool} (a:h.blk b=some (.cells [.str c])) (d:treeXlinearC1 n0 c=some res):Sp 107 [.agg [.str n0.name,.sl 9 (n0.leaves.map GC.row),.sl 3 (n0.subs.map GA.row)],.ptr b 0] h (yL (.bool res) h):=by
 unfold treeXlinearC1 at d;refine zb Tryz.func107 rfl (by kernel_rfl) (yK 8 rfl) (R.r ?_);refine zc rfl (b_load rfl ty9 gg a (yq rfl) (za rfl)) ss (R.r ?_);cases d;exact fz rfl rfl
theorem ok60 {a:zu} {res:(GA×Bool)}  (b:xz t0 a=some res):Sp 60 [.sl 3 (t0.map GA.row),.str a] h (yL (.tup [.agg [.str res.1.name,.sl 9 (res.1.leaves.map GC.row),.sl 3 (res.1.subs.map GA.row)],.bool res.2]) h):=by
 unfold xz at b;refine zb Tryz.func60 rfl (by kernel_rfl) (yK 17 rfl) (R.r ?_);refine zc rfl (s_makeFunc rfl rfl rfl) ss ?_;refine zd b (λv1 d b=>cp (ok106 (λ_ v L M f=>ok107 (blk_ext2 (j:=0) rfl) f) d) (R.r ?_));refine ze gg b (λe b=>?_) (λe b=>?_)
 ·apply R.r;refine zc rfl (yi (cs':=lit3x) rfl su49 q9 pl49 zg .nil rfl rfl) ss (R.r ?_);cases b;exact fe rfl rfl (leV.tup (.cons (leV.agg (.eq (.cons (leV.osl _ _ _) (.cons (leV.osl _ _ _) leL.nil))) rfl) (.eq leL.nil)))
 ·apply R.r;refine zd b (λg c b=>zc rfl (yw rfl el23 gg gg isl c (GA.row_eq _)) ss (R.r ?_));cases b;exact fz rfl rfl
theorem ok103 {c:(List zu)} {res:(List zu)}  (a:treeNames t0 c=some res):Sp 103 [.sl 3 (t0.map GA.row),.sl 1 (c.map zN)] h (yL (.sl 1 (res.map zN)) h):=by
 unfold treeNames at a;refine zb Tryz.func103 rfl (by kernel_rfl) (yK 41 rfl) (R.r ?_);refine ln λd=>?_;replace d:=yh d;apply R.r;refine zy (λ(w:Nat) (q:(List GA))=>zo 1 3 (zo 5 6 (zo 14 27 [(0,.sl 3 (q.map GA.row)),(13,.int .i64 (w:Int))]))) (λq=>h.ext [] []) a (λ_ _=>by simp only [zo,wg,uf,ug];try rfl) (wk.le LEL.o) ?_;intro w q x a;apply R.r;refine zF gg a (λx1 B u n a v=>?_) (λa=>?_)
 ·apply R.r;refine ix (zB n) (R.r ?_);refine zd a (λz t a=>cp (ok60 t) (R.r ?_));cases a;exact ⟨z.1.subs,u,v,wk.trans (wk.le (by exact (.cons (leV.of_eq rfl) (.drop (.drop (.drop (.eq (.d4 (.drop (.drop (.eq (.eq (.cons (leV.of_eq (xc (by omega) (by omega))) (.d16 (.d4 (.d4 (.drop (.drop (.drop leL.nil))))))))))))))))))) (yz (by simp [zD,AV.low]) rfl rfl (by simp [Blk.low,zD,AV.low]))⟩
 ·apply R.r;refine ln λf=>?_;replace f:=yh f;apply R.r;refine zy (λ(n2:Nat) (s2:(List zu))=>zo 0 4 (zo 5 21 (zo 29 12 [(4,zT h 0 0 1 (s2.length)),(28,.int .i64 (n2:Int))]))) (λs2=>h.ext [yA h 0 1 (s2.map zN)] [s2.length]) a (λ_ _=>by simp only [zo,wg,uf,ug];try rfl) (wk.trans ((qy gt4 rfl rfl st4 rfl rfl).wk) (wk.le LEL.o)) ?_;intro n2 s2 y a;apply R.r;refine zF gg a (λx2 A l k a p=>?_) (λa=>?_)
  ·apply R.r;refine zc rfl (yw rfl el23 gg gg isl (zB k) (GA.row_eq _)) ss (R.r ?_);refine zc rfl (zr (es:=([x2.name]:List zu).map zN) rfl el37 ze9 rfl rfl (zf gg zg) (.cons (za rfl) .nil) rfl rfl rfl) ss ?_;refine yf a (λg a=>zc rfl (e_appR (i:=0) (j:=0) (B':=[yA h 0 1 ((s2++([x2.name]:List zu)).map zN),.cells [.str x2.name,.sl 9 (x2.leaves.map GC.row),.sl 3 (x2.subs.map GA.row)]]) (T':=[((s2++([x2.name]:List zu))).length]) rfl rfl rfl rfl el37 el37 gg gg rfl (za rfl) yH g rfl rfl rfl rfl rfl) ss (R.r ?_));cases a;exact ⟨(s2++([x2.name]:List zu)),l,p,wk.trans (wk.le (by exact (.d4 (.cons (leV.of_eq rfl) (.d16 (.d4 (.drop (.eq (.eq (.cons (leV.of_eq (xc (by omega) (by omega))) (.d4 (.d4 (.d4 leL.nil))))))))))))) (yz (by simp [zD,AV.low]) rfl rfl (by simp [Blk.low,zD,AV.low]))⟩
  ·apply R.r;refine zd a (λe b a=>yP rfl (sc rfl) (spec_sortS sortS104TryzLays b (i:=0) (B':=[yA h 0 1 (e.map zN)]) rfl rfl) ss ?_);refine zO ?_;refine q_seqw ((yn (j:=0) (m:=0) (B':=[.dead]) (T':=[(e.map zN).length+1]) rfl (by exact (.s4 (.cons (FzA.hit2 _ _ (by rw [ul];exact tV (sortS_len b))) (.s16 (.s16 (.s (.cons (FzA.hit2 _ _ (by rw [ul];exact tV (sortS_len b))) (FzL.refl _)))))))) rfl rfl).wk) ?_;apply R.r;cases a;exact fz rfl rfl
theorem ok59 {l0:(List (List GA))} {res:(List zu)}  (a:treeXnames l0=some res):Sp 59 [.sl 1 (l0.map (λl=>[AV.sl 3 (l.map GA.row)]))] h (yL (.sl 1 (res.map zN)) h):=by
 unfold treeXnames at a;refine zb Tryz.func59 rfl (by kernel_rfl) (yK 20 rfl) (R.r ?_);refine ln λf=>?_;replace f:=yh f;apply R.r;refine zy (λ(v:Nat) (d:(List zu))=>zo 0 2 (zo 3 2 (zo 8 12 [(2,zT h 0 0 1 (d.length)),(7,.int .i64 (v:Int))]))) (λd=>h.ext [yA h 0 1 (d.map zN)] [d.length]) a (λ_ _=>by simp only [zo,wg,uf,ug];try rfl) (wk.trans ((qy gt2 rfl rfl st2 rfl rfl).wk) (wk.le LEL.o)) ?_;intro v d w a;apply R.r;refine zF gg a (λx1 x s p a t=>?_) (λa=>?_)
 ·apply R.r;refine ix (zB p) (R.r ?_);refine zd a (λu n a=>cp ((ok103 n).le (.eq (.cons (leV.osl _ _ _) leL.nil))) ?_);refine yf a (λq a=>zc rfl (e_appR (i:=0) (j:=0) (B':=[yA h 0 1 ((d++u).map zN)]) (T':=[((d++u)).length]) rfl rfl rfl rfl el37 el37 gg gg rfl (za rfl) xk q rfl rfl rfl rfl rfl) ss (R.r ?_));cases a;exact ⟨(d++u),s,t,wk.le (by exact (.drop (.drop (.cons (leV.of_eq rfl) (.drop (.drop (.eq (.eq (.cons (leV.of_eq (xc (by omega) (by omega))) (.d4 (.d4 (.d4 leL.nil))))))))))))⟩
 ·apply R.r;refine zd a (λb c a=>yP rfl (sc rfl) (spec_sortS sortS104TryzLays c (i:=0) (B':=[yA h 0 1 (b.map zN)]) rfl rfl) ss (R.r ?_));refine vE (swk_move (j:=0) (i:=0) (n2:=b.length) (B':=[.dead,yA h 1 1 (b.map zN)]) (T':=[b.length+1,b.length]) gt18 rfl (by rw [ul];exact sortS_len c) (tV (sortS_len c)) rfl rfl st18 rfl rfl) ?_;refine zd a (λk g a=>ops_turn (B1:=[.dead]) (T1:=[b.length+1]) (j:=1) (i:=1) (B':=[.dead,.dead,yA h 2 1 (k.map zN)]) rfl (z7 rfl rfl rfl (zk gg zA) (.cons (za rfl) .nil)) (okR105 (by simp [AH.ext]) (by simp [AH.ext]) g) rfl rfl ss rfl (λe=>?_));apply R.r;obtain rfl:=oi a;refine fr rfl (wd ((yn (j:=2) (m:=2) (B':=[.dead,.dead,.dead]) (T':=[b.length+1,e,(k.map zN).length+1]) rfl (by exact (.cons (.hit2 _ _ (by simp)) (.refl _))) rfl rfl).wk) ?_);refine xO (leV.refl _) rfl ?_;exact ⟨rfl,rfl⟩
theorem ok64 {a:Int}  (b:vX a=some res):Sp 64 [.int .u8 a] h (yL (.agg (GC.row res)) h):=by
 unfold vX at b;refine zb Tryz.func64 rfl (by kernel_rfl) (yK 12 rfl) (R.r ?_);refine ze gg b (λc b=>?_) (λc b=>?_)
 ·apply R.r;refine zc rfl (yi (cs':=xb) rfl su55 ze55 pl55 zg .nil rfl rfl) ss (R.r ?_);cases b;exact fe rfl rfl (leV.agg (.eq (.eq (.eq (.eq (.eq (.eq (.eq (.cons (leV.osl _ _ _) (.cons (leV.osl _ _ _) leL.nil))))))))) rfl)
 ·apply R.r;refine zc rfl (yi (cs':=[.int .u8 a,.int .i64 (0:Int),.int .u64 (0:Int),.int .u8 (0:Int),.int .u32 (0:Int),.int .u64 (0:Int),.str ([]:zu),.osl none 5 (([]:List GF).map GF.row),.osl none 3 (([]:List GE).map GE.row)]) rfl su55 ze55 pl55 (zf gg zg) (.cons (za rfl) .nil) rfl rfl) ss (R.r ?_);cases b;exact fe rfl rfl (leV.agg (.eq (.eq (.eq (.eq (.eq (.eq (.eq (.cons (leV.osl _ _ _) (.cons (leV.osl _ _ _) leL.nil))))))))) rfl)
theorem ok65 {s0:(List GF)} {res:(List GF)}  (a:yW s0=some res):Sp 65 [.sl 5 (s0.map GF.row)] h (OwnK h 5 res.length (res.map GF.row)):=by
 unfold yW at a;refine zb Tryz.func65 rfl (by kernel_rfl) (yK 8 rfl) (R.r ?_);refine ops_nilqE rfl rfl el53 gg isl rfl (λ_=>ss) a (λe d a=>R.r ?_);refine ze gg a (λb a=>?_) (λb a=>?_)
 ·apply R.r;cases a;refine fr rfl (fin_own0 (row:=GF.row) (L:=([]:List GF)) ?_);exact ⟨rfl,rfl⟩
 ·apply R.r;refine zc rfl (zr (es:=([]:List GF).map GF.row) rfl el53 ze73 rfl rfl zg .nil rfl rfl rfl) ss (R.r ?_);refine yf a (λc a=>zc rfl (e_appN (m:=0) (T':=[((([]:List GF)++s0)).length]) rfl rfl rfl rfl el53 el53 gg gg (za rfl) (za rfl) xk c rfl rfl) ss (R.r ?_));cases a;refine fr rfl (fin_own ?_);exact ⟨rfl,rfl⟩
theorem okR65 {s0:(List GF)} {res:(List GF)}  (a:yW s0=some res):Sp 65 [.sl 5 (s0.map GF.row)] h (NewK h 5 res.length (res.map GF.row)):=by
 unfold yW at a;refine zb Tryz.func65 rfl (by kernel_rfl) (yK 8 rfl) (R.r ?_);refine ops_nilqE rfl rfl el53 gg isl rfl (λ_=>ss) a (λe d a=>R.r ?_);refine ze gg a (λb a=>?_) (λb a=>?_)
 ·apply R.r;cases a;refine fr rfl (fin_row0 ?_);exact ⟨rfl,rfl⟩
 ·apply R.r;refine zc rfl (zr (es:=([]:List GF).map GF.row) rfl el53 ze73 rfl rfl zg .nil rfl rfl rfl) ss (R.r ?_);refine vE (qy gt5 rfl rfl st5 rfl rfl) ?_;refine yf a (λc a=>zc rfl (e_appR (i:=0) (j:=0) (B':=[yA h 0 5 ((([]:List GF)++s0).map GF.row)]) (T':=[((([]:List GF)++s0)).length]) rfl rfl rfl rfl el53 el53 gg gg rfl (za rfl) xk c rfl rfl rfl rfl rfl) ss (R.r ?_));cases a;refine fr rfl (wF ?_);exact ⟨rfl,rfl⟩
theorem ok62 {s0:(List GC)} {s:(GC->Option Bool)} {res:Int} (q:∀x0 v (L:List Blk) (M:List Nat),s x0=some v->Sp ff1 (af1++[.agg (GC.row x0)]++kf1) (h.ext L M) (yL (.bool v) (h.ext L M))) (a:yu s0 s=some res):Sp 62 [.sl 9 (s0.map GC.row),.fn (.func ff1) af1 kf1] h (yL (.int .i64 res) h):=by
 unfold yu at a;refine zR Tryz.func62 rfl (by kernel_rfl) (yK 19 rfl) (λb x=>?_);simp only [zD,AV.low,ud,uU,tQ] at b;have j:∀n m,h.blks.length<=n->h.toks.length<=m->zD n m af1=true:=λn m g e=>yk g e _ (by simp [b]);have f:∀n m,h.blks.length<=n->h.toks.length<=m->zD n m kf1=true:=λn m g e=>yk g e _ (by simp [b]);apply R.r;refine ln λc=>?_;replace c:=yh c;apply R.r;refine zy (λ(u:Nat) (t:Unit)=>zo 2 5 (zo 9 10 [(8,.int .i64 (u:Int))])) (λt=>h.ext [] []) a (λ_ _=>by simp only [zo,wg,uf,ug];try rfl) (wk.le LEL.o) ?_;intro u t w a;apply R.r;refine zF gg a (λx1 z p i a d=>?_) (λa=>?_)
 ·apply R.r;refine ix (zB i) (R.r ?_);refine zd a (λy l a=>yg rfl (scC rfl) (q _ _ _ _ l) ss (R.r ?_));refine ze gg a (λk a=>?_) (λk a=>?_)
  ·apply R.r;cases a;replace a:=d;apply R.r;cases a;exact fz rfl rfl
  ·apply R.r;cases a;exact ⟨(),p,d,wk.le (by exact (.eq (.eq (.d4 (.drop (.eq (.cons (leV.of_eq (xc (by omega) (by omega))) (.d4 (.d4 (.drop (.drop leL.nil)))))))))))⟩
 ·apply R.r;cases a;exact fz rfl rfl
theorem ok63 {c:Int} {b:Nat} {res:Bool} (a:h.blk b=some (.cells [.int .u8 c])) (d:treeLeafC1 l0 c=some res):Sp 63 [.agg (GC.row l0),.ptr b 0] h (yL (.bool res) h):=by
 unfold treeLeafC1 at d;refine zb Tryz.func63 rfl (by kernel_rfl) (yK 8 rfl) (R.r ?_);refine zc rfl (b_load rfl ty5 gg a (yq rfl) (za rfl)) ss (R.r ?_);cases d;exact fz rfl rfl
theorem ok41 {d:(List zu)} {c:Int} {res:(GC×Bool)}  (a:vP t0 d c=some res):Sp 41 [.sl 3 (t0.map GA.row),.sl 1 (d.map zN),.int .u8 c] h (yL (.tup [.agg (GC.row res.1),.bool res.2]) h):=by
 unfold vP at a;refine zb Tryz.func41 rfl (by kernel_rfl) (yK 66 rfl) (R.r ?_);refine ln λp=>?_;replace p:=yh p;refine zc rfl (xK rfl gg rfl rfl) ss ?_;refine zc rfl (yj rfl gg (za rfl)) ss ?_;refine zO (yo ?_);refine r_join (λ(i:Bool×zu×(List GC)×(List GA))=>zo 0 5 (zo 10 56 [(7,.any),(9,.bool i.1)])) (λi=>h.ext [.cells [.int .u8 c],.cells xb,.cells [.str i.2.1,.sl 9 (i.2.2.1.map GC.row),.sl 3 (i.2.2.2.map GA.row)]] []) a (λ_=>by simp only [zo,wg,uf,ug];try rfl) (λI a y=>?_) (λi a=>?_)
 ·apply R.r;refine ln λf=>?_;replace f:=yh f;apply R.r;refine zy (λ(n2:Nat) (s2:(List GA)×Bool×zu×(List GC)×(List GA))=>zo 1 4 (zo 10 7 (zo 20 46 [(7,.any),(0,.sl 3 (s2.1.map GA.row)),(9,.bool s2.2.1),(19,.int .i64 (n2:Int))]))) (λs2=>h.ext [.cells [.int .u8 c],.cells xb,.cells [.str s2.2.2.1,.sl 9 (s2.2.2.2.1.map GC.row),.sl 3 (s2.2.2.2.2.map GA.row)]] []) a (λ_ _=>by simp only [zo,wg,uf,ug];try rfl) (wk.trans (wk_leB (j:=2) rfl (by exact (.eq (.cons (leV.osl _ _ _) (.cons (leV.osl _ _ _) leL.nil)))) rfl rfl) (wk.le LEL.o)) ?_;intro n2 s2 E a;apply R.r;refine zF gg a (λx2 H C A a s=>?_) (λa=>?_)
  ·apply R.r;refine ix (zB A) (R.r ?_);refine zd a (λb w a=>cp (ok60 w) (R.r ?_));refine ze gg a (λx a=>?_) (λx a=>?_)
   ·apply R.r;refine qF (by decide) (R.r ?_);cases a;replace a:=s;apply R.r;refine q_join ?_;cases a;exact ⟨(b.2,b.1.name,b.1.leaves,b.1.subs),y,wk.le LEL.o⟩
   ·apply R.r;cases a;exact ⟨(b.1.subs,b.2,b.1.name,b.1.leaves,b.1.subs),C,s,wk.le (by exact (.cons (leV.of_eq rfl) (.d4 (.eq (.eq (.drop (.eq (.cons (leV.of_eq rfl) (.d4 (.drop (.drop (.drop (.eq (.eq (.cons (leV.of_eq (xc (by omega) (by omega))) (.d16 (.d16 (.d4 (.d4 (.d4 (.drop (.drop leL.nil))))))))))))))))))))))⟩
  ·apply R.r;refine q_join ?_;cases a;exact ⟨(s2.2.1,s2.2.2.1,s2.2.2.2.1,s2.2.2.2.2),y,wk.le LEL.o⟩
 ·apply R.r;refine zc rfl (s_makeFunc rfl rfl rfl) ss ?_;refine zd a (λG u a=>cp (ok62 (λ_ v L M F=>ok63 (blk_ext2 (j:=0) rfl) F) u) (R.r ?_));refine ya a (λv50 l a=>zL rfl sc (λB=>ok64 (l B)) ss ?_);refine vd rfl (λB=>s_field rfl fo55x0 ty5 (yd gg B) rfl (za rfl)) ss (R.r ?_);refine ze gg a (λk a=>?_) (λk a=>?_)
  ·apply R.r;refine zd a (λD z a=>cp (ok64 z) (R.r ?_));cases a;exact fz rfl rfl
  ·apply R.r;refine zd a (λg q a=>ix q (R.r ?_));refine zX (by kernel_rfl) (R.r ?_);refine zd a (λe t a=>draw_callH rfl FOk.nil (by rfl) rfl (sc rfl) (own_ext (T':=[e.length]) (ok65 t) (m:=0) rfl rfl) ss (R.r ?_));refine zd a (λv55 n a=>draw_callH rfl FOk.nil (by rfl) rfl (sc rfl) (own_ext (T':=[e.length,v55.length]) (ok33 n) (m:=1) rfl rfl) ss (R.r ?_));refine zz rfl FOk.nil (by kernel_rfl) rfl (zY (cs':=(zw g (osA h 0 5 (e.map GF.row)) (.sl 3 (g.tombs.map GE.row)))) rfl ty53 gg gg (za rfl) rfl rfl rfl rfl rfl) rfl (R.r ?_);refine zz rfl FOk.nil (by kernel_rfl) rfl (zY (cs':=(zw g (osA h 0 5 (e.map GF.row)) (osA h 1 3 (v55.map GE.row)))) rfl ty38 gg gg (za rfl) rfl rfl rfl rfl rfl) rfl (R.r ?_);cases a;exact fe rfl rfl (leV.tup (.cons (leV.agg (.eq (.eq (.eq (.eq (.eq (.eq (.eq (.cons (leV.osl _ _ _) (.cons (leV.osl _ _ _) leL.nil))))))))) rfl) (.eq leL.nil)))
theorem ok108 {a:Int} {res:(GC×Bool)}  (b:xM n0 a=some res):Sp 108 [.agg [.str n0.name,.sl 9 (n0.leaves.map GC.row),.sl 3 (n0.subs.map GA.row)],.int .u8 a] h (yL (.tup [.agg (GC.row res.1),.bool res.2]) h):=by
 unfold xM at b;refine zb Tryz.func108 rfl (by kernel_rfl) (yK 15 rfl) (R.r ?_);refine zc rfl (zr (es:=([n0]:List GA).map GA.row) rfl el23 q9 rfl rfl (zf gg zg) (.cons (za rfl) .nil) rfl rfl (by simp only [uz,tr,GA.row_eq];rfl)) ss (R.r ?_);refine zc rfl (zr (es:=([n0.name]:List zu).map zN) rfl el37 ze9 rfl rfl (zf gg zg) (.cons (za rfl) .nil) rfl rfl rfl) ss (R.r ?_);refine zd b (λv1 c b=>cp ((ok41 c).le (.cons (leV.osl _ _ _) (.cons (leV.osl _ _ _) (.eq leL.nil)))) (R.r ?_));cases b;exact fz rfl rfl
theorem ok135  (a:vH l0 a1 b2=some res):Sp 135 [.agg (GC.row l0),.agg (GC.row a1),.agg (GC.row b2)] h (yL (.agg (GC.row res)) h):=by
 unfold vH at a;refine zb Tryz.func135 rfl (by kernel_rfl) (yK 17 rfl) (R.r ?_);cases a;exact fz rfl rfl
theorem ok136  (a:va p0 a1 b2=some res):Sp 136 [.agg (GC.row p0),.agg (GC.row a1),.agg (GC.row b2)] h (yL (.agg (GC.row res)) h):=by
 unfold va at a;refine zb Tryz.func136 rfl (by kernel_rfl) (yK 29 rfl) (R.r ?_);refine ya a (λv1 b a=>zL (aG_gv rfl rfl rfl) sc (λd=>ok110 (b d)) ss (R.r ?_));refine ze gg a (λc a=>?_) (λc a=>?_)
 ·apply R.r;cases a;exact fz rfl rfl
 ·apply R.r;cases a;exact fz rfl rfl
def sort113TryzRen:Go.Shelf.Ren :=
  { f:=λx=>match x with
      | 6=>113
      | 15=>134
      | 14=>144
      | 28=>164
      | 29=>165
      | 20=>170
      | 21=>171
      | 22=>172
      | 23=>173
      | 24=>174
      | 25=>175
      | 26=>176
      | 27=>177
      | 46=>195
      | 47=>184
      | 48=>185
      | 49=>196
      | 50=>197
      | 57=>203
      | n=>n
    t:=λx=>match x with
      | 22=>38
      | 24=>36
      | 25=>151
      | 3=>3
      | 39=>159
      | 0=>0
      | 53=>31
      | 55=>34
      | 4=>4
      | 46=>188
      | 45=>187
      | 50=>124
      | 5=>5
      | 9=>9
      | 66=>208
      | 70=>212
      | 76=>221
      | 77=>222
      | n=>n
    g:=λn=>n }
theorem sort113TryzLays:Go.Proofs.SlLaysF0.n6 Tryz.prog sort113TryzRen where
  mixed:=mixed
  f6:=⟨Tryz.f113.name,by kernel_rfl,Tryz.func113.trans (by kernel_rfl)⟩
  f15:=Tryz.func134.trans (by kernel_rfl)
  f14:=⟨Tryz.f144.name,by kernel_rfl,Tryz.func144.trans (by kernel_rfl)⟩
  f28:=Tryz.func164.trans (by kernel_rfl)
  f29:=Tryz.func165.trans (by kernel_rfl)
  f20:=⟨Tryz.f170.name,by kernel_rfl,Tryz.func170.trans (by kernel_rfl)⟩
  f21:=⟨Tryz.f171.name,by kernel_rfl,Tryz.func171.trans (by kernel_rfl)⟩
  f22:=⟨Tryz.f172.name,by kernel_rfl,Tryz.func172.trans (by kernel_rfl)⟩
  f23:=⟨Tryz.f173.name,by kernel_rfl,Tryz.func173.trans (by kernel_rfl)⟩
  f24:=⟨Tryz.f174.name,by kernel_rfl,Tryz.func174.trans (by kernel_rfl)⟩
  f25:=⟨Tryz.f175.name,by kernel_rfl,Tryz.func175.trans (by kernel_rfl)⟩
  f26:=⟨Tryz.f176.name,by kernel_rfl,Tryz.func176.trans (by kernel_rfl)⟩
  f27:=⟨Tryz.f177.name,by kernel_rfl,Tryz.func177.trans (by kernel_rfl)⟩
  f46:=⟨Tryz.f195.name,by kernel_rfl,Tryz.func195.trans (by kernel_rfl)⟩
  f47:=Tryz.func184.trans (by kernel_rfl)
  f48:=Tryz.func185.trans (by kernel_rfl)
  f49:=⟨Tryz.f196.name,by kernel_rfl,Tryz.func196.trans (by kernel_rfl)⟩
  f50:=⟨Tryz.f197.name,by kernel_rfl,Tryz.func197.trans (by kernel_rfl)⟩
  f57:=⟨Tryz.f203.name,by kernel_rfl,Tryz.func203.trans (by kernel_rfl)⟩
  t0:=Tryz.underlying0
  a0:=Tryz.isAgg0
  z0:=Tryz.sizeOf0
  v0:=Tryz.zeroValue0
  t3:=Tryz.underlying3
  a3:=Tryz.isAgg3
  z3:=Tryz.sizeOf3
  v3:=Tryz.zeroValue3
  t4:=Tryz.underlying4
  a4:=Tryz.isAgg4
  z4:=Tryz.sizeOf4
  v4:=Tryz.zeroValue4
  t5:=Tryz.underlying5
  a5:=Tryz.isAgg5
  z5:=Tryz.sizeOf5
  v5:=Tryz.zeroValue5
  t9:=Tryz.underlying9
  a9:=Tryz.isAgg9
  z9:=Tryz.sizeOf9
  v9:=Tryz.zeroValue9
  t22:=Tryz.underlying38
  a22:=Tryz.isAgg38
  z22:=Tryz.sizeOf38
  v22:=Tryz.zeroValue38
  t25:=Tryz.underlying151
  a25:=Tryz.isAgg151
  z25:=Tryz.sizeOf151
  v25:=Tryz.zeroValue151
  t39:=Tryz.underlying159
  a39:=Tryz.isAgg159
  z39:=Tryz.sizeOf159
  v39:=Tryz.zeroValue159
  t45:=Tryz.underlying187
  a45:=Tryz.isAgg187
  z45:=Tryz.sizeOf187
  v45:=Tryz.zeroValue187
  t46:=Tryz.underlying188
  a46:=Tryz.isAgg188
  z46:=Tryz.sizeOf188
  v46:=Tryz.zeroValue188
  t50:=Tryz.underlying124
  a50:=Tryz.isAgg124
  z50:=Tryz.sizeOf124
  v50:=Tryz.zeroValue124
  t53:=Tryz.underlying31
  a53:=Tryz.isAgg31
  z53:=Tryz.sizeOf31
  v53:=Tryz.zeroValue31
  t55:=Tryz.underlying34
  a55:=Tryz.isAgg34
  z55:=Tryz.sizeOf34
  v55:=Tryz.zeroValue34
  t66:=Tryz.underlying208
  a66:=Tryz.isAgg208
  z66:=Tryz.sizeOf208
  v66:=Tryz.zeroValue208
  t70:=Tryz.underlying212
  a70:=Tryz.isAgg212
  z70:=Tryz.sizeOf212
  v70:=Tryz.zeroValue212
  t76:=Tryz.underlying221
  a76:=Tryz.isAgg221
  z76:=Tryz.sizeOf221
  v76:=Tryz.zeroValue221
  t77:=Tryz.underlying222
  a77:=Tryz.isAgg222
  z77:=Tryz.sizeOf222
  v77:=Tryz.zeroValue222
theorem okR115 {res:(List GE)} (F:h.blks.length=bl) (G:h.toks.length=tl) (a:xT s0=some res):Sp 115 [.rsl bl tl 3 s0.length] (h.ext [.row tl 3 (s0.map GE.row)] [s0.length]) (TurnK h bl tl 3 res.length (res.map GE.row)):=by
 unfold xT at a;subst F G;refine zC Tryz.func115 rfl (by kernel_rfl) (yK 61 rfl) (R.r ?_);refine ln λx=>?_;replace x:=yh x;apply R.r;refine ze gg a (λJ a=>?_) (λJ a=>?_)
 ·apply R.r;cases a;refine fr rfl (fin_turn0 (row:=GE.row) ?_);exact ⟨rfl,_,rfl⟩
 ·apply R.r;refine xe (λ(l:Int)=>zo 1 2 (zo 4 57 [(3,.int .i64 l)])) (λl=>h.ext [yA h 0 3 (s0.map GE.row)] [s0.length]) a (λ_=>by simp only [zo,wg,uf,ug];try rfl) (wk.le LEL.o) ?_;intro Q l P a u;apply R.r;refine ln λn=>?_;replace n:=yh n;apply R.r;refine ze gg a (λD a=>?_) (λD a=>?_)
  ·apply R.r;refine zX (by kernel_rfl) (R.r ?_);refine zd a (λE p a=>zq rfl rfl (yG rfl el38 gg gg (xn p rfl)) ss ?_);refine zq rfl rfl (vh (off:=0) (i:=0) (q:=h.toks.length+0) (z:=l.toNat) (row:=GE.row) (λ_=>rfl) rfl ty36.choose_spec.1 (by decide) gg rfl rfl (wz p).2.2 (yO (cs':=(GE.row E)) ty36.choose_spec.2 rfl rfl) (za rfl)) ss (R.r ?_);refine zd a (λH m a=>zq rfl rfl (yG rfl el38 gg gg (xn m rfl)) ss ?_);refine zq rfl rfl (vh (off:=0) (i:=0) (q:=h.toks.length+0) (z:=(IntKind.wrap .i64 (l - (1:Int))).toNat) (row:=GE.row) (λ_=>rfl) rfl ty36.choose_spec.1 (by decide) gg rfl rfl (wz m).2.2 (yO (cs':=(GE.row H)) ty36.choose_spec.2 rfl rfl) (za rfl)) ss ?_;refine zq rfl rfl (xK rfl gg gg (bin_eq pk36 rfl)) ss (R.r ?_);refine ze gg a (λy a=>?_) (λy a=>?_)
   ·apply R.r;refine yf a (λC a=>xE rfl (e_sufR rfl el38 gg gg C) ss (R.r ?_));refine xe (λ(s2:Int×Int×(List GE))=>zo 1 2 (zo 6 55 [(3,.int .i64 s2.1),(5,.int .i64 s2.2.1)])) (λs2=>h.ext [yA h 0 3 (s2.2.2.map GE.row)] [s0.length]) a (λ_=>by simp only [zo,wg,uf,ug];try rfl) (wk.le LEL.o) ?_;intro n2 s2 O a t;refine yf a (λb a=>R.r ?_);refine ln λM=>R.r ?_;refine ze gg a (λv a=>?_) (λv a=>?_)
    ·apply R.r;refine zX (by kernel_rfl) (R.r ?_);refine zd a (λI c a=>?_);replace c:=idxS c;refine zq rfl rfl (e_idxS rfl el38 gg gg ⟨c.1,by have:=c.2.1;have:=b;omega⟩) ss ?_;refine zq rfl rfl (vh (off:=0) (i:=0) (q:=h.toks.length+0) (z:=(l.toNat+s2.2.1.toNat)) (row:=GE.row) (λ_=>rfl) rfl ty36.choose_spec.1 (by decide) gg rfl b c.2.2 (yO (cs':=(GE.row I)) ty36.choose_spec.2 rfl rfl) (za rfl)) ss (R.r ?_);refine zd a (λK f a=>?_);replace f:=idxS f;refine zq rfl rfl (e_idxS rfl el38 gg gg ⟨f.1,by have:=f.2.1;have:=b;omega⟩) ss ?_;refine zq rfl rfl (vh (off:=0) (i:=0) (q:=h.toks.length+0) (z:=(l.toNat+(IntKind.wrap .i64 (s2.2.1 - (1:Int))).toNat)) (row:=GE.row) (λ_=>rfl) rfl ty36.choose_spec.1 (by decide) gg rfl b f.2.2 (yO (cs':=(GE.row K)) ty36.choose_spec.2 rfl rfl) (za rfl)) ss ?_;refine zq rfl rfl (xK rfl gg gg (bin_ne pk36 rfl)) ss (R.r ?_);refine ze gg a (λw a=>?_) (λw a=>?_)
     ·apply R.r;refine zd a (λk e a=>?_);replace e:=idxS e;refine zc rfl (e_idxS rfl el38 gg gg ⟨e.1,by have:=e.2.1;have:=b;omega⟩) ss ?_;refine zc rfl (vh (off:=0) (i:=0) (q:=h.toks.length+0) (z:=(l.toNat+s2.2.1.toNat)) (row:=GE.row) (λ_=>rfl) rfl ty36.choose_spec.1 (by decide) gg rfl b e.2.2 (yO (cs':=(GE.row k)) ty36.choose_spec.2 rfl rfl) (za rfl)) ss ?_;refine zd a (λN s a=>zc rfl (yG rfl el38 gg gg (xn s b)) ss ?_);refine zc rfl (vM (off:=0) (i:=0) (q:=h.toks.length+0) (z:=s2.1.toNat) (row:=GE.row) (y':=k) (us:=(GE.row k)) (B':=[yA h 0 3 ((s2.2.2.set s2.1.toNat k).map GE.row)]) (λ_=>rfl) rfl ty36.choose_spec.1 gg gg (za rfl) rfl rfl rfl rfl b (wz s).2.2 (by decide) rfl rfl) rfl (R.r ?_);cases a;exact ⟨((IntKind.wrap .i64 (s2.1+(1:Int))),(IntKind.wrap .i64 (s2.2.1+(1:Int))),(s2.2.2.set s2.1.toNat k)),t,wk.le LEL.o⟩
     ·apply R.r;cases a;exact ⟨(s2.1,(IntKind.wrap .i64 (s2.2.1+(1:Int))),s2.2.2),t,wk.le LEL.o⟩
    ·apply R.r;cases a;replace a:=t;apply R.r;refine yf a (λg a=>xE rfl (e_sufR rfl el38 gg gg g) ss ?_);refine xE rfl (e_clrR (i:=0) (q:=h.toks.length+0) (L:=s2.2.2) (row:=GE.row) (d:=(GE.mk (GJ.mk (0:Int) (0:Int)) (0:Int))) (B':=[yA h 0 3 ((s2.2.2.take s2.1.toNat++List.replicate (s0.length - s2.1.toNat) (GE.mk (GJ.mk (0:Int) (0:Int)) (0:Int))).map GE.row)]) (λ_=>rfl) rfl rfl rfl rfl el38 ze36 rfl gg rfl b (rP.2 g.2) rfl) rfl (R.r ?_);refine zd a (λA B a=>xE rfl (e_cutR (i:=0) (j:=0) (L:=(s2.2.2.take s2.1.toNat++List.replicate (s0.length - s2.1.toNat) (GE.mk (GJ.mk (0:Int) (0:Int)) (0:Int)))) (row:=GE.row) (B':=[.dead,yA h 1 3 (A.map GE.row)]) (T':=[s0.length+1,A.length]) rfl el38 gg gg rfl (clr_len b (rP.2 g.2)) B rfl rfl rfl rfl) ss (R.r ?_));cases a;replace a:=u;apply R.r;cases a;refine fr rfl (wF ?_);exact ⟨rfl,_,rfl⟩
   ·apply R.r;cases a;exact ⟨(IntKind.wrap .i64 (l+(1:Int))),u,wk.le LEL.o⟩
  ·apply R.r;cases a;replace a:=u;apply R.r;cases a;refine fr rfl (fin_turn0 (row:=GE.row) ?_);exact ⟨rfl,_,rfl⟩
theorem okR189 {b:Int} {res:(List GE)} (c:h.blks.length=bl) (k:h.toks.length=tl) (a:vR ([]:List GE) b=some res):Sp 189 [.osl none 3 [],.int .i64 b] h (yL (.rsl bl tl 3 res.length) (h.ext [.row tl 3 (res.map GE.row)] [res.length])):=by
 unfold vR at a;subst c k;refine zb Tryz.func189 rfl (by kernel_rfl) (yK 27 rfl) (R.r ?_);refine ze gg a (λl a=>?_) (λl a=>?_)
 ·apply R.r;refine xE rfl (b_mkI rfl ty9 rfl rfl (za rfl)) ss ?_;cases a
 ·apply R.r;refine xE rfl (b_cap rfl rfl rfl rfl el38 gg (za rfl)) ss (R.r ?_);refine ln λo=>R.r ?_;refine ze gg a (λg a=>?_) (λg a=>?_)
  ·apply R.r;refine xE rfl (b_cap rfl rfl rfl rfl el38 gg (za rfl)) ss ?_;refine xE rfl (b_cut0 rfl el38 gg gg) ss (R.r ?_);refine yf a (λf a=>xE rfl (b_zeros (row:=GE.row) (d:=(GE.mk (GJ.mk (0:Int) (0:Int)) (0:Int))) (B':=[yA h 0 3 ((List.replicate (IntKind.wrap .i64 (b - (IntKind.wrap .i64 ((0:Int) - ((0:Nat):Int))))).toNat (GE.mk (GJ.mk (0:Int) (0:Int)) (0:Int))).map GE.row)]) (T':=[(IntKind.wrap .i64 (b - (IntKind.wrap .i64 ((0:Int) - ((0:Nat):Int))))).toNat]) rfl rfl rfl rfl el38 ty3 ze36 rfl rfl gg (za rfl) gg f rfl rfl rfl rfl) ss (R.r ?_));refine ln λn=>zd a (λm e a=>xE rfl (e_cutR (i:=0) (j:=0) (L:=(List.replicate (IntKind.wrap .i64 (b - (IntKind.wrap .i64 ((0:Int) - ((0:Nat):Int))))).toNat (GE.mk (GJ.mk (0:Int) (0:Int)) (0:Int)))) (row:=GE.row) (B':=[.dead,yA h 1 3 (m.map GE.row)]) (T':=[((IntKind.wrap .i64 (b - (IntKind.wrap .i64 ((0:Int) - ((0:Nat):Int))))).toNat)+1,m.length]) rfl el38 gg gg rfl List.length_replicate e rfl rfl rfl rfl) ss ?_);apply R.r;cases a;refine fr rfl (qP (hds_row (j:=1) (i:=1) rfl (by simp)) ?_);exact ⟨by simp only [ul];try rfl,by simp only [ul];try rfl⟩
  ·apply R.r;cases a;refine fr rfl (qP hds_nil ?_);exact ⟨rfl,rfl⟩
theorem okR166 {b:(List (List GE))} {res:(List GE)} (n:h.blks.length=bl) (q:h.toks.length=tl) (a:wV b=some res):Sp 166 [.sl 1 (b.map (λl=>[AV.sl 3 (l.map GE.row)]))] h (yL (.rsl bl tl 3 res.length) (h.ext [.row tl 3 (res.map GE.row)] [res.length])):=by
 unfold wV at a;subst n q;refine zb Tryz.func166 rfl (by kernel_rfl) (yK 36 rfl) (R.r ?_);refine ln λe=>?_;replace e:=yh e;apply R.r;refine zy (λ(y:Nat) (m:Int)=>zo 1 2 (zo 4 5 (zo 12 24 [(3,.int .i64 m),(11,.int .i64 (y:Int))]))) (λm=>h.ext [] []) a (λ_ _=>by simp only [zo,wg,uf,ug];try rfl) (wk.le LEL.o) ?_;intro y m z a;apply R.r;refine zF gg a (λx1 C w u a x=>?_) (λa=>?_)
 ·apply R.r;refine ix (zB u) (R.r ?_);refine ln λf=>?_;replace f:=yh f;apply R.r;refine ze gg a (λv a=>?_) (λv a=>?_)
  ·apply R.r;refine xE rfl (b_mkI rfl ty9 rfl rfl (za rfl)) ss ?_;cases a
  ·apply R.r;cases a;exact ⟨(IntKind.wrap .i64 (m+(x1.length:Int))),w,x,wk.le (by exact (.eq (.drop (.drop (.cons (leV.of_eq rfl) (.d4 (.drop (.eq (.eq (.cons (leV.of_eq (xc (by omega) (by omega))) (.d16 (.d4 (.d4 leL.nil)))))))))))))⟩
 ·apply R.r;refine zd a (λd k a=>yP rfl (sc rfl) (vT (v':=zT h 0 0 3 (d.length)) (B':=[yA h 0 3 (d.map GE.row)]) (T':=[d.length]) (okR189 (by rw [ext_bl];rfl) (by rw [ext_tl];rfl) k) rfl rfl rfl) ss (R.r ?_));refine ln λc=>?_;replace c:=yh c;apply R.r;refine zy (λ(n2:Nat) (s2:(List GE))=>zo 0 6 (zo 7 18 (zo 28 8 [(6,zT h 0 0 3 (s2.length)),(27,.int .i64 (n2:Int))]))) (λs2=>h.ext [yA h 0 3 (s2.map GE.row)] [s2.length]) a (λ_ _=>by simp only [zo,wg,uf,ug];try rfl) (wk.le LEL.o) ?_;intro n2 s2 A a;apply R.r;refine zF gg a (λx2 B s p a t=>?_) (λa=>?_)
  ·apply R.r;refine ix (zB p) (R.r ?_);refine yf a (λg a=>zc rfl (e_appR (i:=0) (j:=0) (B':=[yA h 0 3 ((s2++x2).map GE.row)]) (T':=[((s2++x2)).length]) rfl rfl rfl rfl el38 el38 gg gg rfl (za rfl) xk g rfl rfl rfl rfl rfl) ss (R.r ?_));cases a;exact ⟨(s2++x2),s,t,wk.le (by exact (.d4 (.drop (.drop (.cons (leV.of_eq rfl) (.d16 (.drop (.drop (.eq (.eq (.cons (leV.of_eq (xc (by omega) (by omega))) (.d4 (.d4 leL.nil)))))))))))))⟩
  ·apply R.r;cases a;refine fr rfl (qP (hds_row (j:=0) (i:=0) rfl (by simp)) ?_);exact ⟨by simp only [ul];try rfl,by simp only [ul];try rfl⟩
def sort192TryzRen:Go.Shelf.Ren :=
  { f:=λx=>match x with
      | 6=>192
      | 15=>134
      | 14=>201
      | 28=>164
      | 29=>165
      | 20=>204
      | 21=>205
      | 22=>206
      | 23=>207
      | 24=>208
      | 25=>209
      | 26=>210
      | 27=>211
      | 46=>212
      | 47=>184
      | 48=>185
      | 49=>213
      | 50=>214
      | 57=>215
      | n=>n
    t:=λx=>match x with
      | 22=>53
      | 24=>73
      | 25=>177
      | 3=>3
      | 39=>159
      | 0=>0
      | 53=>31
      | 55=>34
      | 4=>4
      | 46=>188
      | 45=>187
      | 50=>124
      | 5=>5
      | 9=>9
      | 66=>208
      | 70=>212
      | 76=>221
      | 77=>222
      | n=>n
    g:=λn=>n }
theorem sort192TryzLays:Go.Proofs.SlLaysF0.n6 Tryz.prog sort192TryzRen where
  mixed:=mixed
  f6:=⟨Tryz.f192.name,by kernel_rfl,Tryz.func192.trans (by kernel_rfl)⟩
  f15:=Tryz.func134.trans (by kernel_rfl)
  f14:=⟨Tryz.f201.name,by kernel_rfl,Tryz.func201.trans (by kernel_rfl)⟩
  f28:=Tryz.func164.trans (by kernel_rfl)
  f29:=Tryz.func165.trans (by kernel_rfl)
  f20:=⟨Tryz.f204.name,by kernel_rfl,Tryz.func204.trans (by kernel_rfl)⟩
  f21:=⟨Tryz.f205.name,by kernel_rfl,Tryz.func205.trans (by kernel_rfl)⟩
  f22:=⟨Tryz.f206.name,by kernel_rfl,Tryz.func206.trans (by kernel_rfl)⟩
  f23:=⟨Tryz.f207.name,by kernel_rfl,Tryz.func207.trans (by kernel_rfl)⟩
  f24:=⟨Tryz.f208.name,by kernel_rfl,Tryz.func208.trans (by kernel_rfl)⟩
  f25:=⟨Tryz.f209.name,by kernel_rfl,Tryz.func209.trans (by kernel_rfl)⟩
  f26:=⟨Tryz.f210.name,by kernel_rfl,Tryz.func210.trans (by kernel_rfl)⟩
  f27:=⟨Tryz.f211.name,by kernel_rfl,Tryz.func211.trans (by kernel_rfl)⟩
  f46:=⟨Tryz.f212.name,by kernel_rfl,Tryz.func212.trans (by kernel_rfl)⟩
  f47:=Tryz.func184.trans (by kernel_rfl)
  f48:=Tryz.func185.trans (by kernel_rfl)
  f49:=⟨Tryz.f213.name,by kernel_rfl,Tryz.func213.trans (by kernel_rfl)⟩
  f50:=⟨Tryz.f214.name,by kernel_rfl,Tryz.func214.trans (by kernel_rfl)⟩
  f57:=⟨Tryz.f215.name,by kernel_rfl,Tryz.func215.trans (by kernel_rfl)⟩
  t0:=Tryz.underlying0
  a0:=Tryz.isAgg0
  z0:=Tryz.sizeOf0
  v0:=Tryz.zeroValue0
  t3:=Tryz.underlying3
  a3:=Tryz.isAgg3
  z3:=Tryz.sizeOf3
  v3:=Tryz.zeroValue3
  t4:=Tryz.underlying4
  a4:=Tryz.isAgg4
  z4:=Tryz.sizeOf4
  v4:=Tryz.zeroValue4
  t5:=Tryz.underlying5
  a5:=Tryz.isAgg5
  z5:=Tryz.sizeOf5
  v5:=Tryz.zeroValue5
  t9:=Tryz.underlying9
  a9:=Tryz.isAgg9
  z9:=Tryz.sizeOf9
  v9:=Tryz.zeroValue9
  t22:=Tryz.underlying53
  a22:=Tryz.isAgg53
  z22:=Tryz.sizeOf53
  v22:=Tryz.zeroValue53
  t25:=Tryz.underlying177
  a25:=Tryz.isAgg177
  z25:=Tryz.sizeOf177
  v25:=Tryz.zeroValue177
  t39:=Tryz.underlying159
  a39:=Tryz.isAgg159
  z39:=Tryz.sizeOf159
  v39:=Tryz.zeroValue159
  t45:=Tryz.underlying187
  a45:=Tryz.isAgg187
  z45:=Tryz.sizeOf187
  v45:=Tryz.zeroValue187
  t46:=Tryz.underlying188
  a46:=Tryz.isAgg188
  z46:=Tryz.sizeOf188
  v46:=Tryz.zeroValue188
  t50:=Tryz.underlying124
  a50:=Tryz.isAgg124
  z50:=Tryz.sizeOf124
  v50:=Tryz.zeroValue124
  t53:=Tryz.underlying31
  a53:=Tryz.isAgg31
  z53:=Tryz.sizeOf31
  v53:=Tryz.zeroValue31
  t55:=Tryz.underlying34
  a55:=Tryz.isAgg34
  z55:=Tryz.sizeOf34
  v55:=Tryz.zeroValue34
  t66:=Tryz.underlying208
  a66:=Tryz.isAgg208
  z66:=Tryz.sizeOf208
  v66:=Tryz.zeroValue208
  t70:=Tryz.underlying212
  a70:=Tryz.isAgg212
  z70:=Tryz.sizeOf212
  v70:=Tryz.zeroValue212
  t76:=Tryz.underlying221
  a76:=Tryz.isAgg221
  z76:=Tryz.sizeOf221
  v76:=Tryz.zeroValue221
  t77:=Tryz.underlying222
  a77:=Tryz.isAgg222
  z77:=Tryz.sizeOf222
  v77:=Tryz.zeroValue222
theorem ok193 {x0:GF} {b:GF} {res:Int}  (a:qq x0 b=some res):Sp 193 [.agg [.int .u64 x0.time,.int .u8 x0.dot.actor.rep,.int .u32 x0.dot.actor.inc,.int .u64 x0.dot.seq,.str x0.text],.agg [.int .u64 b.time,.int .u8 b.dot.actor.rep,.int .u32 b.dot.actor.inc,.int .u64 b.dot.seq,.str b.text]] h (yL (.int .i64 res) h):=by
 unfold qq at a;refine zb Tryz.func193 rfl (by kernel_rfl) (yK 14 rfl) (R.r ?_);refine zd a (λv1 c a=>cp (ok110 c) (R.r ?_));refine ze gg a (λd a=>?_) (λd a=>?_)
 ·apply R.r;cases a;exact fz rfl rfl
 ·apply R.r;cases a;exact fz rfl rfl
theorem ok140 {res:Int}  (a:qA s0 v1=some res):Sp 140 [.sl 3 (s0.map GE.row),.agg (GE.row v1)] h (yL (.int .i64 res) h):=by
 unfold qA at a;refine zb Tryz.func140 rfl (by kernel_rfl) (yK 19 rfl) (R.r ?_);refine ln λb=>?_;replace b:=yh b;apply R.r;refine zy (λ(g:Nat) (i:Unit)=>zo 1 2 (zo 4 3 (zo 9 10 [(8,.int .i64 (g:Int))]))) (λi=>h.ext [.cells (GE.row v1)] []) a (λ_ _=>by simp only [zo,wg,uf,ug];try rfl) (wk.le LEL.o) ?_;intro g i j a;apply R.r;refine zF gg a (λx1 k e f a c=>?_) (λa=>?_)
 ·apply R.r;refine zX (by kernel_rfl) (R.r ?_);refine dix (zB f) (R.r ?_);refine zq rfl rfl (xK rfl gg gg (bin_eq pk36 rfl)) ss (R.r ?_);refine ze gg a (λd a=>?_) (λd a=>?_)
  ·apply R.r;cases a;replace a:=c;apply R.r;cases a;exact fz rfl rfl
  ·apply R.r;cases a;exact ⟨(),e,c,wk.le (by exact (.eq (.drop (.drop (.eq (.drop (.drop (.drop (.eq (.cons (leV.of_eq (xc (by omega) (by omega))) (.d4 (.d4 (.drop (.drop leL.nil))))))))))))))⟩
 ·apply R.r;cases a;exact fz rfl rfl
theorem ok111 {res:Bool}  (a:y8 s0 v1=some res):Sp 111 [.sl 3 (s0.map GE.row),.agg (GE.row v1)] h (yL (.bool res) h):=by
 unfold y8 at a;refine zb Tryz.func111 rfl (by kernel_rfl) (yK 9 rfl) (R.r ?_);refine zd a (λv1 b a=>cp (ok140 b) (R.r ?_));cases a;exact fz rfl rfl
theorem okR200 {b:Int} {res:(List GF)} (c:h.blks.length=bl) (k:h.toks.length=tl) (a:vl ([]:List GF) b=some res):Sp 200 [.osl none 5 [],.int .i64 b] h (yL (.rsl bl tl 5 res.length) (h.ext [.row tl 5 (res.map GF.row)] [res.length])):=by
 unfold vl at a;subst c k;refine zb Tryz.func200 rfl (by kernel_rfl) (yK 27 rfl) (R.r ?_);refine ze gg a (λl a=>?_) (λl a=>?_)
 ·apply R.r;refine xE rfl (b_mkI rfl ty9 rfl rfl (za rfl)) ss ?_;cases a
 ·apply R.r;refine xE rfl (b_cap rfl rfl rfl rfl el53 gg (za rfl)) ss (R.r ?_);refine ln λo=>R.r ?_;refine ze gg a (λg a=>?_) (λg a=>?_)
  ·apply R.r;refine xE rfl (b_cap rfl rfl rfl rfl el53 gg (za rfl)) ss ?_;refine xE rfl (b_cut0 rfl el53 gg gg) ss (R.r ?_);refine yf a (λf a=>xE rfl (b_zeros (row:=GF.row) (d:=(GF.mk (0:Int) (GE.mk (GJ.mk (0:Int) (0:Int)) (0:Int)) ([]:zu))) (B':=[yA h 0 5 ((List.replicate (IntKind.wrap .i64 (b - (IntKind.wrap .i64 ((0:Int) - ((0:Nat):Int))))).toNat (GF.mk (0:Int) (GE.mk (GJ.mk (0:Int) (0:Int)) (0:Int)) ([]:zu))).map GF.row)]) (T':=[(IntKind.wrap .i64 (b - (IntKind.wrap .i64 ((0:Int) - ((0:Nat):Int))))).toNat]) rfl rfl rfl rfl el53 ty3 ze73 rfl rfl gg (za rfl) gg f rfl rfl rfl rfl) ss (R.r ?_));refine ln λn=>zd a (λm e a=>xE rfl (e_cutR (i:=0) (j:=0) (L:=(List.replicate (IntKind.wrap .i64 (b - (IntKind.wrap .i64 ((0:Int) - ((0:Nat):Int))))).toNat (GF.mk (0:Int) (GE.mk (GJ.mk (0:Int) (0:Int)) (0:Int)) ([]:zu)))) (row:=GF.row) (B':=[.dead,yA h 1 5 (m.map GF.row)]) (T':=[((IntKind.wrap .i64 (b - (IntKind.wrap .i64 ((0:Int) - ((0:Nat):Int))))).toNat)+1,m.length]) rfl el53 gg gg rfl List.length_replicate e rfl rfl rfl rfl) ss ?_);apply R.r;cases a;refine fr rfl (qP (hds_row (j:=1) (i:=1) rfl (by simp)) ?_);exact ⟨by simp only [ul];try rfl,by simp only [ul];try rfl⟩
  ·apply R.r;cases a;refine fr rfl (qP hds_nil ?_);exact ⟨rfl,rfl⟩
theorem okR191 {b:(List (List GF))} {res:(List GF)} (n:h.blks.length=bl) (q:h.toks.length=tl) (a:wc b=some res):Sp 191 [.sl 1 (b.map (λl=>[AV.sl 5 (l.map GF.row)]))] h (yL (.rsl bl tl 5 res.length) (h.ext [.row tl 5 (res.map GF.row)] [res.length])):=by
 unfold wc at a;subst n q;refine zb Tryz.func191 rfl (by kernel_rfl) (yK 36 rfl) (R.r ?_);refine ln λe=>?_;replace e:=yh e;apply R.r;refine zy (λ(y:Nat) (m:Int)=>zo 1 2 (zo 4 5 (zo 12 24 [(3,.int .i64 m),(11,.int .i64 (y:Int))]))) (λm=>h.ext [] []) a (λ_ _=>by simp only [zo,wg,uf,ug];try rfl) (wk.le LEL.o) ?_;intro y m z a;apply R.r;refine zF gg a (λx1 C w u a x=>?_) (λa=>?_)
 ·apply R.r;refine ix (zB u) (R.r ?_);refine ln λf=>?_;replace f:=yh f;apply R.r;refine ze gg a (λv a=>?_) (λv a=>?_)
  ·apply R.r;refine xE rfl (b_mkI rfl ty9 rfl rfl (za rfl)) ss ?_;cases a
  ·apply R.r;cases a;exact ⟨(IntKind.wrap .i64 (m+(x1.length:Int))),w,x,wk.le (by exact (.eq (.drop (.drop (.cons (leV.of_eq rfl) (.d4 (.drop (.eq (.eq (.cons (leV.of_eq (xc (by omega) (by omega))) (.d16 (.d4 (.d4 leL.nil)))))))))))))⟩
 ·apply R.r;refine zd a (λd k a=>yP rfl (sc rfl) (vT (v':=zT h 0 0 5 (d.length)) (B':=[yA h 0 5 (d.map GF.row)]) (T':=[d.length]) (okR200 (by rw [ext_bl];rfl) (by rw [ext_tl];rfl) k) rfl rfl rfl) ss (R.r ?_));refine ln λc=>?_;replace c:=yh c;apply R.r;refine zy (λ(n2:Nat) (s2:(List GF))=>zo 0 6 (zo 7 18 (zo 28 8 [(6,zT h 0 0 5 (s2.length)),(27,.int .i64 (n2:Int))]))) (λs2=>h.ext [yA h 0 5 (s2.map GF.row)] [s2.length]) a (λ_ _=>by simp only [zo,wg,uf,ug];try rfl) (wk.le LEL.o) ?_;intro n2 s2 A a;apply R.r;refine zF gg a (λx2 B s p a t=>?_) (λa=>?_)
  ·apply R.r;refine ix (zB p) (R.r ?_);refine yf a (λg a=>zc rfl (e_appR (i:=0) (j:=0) (B':=[yA h 0 5 ((s2++x2).map GF.row)]) (T':=[((s2++x2)).length]) rfl rfl rfl rfl el53 el53 gg gg rfl (za rfl) xk g rfl rfl rfl rfl rfl) ss (R.r ?_));cases a;exact ⟨(s2++x2),s,t,wk.le (by exact (.d4 (.drop (.drop (.cons (leV.of_eq rfl) (.d16 (.drop (.drop (.eq (.eq (.cons (leV.of_eq (xc (by omega) (by omega))) (.d4 (.d4 leL.nil)))))))))))))⟩
  ·apply R.r;cases a;refine fr rfl (qP (hds_row (j:=0) (i:=0) rfl (by simp)) ?_);exact ⟨by simp only [ul];try rfl,by simp only [ul];try rfl⟩
theorem ok167 {a0:(List GF)} {A:(List GF)} {b:(List GE)} {res:(List GF)}  (c:fuseXboth a0 A b=some res):Sp 167 [.sl 5 (a0.map GF.row),.sl 5 (A.map GF.row),.sl 3 (b.map GE.row)] h (yL (.sl 5 (res.map GF.row)) h):=by
 unfold fuseXboth at c;refine zb Tryz.func167 rfl (by kernel_rfl) (yK 29 rfl) (R.r ?_);refine zc rfl (e_makeMap (n:=2) rfl rfl) ss (R.r ?_);refine zc rfl (s_makeFunc rfl rfl rfl) ss (R.r ?_);refine zc rfl (zr (es:=([a0,A]:List (List GF)).map (λl=>[AV.sl 5 (l.map GF.row)])) rfl el224 ze53 rfl rfl (zf gg (zf gg zg)) (.cons (za rfl) (.cons (za rfl) .nil)) rfl rfl rfl) ss ?_;refine zd c (λv1 B c=>yP rfl (sc rfl) (vT (v':=zT h 4 0 5 (v1.length)) (B':=[.cells [.sl 3 (b.map GE.row)],.cells [.osl none 5 (([]:List GF).map GF.row)],.mapo (([]:List (GE×Int)).map (wD (λx=>AV.agg (GE.row x)) (AV.int .i64))) 0,.cells [.map (h.blks.length+2)],yA h 0 5 (v1.map GF.row)]) (T':=[v1.length]) (Spec.le (okR191 (by rw [ext_bl];rfl) (by rw [ext_tl];rfl) B) (.cons (leV.osl _ _ _) leL.nil)) rfl rfl rfl) ss ?_);refine ln λJ=>R.r ?_;refine yf c (λK c=>zy (λ(D:Nat) (e:List (GE×Int)×(List GF))=>zo 0 6 (zo 9 7 (zo 19 10 [(7,.any),(18,.int .i64 (D:Int))]))) (λe=>h.ext [.cells [.sl 3 (b.map GE.row)],.cells [zT h 5 1 5 ((e.2).length)],.mapo (e.1.map (wD (λx=>AV.agg (GE.row x)) (AV.int .i64))) 0,.cells [.map (h.blks.length+2)],yA h 0 5 (v1.map GF.row),yA h 1 5 (e.2.map GF.row)] [v1.length,(e.2).length]) c (λ_ _=>by simp only [zo,wg,uf,ug];try rfl) (wk.trans ((swk_thawB (jb:=1) (o:=0) (B':=[.cells [.sl 3 (b.map GE.row)],.cells [zT h 5 1 5 ((([]:List GF)).length)],.mapo (([]:List (GE×Int)).map (wD (λx=>AV.agg (GE.row x)) (AV.int .i64))) 0,.cells [.map (h.blks.length+2)],yA h 0 5 (v1.map GF.row),yA h 1 5 (([]:List GF).map GF.row)]) (T':=[v1.length,(([]:List GF)).length]) rfl rfl rfl rfl rfl rfl rfl).wk) (wk.le LEL.o)) ?_);intro D e F c;apply R.r;refine r_condR gg c (λx1 L C H I c E=>?_) (λc=>?_)
 ·apply R.r;refine zd c (λa p c=>zc rfl (yG rfl el53 gg gg (xn p rfl)) ss ?_);refine zc rfl (vh (off:=0) (i:=4) (q:=h.toks.length+0) (z:=(D:Int).toNat) (row:=GF.row) (λ_=>rfl) rfl ty73.choose_spec.1 (by decide) gg rfl rfl (wz p).2.2 (yO (cs':=[.int .u64 a.time,.int .u8 a.dot.actor.rep,.int .u32 a.dot.actor.inc,.int .u64 a.dot.seq,.str a.text]) ty73.choose_spec.2 rfl rfl) (za rfl)) ss (R.r ?_);refine zd c (λf w c=>xC (args:=[.agg [.int .u64 a.time,.int .u8 a.dot.actor.rep,.int .u32 a.dot.actor.inc,.int .u64 a.dot.seq,.str a.text],.ptr (h.blks.length+3) 0,.ptr (h.blks.length+0) 0,.ptr (h.blks.length+1) 0]) (X:=Unit) (v:=.tup []) (H':=λ_=>h.ext [.cells [.sl 3 (b.map GE.row)],.cells [zT h 5 1 5 ((f.2).length)],.mapo (f.1.map (wD (λx=>AV.agg (GE.row x)) (AV.int .i64))) 0,.cells [.map (h.blks.length+2)],yA h 0 5 (v1.map GF.row),yA h 1 5 (f.2.map GF.row),.cells [.int .u64 a.time,.int .u8 a.dot.actor.rep,.int .u32 a.dot.actor.inc,.int .u64 a.dot.seq,.str a.text]] [v1.length,(f.2).length]) rfl (s_callC rfl rfl gg (zk gg zA) (.cons (za rfl) .nil) rfl) ?_ ss (λ_=>?_))
  ·replace c:=w;refine zC Tryz.func190 rfl (by kernel_rfl) (yK 28 rfl) (R.r ?_);refine r_drawnF [3] (λ_=>MapE h 2 (e.1.map (wD (λx=>AV.agg (GE.row x)) (AV.int .i64))) ((ment GE.eqb (0:Int) e.1 a.dot).map (wD (λx=>AV.agg (GE.row x)) (AV.int .i64)))) (λ_=>⟨_,_,rfl,.inl rfl⟩) mixed (by kernel_rfl) (R.r ?_);refine xr rfl rfl (e_lookupF (m:=e.1) (k:=a.dot) (d:=(0:Int)) (j:=2) (kv:=(λx=>AV.agg (GE.row x))) (vv:=(AV.int .i64)) rfl Tryz.underlying68 kq36 az3 gg gg) ss (R.r ?_);refine zz rfl (FOk.all ⟨_,_,rfl,.inr rfl⟩) (by kernel_rfl) rfl (e_entry (m:=e.1) (k:=a.dot) (d:=(0:Int)) (j:=2) (kv:=(λx=>AV.agg (GE.row x))) (vv:=(AV.int .i64)) rfl Tryz.underlying68 kq36 az3 gg rfl gg rfl) ss (R.r ?_);refine zz rfl (FOk.skip (by kernel_rfl)) (by kernel_rfl) rfl (e_entryStore (m:=e.1) (k:=a.dot) (d:=(0:Int)) (v:=(IntKind.wrap .i64 ((yC GE.eqb (0:Int) e.1 a.dot)+(1:Int)))) (j:=2) (eq:=GE.eqb) (kv:=(λx=>AV.agg (GE.row x))) (vv:=(AV.int .i64)) rfl gg rfl gg rfl gg rfl rfl) rfl (R.r ?_);refine zc rfl (e_lookup (m:=(vj GE.eqb e.1 a.dot (IntKind.wrap .i64 ((yC GE.eqb (0:Int) e.1 a.dot)+(1:Int))))) (k:=a.dot) (d:=(0:Int)) (j:=2) (kv:=(λx=>AV.agg (GE.row x))) (vv:=(AV.int .i64)) rfl Tryz.underlying68 kq36 az3 gg rfl gg) ss (R.r ?_);refine ya c (λv22 t c=>zL rfl sc (λG=>ok111 (t G)) ss (R.r ?_));refine ze gg c (λy c=>?_) (λy c=>?_)
   ·apply R.r;refine zc rfl (zr (es:=([a]:List GF).map GF.row) rfl el53 ze73 rfl rfl (zf gg zg) (.cons (za rfl) .nil) rfl rfl rfl) ss ?_;refine yf c (λu c=>zc rfl (e_appR (i:=5) (j:=1) (B':=[.cells [.sl 3 (b.map GE.row)],.cells [zT h 5 1 5 ((e.2).length)],.mapo ((vj GE.eqb e.1 a.dot (IntKind.wrap .i64 ((yC GE.eqb (0:Int) e.1 a.dot)+(1:Int)))).map (wD (λx=>AV.agg (GE.row x)) (AV.int .i64))) 0,.cells [.map (h.blks.length+2)],yA h 0 5 (v1.map GF.row),yA h 1 5 ((e.2++([a]:List GF)).map GF.row),.cells [.int .u64 a.time,.int .u8 a.dot.actor.rep,.int .u32 a.dot.actor.inc,.int .u64 a.dot.seq,.str a.text],.cells [.int .u64 a.time,.int .u8 a.dot.actor.rep,.int .u32 a.dot.actor.inc,.int .u64 a.dot.seq,.str a.text]]) (T':=[v1.length,((e.2++([a]:List GF))).length]) rfl rfl rfl rfl el53 el53 gg gg rfl (za rfl) yH u rfl rfl rfl rfl rfl) ss (R.r ?_));obtain rfl:=oi c;refine fr rfl (wm (yz (by simp [zD,AV.low]) rfl rfl (by simp [Blk.low,zD,AV.low,GE.row,wD])) ?_);exact ⟨rfl,(),rfl⟩
   ·apply R.r;obtain rfl:=oi c;refine fr rfl (wm (yz (by simp [zD,AV.low]) rfl rfl (by simp [Blk.low,zD,AV.low,GE.row,wD])) ?_);exact ⟨rfl,(),rfl⟩
  ·apply R.r;cases c;exact ⟨(f.1,f.2),C,E,wk.trans (wk.le (by exact (.d4 (.drop (.drop (.eq (.drop (.eq (.d4 (.drop (.drop (.drop (.eq (.eq (.cons (leV.of_eq (xc (by omega) (by omega))) (.d4 (.d4 (.drop (.drop leL.nil))))))))))))))))))) (yz (by simp [zD,AV.low]) rfl rfl (by simp [Blk.low,zD,AV.low,GE.row,wD]))⟩
 ·apply R.r;refine zd c (λv25 g c=>yP rfl (sc rfl) (spec_sortO sort192TryzLays Tryz.isAgg73 Tryz.sizeOf73 (λ_=>rfl) (λ_=>rfl) (λ_=>by simp [plL,AV.pl,plE_map,zN,intRow,byteRow,boolRow,GJ.row,GE.row,GF.row,GC.row,GK.row,GH.row,GI.row,GM.row]) (enters_fn Tryz.func193 rfl (by kernel_rfl)) (λ_ _ _ h=>ok193 h) g (i:=5) (B':=[.cells [.sl 3 (b.map GE.row)],.cells [zT h 5 1 5 ((e.2).length)],.mapo (e.1.map (wD (λx=>AV.agg (GE.row x)) (AV.int .i64))) 0,.cells [.map (h.blks.length+2)],yA h 0 5 (v1.map GF.row),yA h 1 5 (v25.map GF.row)]) rfl rfl) ss ?_);refine zO ?_;refine q_seqw (wk.trans ((yn (j:=4) (m:=0) (B':=[.cells [.sl 3 (b.map GE.row)],.cells [zT h 5 1 5 ((e.2).length)],.mapo (e.1.map (wD (λx=>AV.agg (GE.row x)) (AV.int .i64))) 0,.cells [.map (h.blks.length+2)],.dead,yA h 1 5 (v25.map GF.row)]) (T':=[(v1.map GF.row).length+1,(e.2).length]) rfl (by exact (.s16 (.cons (FzA.hit2 _ _ (by simp)) (FzL.refl _)))) rfl rfl).wk) ((swk_freezeB (j:=5) (jb:=1) (m:=1) (B':=[.cells [.sl 3 (b.map GE.row)],.cells [.sl 5 (v25.map GF.row)],.mapo (e.1.map (wD (λx=>AV.agg (GE.row x)) (AV.int .i64))) 0,.cells [.map (h.blks.length+2)],.dead,.dead]) (T':=[(v1.map GF.row).length+1,(v25.map GF.row).length+1]) rfl (by exact (.s16 (.s4 (.s4 (.s (.s (.cons (FzA.hit2 _ _ (by rw [ul];exact tV (sortO_len g))) (FzL.refl _)))))))) rfl (by exact (.cons (FzA.hit2 _ _ (by rw [ul];exact tV (sortO_len g))) (FzL.refl _))) rfl rfl).wk)) ?_;apply R.r;cases c;exact fz rfl rfl
theorem ok137  (a:fuseXset p0 a1 b2=some res):Sp 137 [.agg (GC.row p0),.agg (GC.row a1),.agg (GC.row b2)] h (yL (.agg (GC.row res)) h):=by
 unfold fuseXset at a;refine zb Tryz.func137 rfl (by kernel_rfl) (yK 26 rfl) (R.r ?_);refine zc rfl (zr (es:=([a1.tombs,b2.tombs]:List (List GE)).map (λl=>[AV.sl 3 (l.map GE.row)])) rfl el214 ze38 rfl rfl (zf gg (zf gg zg)) (.cons (za rfl) (.cons (za rfl) .nil)) rfl rfl rfl) ss ?_;refine zd a (λv1 f a=>yP rfl (sc rfl) (vT (v':=zT h 4 0 3 (v1.length)) (B':=[.cells (GC.row p0),.cells (GC.row a1),.cells (GC.row b2),.cells xb,yA h 0 3 (v1.map GE.row)]) (T':=[v1.length]) (Spec.le (okR166 (by rw [ext_bl];rfl) (by rw [ext_tl];rfl) f) (.cons (leV.osl _ _ _) leL.nil)) rfl rfl rfl) ss (R.r ?_));refine zd a (λc b a=>yP rfl (sc rfl) (spec_sortO sort113TryzLays Tryz.isAgg36 Tryz.sizeOf36 (λ_=>rfl) (λ_=>rfl) (λ_=>by simp [plL,AV.pl,plE_map,zN,intRow,byteRow,boolRow,GJ.row,GE.row,GF.row,GC.row,GK.row,GH.row,GI.row,GM.row]) (enters_fn Tryz.func114 rfl (by kernel_rfl)) (λ_ _ _ h=>ok114 h) b (i:=4) (B':=[.cells (GC.row p0),.cells (GC.row a1),.cells (GC.row b2),.cells xb,yA h 0 3 (c.map GE.row)]) rfl rfl) ss (R.r ?_));refine vE (swk_move (j:=4) (i:=0) (n2:=c.length) (B':=[.cells (GC.row p0),.cells (GC.row a1),.cells (GC.row b2),.cells xb,.dead,yA h 1 3 (c.map GE.row)]) (T':=[c.length+1,c.length]) gt16 rfl (by rw [ul];exact sortO_len b) (tV (sortO_len b)) rfl rfl st16 rfl rfl) ?_;refine zd a (λv3 e a=>ops_turn (B1:=[.cells (GC.row p0),.cells (GC.row a1),.cells (GC.row b2),.cells xb,.dead]) (T1:=[c.length+1]) (j:=5) (i:=1) (B':=[.cells (GC.row p0),.cells (GC.row a1),.cells (GC.row b2),.cells xb,.dead,.dead,yA h 2 3 (v3.map GE.row)]) rfl (z7 rfl rfl rfl (zk gg zA) (.cons (za rfl) .nil)) (okR115 (by simp [AH.ext]) (by simp [AH.ext]) e) rfl rfl ss rfl (λd=>?_));refine zc rfl (yj rfl gg (za rfl)) ss ?_;refine zO ?_;refine q_seqw ((yn (j:=6) (m:=2) (B':=[.cells (GC.row p0),.cells (GC.row a1),.cells (GC.row b2),.cells xb,.dead,.dead,.dead]) (T':=[c.length+1,d,(v3.map GE.row).length+1]) rfl (by exact (.s4 (.s (.s (.s (.cons (FzA.hit2 _ _ (by simp)) (.s4 (.s4 (.s (.cons (FzA.hit2 _ _ (by simp)) (FzL.refl _))))))))))) rfl rfl).wk) ?_;apply R.r;refine zd a (λv4 g a=>cp (ok167 g) (R.r ?_));refine zc rfl (yi (cs':=[.int .u8 (3:Int),.int .i64 (0:Int),.int .u64 (0:Int),.int .u8 (0:Int),.int .u32 (0:Int),.int .u64 (0:Int),.str ([]:zu),.sl 5 (v4.map GF.row),.sl 3 (v3.map GE.row)]) rfl su55 ze55 pl55 (zf rfl (zf gg (zf gg zg))) (.cons (za rfl) (.cons (za rfl) (.cons (za rfl) .nil))) rfl rfl) ss (R.r ?_);cases a;exact fz rfl rfl
theorem ok138  (a:fuseXlog p0 a1 b2=some res):Sp 138 [.agg (GC.row p0),.agg (GC.row a1),.agg (GC.row b2)] h (yL (.agg (GC.row res)) h):=by
 unfold fuseXlog at a;refine zb Tryz.func138 rfl (by kernel_rfl) (yK 13 rfl) (R.r ?_);refine zd a (λv1 b a=>cp ((ok167 b).le (.eq (.eq (.cons (leV.osl _ _ _) leL.nil)))) ?_);refine zc rfl (yi (cs':=[.int .u8 (4:Int),.int .i64 (0:Int),.int .u64 (0:Int),.int .u8 (0:Int),.int .u32 (0:Int),.int .u64 (0:Int),.str ([]:zu),.sl 5 (v1.map GF.row),.osl none 3 (([]:List GE).map GE.row)]) rfl su55 ze55 pl55 (zf rfl (zf gg zg)) (.cons (za rfl) (.cons (za rfl) .nil)) rfl rfl) ss (R.r ?_);cases a;exact fe rfl rfl (leV.agg (.eq (.eq (.eq (.eq (.eq (.eq (.eq (.eq (.cons (leV.osl _ _ _) leL.nil))))))))) rfl)
theorem fnFuseok {c:Nat} {v:GC} (h:callFuse c x0 x1 x2=some v):fvFuse c=.fn (.func (fnFuse c)) [] []:=by
  unfold callFuse at h;split at h <;> first | rfl | cases h
theorem okfvFuse {c:Nat} (a:callFuse c x0 x1 x2=some res):Sp (fnFuse c) [.agg (GC.row x0),.agg (GC.row x1),.agg (GC.row x2)] h (yL (.agg (GC.row res)) h):=by
 unfold callFuse at a;split at a
 ·exact ok135 a
 ·exact ok136 a
 ·exact ok137 a
 ·exact ok138 a
 ·cases a
theorem ok109 {res:(GC×Int)}  (a:vI l0 a1 b2=some res):Sp 109 [.agg (GC.row l0),.agg (GC.row a1),.agg (GC.row b2)] h (yL (.tup [.agg (GC.row res.1),.int .i64 res.2]) h):=by
 unfold vI at a;refine zb Tryz.func109 rfl (by kernel_rfl) (yK 47 rfl) (R.r ?_);refine zd a (λv1 i a=>cp (ok55 i) (R.r ?_));refine ya a (λm e a=>zL rfl sc (λj=>ok55 (e j)) ss (R.r ?_));refine ya a (λv3 f a=>zL rfl sc (λj=>ok55 (f j)) ss (R.r ?_));refine ze gg a (λg a=>?_) (λg a=>?_)
 ·apply R.r;refine zc rfl (yi (cs':=xb) rfl su55 ze55 pl55 zg .nil rfl rfl) ss (R.r ?_);cases a;exact fe rfl rfl (leV.tup (.cons (leV.agg (.eq (.eq (.eq (.eq (.eq (.eq (.eq (.cons (leV.osl _ _ _) (.cons (leV.osl _ _ _) leL.nil))))))))) rfl) (.eq leL.nil)))
 ·apply R.r;refine ze gg a (λd a=>?_) (λd a=>?_)
  ·apply R.r;refine zc rfl (yi (cs':=xb) rfl su55 ze55 pl55 zg .nil rfl rfl) ss (R.r ?_);cases a;exact fe rfl rfl (leV.tup (.cons (leV.agg (.eq (.eq (.eq (.eq (.eq (.eq (.eq (.cons (leV.osl _ _ _) (.cons (leV.osl _ _ _) leL.nil))))))))) rfl) (.eq leL.nil)))
  ·apply R.r;refine zc rfl (s_buildArr (cs':=[.nilf,.fn (.func 135) [] [],.fn (.func 136) [] [],.fn (.func 137) [] [],.fn (.func 138) [] []]) rfl ty173.u ze173 ty172 (zf rfl (zf rfl (zf rfl (zf rfl zg)))) (.cons (za rfl) (.cons (za rfl) (.cons (za rfl) (.cons (za rfl) .nil)))) rfl rfl) ss (R.r ?_);refine zX (by kernel_rfl) (R.r ?_);refine zd a (λl c a=>zq rfl rfl (s_idxArr rfl ty173 ty172 gg gg rfl c) ss ?_);refine zq rfl rfl (wv rfl ty172 gg rfl (ldC_arr1 (row:=fvFuse) (L:=([0,1,2,3,4]:List Nat)) c rfl) (fvtFuse _ _ _)) ss (R.r ?_);refine zd a (λk b a=>wq rfl rfl (z7 rfl rfl (evo_eq gg (fnFuseok b)) (zk gg (zk gg (zk gg zA))) (.cons (za rfl) (.cons (za rfl) (.cons (za rfl) .nil)))) (okfvFuse b) ss ?_);refine zz rfl FOk.nil (by kernel_rfl) rfl (zY (cs':=(GC.row k)) rfl ty55.choose_spec.1 gg gg (za rfl) rfl rfl rfl rfl rfl) rfl (R.r ?_);cases a;exact fz rfl rfl
end Go.Vv
