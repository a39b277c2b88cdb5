/- Each function that the law reaches computes what its reading says; printed by a program. -/
import Derived.Test.YtdgbnljehpacjaaGreatW1
set_option linter.all false
namespace Go.Vv
open Go Go.Proofs
set_option maxRecDepth 100000
set_option synthInstance.maxSize 100000
set_option synthInstance.maxHeartbeats 1000000
set_option maxHeartbeats 1000000
variable {l0 s0:(List GF)} {res:Bool} {h:AH} {f1:(Int->Option Bool)} {ff1:FuncId} {af1 kf1:List AV} {t0:(List GA)} {o0:GK} {e0:GH}
theorem ok9 {l0:(List GH)} {res:(List GH)}  (a:vn l0=some res):Sp 9 [.sl 9 (l0.map GH.row)] h (yL (.sl 9 (res.map GH.row)) h):=by
 unfold vn at a;refine zb Tryz.func9 rfl (by kernel_rfl) (yK 59 rfl) (R.r ?_);refine zc rfl (zr (es:=([]:List GH).map GH.row) rfl el24 ze42 rfl rfl zg .nil rfl rfl rfl) ss (R.r ?_);refine yf a (λC a=>zc rfl (e_appN (m:=0) (T':=[((([]:List GH)++l0)).length]) rfl rfl rfl rfl el24 el24 gg gg (za rfl) (za rfl) xk C rfl rfl) ss (R.r ?_));refine xe (λ(c:(List GH)×(List GH))=>zo 0 3 (zo 5 54 [(3,.sl 9 (c.1.map GH.row)),(4,osA h 1 9 (c.2.map GH.row))])) (λc=>h.ext [] [((([]:List GH)++l0)).length,(c.2).length]) a (λ_=>by simp only [zo,wg,uf,ug];try rfl) (wk.trans (wk_tok gt4 rfl st4 rfl) (wk.le (by exact (.drop (.drop (.drop (.cons (leV.osl _ _ _) (.cons (leV.of_eq rfl) (.d16 (.d16 (.d16 (.d4 (.drop (.drop leL.nil)))))))))))))) ?_;intro K c J a z;apply R.r;refine ln λe=>?_;replace e:=yh e;apply R.r;refine ze gg a (λv a=>?_) (λv a=>?_)
 ·apply R.r;refine xe (λ(s2:Int×Int)=>zo 0 3 (zo 7 52 [(5,.int .i64 s2.1),(6,.int .i64 s2.2)])) (λs2=>h.ext [] [((([]:List GH)++l0)).length,(c.2).length]) a (λ_=>by simp only [zo,wg,uf,ug];try rfl) (wk.le LEL.o) ?_;intro n2 s2 I a g;apply R.r;refine ln λd=>?_;replace d:=yh d;apply R.r;refine ze gg a (λi a=>?_) (λi a=>?_)
  ·apply R.r;refine yN [20] [] trivial mixed (by kernel_rfl) (R.r ?_);refine zd a (λF q a=>dix q (R.r ?_));refine zd a (λH x a=>dix x (R.r ?_));refine zd a (λE t a=>dix t (R.r ?_));refine zd a (λG s a=>dix s (R.r ?_));refine zd a (λv55 l a=>zJ rfl rfl (λ_=>sc rfl) (by rintro _ ⟨B2,T2,rfl,D⟩;exact ok19 l) ss (R.r ?_));refine ze gg a (λB a=>?_) (λB a=>?_)
   ·apply R.r;cases a;exact ⟨(s2.2,(IntKind.wrap .i64 (s2.2+(1:Int)))),g,wk.le LEL.o⟩
   ·apply R.r;cases a;exact ⟨(s2.1,(IntKind.wrap .i64 (s2.2+(1:Int)))),g,wk.le LEL.o⟩
  ·apply R.r;cases a;replace a:=g;apply R.r;refine zd a (λb w a=>ix w (R.r ?_));refine zc rfl (zr (es:=([b]:List GH).map GH.row) rfl el24 ze42 rfl rfl (zf gg zg) (.cons (za rfl) .nil) rfl rfl rfl) ss ?_;refine yf a (λp a=>zc rfl (xq (j:=1) (T':=[((([]:List GH)++l0)).length,((c.2++([b]:List GH))).length]) rfl rfl rfl rfl el24 el24 gg gg (za rfl) (za rfl) yH p rfl rfl) ss (R.r ?_));refine zX (by kernel_rfl) ?_;refine zq rfl rfl (zr (es:=([]:List GH).map GH.row) rfl el24 ze42 rfl rfl zg .nil rfl rfl rfl) ss (R.r ?_);refine zd a (λf k a=>zq rfl rfl (vW rfl el24 gg (.inl rfl) .none (.some gg) k) ss ?_);refine yf a (λy a=>xu rfl FOk.nil (by rfl) rfl (e_appN (m:=2) (T':=[((([]:List GH)++l0)).length,((c.2++([b]:List GH))).length,((([]:List GH)++f)).length]) rfl rfl rfl rfl el24 el24 gg gg (za rfl) (za rfl) xk y rfl rfl) ss (R.r ?_));refine zd a (λu n a=>zq rfl rfl (vW rfl el24 gg (.inl rfl) (.some gg) .none n) ss ?_);refine yf a (λA a=>xu rfl FOk.nil (by rfl) rfl (xq (j:=2) (T':=[((([]:List GH)++l0)).length,((c.2++([b]:List GH))).length,(((([]:List GH)++f)++u)).length]) rfl rfl rfl rfl el24 el24 gg gg (za rfl) (za rfl) xk A rfl rfl) ss (R.r ?_));cases a;exact ⟨(((([]:List GH)++f)++u),(c.2++([b]:List GH))),z,wk.trans (wk.le LEL.o) (yz (by simp [zD,AV.low]) rfl rfl (by simp [Blk.low,zD,AV.low]))⟩
 ·apply R.r;cases a;replace a:=z;apply R.r;cases a;exact fe rfl rfl (leV.osl _ _ _)
theorem ok20 {a0:GK} {k:GK}  (a:ref04Same a0 k=some res):Sp 20 [.agg (GK.row a0),.agg (GK.row k)] h (yL (.bool res) h):=by
 unfold ref04Same at a;refine zb Tryz.func20 rfl (by kernel_rfl) (yK 80 rfl) (R.r ?_);refine lng λw=>R.r ?_;refine lng λB=>R.r ?_;refine lng λA=>R.r ?_;refine lng λu=>R.r ?_;refine ze gg a (λm a=>?_) (λm a=>?_)
 ·apply R.r;cases a;exact fz rfl rfl
 ·apply R.r;refine zy (λ(t:Nat) (s:Unit)=>zo 0 2 (zo 6 74 [(4,.any),(5,.int .i64 (t:Int))])) (λs=>h.ext [.cells (GK.row a0),.cells (GK.row k)] []) a (λ_ _=>by simp only [zo,wg,uf,ug];try rfl) (wk.le LEL.o) ?_;intro t s v a;apply R.r;refine ln λb=>?_;replace b:=yh b;apply R.r;refine zF gg a (λF D q p a j=>?_) (λa=>?_)
  ·apply R.r;refine zX (by kernel_rfl) (R.r ?_);refine dix (zB p) (R.r ?_);refine zd a (λx g a=>dix g (R.r ?_));refine ze gg a (λe a=>?_) (λe a=>?_)
   ·apply R.r;cases a;replace a:=j;apply R.r;cases a;exact fz rfl rfl
   ·apply R.r;cases a;exact ⟨(),q,j,wk.le (by exact (.drop (.drop (.eq (.eq (.drop (.cons (leV.of_eq (xc (by omega) (by omega))) (.d16 (.d16 (.d16 (.d16 (.d4 (.d4 (.drop (.drop leL.nil)))))))))))))))⟩
  ·apply R.r;refine zy (λ(n2:Nat) (s2:Unit)=>zo 0 2 (zo 4 2 (zo 7 73 [(6,.int .i64 (n2:Int))]))) (λs2=>h.ext [.cells (GK.row a0),.cells (GK.row k)] []) a (λ_ _=>by simp only [zo,wg,uf,ug];try rfl) (wk.le LEL.o) ?_;intro n2 s2 z a;apply R.r;refine ln λc=>?_;replace c:=yh c;apply R.r;refine zF gg a (λE C n l a d=>?_) (λa=>?_)
   ·apply R.r;refine zX (by kernel_rfl) (R.r ?_);refine dix (zB l) (R.r ?_);refine zd a (λy i a=>dix i (R.r ?_));refine zq rfl rfl (xK rfl gg gg (bin_ne pk36 rfl)) ss (R.r ?_);refine ze gg a (λf a=>?_) (λf a=>?_)
    ·apply R.r;cases a;replace a:=d;apply R.r;cases a;exact fz rfl rfl
    ·apply R.r;cases a;exact ⟨(),n,d,wk.le (by exact (.drop (.drop (.eq (.eq (.drop (.drop (.cons (leV.of_eq (xc (by omega) (by omega))) (.d16 (.d16 (.d16 (.d16 (.d4 (.d4 (.drop leL.nil)))))))))))))))⟩
   ·apply R.r;cases a;exact fz rfl rfl
theorem ok10 {a0:GH} {c:GH}  (a:wj a0 c=some res):Sp 10 [.agg (GH.row a0),.agg (GH.row c)] h (yL (.bool res) h):=by
 unfold wj at a;refine zb Tryz.func10 rfl (by kernel_rfl) (yK 24 rfl) (R.r ?_);refine zc rfl (xK rfl gg gg (bin_eq pk36 rfl)) ss (R.r ?_);refine ya a (λe b a=>zL rfl sc (λd=>ok20 (b d)) ss (R.r ?_));cases a;exact fz rfl rfl
theorem ok91 {b:Int}  (a:opIsNameC1 b=some res):Sp 91 [.int .i32 b] h (yL (.bool res) h):=by
 unfold opIsNameC1 at a;refine zb Tryz.func91 rfl (by kernel_rfl) (yK 25 rfl) (R.r ?_);cases a;exact fz rfl rfl
theorem ok152 {s0:zu} {b:Bool} {res:Int} (p:∀q v (L:List Blk) (M:List Nat),f1 q=some v->Sp ff1 (af1++[.int .i32 q]++kf1) (h.ext L M) (yL (.bool v) (h.ext L M))) (a:vf s0 f1 b=some res):Sp 152 [.str s0,.fn (.func ff1) af1 kf1,.bool b] h (yL (.int .i64 res) h):=by
 unfold vf at a;refine zR Tryz.func152 rfl (by kernel_rfl) (yK 21 rfl) (λc t=>?_);simp only [zD,AV.low,ud,uU,tQ] at c;have j:∀n m,h.blks.length<=n->h.toks.length<=m->zD n m af1=true:=λn m i f=>yk i f _ (by simp [c]);have g:∀n m,h.blks.length<=n->h.toks.length<=m->zD n m kf1=true:=λn m i f=>yk i f _ (by simp [c]);apply R.r;refine zc rfl (e_range (n:=0) rfl ty9 gg rfl) ss (R.r ?_);refine xe (λ(e:Nat)=>zo 3 7 (zo 11 10 [(0,.any)])) (λe=>h.ext [.siter s0 e] []) a (λ_=>by simp only [zo,wg,uf,ug];try rfl) (wk.le LEL.o) ?_;intro x e w a d;apply R.r;refine ops_nextF rfl rfl gg rfl ss ss a (λs a=>?_) (λa=>?_)
 ·apply R.r;refine r_cond gg (λ_=>?_) (λhh=>by cases hh);apply R.r;refine zd a (λu l a=>yg rfl (scC rfl) (p _ _ _ _ l) ss (R.r ?_));refine zc rfl (xK rfl gg gg (bin_boolE ty4)) ss (R.r ?_);refine ze gg a (λk a=>?_) (λk a=>?_)
  ·apply R.r;cases a;replace a:=d;apply R.r;cases a;exact fz rfl rfl
  ·apply R.r;cases a;exact ⟨(e+(dec s0 e).2),d,wk.le LEL.o⟩
 ·apply R.r;refine r_cond gg (λhh=>by cases hh) (λ_=>R.r ?_);cases a;replace a:=d;apply R.r;cases a;exact fz rfl rfl
theorem ok127 {s0:zu} {res:Int} (e:∀b v (L:List Blk) (M:List Nat),f1 b=some v->Sp ff1 (af1++[.int .i32 b]++kf1) (h.ext L M) (yL (.bool v) (h.ext L M))) (c:vw s0 f1=some res):Sp 127 [.str s0,.fn (.func ff1) af1 kf1] h (yL (.int .i64 res) h):=by
 unfold vw at c;refine zR Tryz.func127 rfl (by kernel_rfl) (yK 8 rfl) (λa l=>?_);simp only [zD,AV.low,ud,uU,tQ] at a;have d:∀n m,h.blks.length<=n->h.toks.length<=m->zD n m af1=true:=λn m j f=>yk j f _ (by simp [a]);have g:∀n m,h.blks.length<=n->h.toks.length<=m->zD n m kf1=true:=λn m j f=>yk j f _ (by simp [a]);apply R.r;refine zd c (λo i c=>cp (ok152 (λb v L M k=>by rw [wO];exact e b v _ _ k) i) (R.r ?_));cases c;exact fz rfl rfl
theorem ok92 {s0:zu} (e:∀b v (L:List Blk) (M:List Nat),f1 b=some v->Sp ff1 (af1++[.int .i32 b]++kf1) (h.ext L M) (yL (.bool v) (h.ext L M))) (c:xZ s0 f1=some res):Sp 92 [.str s0,.fn (.func ff1) af1 kf1] h (yL (.bool res) h):=by
 unfold xZ at c;refine zR Tryz.func92 rfl (by kernel_rfl) (yK 9 rfl) (λa l=>?_);simp only [zD,AV.low,ud,uU,tQ] at a;have d:∀n m,h.blks.length<=n->h.toks.length<=m->zD n m af1=true:=λn m j f=>yk j f _ (by simp [a]);have g:∀n m,h.blks.length<=n->h.toks.length<=m->zD n m kf1=true:=λn m j f=>yk j f _ (by simp [a]);apply R.r;refine zd c (λo i c=>cp (ok127 (λb v L M k=>by rw [wO];exact e b v _ _ k) i) (R.r ?_));cases c;exact fz rfl rfl
theorem ok54 {s0:zu}  (b:opIsName s0=some res):Sp 54 [.str s0] h (yL (.bool res) h):=by
 unfold opIsName at b;refine zb Tryz.func54 rfl (by kernel_rfl) (yK 18 rfl) (R.r ?_);refine ln λa=>?_;replace a:=yh a;apply R.r;refine lng λf=>R.r ?_;refine ya b (λv3 c b=>zL rfl sc (λe=>ok92 (λ_ v L M d=>ok91  d) (c e)) ss (R.r ?_));cases b;exact fz rfl rfl
theorem ok148 {f1:(GF->Option Bool)} {res:Int} (s:∀c v (L:List Blk) (M:List Nat),f1 c=some v->Sp ff1 (af1++[.agg [.int .u64 c.time,.int .u8 c.dot.actor.rep,.int .u32 c.dot.actor.inc,.int .u64 c.dot.seq,.str c.text]]++kf1) (h.ext L M) (yL (.bool v) (h.ext L M))) (a:yE s0 f1=some res):Sp 148 [.sl 5 (s0.map GF.row),.fn (.func ff1) af1 kf1] h (yL (.int .i64 res) h):=by
 unfold yE at a;refine zR Tryz.func148 rfl (by kernel_rfl) (yK 19 rfl) (λb x=>?_);simp only [zD,AV.low,ud,uU,tQ] at b;have k:∀n m,h.blks.length<=n->h.toks.length<=m->zD n m af1=true:=λn m i f=>yk i f _ (by simp [b]);have g:∀n m,h.blks.length<=n->h.toks.length<=m->zD n m kf1=true:=λn m i f=>yk i f _ (by simp [b]);apply R.r;refine ln λd=>?_;replace d:=yh d;apply R.r;refine zy (λ(u:Nat) (t:Unit)=>zo 2 5 (zo 9 10 [(8,.int .i64 (u:Int))])) (λt=>h.ext [] []) a (λ_ _=>by simp only [zo,wg,uf,ug];try rfl) (wk.le LEL.o) ?_;intro u t w a;apply R.r;refine zF gg a (λA z q j a e=>?_) (λa=>?_)
 ·apply R.r;refine ix (zB j) (R.r ?_);refine zd a (λy p a=>yg rfl (scC rfl) (s _ _ _ _ p) ss (R.r ?_));refine ze gg a (λl a=>?_) (λl a=>?_)
  ·apply R.r;cases a;replace a:=e;apply R.r;cases a;exact fz rfl rfl
  ·apply R.r;cases a;exact ⟨(),q,e,wk.le (by exact (.eq (.eq (.d4 (.drop (.eq (.cons (leV.of_eq (xc (by omega) (by omega))) (.d4 (.d4 (.drop (.drop leL.nil)))))))))))⟩
 ·apply R.r;cases a;exact fz rfl rfl
theorem okR148 {y g:Nat} {f1:(GF->Option Bool)} {res:Int} (j:h.blks.length=y) (l:h.toks.length=g) (w:∀b v (L:List Blk) (M:List Nat),f1 b=some v->Sp ff1 (af1++[.agg [.int .u64 b.time,.int .u8 b.dot.actor.rep,.int .u32 b.dot.actor.inc,.int .u64 b.dot.seq,.str b.text]]++kf1) (h.ext L M) (yL (.bool v) (h.ext L M))) (s:∀n m,h.blks.length<=n->h.toks.length<=m->zD n m af1=true) (k:∀n m,h.blks.length<=n->h.toks.length<=m->zD n m kf1=true) (a:yE s0 f1=some res):Sp 148 [.rsl y g 5 s0.length,.fn (.func ff1) af1 kf1] (h.ext [.row g 5 (s0.map GF.row)] [s0.length]) (yL (.int .i64 res) (h.ext [.row g 5 (s0.map GF.row)] [s0.length])):=by
 unfold yE at a;subst j l;refine zC Tryz.func148 rfl (by kernel_rfl) (yK 19 rfl) (R.r ?_);refine ln λc=>?_;replace c:=yh c;apply R.r;refine zy (λ(x:Nat) (A:Unit)=>zo 2 5 (zo 9 10 [(8,.int .i64 (x:Int))])) (λA=>h.ext [yA h 0 5 (s0.map GF.row)] [s0.length]) a (λ_ _=>by simp only [zo,wg,uf,ug];try rfl) (wk.le LEL.o) ?_;intro x A B a;apply R.r;refine zF gg a (λe C u d a f=>?_) (λa=>?_)
 ·apply R.r;refine zc rfl (yG rfl el53 gg gg (xn (zB d) rfl)) ss ?_;refine zc rfl (vh (off:=0) (i:=0) (q:=h.toks.length+0) (z:=(x:Int).toNat) (row:=GF.row) (λ_=>rfl) rfl ty73.choose_spec.1 (by decide) gg rfl rfl (wz (zB d)).2.2 (yO (cs':=[.int .u64 e.time,.int .u8 e.dot.actor.rep,.int .u32 e.dot.actor.inc,.int .u64 e.dot.seq,.str e.text]) ty73.choose_spec.2 rfl rfl) (za rfl)) ss ?_;refine zd a (λD p a=>yg rfl (scC rfl) (w _ _ _ _ p) ss (R.r ?_));refine ze gg a (λt a=>?_) (λt a=>?_)
  ·apply R.r;cases a;replace a:=f;apply R.r;cases a;refine fr rfl (fin_extR (L:=[]) (M:=[]) rfl rfl (leV.refl _) rfl ?_);exact ⟨rfl,rfl⟩
  ·apply R.r;cases a;exact ⟨(),u,f,wk.le (by exact (.eq (.eq (.d4 (.drop (.eq (.cons (leV.of_eq (xc (by omega) (by omega))) (.d4 (.d4 (.drop (.drop leL.nil)))))))))))⟩
 ·apply R.r;cases a;refine fr rfl (fin_extR (L:=[]) (M:=[]) rfl rfl (leV.refl _) rfl ?_);exact ⟨rfl,rfl⟩
theorem ok153 {f1:(GF->Option Bool)} (e:∀b v (L:List Blk) (M:List Nat),f1 b=some v->Sp ff1 (af1++[.agg [.int .u64 b.time,.int .u8 b.dot.actor.rep,.int .u32 b.dot.actor.inc,.int .u64 b.dot.seq,.str b.text]]++kf1) (h.ext L M) (yL (.bool v) (h.ext L M))) (c:xp s0 f1=some res):Sp 153 [.sl 5 (s0.map GF.row),.fn (.func ff1) af1 kf1] h (yL (.bool res) h):=by
 unfold xp at c;refine zR Tryz.func153 rfl (by kernel_rfl) (yK 9 rfl) (λa l=>?_);simp only [zD,AV.low,ud,uU,tQ] at a;have d:∀n m,h.blks.length<=n->h.toks.length<=m->zD n m af1=true:=λn m j f=>yk j f _ (by simp [a]);have g:∀n m,h.blks.length<=n->h.toks.length<=m->zD n m kf1=true:=λn m j f=>yk j f _ (by simp [a]);apply R.r;refine zd c (λo i c=>cp (ok148 (λb v L M k=>by rw [wO];exact e b v _ _ k) i) (R.r ?_));cases c;exact fz rfl rfl
theorem ok154 {a:GF} {c:GE} {d:Nat} (b:h.blk d=some (.cells (GE.row c))) (e:leafXhasC1 a c=some res):Sp 154 [.agg [.int .u64 a.time,.int .u8 a.dot.actor.rep,.int .u32 a.dot.actor.inc,.int .u64 a.dot.seq,.str a.text],.ptr d 0] h (yL (.bool res) h):=by
 unfold leafXhasC1 at e;refine zb Tryz.func154 rfl (by kernel_rfl) (yK 8 rfl) (R.r ?_);refine zc rfl (b_load rfl ty36.choose_spec.1 gg b (yO (cs':=(GE.row c)) ty36.choose_spec.2 rfl rfl) (za rfl)) ss ?_;refine zc rfl (xK rfl gg gg (bin_eq pk36 rfl)) ss (R.r ?_);cases e;exact fz rfl rfl
theorem ok129 {c:GE}  (a:leafXhas l0 c=some res):Sp 129 [.sl 5 (l0.map GF.row),.agg (GE.row c)] h (yL (.bool res) h):=by
 unfold leafXhas at a;refine zb Tryz.func129 rfl (by kernel_rfl) (yK 8 rfl) (R.r ?_);refine zc rfl (s_makeFunc rfl rfl rfl) ss ?_;refine zd a (λe b a=>cp (ok153 (λ_ v L M d=>ok154 (blk_ext2 (j:=0) rfl) d) b) (R.r ?_));cases a;exact fz rfl rfl
theorem ok56 {a0:GJ}  (a:dotMayActor a0=some res):Sp 56 [.agg (GJ.row a0)] h (yL (.bool res) h):=by
 unfold dotMayActor at a;refine zb Tryz.func56 rfl (by kernel_rfl) (yK 16 rfl) (R.r ?_);cases a;exact fz rfl rfl
theorem ok38 {c:GE}  (a:dotMay c=some res):Sp 38 [.agg (GE.row c)] h (yL (.bool res) h):=by
 unfold dotMay at a;refine zb Tryz.func38 rfl (by kernel_rfl) (yK 16 rfl) (R.r ?_);refine zd a (λd b a=>cp (ok56 b) (R.r ?_));cases a;exact fz rfl rfl
theorem ok96 {l0:GC}  (a:leafXtombs l0=some res):Sp 96 [.agg (GC.row l0)] h (yL (.bool res) h):=by
 unfold leafXtombs at a;refine zb Tryz.func96 rfl (by kernel_rfl) (yK 38 rfl) (R.r ?_);refine ln λc=>?_;replace c:=yh c;apply R.r;refine zy (λ(n:Nat) (m:Unit)=>zo 2 4 (zo 9 29 [(0,.any),(8,.int .i64 (n:Int))])) (λm=>h.ext [.cells (GC.row l0)] []) a (λ_ _=>by simp only [zo,wg,uf,ug];try rfl) (wk.le LEL.o) ?_;intro n m p a;apply R.r;refine zF gg a (λv u l k a i=>?_) (λa=>?_)
 ·apply R.r;refine ix (zB k) (R.r ?_);refine yN [1] [] trivial mixed (by kernel_rfl) (R.r ?_);refine zd a (λt f a=>zJ rfl rfl (λ_=>sc rfl) (by rintro _ ⟨B2,T2,rfl,q⟩;exact ok38 f) ss (R.r ?_));refine yf a (λg a=>dgix g (R.r ?_));refine ya a (λs e a=>xi rfl (aG_gv rfl rfl rfl) sc (λj=>ok114 (e j)) ss (R.r ?_));refine ya a (λv22 b a=>xi rfl rfl sc (λj=>ok129 (b j)) ss (R.r ?_));refine ze gg a (λd a=>?_) (λd a=>?_)
  ·apply R.r;cases a;replace a:=i;apply R.r;cases a;exact fz rfl rfl
  ·apply R.r;cases a;exact ⟨(),l,i,wk.trans (wk.le (by exact (.drop (.eq (.d4 (.eq (.eq (.cons (leV.of_eq (xc (by omega) (by omega))) (.d16 (.d4 (.d4 (.d4 (.drop leL.nil))))))))))))) (yz (by simp [zD,AV.low]) rfl rfl (by simp [Blk.low,zD,AV.low]))⟩
 ·apply R.r;cases a;exact fz rfl rfl
theorem ok130 {f:(List GF)} {i:(List GF)}  (a:wU f i=some res):Sp 130 [.sl 5 (f.map GF.row),.sl 5 (i.map GF.row)] h (yL (.bool res) h):=by
 unfold wU at a;refine zb Tryz.func130 rfl (by kernel_rfl) (yK 26 rfl) (R.r ?_);refine ln λd=>?_;replace d:=yh d;apply R.r;refine ln λg=>?_;replace g:=yh g;apply R.r;refine ze gg a (λm a=>?_) (λm a=>?_)
 ·apply R.r;cases a;exact fz rfl rfl
 ·apply R.r;refine ln λb=>?_;replace b:=yh b;apply R.r;refine zy (λ(p:Nat) (n:Unit)=>zo 2 10 (zo 14 12 [(13,.int .i64 (p:Int))])) (λn=>h.ext [] []) a (λ_ _=>by simp only [zo,wg,uf,ug];try rfl) (wk.le LEL.o) ?_;intro p n q a;apply R.r;refine zF gg a (λu t l k a j=>?_) (λa=>?_)
  ·apply R.r;refine zX (by kernel_rfl) (R.r ?_);refine dix (zB k) (R.r ?_);refine zd a (λs c a=>dix c (R.r ?_));refine zq rfl rfl (xK rfl gg gg (bin_ne pk73 rfl)) ss (R.r ?_);refine ze gg a (λe a=>?_) (λe a=>?_)
   ·apply R.r;cases a;replace a:=j;apply R.r;cases a;exact fz rfl rfl
   ·apply R.r;cases a;exact ⟨(),l,j,wk.le (by exact (.eq (.eq (.d4 (.d4 (.drop (.drop (.eq (.cons (leV.of_eq (xc (by omega) (by omega))) (.d4 (.d4 (.d4 leL.nil))))))))))))⟩
  ·apply R.r;cases a;exact fz rfl rfl
theorem ok131 {f:(List GE)} {i:(List GE)}  (a:vm f i=some res):Sp 131 [.sl 3 (f.map GE.row),.sl 3 (i.map GE.row)] h (yL (.bool res) h):=by
 unfold vm at a;refine zb Tryz.func131 rfl (by kernel_rfl) (yK 26 rfl) (R.r ?_);refine ln λd=>?_;replace d:=yh d;apply R.r;refine ln λg=>?_;replace g:=yh g;apply R.r;refine ze gg a (λm a=>?_) (λm a=>?_)
 ·apply R.r;cases a;exact fz rfl rfl
 ·apply R.r;refine ln λb=>?_;replace b:=yh b;apply R.r;refine zy (λ(p:Nat) (n:Unit)=>zo 2 10 (zo 14 12 [(13,.int .i64 (p:Int))])) (λn=>h.ext [] []) a (λ_ _=>by simp only [zo,wg,uf,ug];try rfl) (wk.le LEL.o) ?_;intro p n q a;apply R.r;refine zF gg a (λu t l k a j=>?_) (λa=>?_)
  ·apply R.r;refine zX (by kernel_rfl) (R.r ?_);refine dix (zB k) (R.r ?_);refine zd a (λs c a=>dix c (R.r ?_));refine zq rfl rfl (xK rfl gg gg (bin_ne pk36 rfl)) ss (R.r ?_);refine ze gg a (λe a=>?_) (λe a=>?_)
   ·apply R.r;cases a;replace a:=j;apply R.r;cases a;exact fz rfl rfl
   ·apply R.r;cases a;exact ⟨(),l,j,wk.le (by exact (.eq (.eq (.d4 (.d4 (.drop (.drop (.eq (.cons (leV.of_eq (xc (by omega) (by omega))) (.d4 (.d4 (.d4 leL.nil))))))))))))⟩
  ·apply R.r;cases a;exact fz rfl rfl
theorem ok97 {a0:GC} {e:GC}  (b:leafSame a0 e=some res):Sp 97 [.agg (GC.row a0),.agg (GC.row e)] h (yL (.bool res) h):=by
 unfold leafSame at b;refine zb Tryz.func97 rfl (by kernel_rfl) (yK 52 rfl) (R.r ?_);refine vd rfl (λa=>xK rfl (yd gg a) (yd gg a) (bin_eq pk36 rfl)) ss (R.r ?_);refine ya b (λg d b=>zL rfl sc (λa=>ok130 (d a)) ss (R.r ?_));refine ya b (λf c b=>zL rfl sc (λa=>ok131 (c a)) ss (R.r ?_));cases b;exact fz rfl rfl
theorem ok93 {a:Int}  (b:leafXisTime a=some res):Sp 93 [.int .u64 a] h (yL (.bool res) h):=by
 unfold leafXisTime at b;refine zb Tryz.func93 rfl (by kernel_rfl) (yK 9 rfl) (R.r ?_);cases b;exact fz rfl rfl
theorem ok94 {s0:zu}  (b:qm s0=some res):Sp 94 [.str s0] h (yL (.bool res) h):=by
 unfold qm at b;refine zb Tryz.func94 rfl (by kernel_rfl) (yK 6 rfl) (R.r ?_);refine ln λa=>?_;replace a:=yh a;apply R.r;cases b;exact fz rfl rfl
theorem ok128  (b:leafXtwice l0=some res):Sp 128 [.sl 5 (l0.map GF.row)] h (yL (.bool res) h):=by
 unfold leafXtwice at b;refine zb Tryz.func128 rfl (by kernel_rfl) (yK 26 rfl) (R.r ?_);refine zc rfl (e_makeMap (n:=0) rfl rfl) ss (R.r ?_);refine ln λe=>?_;replace e:=yh e;apply R.r;refine zy (λ(p:Nat) (a:List (GE×Int))=>zo 1 2 (zo 4 3 (zo 10 16 [(9,.int .i64 (p:Int))]))) (λa=>h.ext [.mapo (a.map (wD (λx=>AV.agg (GE.row x)) (AV.int .i64))) 0] []) b (λ_ _=>by simp only [zo,wg,uf,ug];try rfl) (wk.le LEL.o) ?_;intro p a q b;apply R.r;refine zF gg b (λc s g l b i=>?_) (λb=>?_)
 ·apply R.r;refine ix (zB l) (R.r ?_);refine r_drawnF [3] (λ_=>MapE h 0 (a.map (wD (λx=>AV.agg (GE.row x)) (AV.int .i64))) ((ment GE.eqb (0:Int) a c.dot).map (wD (λx=>AV.agg (GE.row x)) (AV.int .i64)))) (λ_=>⟨_,_,rfl,.inl rfl⟩) mixed (by kernel_rfl) (R.r ?_);refine xr rfl rfl (e_lookupF (m:=a) (k:=c.dot) (d:=(0:Int)) (j:=0) (kv:=(λx=>AV.agg (GE.row x))) (vv:=(AV.int .i64)) rfl Tryz.underlying68 kq36 az3 gg gg) ss (R.r ?_);refine zz rfl (FOk.all ⟨_,_,rfl,.inr rfl⟩) (by kernel_rfl) rfl (e_entry (m:=a) (k:=c.dot) (d:=(0:Int)) (j:=0) (kv:=(λx=>AV.agg (GE.row x))) (vv:=(AV.int .i64)) rfl Tryz.underlying68 kq36 az3 gg rfl gg rfl) ss (R.r ?_);refine zz rfl (FOk.skip (by kernel_rfl)) (by kernel_rfl) rfl (e_entryStore (m:=a) (k:=c.dot) (d:=(0:Int)) (v:=(IntKind.wrap .i64 ((yC GE.eqb (0:Int) a c.dot)+(1:Int)))) (j:=0) (eq:=GE.eqb) (kv:=(λx=>AV.agg (GE.row x))) (vv:=(AV.int .i64)) rfl gg rfl gg rfl gg rfl rfl) rfl (R.r ?_);cases b;exact ⟨(vj GE.eqb a c.dot (IntKind.wrap .i64 ((yC GE.eqb (0:Int) a c.dot)+(1:Int)))),g,i,wk.trans (wk.le (by exact (.eq (.drop (.drop (.eq (.drop (.drop (.drop (.eq (.eq (.cons (leV.of_eq (xc (by omega) (by omega))) (.d16 leL.nil))))))))))))) (yz (by simp [zD,AV.low]) rfl rfl (by simp [Blk.low,zD,AV.low,GE.row,wD]))⟩
 ·apply R.r;refine ops_mlen (m:=a) (j:=0) (kv:=(λx=>AV.agg (GE.row x))) (vv:=(AV.int .i64)) rfl rfl rfl rfl rfl Tryz.underlying68 gg rfl ss (R.r ?_);refine ln λf=>?_;replace f:=yh f;apply R.r;cases b;exact fz rfl rfl
theorem ok95 {b:Bool}  (a:leafXitems l0 b=some res):Sp 95 [.sl 5 (l0.map GF.row),.bool b] h (yL (.bool res) h):=by
 unfold leafXitems at a;refine zb Tryz.func95 rfl (by kernel_rfl) (yK 66 rfl) (R.r ?_);refine ln λe=>?_;replace e:=yh e;apply R.r;refine zy (λ(u:Nat) (t:Unit)=>zo 2 5 (zo 10 56 [(9,.int .i64 (u:Int))])) (λt=>h.ext [] []) a (λ_ _=>by simp only [zo,wg,uf,ug];try rfl) (wk.le LEL.o) ?_;intro u t v a;apply R.r;refine zF gg a (λC B s q a d=>?_) (λa=>?_)
 ·apply R.r;refine ix (zB q) (R.r ?_);refine zd a (λw p a=>cp (ok38 p) (R.r ?_));refine ya a (λA f a=>zL rfl sc (λc=>ok94 (f c)) ss (R.r ?_));refine ya a (λy g a=>zL rfl sc (λc=>ok93 (g c)) ss ?_);refine vd rfl (λc=>xK rfl (yd gg c) (yd gg c) (bin_boolN ty4)) ss (R.r ?_);refine ze gg a (λl a=>?_) (λl a=>?_)
  ·apply R.r;cases a;replace a:=d;apply R.r;cases a;exact fz rfl rfl
  ·apply R.r;refine zX (by kernel_rfl) (R.r ?_);refine yf a (λn a=>dgix n (R.r ?_));refine yf a (λm a=>dgix m (R.r ?_));refine ya a (λz k a=>xi rfl rfl sc (λc=>ok110 (k c)) ss (R.r ?_));refine ze gg a (λj a=>?_) (λj a=>?_)
   ·apply R.r;cases a;replace a:=d;apply R.r;cases a;exact fz rfl rfl
   ·apply R.r;cases a;exact ⟨(),s,d,wk.trans (wk.le (by exact (.eq (.eq (.d4 (.drop (.eq (.eq (.cons (leV.of_eq (xc (by omega) (by omega))) (.d16 (.d16 (.d16 (.d4 (.d4 leL.nil)))))))))))))) (yz (by simp [zD,AV.low]) rfl rfl (by simp [Blk.low,zD,AV.low]))⟩
 ·apply R.r;refine zd a (λx i a=>cp (ok128 i) (R.r ?_));cases a;exact fz rfl rfl
theorem ok55 {l0:GC}  (a:qI l0=some res):Sp 55 [.agg (GC.row l0)] h (yL (.bool res) h):=by
 unfold qI at a;refine zb Tryz.func55 rfl (by kernel_rfl) (yK 89 rfl) (R.r ?_);refine zc rfl (yi (cs':=[.int .u8 l0.typ,.int .i64 (0:Int),.int .u64 (0:Int),.int .u8 (0:Int),.int .u32 (0:Int),.int .u64 (0:Int),.str ([]:zu),.osl none 5 (([]:List GF).map GF.row),.osl none 3 (([]:List GE).map GE.row)]) rfl su55 ze55 pl55 (zf gg zg) (.cons (za rfl) .nil) rfl rfl) ss (R.r ?_);refine ze gg a (λv a=>?_) (λv a=>?_)
 ·apply R.r;refine zd a (λC n a=>cp ((ok97 n).le (.eq (.cons (leV.agg (.eq (.eq (.eq (.eq (.eq (.eq (.eq (.cons (leV.osl _ _ _) (.cons (leV.osl _ _ _) leL.nil))))))))) rfl) leL.nil))) (R.r ?_));cases a;exact fz rfl rfl
 ·apply R.r;refine ze gg a (λu a=>?_) (λu a=>?_)
  ·apply R.r;refine yN [3,5] [(3,[(0,.cells (GC.row l0))]),(5,[(0,.cells (GC.row l0))])] ⟨⟨rfl,trivial⟩,⟨rfl,trivial⟩,trivial⟩ mixed (by kernel_rfl) (R.r ?_);refine xr rfl rfl (by rintro _ ⟨B2,T2,rfl,b⟩;exact wv rfl ty36.choose_spec.1 gg (qK b) (yO (cs':=(GE.row l0.dot)) ty36.choose_spec.2 rfl rfl) (za rfl)) ss (R.r ?_);refine xr rfl rfl (by rintro _ ⟨B2,T2,rfl,b⟩;exact wv rfl ty9 gg (qK b) (yq rfl) (za rfl)) ss (R.r ?_);refine zz rfl (FOk.cons (.inr (yD ⟨rfl,trivial⟩)) (FOk.cons (.inr (yD ⟨rfl,trivial⟩)) FOk.nil)) (by kernel_rfl) rfl (zY (cs':=[.int .u8 l0.typ,.int .i64 (0:Int),.int .u64 l0.time,.int .u8 (0:Int),.int .u32 (0:Int),.int .u64 (0:Int),.str ([]:zu),.osl none 5 (([]:List GF).map GF.row),.osl none 3 (([]:List GE).map GE.row)]) rfl ty34 gg gg (za rfl) rfl rfl rfl rfl rfl) rfl (R.r ?_);refine zz rfl (FOk.cons (.inr (yD ⟨rfl,trivial⟩)) (FOk.cons (.inr (yD ⟨rfl,trivial⟩)) FOk.nil)) (by kernel_rfl) rfl (zY (cs':=[.int .u8 l0.typ,.int .i64 (0:Int),.int .u64 l0.time,.int .u8 l0.dot.actor.rep,.int .u32 l0.dot.actor.inc,.int .u64 l0.dot.seq,.str ([]:zu),.osl none 5 (([]:List GF).map GF.row),.osl none 3 (([]:List GE).map GE.row)]) rfl ty36.choose_spec.1 gg gg (za rfl) rfl rfl rfl rfl rfl) rfl (R.r ?_);refine zz rfl (FOk.cons (.inr (yD ⟨rfl,trivial⟩)) (FOk.cons (.inr (yD ⟨rfl,trivial⟩)) FOk.nil)) (by kernel_rfl) rfl (zY (cs':=[.int .u8 l0.typ,.int .i64 (0:Int),.int .u64 l0.time,.int .u8 l0.dot.actor.rep,.int .u32 l0.dot.actor.inc,.int .u64 l0.dot.seq,.str l0.text,.osl none 5 (([]:List GF).map GF.row),.osl none 3 (([]:List GE).map GE.row)]) rfl ty9 gg gg (za rfl) rfl rfl rfl rfl rfl) rfl (R.r ?_);refine ya a (λv4 m a=>zL rfl sc (λc=>ok93 (m c)) ss (R.r ?_));refine ya a (λv5 s a=>zL (aG_gv rfl rfl rfl) sc (λc=>ok38 (s c)) ss (R.r ?_));refine ya a (λB t a=>zL (aG_gv rfl rfl rfl) sc (λc=>ok94 (t c)) ss (R.r ?_));refine vd (aG_gv rfl rfl rfl) (λc=>yi (cs':=lit4x) rfl su36 ze36 pl36 zg .nil rfl rfl) ss ?_;refine vd (aG_gv rfl rfl rfl) (λc=>xK rfl (yd gg c) (yd gg c) (bin_ne pk36 rfl)) ss (R.r ?_);refine ze gg a (λq a=>?_) (λq a=>?_)
   ·apply R.r;cases a;exact fz rfl rfl
   ·apply R.r;refine zd a (λD o a=>cp ((ok97 o).le (.eq (.cons (leV.agg (.eq (.eq (.eq (.eq (.eq (.eq (.eq (.cons (leV.osl _ _ _) (.cons (leV.osl _ _ _) leL.nil))))))))) rfl) leL.nil))) (R.r ?_));cases a;exact fz rfl rfl
  ·apply R.r;refine ze gg a (λp a=>?_) (λp a=>?_)
   ·apply R.r;refine yN [3] [(3,[(0,.cells (GC.row l0))])] ⟨⟨rfl,trivial⟩,trivial⟩ mixed (by kernel_rfl) (R.r ?_);refine xr rfl rfl (by rintro _ ⟨B2,T2,rfl,b⟩;exact wv rfl ty38 gg (qK b) (yq rfl) (za rfl)) ss (R.r ?_);refine zz rfl (FOk.cons (.inr (yD ⟨rfl,trivial⟩)) FOk.nil) (by kernel_rfl) rfl (zY (cs':=[.int .u8 l0.typ,.int .i64 (0:Int),.int .u64 (0:Int),.int .u8 (0:Int),.int .u32 (0:Int),.int .u64 (0:Int),.str ([]:zu),.sl 5 (l0.items.map GF.row),.osl none 3 (([]:List GE).map GE.row)]) rfl ty53 gg gg (za rfl) rfl rfl rfl rfl rfl) rfl (R.r ?_);refine zz rfl (FOk.cons (.inr (yD ⟨rfl,trivial⟩)) FOk.nil) (by kernel_rfl) rfl (zY (cs':=[.int .u8 l0.typ,.int .i64 (0:Int),.int .u64 (0:Int),.int .u8 (0:Int),.int .u32 (0:Int),.int .u64 (0:Int),.str ([]:zu),.sl 5 (l0.items.map GF.row),.sl 3 (l0.tombs.map GE.row)]) rfl ty38 gg gg (za rfl) rfl rfl rfl rfl rfl) rfl (R.r ?_);refine zd a (λx f a=>cp (ok95 f) (R.r ?_));refine ya a (λA k a=>zL rfl sc (λc=>ok96 (k c)) ss (R.r ?_));refine ze gg a (λj a=>?_) (λj a=>?_)
    ·apply R.r;cases a;exact fz rfl rfl
    ·apply R.r;refine zd a (λw l a=>cp (ok97 l) (R.r ?_));cases a;exact fz rfl rfl
   ·apply R.r;refine ze gg a (λd a=>?_) (λd a=>?_)
    ·apply R.r;refine zd a (λy e a=>cp (ok95 e) (R.r ?_));refine ze gg a (λi a=>?_) (λi a=>?_)
     ·apply R.r;cases a;exact fz rfl rfl
     ·apply R.r;refine zd a (λz g a=>cp ((ok97 g).le (.eq (.cons (leV.agg (.eq (.eq (.eq (.eq (.eq (.eq (.eq (.eq (.cons (leV.osl _ _ _) leL.nil))))))))) rfl) leL.nil))) (R.r ?_));cases a;exact fz rfl rfl
    ·apply R.r;cases a;exact fz rfl rfl
theorem ok36N (n:Nat):∀{t0:(List GA)} {b:Int} {res:Bool} {h:AH} , qi n t0 b=some res->Sp 36 [.sl 3 (t0.map GA.row),.int .i64 b] h (yL (.bool res) h):=by
 induction n with
 | zero=>intro t0 b res h  a;simp [qi] at a
 | succ n ih =>
  intro t0 b res h  a;unfold qi at a;refine zb Tryz.func36 rfl (by kernel_rfl) (yK 89 rfl) (R.r ?_);refine ln λi=>?_;replace i:=yh i;apply R.r;refine ze gg a (λx a=>?_) (λx a=>?_)
  ·apply R.r;cases a;exact fz rfl rfl
  ·apply R.r;refine ln λm=>?_;replace m:=yh m;apply R.r;refine zy (λ(B:Nat) (A:Unit)=>zo 2 14 (zo 19 70 [(18,.int .i64 (B:Int))])) (λA=>h.ext [] []) a (λ_ _=>by simp only [zo,wg,uf,ug];try rfl) (wk.le LEL.o) ?_;intro B A C a;apply R.r;refine zF gg a (λz I y w a e=>?_) (λa=>?_)
   ·apply R.r;refine zc rfl (yw rfl el23 gg gg isl (zB w) (GA.row_eq _)) ss (R.r ?_);refine yN [2] [] trivial mixed (by kernel_rfl) (R.r ?_);refine zd a (λF q a=>zJ rfl rfl (λ_=>sc rfl) (by rintro _ ⟨B2,T2,rfl,t⟩;exact ok54 q) ss (R.r ?_));refine yf a (λj a=>qQ rfl (aG_gv rfl rfl rfl) (λc=>wK default rfl el23 (yd gg c) (yd gg c) isl (j c) (GA.row_eq _)) ss (R.r ?_));refine draw_glen rfl rfl (λc=>xU rfl rfl rfl rfl el47 (yd gg c) wN) ss (R.r ?_);refine draw_glen rfl rfl (λc=>xU rfl rfl rfl rfl el23 (yd gg c) wN) ss (R.r ?_);refine ya a (λD f a=>xi rfl rfl sc (λc=>ih (f c)) ss (R.r ?_));refine ze gg a (λk a=>?_) (λk a=>?_)
    ·apply R.r;cases a;replace a:=e;apply R.r;cases a;exact fz rfl rfl
    ·apply R.r;refine ln λd=>?_;replace d:=yh d;apply R.r;refine zy (λ(n2:Nat) (s2:Unit)=>zo 2 4 (zo 7 9 (zo 19 42 (zo 64 25 [(63,.int .i64 (n2:Int))])))) (λs2=>h.ext [.cells [.str z.name,.sl 9 (z.leaves.map GC.row),.sl 3 (z.subs.map GA.row)]] []) a (λ_ _=>by simp only [zo,wg,uf,ug];try rfl) (wk.le LEL.o) ?_;intro n2 s2 E a;apply R.r;refine zF gg a (λJ H v u a l=>?_) (λa=>?_)
     ·apply R.r;refine ix (zB u) (R.r ?_);refine yN [1] [] trivial mixed (by kernel_rfl) (R.r ?_);refine zd a (λG g a=>zJ rfl rfl (λ_=>sc rfl) (by rintro _ ⟨B2,T2,rfl,t⟩;exact ok55 g) ss (R.r ?_));refine yf a (λs a=>dgix s (R.r ?_));refine ze gg a (λp a=>?_) (λp a=>?_)
      ·apply R.r;cases a;replace a:=l;apply R.r;cases a;replace a:=e;apply R.r;cases a;exact fz rfl rfl
      ·apply R.r;cases a;exact ⟨(),v,l,wk.trans (wk.le (by exact (.eq (.eq (.d4 (.eq (.d4 (.d4 (.drop (.eq (.eq (.eq (.d16 (.d16 (.d4 (.d4 (.drop (.drop (.eq (.eq (.cons (leV.of_eq (xc (by omega) (by omega))) (.d16 (.d4 (.d4 (.drop leL.nil))))))))))))))))))))))))) (yz (by simp [zD,AV.low]) rfl rfl (by simp [Blk.low,zD,AV.low]))⟩
     ·apply R.r;cases a;exact ⟨(),y,e,wk.trans (wk.le (by exact (.eq (.eq (.d4 (.d4 (.d4 (.drop (.drop (.eq (.eq (.cons (leV.of_eq (xc (by omega) (by omega))) (.d16 (.d16 (.d16 (.d16 (.d4 (.drop (.drop leL.nil))))))))))))))))))) (yz (by simp [zD,AV.low]) rfl rfl (by simp [Blk.low,zD,AV.low]))⟩
   ·apply R.r;cases a;exact fz rfl rfl
theorem ok36 {a:Int}  (c:treeXmay t0 a=some res):Sp 36 [.sl 3 (t0.map GA.row),.int .i64 a] h (yL (.bool res) h):=by
 obtain ⟨n,b⟩:=anyN_is c;exact ok36N n b
theorem ok21  (a:qx t0=some res):Sp 21 [.sl 3 (t0.map GA.row)] h (yL (.bool res) h):=by
 unfold qx at a;refine zb Tryz.func21 rfl (by kernel_rfl) (yK 5 rfl) (R.r ?_);refine zd a (λc b a=>cp (ok36 b) (R.r ?_));cases a;exact fz rfl rfl
theorem ok37 {s0:(List GH)} {f1:(GH->Option Bool)} {res:Int} (q:∀s v (L:List Blk) (M:List Nat),f1 s=some v->Sp ff1 (af1++[.agg (GH.row s)]++kf1) (h.ext L M) (yL (.bool v) (h.ext L M))) (a:wr s0 f1=some res):Sp 37 [.sl 9 (s0.map GH.row),.fn (.func ff1) af1 kf1] h (yL (.int .i64 res) h):=by
 unfold wr at a;refine zR Tryz.func37 rfl (by kernel_rfl) (yK 19 rfl) (λb x=>?_);simp only [zD,AV.low,ud,uU,tQ] at b;have j:∀n m,h.blks.length<=n->h.toks.length<=m->zD n m af1=true:=λn m g e=>yk g e _ (by simp [b]);have f:∀n m,h.blks.length<=n->h.toks.length<=m->zD n m kf1=true:=λn m g e=>yk g e _ (by simp [b]);apply R.r;refine ln λc=>?_;replace c:=yh c;apply R.r;refine zy (λ(u:Nat) (t:Unit)=>zo 2 5 (zo 9 10 [(8,.int .i64 (u:Int))])) (λt=>h.ext [] []) a (λ_ _=>by simp only [zo,wg,uf,ug];try rfl) (wk.le LEL.o) ?_;intro u t w a;apply R.r;refine zF gg a (λA z p i a d=>?_) (λa=>?_)
 ·apply R.r;refine ix (zB i) (R.r ?_);refine zd a (λy l a=>yg rfl (scC rfl) (q _ _ _ _ l) ss (R.r ?_));refine ze gg a (λk a=>?_) (λk a=>?_)
  ·apply R.r;cases a;replace a:=d;apply R.r;cases a;exact fz rfl rfl
  ·apply R.r;cases a;exact ⟨(),p,d,wk.le (by exact (.eq (.eq (.d4 (.drop (.eq (.cons (leV.of_eq (xc (by omega) (by omega))) (.d4 (.d4 (.drop (.drop leL.nil)))))))))))⟩
 ·apply R.r;cases a;exact fz rfl rfl
theorem ok22 {s0:(List GH)} {f1:(GH->Option Bool)} (e:∀b v (L:List Blk) (M:List Nat),f1 b=some v->Sp ff1 (af1++[.agg (GH.row b)]++kf1) (h.ext L M) (yL (.bool v) (h.ext L M))) (c:yR s0 f1=some res):Sp 22 [.sl 9 (s0.map GH.row),.fn (.func ff1) af1 kf1] h (yL (.bool res) h):=by
 unfold yR at c;refine zR Tryz.func22 rfl (by kernel_rfl) (yK 9 rfl) (λa l=>?_);simp only [zD,AV.low,ud,uU,tQ] at a;have d:∀n m,h.blks.length<=n->h.toks.length<=m->zD n m af1=true:=λn m j f=>yk j f _ (by simp [a]);have g:∀n m,h.blks.length<=n->h.toks.length<=m->zD n m kf1=true:=λn m j f=>yk j f _ (by simp [a]);apply R.r;refine zd c (λo i c=>cp (ok37 (λb v L M k=>by rw [wO];exact e b v _ _ k) i) (R.r ?_));cases c;exact fz rfl rfl
theorem ok98  (a:opXadds o0=some res):Sp 98 [.agg (GK.row o0)] h (yL (.bool res) h):=by
 unfold opXadds at a;refine zb Tryz.func98 rfl (by kernel_rfl) (yK 22 rfl) (R.r ?_);refine lng λb=>R.r ?_;cases a;exact fz rfl rfl
theorem ok99  (a:opXplain o0=some res):Sp 99 [.agg (GK.row o0)] h (yL (.bool res) h):=by
 unfold opXplain at a;refine zb Tryz.func99 rfl (by kernel_rfl) (yK 18 rfl) (R.r ?_);refine lng λc=>R.r ?_;refine lng λb=>R.r ?_;cases a;exact fz rfl rfl
theorem ok100  (a:opXdrops o0=some res):Sp 100 [.agg (GK.row o0)] h (yL (.bool res) h):=by
 unfold opXdrops at a;refine zb Tryz.func100 rfl (by kernel_rfl) (yK 47 rfl) (R.r ?_);refine lng λq=>R.r ?_;refine lng λu=>R.r ?_;refine ze gg a (λk a=>?_) (λk a=>?_)
 ·apply R.r;cases a;exact fz rfl rfl
 ·apply R.r;refine ln λb=>?_;replace b:=yh b;apply R.r;refine zy (λ(m:Nat) (l:Unit)=>zo 2 19 (zo 24 23 [(0,.any),(23,.int .i64 (m:Int))])) (λl=>h.ext [.cells (GK.row o0)] []) a (λ_ _=>by simp only [zo,wg,uf,ug];try rfl) (wk.le LEL.o) ?_;intro m l n a;apply R.r;refine zF gg a (λx w j i a g=>?_) (λa=>?_)
  ·apply R.r;refine ix (zB i) (R.r ?_);refine yN [1] [] trivial mixed (by kernel_rfl) (R.r ?_);refine zd a (λv c a=>zJ rfl rfl (λ_=>sc rfl) (by rintro _ ⟨B2,T2,rfl,p⟩;exact ok38 c) ss (R.r ?_));refine yf a (λf a=>dgix f (R.r ?_));refine ya a (λt e a=>xi rfl (aG_gv rfl rfl rfl) sc (λs=>ok114 (e s)) ss (R.r ?_));refine ze gg a (λd a=>?_) (λd a=>?_)
   ·apply R.r;cases a;replace a:=g;apply R.r;cases a;exact fz rfl rfl
   ·apply R.r;cases a;exact ⟨(),j,g,wk.trans (wk.le (by exact (.drop (.eq (.d16 (.drop (.drop (.drop (.eq (.eq (.cons (leV.of_eq (xc (by omega) (by omega))) (.d16 (.d4 (.drop (.drop (.drop leL.nil)))))))))))))))) (yz (by simp [zD,AV.low]) rfl rfl (by simp [Blk.low,zD,AV.low]))⟩
  ·apply R.r;cases a;exact fz rfl rfl
theorem ok57 {k0:Int} {res:(GM×Bool)}  (a:opXof k0=some res):Sp 57 [.int .u8 k0] h (yL (.tup [.agg (GM.row res.1),.bool res.2]) h):=by
 unfold opXof at a;refine zb Tryz.func57 rfl (by kernel_rfl) (yK 21 rfl) (R.r ?_);refine zc rfl (yi (cs':=[.int .u8 (1:Int),.fn (.func 98) [] []]) rfl su104 ze104 pl104 (zf rfl (zf rfl zg)) (.cons (za rfl) (.cons (za rfl) .nil)) rfl rfl) ss ?_;refine zc rfl (yi (cs':=[.int .u8 (2:Int),.fn (.func 99) [] []]) rfl su104 ze104 pl104 (zf rfl (zf rfl zg)) (.cons (za rfl) (.cons (za rfl) .nil)) rfl rfl) ss ?_;refine zc rfl (yi (cs':=[.int .u8 (3:Int),.fn (.func 99) [] []]) rfl su104 ze104 pl104 (zf rfl (zf rfl zg)) (.cons (za rfl) (.cons (za rfl) .nil)) rfl rfl) ss ?_;refine zc rfl (yi (cs':=[.int .u8 (3:Int),.fn (.func 100) [] []]) rfl su104 ze104 pl104 (zf rfl (zf rfl zg)) (.cons (za rfl) (.cons (za rfl) .nil)) rfl rfl) ss ?_;refine zc rfl (yi (cs':=[.int .u8 (4:Int),.fn (.func 99) [] []]) rfl su104 ze104 pl104 (zf rfl (zf rfl zg)) (.cons (za rfl) (.cons (za rfl) .nil)) rfl rfl) ss ?_;refine zc rfl (s_buildArr (cs':=[.int .u8 (0:Int),.nilf,.int .u8 (1:Int),.fn (.func 98) [] [],.int .u8 (2:Int),.fn (.func 99) [] [],.int .u8 (3:Int),.fn (.func 99) [] [],.int .u8 (3:Int),.fn (.func 100) [] [],.int .u8 (4:Int),.fn (.func 99) [] []]) rfl ty140.u ze140 ty104.choose_spec.1 (zf gg (zf gg (zf gg (zf gg (zf gg zg))))) (.cons (za rfl) (.cons (za rfl) (.cons (za rfl) (.cons (za rfl) (.cons (za rfl) .nil))))) rfl rfl) ss (R.r ?_);refine ze gg a (λd a=>?_) (λd a=>?_)
 ·apply R.r;refine zc rfl (yi (cs':=[.int .u8 (0:Int),.nilf]) rfl su104 ze104 pl104 zg .nil rfl rfl) ss (R.r ?_);cases a;exact fz rfl rfl
 ·apply R.r;refine zd a (λe c a=>zc rfl (s_idxArr rfl ty140 ty104.choose_spec.1 gg gg rfl c) ss ?_);refine zc rfl (wv rfl ty104.choose_spec.1 gg rfl ((congrArg (λb=>ldC b _ _ _) ty104.choose_spec.2).trans (ldC_arr (row:=GM.row) (L:=([(GM.mk (0:Int) 0),(GM.mk (1:Int) 1),(GM.mk (2:Int) 2),(GM.mk (3:Int) 2),(GM.mk (3:Int) 3),(GM.mk (4:Int) 2)]:List GM)) (λ_=>rfl) c rfl)) (za rfl)) ss (R.r ?_);cases a;refine fr rfl (xO (leV.refl _) (by simp [AV.low,zD,fvlOp]) ?_);exact ⟨rfl,rfl⟩
theorem ok132 {s0:(List zu)} {f1:(zu->Option Bool)} {res:Int} (q:∀s v (L:List Blk) (M:List Nat),f1 s=some v->Sp ff1 (af1++[.str s]++kf1) (h.ext L M) (yL (.bool v) (h.ext L M))) (a:wn s0 f1=some res):Sp 132 [.sl 1 (s0.map zN),.fn (.func ff1) af1 kf1] h (yL (.int .i64 res) h):=by
 unfold wn at a;refine zR Tryz.func132 rfl (by kernel_rfl) (yK 19 rfl) (λb x=>?_);simp only [zD,AV.low,ud,uU,tQ] at b;have j:∀n m,h.blks.length<=n->h.toks.length<=m->zD n m af1=true:=λn m g e=>yk g e _ (by simp [b]);have f:∀n m,h.blks.length<=n->h.toks.length<=m->zD n m kf1=true:=λn m g e=>yk g e _ (by simp [b]);apply R.r;refine ln λc=>?_;replace c:=yh c;apply R.r;refine zy (λ(u:Nat) (t:Unit)=>zo 2 5 (zo 9 10 [(8,.int .i64 (u:Int))])) (λt=>h.ext [] []) a (λ_ _=>by simp only [zo,wg,uf,ug];try rfl) (wk.le LEL.o) ?_;intro u t w a;apply R.r;refine zF gg a (λA z p i a d=>?_) (λa=>?_)
 ·apply R.r;refine ix (zB i) (R.r ?_);refine zd a (λy l a=>yg rfl (scC rfl) (q _ _ _ _ l) ss (R.r ?_));refine ze gg a (λk a=>?_) (λk a=>?_)
  ·apply R.r;cases a;replace a:=d;apply R.r;cases a;exact fz rfl rfl
  ·apply R.r;cases a;exact ⟨(),p,d,wk.le (by exact (.eq (.eq (.d4 (.drop (.eq (.cons (leV.of_eq (xc (by omega) (by omega))) (.d4 (.d4 (.drop (.drop leL.nil)))))))))))⟩
 ·apply R.r;cases a;exact fz rfl rfl
theorem ok101 {s0:(List zu)} {f1:(zu->Option Bool)} (e:∀b v (L:List Blk) (M:List Nat),f1 b=some v->Sp ff1 (af1++[.str b]++kf1) (h.ext L M) (yL (.bool v) (h.ext L M))) (c:xd s0 f1=some res):Sp 101 [.sl 1 (s0.map zN),.fn (.func ff1) af1 kf1] h (yL (.bool res) h):=by
 unfold xd at c;refine zR Tryz.func101 rfl (by kernel_rfl) (yK 9 rfl) (λa l=>?_);simp only [zD,AV.low,ud,uU,tQ] at a;have d:∀n m,h.blks.length<=n->h.toks.length<=m->zD n m af1=true:=λn m j f=>yk j f _ (by simp [a]);have g:∀n m,h.blks.length<=n->h.toks.length<=m->zD n m kf1=true:=λn m j f=>yk j f _ (by simp [a]);apply R.r;refine zd c (λo i c=>cp (ok132 (λb v L M k=>by rw [wO];exact e b v _ _ k) i) (R.r ?_));cases c;exact fz rfl rfl
theorem ok102 {s0:zu}  (a:opMayPathC1 s0=some res):Sp 102 [.str s0] h (yL (.bool res) h):=by
 unfold opMayPathC1 at a;refine zb Tryz.func102 rfl (by kernel_rfl) (yK 6 rfl) (R.r ?_);refine zd a (λc b a=>cp (ok54 b) (R.r ?_));cases a;exact fz rfl rfl
theorem ok58 {d:(List zu)}  (b:opMayPath d=some res):Sp 58 [.sl 1 (d.map zN)] h (yL (.bool res) h):=by
 unfold opMayPath at b;refine zb Tryz.func58 rfl (by kernel_rfl) (yK 16 rfl) (R.r ?_);refine ln λa=>?_;replace a:=yh a;apply R.r;refine lng λg=>R.r ?_;refine ya b (λv3 c b=>zL rfl sc (λf=>ok101 (λ_ v L M e=>ok102  e) (c f)) ss (R.r ?_));cases b;exact fz rfl rfl
theorem fnOpok {c:Nat} {a:GK} {v:Bool} (h:callOp c a=some v):fvOp c=.fn (.func (fnOp c)) [] []:=by
  unfold callOp at h;split at h <;> first | rfl | cases h
theorem okfvOp {c:Nat} {b:GK} (a:callOp c b=some res):Sp (fnOp c) [.agg (GK.row b)] h (yL (.bool res) h):=by
 unfold callOp at a;split at a
 ·exact ok98 a
 ·exact ok99 a
 ·exact ok100 a
 ·cases a
theorem ok39  (b:opMay o0=some res):Sp 39 [.agg (GK.row o0)] h (yL (.bool res) h):=by
 unfold opMay at b;refine zb Tryz.func39 rfl (by kernel_rfl) (yK 23 rfl) (R.r ?_);refine zd b (λg e b=>cp (ok57 e) (R.r ?_));refine ya b (λf d b=>zL rfl sc (λa=>ok58 (d a)) ss (R.r ?_));refine vd rfl (λa=>wv rfl ty88 (yd gg a) rfl (yq rfl) (fvtOp _ _ _)) ss (R.r ?_);refine ya b (λv3 c b=>zL rfl (λa=>z7 rfl rfl (evo_eq (yd gg a) (fnOpok (c a))) (zk (yd gg a) zA) (.cons (za rfl) .nil)) (λa=>okfvOp (c a)) ss (R.r ?_));cases b;exact fz rfl rfl
theorem ok24  (a:qd e0=some res):Sp 24 [.agg (GH.row e0)] h (yL (.bool res) h):=by
 unfold qd at a;refine zb Tryz.func24 rfl (by kernel_rfl) (yK 21 rfl) (R.r ?_);refine zd a (λf c a=>cp (ok38 c) (R.r ?_));refine ya a (λe b a=>zL rfl sc (λd=>ok39 (b d)) ss (R.r ?_));cases a;exact fz rfl rfl
theorem ok23  (a:foldFoldC1 e0=some res):Sp 23 [.agg (GH.row e0)] h (yL (.bool res) h):=by
 unfold foldFoldC1 at a;refine zb Tryz.func23 rfl (by kernel_rfl) (yK 6 rfl) (R.r ?_);refine zd a (λc b a=>cp (ok24 b) (R.r ?_));cases a;exact fz rfl rfl
def sortS104TryzRen:Go.Shelf.Ren :=
  { f:=λx=>match x with
      | 54=>104
      | 61=>161
      | 64=>134
      | 65=>133
      | 69=>188
      | 78=>164
      | 79=>165
      | 80=>155
      | 81=>156
      | 82=>157
      | 83=>158
      | 84=>159
      | 85=>160
      | 86=>162
      | 87=>163
      | 89=>184
      | 90=>185
      | 93=>183
      | 94=>186
      | 95=>187
      | 97=>199
      | n=>n
    t:=λx=>match x with
      | 0=>0
      | 3=>3
      | 4=>4
      | 5=>5
      | 9=>9
      | 25=>37
      | 26=>9
      | 44=>124
      | 51=>159
      | 60=>187
      | 61=>188
      | 67=>31
      | 69=>34
      | 75=>208
      | 79=>212
      | 83=>221
      | 84=>222
      | n=>n
    g:=λn=>n }
theorem sortS104TryzLays:Go.Proofs.SlLaysN.n54 Tryz.prog sortS104TryzRen where
  mixed:=mixed
  f54:=⟨Tryz.f104.name,by kernel_rfl,Tryz.func104.trans (by kernel_rfl)⟩
  f61:=⟨Tryz.f161.name,by kernel_rfl,Tryz.func161.trans (by kernel_rfl)⟩
  f64:=Tryz.func134.trans (by kernel_rfl)
  f65:=⟨Tryz.f133.name,by kernel_rfl,Tryz.func133.trans (by kernel_rfl)⟩
  f69:=⟨Tryz.f188.name,by kernel_rfl,Tryz.func188.trans (by kernel_rfl)⟩
  f78:=Tryz.func164.trans (by kernel_rfl)
  f79:=Tryz.func165.trans (by kernel_rfl)
  f80:=⟨Tryz.f155.name,by kernel_rfl,Tryz.func155.trans (by kernel_rfl)⟩
  f81:=⟨Tryz.f156.name,by kernel_rfl,Tryz.func156.trans (by kernel_rfl)⟩
  f82:=⟨Tryz.f157.name,by kernel_rfl,Tryz.func157.trans (by kernel_rfl)⟩
  f83:=⟨Tryz.f158.name,by kernel_rfl,Tryz.func158.trans (by kernel_rfl)⟩
  f84:=⟨Tryz.f159.name,by kernel_rfl,Tryz.func159.trans (by kernel_rfl)⟩
  f85:=⟨Tryz.f160.name,by kernel_rfl,Tryz.func160.trans (by kernel_rfl)⟩
  f86:=⟨Tryz.f162.name,by kernel_rfl,Tryz.func162.trans (by kernel_rfl)⟩
  f87:=⟨Tryz.f163.name,by kernel_rfl,Tryz.func163.trans (by kernel_rfl)⟩
  f89:=Tryz.func184.trans (by kernel_rfl)
  f90:=Tryz.func185.trans (by kernel_rfl)
  f93:=⟨Tryz.f183.name,by kernel_rfl,Tryz.func183.trans (by kernel_rfl)⟩
  f94:=⟨Tryz.f186.name,by kernel_rfl,Tryz.func186.trans (by kernel_rfl)⟩
  f95:=⟨Tryz.f187.name,by kernel_rfl,Tryz.func187.trans (by kernel_rfl)⟩
  f97:=⟨Tryz.f199.name,by kernel_rfl,Tryz.func199.trans (by kernel_rfl)⟩
  t0:=Tryz.underlying0
  a0:=Tryz.isAgg0
  z0:=Tryz.sizeOf0
  v0:=Tryz.zeroValue0
  t3:=Tryz.underlying3
  a3:=Tryz.isAgg3
  z3:=Tryz.sizeOf3
  v3:=Tryz.zeroValue3
  t4:=Tryz.underlying4
  a4:=Tryz.isAgg4
  z4:=Tryz.sizeOf4
  v4:=Tryz.zeroValue4
  t5:=Tryz.underlying5
  a5:=Tryz.isAgg5
  z5:=Tryz.sizeOf5
  v5:=Tryz.zeroValue5
  t9:=Tryz.underlying9
  a9:=Tryz.isAgg9
  z9:=Tryz.sizeOf9
  v9:=Tryz.zeroValue9
  t25:=Tryz.underlying37
  a25:=Tryz.isAgg37
  z25:=Tryz.sizeOf37
  v25:=Tryz.zeroValue37
  t26:=Tryz.underlying9
  a26:=Tryz.isAgg9
  z26:=Tryz.sizeOf9
  v26:=Tryz.zeroValue9
  t44:=Tryz.underlying124
  a44:=Tryz.isAgg124
  z44:=Tryz.sizeOf124
  v44:=Tryz.zeroValue124
  t51:=Tryz.underlying159
  a51:=Tryz.isAgg159
  z51:=Tryz.sizeOf159
  v51:=Tryz.zeroValue159
  t60:=Tryz.underlying187
  a60:=Tryz.isAgg187
  z60:=Tryz.sizeOf187
  v60:=Tryz.zeroValue187
  t61:=Tryz.underlying188
  a61:=Tryz.isAgg188
  z61:=Tryz.sizeOf188
  v61:=Tryz.zeroValue188
  t67:=Tryz.underlying31
  a67:=Tryz.isAgg31
  z67:=Tryz.sizeOf31
  v67:=Tryz.zeroValue31
  t69:=Tryz.underlying34
  a69:=Tryz.isAgg34
  z69:=Tryz.sizeOf34
  v69:=Tryz.zeroValue34
  t75:=Tryz.underlying208
  a75:=Tryz.isAgg208
  z75:=Tryz.sizeOf208
  v75:=Tryz.zeroValue208
  t79:=Tryz.underlying212
  a79:=Tryz.isAgg212
  z79:=Tryz.sizeOf212
  v79:=Tryz.zeroValue212
  t83:=Tryz.underlying221
  a83:=Tryz.isAgg221
  z83:=Tryz.sizeOf221
  v83:=Tryz.zeroValue221
  t84:=Tryz.underlying222
  a84:=Tryz.isAgg222
  z84:=Tryz.sizeOf222
  v84:=Tryz.zeroValue222
theorem okR105 {H E:Nat} {s0:(List zu)} {res:(List zu)} (F:h.blks.length=H) (G:h.toks.length=E) (a:xP s0=some res):Sp 105 [.rsl H E 1 s0.length] (h.ext [.row E 1 (s0.map zN)] [s0.length]) (TurnK h H E 1 res.length (res.map zN)):=by
 unfold xP at a;subst F G;refine zC Tryz.func105 rfl (by kernel_rfl) (yK 61 rfl) (R.r ?_);refine ln λx=>?_;replace x:=yh x;apply R.r;refine ze gg a (λI a=>?_) (λI a=>?_)
 ·apply R.r;cases a;refine fr rfl (fin_turn0 (row:=zN) ?_);exact ⟨rfl,_,rfl⟩
 ·apply R.r;refine xe (λ(k:Int)=>zo 1 2 (zo 4 57 [(3,.int .i64 k)])) (λk=>h.ext [yA h 0 1 (s0.map zN)] [s0.length]) a (λ_=>by simp only [zo,wg,uf,ug];try rfl) (wk.le LEL.o) ?_;intro T k S a u;apply R.r;refine ln λm=>?_;replace m:=yh m;apply R.r;refine ze gg a (λD a=>?_) (λD a=>?_)
  ·apply R.r;refine zX (by kernel_rfl) (R.r ?_);refine zd a (λK p a=>zq rfl rfl (yG rfl el37 gg gg (xn p rfl)) ss ?_);refine zq rfl rfl (vh (off:=0) (i:=0) (q:=h.toks.length+0) (z:=k.toNat) (row:=zN) (λ_=>rfl) rfl ty9 (by decide) gg rfl rfl (wz p).2.2 (yq rfl) (za rfl)) ss (R.r ?_);refine zd a (λM n a=>zq rfl rfl (yG rfl el37 gg gg (xn n rfl)) ss ?_);refine zq rfl rfl (vh (off:=0) (i:=0) (q:=h.toks.length+0) (z:=(IntKind.wrap .i64 (k - (1:Int))).toNat) (row:=zN) (λ_=>rfl) rfl ty9 (by decide) gg rfl rfl (wz n).2.2 (yq rfl) (za rfl)) ss (R.r ?_);refine ze gg a (λy a=>?_) (λy a=>?_)
   ·apply R.r;refine yf a (λC a=>xE rfl (e_sufR rfl el37 gg gg C) ss (R.r ?_));refine xe (λ(s2:Int×Int×(List zu))=>zo 1 2 (zo 6 55 [(3,.int .i64 s2.1),(5,.int .i64 s2.2.1)])) (λs2=>h.ext [yA h 0 1 (s2.2.2.map zN)] [s0.length]) a (λ_=>by simp only [zo,wg,uf,ug];try rfl) (wk.le LEL.o) ?_;intro n2 s2 Q a t;refine yf a (λb a=>R.r ?_);refine ln λJ=>R.r ?_;refine ze gg a (λv a=>?_) (λv a=>?_)
    ·apply R.r;refine zX (by kernel_rfl) (R.r ?_);refine zd a (λN c a=>?_);replace c:=idxS c;refine zq rfl rfl (e_idxS rfl el37 gg gg ⟨c.1,by have:=c.2.1;have:=b;omega⟩) ss ?_;refine zq rfl rfl (vh (off:=0) (i:=0) (q:=h.toks.length+0) (z:=(k.toNat+s2.2.1.toNat)) (row:=zN) (λ_=>rfl) rfl ty9 (by decide) gg rfl b c.2.2 (yq rfl) (za rfl)) ss (R.r ?_);refine zd a (λP f a=>?_);replace f:=idxS f;refine zq rfl rfl (e_idxS rfl el37 gg gg ⟨f.1,by have:=f.2.1;have:=b;omega⟩) ss ?_;refine zq rfl rfl (vh (off:=0) (i:=0) (q:=h.toks.length+0) (z:=(k.toNat+(IntKind.wrap .i64 (s2.2.1 - (1:Int))).toNat)) (row:=zN) (λ_=>rfl) rfl ty9 (by decide) gg rfl b f.2.2 (yq rfl) (za rfl)) ss (R.r ?_);refine ze gg a (λw a=>?_) (λw a=>?_)
     ·apply R.r;refine zd a (λl e a=>?_);replace e:=idxS e;refine zc rfl (e_idxS rfl el37 gg gg ⟨e.1,by have:=e.2.1;have:=b;omega⟩) ss ?_;refine zc rfl (vh (off:=0) (i:=0) (q:=h.toks.length+0) (z:=(k.toNat+s2.2.1.toNat)) (row:=zN) (λ_=>rfl) rfl ty9 (by decide) gg rfl b e.2.2 (yq rfl) (za rfl)) ss ?_;refine zd a (λO s a=>zc rfl (yG rfl el37 gg gg (xn s b)) ss ?_);refine zc rfl (vM (off:=0) (i:=0) (q:=h.toks.length+0) (z:=s2.1.toNat) (row:=zN) (y':=l) (us:=[.str l]) (B':=[yA h 0 1 ((s2.2.2.set s2.1.toNat l).map zN)]) (λ_=>rfl) rfl ty9 gg gg (za rfl) rfl rfl rfl rfl b (wz s).2.2 (by decide) rfl rfl) rfl (R.r ?_);cases a;exact ⟨((IntKind.wrap .i64 (s2.1+(1:Int))),(IntKind.wrap .i64 (s2.2.1+(1:Int))),(s2.2.2.set s2.1.toNat l)),t,wk.le LEL.o⟩
     ·apply R.r;cases a;exact ⟨(s2.1,(IntKind.wrap .i64 (s2.2.1+(1:Int))),s2.2.2),t,wk.le LEL.o⟩
    ·apply R.r;cases a;replace a:=t;apply R.r;refine yf a (λg a=>xE rfl (e_sufR rfl el37 gg gg g) ss ?_);refine xE rfl (e_clrR (i:=0) (q:=h.toks.length+0) (L:=s2.2.2) (row:=zN) (d:=([]:zu)) (B':=[yA h 0 1 ((s2.2.2.take s2.1.toNat++List.replicate (s0.length - s2.1.toNat) ([]:zu)).map zN)]) (λ_=>rfl) rfl rfl rfl rfl el37 ze9 rfl gg rfl b (rP.2 g.2) rfl) rfl (R.r ?_);refine zd a (λA B a=>xE rfl (e_cutR (i:=0) (j:=0) (L:=(s2.2.2.take s2.1.toNat++List.replicate (s0.length - s2.1.toNat) ([]:zu))) (row:=zN) (B':=[.dead,yA h 1 1 (A.map zN)]) (T':=[s0.length+1,A.length]) rfl el37 gg gg rfl (clr_len b (rP.2 g.2)) B rfl rfl rfl rfl) ss (R.r ?_));cases a;replace a:=u;apply R.r;cases a;refine fr rfl (wF ?_);exact ⟨rfl,_,rfl⟩
   ·apply R.r;cases a;exact ⟨(IntKind.wrap .i64 (k+(1:Int))),u,wk.le LEL.o⟩
  ·apply R.r;cases a;replace a:=u;apply R.r;cases a;refine fr rfl (fin_turn0 (row:=zN) ?_);exact ⟨rfl,_,rfl⟩
end Go.Vv
