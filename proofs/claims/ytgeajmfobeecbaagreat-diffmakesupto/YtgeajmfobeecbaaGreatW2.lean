/- Each function that the law reaches computes what its reading says; printed by a program. -/
import Derived.Test.YtgeajmfobeecbaaGreatW1
set_option linter.all false
namespace Go.Vv
open Go Go.Proofs
set_option maxRecDepth 100000
set_option synthInstance.maxSize 100000
set_option synthInstance.maxHeartbeats 1000000
set_option maxHeartbeats 1000000
variable {l0 s0:(List GI)} {res:Bool} {h:AH} {f1:(GI->Option Bool)} {ff1:FuncId} {af1 kf1:List AV} {t0:(List GA)}
theorem ok136  (c:leafXtwice l0=some res):Sp 136 [.sl 5 (l0.map GI.row)] h (yy (.bool res) h):=by
 unfold leafXtwice at c;refine zb Tryz.func136 rfl (by kernel_rfl) (yV 26 rfl) (R.r ?_);refine zc rfl (e_makeMap (n:=0) rfl rfl) ss (R.r ?_);refine ln λe=>?_;replace e:=zZ e;apply R.r;refine zB (λ(p:Nat) (a:List (GF×Int))=>zo 1 2 (zo 4 3 (zo 10 16 [(9,.int .i64 (p:Int))]))) (λa=>h.ext [.mapo (a.map (xY (λx=>AV.agg (GF.row x)) (AV.int .i64))) 0] []) c (λ_ _=>by simp only [zo,x5,ue,uf];try rfl) (wk.le LEL.o) ?_;intro p a q c;apply R.r;refine zL gg c (λb s g l c i=>?_) (λc=>?_)
 ·apply R.r;refine ix (zF l) (R.r ?_);refine r_drawnF [3] (λ_=>MapE h 0 (a.map (xY (λx=>AV.agg (GF.row x)) (AV.int .i64))) ((ment GF.eqb (0:Int) a b.dot).map (xY (λx=>AV.agg (GF.row x)) (AV.int .i64)))) (λ_=>⟨_,_,rfl,.inl rfl⟩) mixed (by kernel_rfl) ?_;refine zx rfl rfl (zy rfl gg (za rfl)) ss ?_;refine zx rfl rfl (zH rfl fo51x1 gg rfl) ss ?_;refine zx rfl rfl (yG rfl ty43.choose_spec.1 gg rfl (yR (cs':=(GF.row b.dot)) ty43.choose_spec.2 rfl rfl) (za rfl)) ss ?_;refine w8 rfl rfl (e_lookupF (m:=a) (k:=b.dot) (d:=(0:Int)) (j:=0) (kv:=(λx=>AV.agg (GF.row x))) (vv:=(AV.int .i64)) rfl Tryz.underlying183 kq43 az3 gg gg) ss ?_;refine zx rfl rfl (yK rfl gg rfl rfl) ss ?_;refine zP rfl (FOk.all ⟨_,_,rfl,.inr rfl⟩) (by kernel_rfl) rfl (e_entry (m:=a) (k:=b.dot) (d:=(0:Int)) (j:=0) (kv:=(λx=>AV.agg (GF.row x))) (vv:=(AV.int .i64)) rfl Tryz.underlying183 kq43 az3 gg rfl gg rfl) ss ?_;refine zx rfl rfl (yu rfl gg rfl (za rfl)) ss ?_;refine zP rfl (FOk.skip (by kernel_rfl)) (by kernel_rfl) rfl (e_entryStore (m:=a) (k:=b.dot) (d:=(0:Int)) (v:=(IntKind.wrap .i64 ((ze GF.eqb (0:Int) a b.dot)+(1:Int)))) (j:=0) (eq:=GF.eqb) (kv:=(λx=>AV.agg (GF.row x))) (vv:=(AV.int .i64)) rfl gg rfl gg rfl gg rfl rfl) rfl (R.r ?_);cases c;exact ⟨(mput GF.eqb a b.dot (IntKind.wrap .i64 ((ze GF.eqb (0:Int) a b.dot)+(1:Int)))),g,i,wk.trans (wk.le (by exact (.eq (.drop (.drop (.eq (.drop (.drop (.drop (.eq (.eq (.cons (leV.of_eq (yF (by omega) (by omega))) (.d16 leL.nil))))))))))))) (z8 (by simp [zG,AV.low]) rfl rfl (by simp [Blk.low,zG,AV.low,GF.row,xY]))⟩
 ·apply R.r;refine ops_mlen (m:=a) (j:=0) (kv:=(λx=>AV.agg (GF.row x))) (vv:=(AV.int .i64)) rfl rfl rfl rfl rfl Tryz.underlying183 gg rfl ss (R.r ?_);refine ln λf=>?_;replace f:=zZ f;apply R.r;cases c;exact fz rfl rfl
theorem ok106 {b:Bool}  (a:qI l0 b=some res):Sp 106 [.sl 5 (l0.map GI.row),.bool b] h (yy (.bool res) h):=by
 unfold qI at a;refine zb Tryz.func106 rfl (by kernel_rfl) (yV 66 rfl) (R.r ?_);refine ln λe=>?_;replace e:=zZ e;apply R.r;refine zB (λ(u:Nat) (t:Unit)=>zo 2 5 (zo 10 56 [(9,.int .i64 (u:Int))])) (λt=>h.ext [] []) a (λ_ _=>by simp only [zo,x5,ue,uf];try rfl) (wk.le LEL.o) ?_;intro u t v a;apply R.r;refine zL gg a (λC B s q a d=>?_) (λa=>?_)
 ·apply R.r;refine ix (zF q) (R.r ?_);refine zi a (λw p a=>cp (ok104 p) (R.r ?_));refine zN a (λA f a=>zA rfl sc (λc=>ok105 (f c)) ss (R.r ?_));refine zN a (λy g a=>zA rfl sc (λc=>ok103 (g c)) ss ?_);refine z7 rfl (λc=>yK rfl (zI gg c) (zI gg c) (wn ty4)) ss (R.r ?_);refine zf gg a (λl a=>?_) (λl a=>?_)
  ·apply R.r;cases a;replace a:=d;apply R.r;cases a;exact fz rfl rfl
  ·apply R.r;refine yE (by kernel_rfl) (R.r ?_);refine yj a (λn a=>dgix n (R.r ?_));refine yj a (λm a=>dgix m (R.r ?_));refine zN a (λz k a=>yU rfl rfl sc (λc=>ok135 (k c)) ss (R.r ?_));refine zf gg a (λj a=>?_) (λj a=>?_)
   ·apply R.r;cases a;replace a:=d;apply R.r;cases a;exact fz rfl rfl
   ·apply R.r;cases a;exact ⟨(),s,d,wk.trans (wk.le (by exact (.eq (.eq (.d4 (.drop (.eq (.eq (.cons (leV.of_eq (yF (by omega) (by omega))) (.d16 (.d16 (.d16 (.d4 (.d4 leL.nil)))))))))))))) (z8 (by simp [zG,AV.low]) rfl rfl (by simp [Blk.low,zG,AV.low]))⟩
 ·apply R.r;refine zi a (λx i a=>cp (ok136 i) (R.r ?_));cases a;exact fz rfl rfl
theorem ok169 {res:Int} (q:∀s v (L:List Blk) (M:List Nat),f1 s=some v->Sp ff1 (af1++[.agg (GI.row s)]++kf1) (h.ext L M) (yy (.bool v) (h.ext L M))) (a:wh s0 f1=some res):Sp 169 [.sl 5 (s0.map GI.row),.fn (.func ff1) af1 kf1] h (yy (.int .i64 res) h):=by
 unfold wh at a;refine zY Tryz.func169 rfl (by kernel_rfl) (yV 19 rfl) (λb x=>?_);simp only [zG,AV.low,ud,u2,t7] at b;have j:∀n m,h.blks.length<=n->h.toks.length<=m->zG n m af1=true:=λn m g e=>ym g e _ (by simp [b]);have f:∀n m,h.blks.length<=n->h.toks.length<=m->zG n m kf1=true:=λn m g e=>ym g e _ (by simp [b]);apply R.r;refine ln λc=>?_;replace c:=zZ c;apply R.r;refine zB (λ(u:Nat) (t:Unit)=>zo 2 5 (zo 9 10 [(8,.int .i64 (u:Int))])) (λt=>h.ext [] []) a (λ_ _=>by simp only [zo,x5,ue,uf];try rfl) (wk.le LEL.o) ?_;intro u t w a;apply R.r;refine zL gg a (λA z p i a d=>?_) (λa=>?_)
 ·apply R.r;refine ix (zF i) (R.r ?_);refine zi a (λy l a=>yb rfl (scC rfl) (q _ _ _ _ l) ss (R.r ?_));refine zf gg a (λk a=>?_) (λk a=>?_)
  ·apply R.r;cases a;replace a:=d;apply R.r;cases a;exact fz rfl rfl
  ·apply R.r;cases a;exact ⟨(),p,d,wk.le (by exact (.eq (.eq (.d4 (.drop (.eq (.cons (leV.of_eq (yF (by omega) (by omega))) (.d4 (.d4 (.drop (.drop leL.nil)))))))))))⟩
 ·apply R.r;cases a;exact fz rfl rfl
theorem ok161 (e:∀b v (L:List Blk) (M:List Nat),f1 b=some v->Sp ff1 (af1++[.agg (GI.row b)]++kf1) (h.ext L M) (yy (.bool v) (h.ext L M))) (c:yZ s0 f1=some res):Sp 161 [.sl 5 (s0.map GI.row),.fn (.func ff1) af1 kf1] h (yy (.bool res) h):=by
 unfold yZ at c;refine zY Tryz.func161 rfl (by kernel_rfl) (yV 9 rfl) (λa l=>?_);simp only [zG,AV.low,ud,u2,t7] at a;have d:∀n m,h.blks.length<=n->h.toks.length<=m->zG n m af1=true:=λn m j f=>ym j f _ (by simp [a]);have g:∀n m,h.blks.length<=n->h.toks.length<=m->zG n m kf1=true:=λn m j f=>ym j f _ (by simp [a]);apply R.r;refine zi c (λo i c=>cp (ok169 (λb v L M k=>by rw [xf];exact e b v _ _ k) i) (R.r ?_));cases c;exact fz rfl rfl
theorem ok162 {d:GI} {b:GF} {c:Nat} (a:h.blk c=some (.cells (GF.row b))) (e:leafXhasC1 d b=some res):Sp 162 [.agg (GI.row d),.ptr c 0] h (yy (.bool res) h):=by
 unfold leafXhasC1 at e;refine zb Tryz.func162 rfl (by kernel_rfl) (yV 8 rfl) (R.r ?_);refine zc rfl (b_load rfl ty43.choose_spec.1 gg a (yR (cs':=(GF.row b)) ty43.choose_spec.2 rfl rfl) (za rfl)) ss ?_;refine zc rfl (yK rfl gg gg (bin_eq pk43 rfl)) ss (R.r ?_);cases e;exact fz rfl rfl
theorem ok138 {c:GF}  (a:leafXhas l0 c=some res):Sp 138 [.sl 5 (l0.map GI.row),.agg (GF.row c)] h (yy (.bool res) h):=by
 unfold leafXhas at a;refine zb Tryz.func138 rfl (by kernel_rfl) (yV 8 rfl) (R.r ?_);refine zc rfl (qv rfl rfl rfl) ss ?_;refine zi a (λe b a=>cp (ok161 (λ_ v L M d=>ok162 (blk_ext2 (j:=0) rfl) d) b) (R.r ?_));cases a;exact fz rfl rfl
theorem ok107 {l0:GE}  (a:leafXtombs l0=some res):Sp 107 [.agg (GE.row l0)] h (yy (.bool res) h):=by
 unfold leafXtombs at a;refine zb Tryz.func107 rfl (by kernel_rfl) (yV 38 rfl) (R.r ?_);refine ln λc=>?_;replace c:=zZ c;apply R.r;refine zB (λ(n:Nat) (m:Unit)=>zo 2 4 (zo 9 29 [(0,.any),(8,.int .i64 (n:Int))])) (λm=>h.ext [.cells (GE.row l0)] []) a (λ_ _=>by simp only [zo,x5,ue,uf];try rfl) (wk.le LEL.o) ?_;intro n m p a;apply R.r;refine zL gg a (λv u l k a i=>?_) (λa=>?_)
 ·apply R.r;refine ix (zF k) (R.r ?_);refine yl [1] [] trivial mixed (by kernel_rfl) (R.r ?_);refine zi a (λt f a=>zK rfl rfl (λ_=>sc rfl) (by rintro _ ⟨B2,T2,rfl,q⟩;exact ok104 f) ss (R.r ?_));refine yj a (λg a=>dgix g (R.r ?_));refine zN a (λs e a=>yU rfl (aG_gv rfl rfl rfl) sc (λj=>ok137 (e j)) ss (R.r ?_));refine zN a (λv22 b a=>yU rfl rfl sc (λj=>ok138 (b j)) ss (R.r ?_));refine zf gg a (λd a=>?_) (λd a=>?_)
  ·apply R.r;cases a;replace a:=i;apply R.r;cases a;exact fz rfl rfl
  ·apply R.r;cases a;exact ⟨(),l,i,wk.trans (wk.le (by exact (.drop (.eq (.d4 (.eq (.eq (.cons (leV.of_eq (yF (by omega) (by omega))) (.d16 (.d4 (.d4 (.d4 (.drop leL.nil))))))))))))) (z8 (by simp [zG,AV.low]) rfl rfl (by simp [Blk.low,zG,AV.low]))⟩
 ·apply R.r;cases a;exact fz rfl rfl
theorem ok62 {l0:GE}  (a:leafMay l0=some res):Sp 62 [.agg (GE.row l0)] h (yy (.bool res) h):=by
 unfold leafMay at a;refine zb Tryz.func62 rfl (by kernel_rfl) (yV 89 rfl) (R.r ?_);refine zc rfl (yQ (cs':=[.int .u8 l0.typ,.int .i64 (0:Int),.int .u64 (0:Int),.int .u8 (0:Int),.int .u32 (0:Int),.int .u64 (0:Int),.str ([]:zd),.osl none 5 (([]:List GI).map GI.row),.osl none 3 (([]:List GF).map GF.row)]) rfl su47 ze47 pl47 (zk gg zq) (.cons (za rfl) .nil) rfl rfl) ss (R.r ?_);refine zf gg a (λv a=>?_) (λv a=>?_)
 ·apply R.r;refine zi a (λC n a=>cp ((ok32 n).le (.eq (.cons (leV.agg (.eq (.eq (.eq (.eq (.eq (.eq (.eq (.cons (leV.osl _ _ _) (.cons (leV.osl _ _ _) leL.nil))))))))) rfl) leL.nil))) (R.r ?_));cases a;exact fz rfl rfl
 ·apply R.r;refine zf gg a (λu a=>?_) (λu a=>?_)
  ·apply R.r;refine yl [3,5] [(3,[(0,.cells (GE.row l0))]),(5,[(0,.cells (GE.row l0))])] ⟨⟨rfl,trivial⟩,⟨rfl,trivial⟩,trivial⟩ mixed (by kernel_rfl) (R.r ?_);refine w8 rfl rfl (by rintro _ ⟨B2,T2,rfl,b⟩;exact yG rfl ty43.choose_spec.1 gg (keeps1 b) (yR (cs':=(GF.row l0.dot)) ty43.choose_spec.2 rfl rfl) (za rfl)) ss (R.r ?_);refine w8 rfl rfl (by rintro _ ⟨B2,T2,rfl,b⟩;exact yG rfl ty9 gg (keeps1 b) (yd rfl) (za rfl)) ss (R.r ?_);refine zP rfl (FOk.cons (.inr (yo ⟨rfl,trivial⟩)) (FOk.cons (.inr (yo ⟨rfl,trivial⟩)) FOk.nil)) (by kernel_rfl) rfl (zQ (cs':=[.int .u8 l0.typ,.int .i64 (0:Int),.int .u64 l0.time,.int .u8 (0:Int),.int .u32 (0:Int),.int .u64 (0:Int),.str ([]:zd),.osl none 5 (([]:List GI).map GI.row),.osl none 3 (([]:List GF).map GF.row)]) rfl ty38 gg gg (za rfl) rfl rfl rfl rfl rfl) rfl (R.r ?_);refine zP rfl (FOk.cons (.inr (yo ⟨rfl,trivial⟩)) (FOk.cons (.inr (yo ⟨rfl,trivial⟩)) FOk.nil)) (by kernel_rfl) rfl (zQ (cs':=[.int .u8 l0.typ,.int .i64 (0:Int),.int .u64 l0.time,.int .u8 l0.dot.actor.rep,.int .u32 l0.dot.actor.inc,.int .u64 l0.dot.seq,.str ([]:zd),.osl none 5 (([]:List GI).map GI.row),.osl none 3 (([]:List GF).map GF.row)]) rfl ty43.choose_spec.1 gg gg (za rfl) rfl rfl rfl rfl rfl) rfl (R.r ?_);refine zP rfl (FOk.cons (.inr (yo ⟨rfl,trivial⟩)) (FOk.cons (.inr (yo ⟨rfl,trivial⟩)) FOk.nil)) (by kernel_rfl) rfl (zQ (cs':=[.int .u8 l0.typ,.int .i64 (0:Int),.int .u64 l0.time,.int .u8 l0.dot.actor.rep,.int .u32 l0.dot.actor.inc,.int .u64 l0.dot.seq,.str l0.text,.osl none 5 (([]:List GI).map GI.row),.osl none 3 (([]:List GF).map GF.row)]) rfl ty9 gg gg (za rfl) rfl rfl rfl rfl rfl) rfl (R.r ?_);refine zN a (λv4 m a=>zA rfl sc (λc=>ok103 (m c)) ss (R.r ?_));refine zN a (λv5 s a=>zA (aG_gv rfl rfl rfl) sc (λc=>ok104 (s c)) ss (R.r ?_));refine zN a (λB t a=>zA (aG_gv rfl rfl rfl) sc (λc=>ok105 (t c)) ss (R.r ?_));refine z7 (aG_gv rfl rfl rfl) (λc=>yQ (cs':=lit4x) rfl su43 ze43 pl43 zq .nil rfl rfl) ss ?_;refine z7 (aG_gv rfl rfl rfl) (λc=>yK rfl (zI gg c) (zI gg c) (bin_ne pk43 rfl)) ss (R.r ?_);refine zf gg a (λq a=>?_) (λq a=>?_)
   ·apply R.r;cases a;exact fz rfl rfl
   ·apply R.r;refine zi a (λD o a=>cp ((ok32 o).le (.eq (.cons (leV.agg (.eq (.eq (.eq (.eq (.eq (.eq (.eq (.cons (leV.osl _ _ _) (.cons (leV.osl _ _ _) leL.nil))))))))) rfl) leL.nil))) (R.r ?_));cases a;exact fz rfl rfl
  ·apply R.r;refine zf gg a (λp a=>?_) (λp a=>?_)
   ·apply R.r;refine yl [3] [(3,[(0,.cells (GE.row l0))])] ⟨⟨rfl,trivial⟩,trivial⟩ mixed (by kernel_rfl) (R.r ?_);refine w8 rfl rfl (by rintro _ ⟨B2,T2,rfl,b⟩;exact yG rfl ty45 gg (keeps1 b) (yd rfl) (za rfl)) ss (R.r ?_);refine zP rfl (FOk.cons (.inr (yo ⟨rfl,trivial⟩)) FOk.nil) (by kernel_rfl) rfl (zQ (cs':=[.int .u8 l0.typ,.int .i64 (0:Int),.int .u64 (0:Int),.int .u8 (0:Int),.int .u32 (0:Int),.int .u64 (0:Int),.str ([]:zd),.sl 5 (l0.items.map GI.row),.osl none 3 (([]:List GF).map GF.row)]) rfl ty44 gg gg (za rfl) rfl rfl rfl rfl rfl) rfl (R.r ?_);refine zP rfl (FOk.cons (.inr (yo ⟨rfl,trivial⟩)) FOk.nil) (by kernel_rfl) rfl (zQ (cs':=[.int .u8 l0.typ,.int .i64 (0:Int),.int .u64 (0:Int),.int .u8 (0:Int),.int .u32 (0:Int),.int .u64 (0:Int),.str ([]:zd),.sl 5 (l0.items.map GI.row),.sl 3 (l0.tombs.map GF.row)]) rfl ty45 gg gg (za rfl) rfl rfl rfl rfl rfl) rfl (R.r ?_);refine zi a (λx f a=>cp (ok106 f) (R.r ?_));refine zN a (λA k a=>zA rfl sc (λc=>ok107 (k c)) ss (R.r ?_));refine zf gg a (λj a=>?_) (λj a=>?_)
    ·apply R.r;cases a;exact fz rfl rfl
    ·apply R.r;refine zi a (λw l a=>cp (ok32 l) (R.r ?_));cases a;exact fz rfl rfl
   ·apply R.r;refine zf gg a (λd a=>?_) (λd a=>?_)
    ·apply R.r;refine zi a (λy e a=>cp (ok106 e) (R.r ?_));refine zf gg a (λi a=>?_) (λi a=>?_)
     ·apply R.r;cases a;exact fz rfl rfl
     ·apply R.r;refine zi a (λz g a=>cp ((ok32 g).le (.eq (.cons (leV.agg (.eq (.eq (.eq (.eq (.eq (.eq (.eq (.eq (.cons (leV.osl _ _ _) leL.nil))))))))) rfl) leL.nil))) (R.r ?_));cases a;exact fz rfl rfl
    ·apply R.r;cases a;exact fz rfl rfl
theorem ok50N (n:Nat):∀{t0:(List GA)} {b:Int} {res:Bool} {h:AH} , vM n t0 b=some res->Sp 50 [.sl 3 (t0.map GA.row),.int .i64 b] h (yy (.bool res) h):=by
 induction n with
 | zero=>intro t0 b res h  a;simp [vM] at a
 | succ n ih =>
  intro t0 b res h  a;unfold vM at a;refine zb Tryz.func50 rfl (by kernel_rfl) (yV 89 rfl) (R.r ?_);refine ln λi=>?_;replace i:=zZ i;apply R.r;refine zf gg a (λx a=>?_) (λx a=>?_)
  ·apply R.r;cases a;exact fz rfl rfl
  ·apply R.r;refine ln λm=>?_;replace m:=zZ m;apply R.r;refine zB (λ(B:Nat) (A:Unit)=>zo 2 14 (zo 19 70 [(18,.int .i64 (B:Int))])) (λA=>h.ext [] []) a (λ_ _=>by simp only [zo,x5,ue,uf];try rfl) (wk.le LEL.o) ?_;intro B A D a;apply R.r;refine zL gg a (λz I y w a e=>?_) (λa=>?_)
   ·apply R.r;refine zc rfl (yh rfl el23 gg gg isl (zF w) (GA.row_eq _)) ss (R.r ?_);refine yl [2] [] trivial mixed (by kernel_rfl) (R.r ?_);refine zi a (λF q a=>zK rfl rfl (λ_=>sc rfl) (by rintro _ ⟨B2,T2,rfl,t⟩;exact ok61 q) ss (R.r ?_));refine yj a (λj a=>qj rfl (aG_gv rfl rfl rfl) (λc=>wu default rfl el23 (zI gg c) (zI gg c) isl (j c) (GA.row_eq _)) ss (R.r ?_));refine draw_glen rfl rfl (λc=>xX rfl rfl rfl rfl el54 (zI gg c) vH) ss (R.r ?_);refine draw_glen rfl rfl (λc=>xX rfl rfl rfl rfl el23 (zI gg c) vH) ss (R.r ?_);refine zN a (λv31 f a=>yU rfl rfl sc (λc=>ih (f c)) ss (R.r ?_));refine zf gg a (λk a=>?_) (λk a=>?_)
    ·apply R.r;cases a;replace a:=e;apply R.r;cases a;exact fz rfl rfl
    ·apply R.r;refine ln λd=>?_;replace d:=zZ d;apply R.r;refine zB (λ(C:Nat) (s2:Unit)=>zo 2 4 (zo 7 9 (zo 19 42 (zo 64 25 [(63,.int .i64 (C:Int))])))) (λs2=>h.ext [.cells [.str z.name,.sl 9 (z.leaves.map GE.row),.sl 3 (z.subs.map GA.row)]] []) a (λ_ _=>by simp only [zo,x5,ue,uf];try rfl) (wk.le LEL.o) ?_;intro C s2 E a;apply R.r;refine zL gg a (λJ H v u a l=>?_) (λa=>?_)
     ·apply R.r;refine ix (zF u) (R.r ?_);refine yl [1] [] trivial mixed (by kernel_rfl) (R.r ?_);refine zi a (λG g a=>zK rfl rfl (λ_=>sc rfl) (by rintro _ ⟨B2,T2,rfl,t⟩;exact ok62 g) ss (R.r ?_));refine yj a (λs a=>dgix s (R.r ?_));refine zf gg a (λp a=>?_) (λp a=>?_)
      ·apply R.r;cases a;replace a:=l;apply R.r;cases a;replace a:=e;apply R.r;cases a;exact fz rfl rfl
      ·apply R.r;cases a;exact ⟨(),v,l,wk.trans (wk.le (by exact (.eq (.eq (.d4 (.eq (.d4 (.d4 (.drop (.eq (.eq (.eq (.d16 (.d16 (.d4 (.d4 (.drop (.drop (.eq (.eq (.cons (leV.of_eq (yF (by omega) (by omega))) (.d16 (.d4 (.d4 (.drop leL.nil))))))))))))))))))))))))) (z8 (by simp [zG,AV.low]) rfl rfl (by simp [Blk.low,zG,AV.low]))⟩
     ·apply R.r;cases a;exact ⟨(),y,e,wk.trans (wk.le (by exact (.eq (.eq (.d4 (.d4 (.d4 (.drop (.drop (.eq (.eq (.cons (leV.of_eq (yF (by omega) (by omega))) (.d16 (.d16 (.d16 (.d16 (.d4 (.drop (.drop leL.nil))))))))))))))))))) (z8 (by simp [zG,AV.low]) rfl rfl (by simp [Blk.low,zG,AV.low]))⟩
   ·apply R.r;cases a;exact fz rfl rfl
theorem ok50 {a:Int}  (c:treeXmay t0 a=some res):Sp 50 [.sl 3 (t0.map GA.row),.int .i64 a] h (yy (.bool res) h):=by
 obtain ⟨n,b⟩:=anyN_is c;exact ok50N n b
theorem ok21  (a:vB t0=some res):Sp 21 [.sl 3 (t0.map GA.row)] h (yy (.bool res) h):=by
 unfold vB at a;refine zb Tryz.func21 rfl (by kernel_rfl) (yV 5 rfl) (R.r ?_);refine zi a (λc b a=>cp (ok50 b) (R.r ?_));cases a;exact fz rfl rfl
theorem ok52 {a:(List zd)} {res:((List GA)×(List zd))}  (b:qD t0 a=some res):Sp 52 [.sl 3 (t0.map GA.row),.sl 1 (a.map zC)] h (CloK h 93 [.cells [.sl 3 (res.1.map GA.row)],.cells [.sl 1 (res.2.map zC)]]):=by
 unfold qD at b;refine zb Tryz.func52 rfl (by kernel_rfl) (yV 6 rfl) (R.r ?_);refine zc rfl (qv rfl rfl rfl) ss (R.r ?_);cases b;refine fr rfl (fin_clo (bs:=[.cells [.sl 3 (t0.map GA.row)],.cells [.sl 1 (a.map zC)]]) (by simp [AV.low,zG]) rfl (by simp [Blk.low,zG,AV.low]) ?_);exact ⟨rfl,rfl⟩
theorem ok94 {l0:GE} {res:GE}  (a:pathsXown l0=some res):Sp 94 [.agg (GE.row l0)] h (yy (.agg (GE.row res)) h):=by
 unfold pathsXown at a;refine zb Tryz.func94 rfl (by kernel_rfl) (yV 12 rfl) (R.r ?_);refine yE (by kernel_rfl) (R.r ?_);refine zi a (λb d a=>wd rfl FOk.nil (by rfl) rfl (sc rfl) (vj (T':=[b.length]) (ok76 d) (m:=0) rfl rfl) ss (R.r ?_));refine zi a (λe c a=>wd rfl FOk.nil (by rfl) rfl (sc rfl) (vj (T':=[b.length,e.length]) (ok77 c) (m:=1) rfl rfl) ss (R.r ?_));refine zP rfl FOk.nil (by kernel_rfl) rfl (zQ (cs':=(GLeafRw l0 (osA h 0 5 (b.map GI.row)) (.sl 3 (l0.tombs.map GF.row)))) rfl ty44 gg gg (za rfl) rfl rfl rfl rfl rfl) rfl (R.r ?_);refine zP rfl FOk.nil (by kernel_rfl) rfl (zQ (cs':=(GLeafRw l0 (osA h 0 5 (b.map GI.row)) (osA h 1 3 (e.map GF.row)))) rfl ty45 gg gg (za rfl) rfl rfl rfl rfl rfl) rfl (R.r ?_);cases a;exact fe rfl rfl (leV.agg (.eq (.eq (.eq (.eq (.eq (.eq (.eq (.cons (leV.osl _ _ _) (.cons (leV.osl _ _ _) leL.nil))))))))) rfl)
theorem ok93N (n:Nat):∀{S:Type} {Hy:S->AH} {nb nt:Nat} {t:S->GH->Option (Bool×S)} {i:Nat} {c0:(List GA)} {N:Nat} {c1:(List zd)} {Q:Nat} {s0:S} {res:S} (d:∀s,(Hy s).blks.length=nb) (c:∀s,(Hy s).toks.length=nt) (z:∀s,(Hy s).closed nb nt) (v:i < nb) (hy:∀s x b s' L M,t s x=some (b,s')->SpecY Tryz.prog i [.agg (GH.row x)] ((Hy s).ext L M) (yy (.bool b) ((Hy s').ext L M))) (C:∀s,(Hy s).blk N=some (.cells [.sl 3 (c0.map GA.row)])) (D:∀s,(Hy s).blk Q=some (.cells [.sl 1 (c1.map zC)])),wc n S t c0 c1 s0=some res->Sp 93 [.yld i,.ptr N 0,.ptr Q 0] (Hy s0) (yy (.tup []) (Hy res)):=by
 induction n with
 | zero=>intro S Hy nb nt t i c0 N c1 Q s0 res d c z v hy C D a;simp [wc] at a
 | succ n ih =>
  intro S Hy nb nt t i c0 N c1 Q s0 res d c z v hy C D a;unfold wc at a;refine zb Tryz.func93 rfl (by kernel_rfl) (yV 48 rfl) ?_;have q:∀k,i < nb+k:=λk=>tv v (tR _ _);have l:=blk_lt (C s0) (d s0);have f:∀k,N < nb+k:=λk=>tv l (tR _ _);have p:=blk_lt (D s0) (d s0);have g:∀k,Q < nb+k:=λk=>tv p (tR _ _);refine zW (zz ?_);refine zc rfl (n_box (d _) (n:=0) rfl gg (za rfl) rfl rfl) ss (R.r ?_);refine zc rfl (b_load rfl ty23 gg (C _) (yd rfl) (za rfl)) ss ?_;refine ln λJ=>?_;replace J:=zZ J;apply R.r;refine zB (λ(n1:Nat) (s1:S)=>zo 0 2 (zo 4 6 (zo 13 35 [(12,.int .i64 (n1:Int))]))) (λs1=>(Hy s1).ext [.cells [.yld i]] []) a (λ_ _=>by simp only [zo,x5,ue,uf];try rfl) (wk.le LEL.o) ?_;intro n1 s1 hi1 a;apply R.r;refine zL gg a (λe o1 hl1 hx1 a H=>?_) (λa=>?_)
  ·apply R.r;refine zc rfl (yh rfl el23 gg gg isl (zF hx1) (GA.row_eq _)) ss ?_;refine zc rfl (f_load rfl ty56.choose_spec.1 gg (yR (cs':=[.str e.name,.sl 9 (e.leaves.map GE.row),.sl 3 (e.subs.map GA.row)]) ty56.choose_spec.2 rfl rfl) (za rfl)) ss ?_;refine zc rfl (n_alloc (d _) (n:=1) rfl ze56 rfl) ss ?_;refine zc rfl (n_store (d _) (cs':=[.str e.name,.sl 9 (e.leaves.map GE.row),.sl 3 (e.subs.map GA.row)]) rfl ty56.choose_spec.1 gg gg (za rfl) rfl rfl rfl rfl rfl) rfl (R.r ?_);refine yE (by kernel_rfl) ?_;refine zx rfl rfl (b_load rfl ty37 gg (D _) (yd rfl) (za rfl)) ss ?_;refine zi a (λv37 T a=>wd rfl FOk.nil (by rfl) rfl (sc rfl) (n_own (c _) (T':=[v37.length]) (ok91 T) (m:=0) rfl rfl) ss (R.r ?_));refine zx rfl rfl (n_load (d _) rfl ty9 gg rfl (yd rfl) (za rfl)) ss ?_;refine zx rfl rfl (zw (es:=([e.name]:List zd).map zC) rfl el37 ze9 rfl rfl (zk gg zq) (.cons (za rfl) .nil) rfl rfl rfl) ss ?_;refine yj a (λhm38 a=>xD rfl FOk.nil (by rfl) rfl (n_appT (c _) (j:=0) (T':=[((v37++([e.name]:List zd))).length]) rfl rfl rfl rfl el37 el37 gg gg (za rfl) (za rfl) yq hm38 rfl rfl) ss (R.r ?_));refine zc rfl (n_load (d _) rfl ty54 gg rfl (yd rfl) (za rfl)) ss ?_;refine ln λE=>?_;replace E:=zZ E;apply R.r;refine zB (λ(n2:Nat) (s2:S)=>zo 0 2 (zo 7 3 (zo 13 10 (zo 26 22 [(4,.any),(25,.int .i64 (n2:Int))])))) (λs2=>(Hy s2).ext [.cells [.yld i],.cells [.str e.name,.sl 9 (e.leaves.map GE.row),.sl 3 (e.subs.map GA.row)]] [((v37++([e.name]:List zd))).length]) a (λ_ _=>by simp only [zo,x5,ue,uf];try rfl) (wk.le LEL.o) ?_;intro n2 s2 hi2 a;apply R.r;refine zL gg a (λx2 o2 hl2 hx2 a Y=>?_) (λa=>?_)
   ·apply R.r;refine ix (zF hx2) ?_;refine zc rfl (f_load rfl ty47.choose_spec.1 gg (yR (cs':=(GE.row x2)) ty47.choose_spec.2 rfl rfl) (za rfl)) ss ?_;refine zc rfl (n_alloc (d _) (n:=2) rfl ze47 rfl) ss ?_;refine zc rfl (n_store (d _) (cs':=(GE.row x2)) rfl ty47.choose_spec.1 gg gg (za rfl) rfl rfl rfl rfl rfl) rfl (R.r ?_);refine yl [4] [] trivial mixed (by kernel_rfl) ?_;refine zx rfl rfl (n_load (d _) rfl ty122 gg rfl (yd rfl) (za rfl)) ss (R.r ?_);refine zi a (λU P a=>wd rfl (FOk.cons (.inr (yo trivial)) FOk.nil) (by rfl) rfl (sc rfl) (n_own (c _) (T':=[((v37++([e.name]:List zd))).length,U.length]) ((ok91 P).le (.cons (leV.osl _ _ _) leL.nil)) (m:=1) rfl rfl) ss ?_);refine zx rfl rfl (n_load (d _) rfl ty47.choose_spec.1 gg rfl (yR (cs':=(GE.row x2)) ty47.choose_spec.2 rfl rfl) (za rfl)) ss ?_;refine zi a (λw hv52 a=>zK rfl rfl (λ_=>sc rfl) (by rintro _ ⟨B2,T2,rfl,hk2⟩;exact ok94 hv52) ss ?_);refine zx rfl rfl (yQ (cs':=[.osl (some (nt+1)) 1 (U.map zC),.int .u8 w.typ,.int .i64 w.n,.int .u64 w.time,.int .u8 w.dot.actor.rep,.int .u32 w.dot.actor.inc,.int .u64 w.dot.seq,.str w.text,.sl 5 (w.items.map GI.row),.sl 3 (w.tombs.map GF.row)]) rfl su61 ze61 pl61 (zk gg (zk gg zq)) (.cons (za rfl) (.cons (za rfl) .nil)) rfl rfl) ss ?_;refine zi a (λv53 K a=>draw_round rfl (FOk.cons (.inl (by kernel_rfl)) FOk.nil) (by kernel_rfl) rfl (s_yield rfl rfl gg (zu gg zV) (.cons (za rfl) .nil)) ((hy _ _ _ _ _ _ K).le (.cons (leV.agg (.cons (leV.osl _ _ _) (.eq (.eq (.eq (.eq (.eq (.eq (.eq (.eq (.eq leL.nil)))))))))) rfl) leL.nil)) ss (R.r ?_));refine zf gg a (λZ a=>?_) (λZ a=>?_)
    ·apply R.r;cases a;replace a:=Y;apply R.r;cases a;replace a:=H;apply R.r;cases a;refine fr rfl (fin_exts (d _) (c _) (d _) (c _) (z _) (leV.refl _) rfl ?_);exact ⟨rfl,rfl⟩
    ·apply R.r;cases a;exact ⟨v53.2,hl2,Y,wk.trans (wk.le (by exact (.drop (.drop (.eq (.eq (.drop (.eq (.eq (.drop (.drop (.drop (.eq (.eq (.eq (.d4 (.d4 (.drop (.drop (.eq (.eq (.cons (leV.of_eq (yF (by omega) (by omega))) (.d16 (.d4 (.drop (.drop leL.nil)))))))))))))))))))))))))) (wk_ext3s (d _) (c _) (d _) (c _) (z _) (by simp [zG,AV.low,v,q,l,f,p,g]) rfl rfl (by simp [Blk.low,zG,AV.low,v,q,l,f,p,g]))⟩
   ·apply R.r;refine zc rfl (n_load (d _) rfl ty23 gg rfl (yd rfl) (za rfl)) ss (R.r ?_);refine zi a (λv55 W a=>xU rfl (sc rfl) (clo_ext (d _) (n:=2) (B':=[.cells [.yld i],.cells [.str e.name,.sl 9 (e.leaves.map GE.row),.sl 3 (e.subs.map GA.row)],.cells [.sl 3 (v55.1.map GA.row)],.cells [.sl 1 (v55.2.map zC)]]) (caps:=[.ptr (nb+2) 0,.ptr (nb+3) 0]) ((ok52 W).le (.eq (.cons (leV.osl _ _ _) leL.nil))) rfl rfl rfl) ss (R.r ?_));refine r_range (λ(y:S)=>(Hy y)) (λ(y:S)=>[.cells [.yld i],.cells [.str e.name,.sl 9 (e.leaves.map GE.row),.sl 3 (e.subs.map GA.row)],.cells [.sl 3 (v55.1.map GA.row)],.cells [.sl 1 (v55.2.map zC)]]) (λ(y:S)=>[((v37++([e.name]:List zd))).length]) s2 a (wk.le (by exact (.drop (.drop (.eq (.eq (.d4 (.drop (.drop (.eq (.eq (.eq (.d16 (.d4 (.d4 (.d4 (.eq (.d4 (.drop (.drop leL.nil)))))))))))))))))))) (λ_=>(d _)) rfl rfl rfl (λ_=>rfl) rfl gg rfl (λI F r3 X=>?_) (λy H1 O a=>?_) (λj3 y H1 O a=>?_)
    ·have u:∀q1 q2,(I q1 q2).low (nb+5) (nt+1)=true:=by intro q1 q2;rw [F];simp [Blk.low,zG,AV.low,v,q,l,f,p,g]
     refine Spec.mono (ih (Hy:=(fam (λ(y:S)=>(Hy y)) (λ(y:S)=>[.cells [.yld i],.cells [.str e.name,.sl 9 (e.leaves.map GE.row),.sl 3 (e.subs.map GA.row)],.cells [.sl 3 (v55.1.map GA.row)],.cells [.sl 1 (v55.2.map zC)]]) (λ(y:S)=>[((v37++([e.name]:List zd))).length]) I)) (nb:=nb+5) (nt:=nt+1) (λ_=>by simp only [fam];rw [ext_len (d _)];rfl) (λ_=>by simp only [fam];rw [ext_tlen (c _)];rfl) (λ_=>closed_ext (z _) (tR _ _) (tR _ _) (by simp only [sa,tc,rX,tW,ui,uH,Nat.reduceAdd,uT,u] <;> simp [Blk.low,zG,AV.low,v,q,l,f,p,g])) (sR _) (y_body F (xs:=λ(x:GH)=>[.agg (GH.row x)]) (λ_=>(d _)) (λ_=>rfl) rfl (λ_=>rfl) (λ_=>by simp only [setL,ue,uf];try rfl) (λy x3 o3 L3 M3 H1 O a=>?_)) (λ_=>by simp only [fam];exact n_blk (j:=2) (d _) rfl) (λ_=>by simp only [fam];exact n_blk (j:=3) (d _) rfl) X) (λ_ _ h=>h.2);obtain rfl:H1=(((Hy y).ext ([.cells [.yld i],.cells [.str e.name,.sl 9 (e.leaves.map GE.row),.sl 3 (e.subs.map GA.row)],.cells [.sl 3 (v55.1.map GA.row)],.cells [.sl 1 (v55.2.map zC)]]++[I .ready none]) [((v37++([e.name]:List zd))).length]).ext L3 M3).ext [] []:=O;refine zz ?_;refine zc rfl (n_alloc (deep_len (d _) rfl) (n:=0) rfl ze61 rfl) ss ?_;refine zc rfl (n_store (deep_len (d _) rfl) (cs':=(GH.row x3)) rfl ty61.choose_spec.1 gg gg (za rfl) rfl rfl rfl rfl rfl) rfl (R.r ?_);refine q_assign (d _) rfl (R.r ?_);refine zc rfl (d_load (d _) rfl ty122 gg rfl (yd rfl) (za rfl)) ss ?_;refine zc rfl (n_load (deep_len (d _) rfl) rfl ty61.choose_spec.1 gg rfl (yR (cs':=(GH.row x3)) ty61.choose_spec.2 rfl rfl) (za rfl)) ss ?_;refine zi a (λv64 V a=>ops_round rfl (s_yield rfl rfl gg (zu gg zV) (.cons (za rfl) .nil)) (SpecY.deep λA B=>hy _ _ _ _ A B V) ss (R.r ?_));refine zf gg a (λhc65 a=>?_) (λhc65 a=>?_)
     ·apply R.r;cases a;exact q_roundR (z _) (d _) (c _) (d _) (c _) rfl rfl rfl rfl rfl rfl rfl (by simp only [sa,tc,rX,tW,ui,uH,Nat.reduceAdd,uT,u] <;> simp [Blk.low,zG,AV.low,v,q,l,f,p,g])
     ·apply R.r;cases a;exact q_roundN (z _) (d _) (c _) (d _) (c _) rfl rfl rfl rfl rfl rfl rfl (by simp only [sa,tc,rX,tW,ui,uH,Nat.reduceAdd,uT,u] <;> simp [Blk.low,zG,AV.low,v,q,l,f,p,g])
    ·obtain rfl:H1=(Hy y).ext [.cells [.yld i],.cells [.str e.name,.sl 9 (e.leaves.map GE.row),.sl 3 (e.subs.map GA.row)],.cells [.sl 3 (v55.1.map GA.row)],.cells [.sl 1 (v55.2.map zC)],.dead] [((v37++([e.name]:List zd))).length]:=O;apply R.r;cases a;exact ⟨y,hl1,H,wk.trans (wk.le (by exact (.drop (.drop (.eq (.eq (.d4 (.drop (.drop (.eq (.eq (.cons (leV.of_eq (yF (by omega) (by omega))) (.d16 (.d16 (.drop (.drop (.drop leL.nil))))))))))))))))) (wk_ext3s (d _) (c _) (d _) (c _) (z _) (by simp [zG,AV.low,v,q,l,f,p,g]) rfl rfl (by simp [Blk.low,zG,AV.low,v,q,l,f,p,g]))⟩
    ·obtain rfl:H1=(Hy y).ext [.cells [.yld i],.cells [.str e.name,.sl 9 (e.leaves.map GE.row),.sl 3 (e.subs.map GA.row)],.cells [.sl 3 (v55.1.map GA.row)],.cells [.sl 1 (v55.2.map zC)],.dead] [((v37++([e.name]:List zd))).length]:=O;refine jmp1 (G:=λj=>jumpQ _ j _ _) a (λa=>jmp_ret ?_);apply R.r;cases a;replace a:=H;apply R.r;cases a;refine fr rfl (fin_exts (d _) (c _) (d _) (c _) (z _) (leV.refl _) rfl ?_);exact ⟨rfl,rfl⟩
  ·apply R.r;cases a;refine fr rfl (fin_exts (d _) (c _) (d _) (c _) (z _) (leV.refl _) rfl ?_);exact ⟨rfl,rfl⟩
theorem ok93 {S:Type} {Hy:S->AH} {nb nt:Nat} {a:S->GH->Option (Bool×S)} {c:Nat} {j:(List GA)} {l:Nat} {k:(List zd)} {m:Nat} {s0:S} {res:S} (t:∀s,(Hy s).blks.length=nb) (d:∀s,(Hy s).toks.length=nt) (o:∀s,(Hy s).closed nb nt) (e:c < nb) (q:∀s x b i L M,a s x=some (b,i)->SpecY Tryz.prog c [.agg (GH.row x)] ((Hy s).ext L M) (yy (.bool b) ((Hy i).ext L M))) (f:∀s,(Hy s).blk l=some (.cells [.sl 3 (j.map GA.row)])) (g:∀s,(Hy s).blk m=some (.cells [.sl 1 (k.map zC)])) (p:pathsXrowsC1 S a j k s0=some res):Sp 93 [.yld c,.ptr l 0,.ptr m 0] (Hy s0) (yy (.tup []) (Hy res)):=by
 obtain ⟨n,r⟩:=anyN_is p;exact ok93N n t d o e q f g r
theorem ok92 {s0:(List GH)} {q:(S:Type)->(S->GH->Option (Bool×S))->S->Option S} {i:FuncId} {g f:List AV} {res:(List GH)} (u:∀(S:Type) (Hy:S->AH) (nb nt:Nat),(∀s,(Hy s).blks.length=nb)->(∀s,(Hy s).toks.length=nt)->(∀s,(Hy s).closed nb nt)->(∀s,∃L M,Hy s=h.ext L M)->∀(y:S->GH->Option (Bool×S)) (t:Nat),t < nb->(∀s x b w L M,y s x=some (b,w)->SpecY Tryz.prog t [.agg (GH.row x)] ((Hy s).ext L M) (yy (.bool b) ((Hy w).ext L M)))->∀s w,q S y s=some w->Sp i (g++[.yld t]++f) (Hy s) (yy (.tup []) (Hy w))) (l:wt s0 q=some res):Sp 92 [.osl none 10 (s0.map GH.row),.fn (.func i) g f] h (yy (.sl 10 (res.map GH.row)) h):=by
 unfold wt at l;refine zY Tryz.func92 rfl (by kernel_rfl) (yV 13 rfl) (λk E=>?_);simp only [zG,AV.low,ud,u2,t7] at k;have c:∀n m,h.blks.length<=n->h.toks.length<=m->zG n m g=true:=λn m C B=>ym C B _ (by simp [k]);have a:∀n m,h.blks.length<=n->h.toks.length<=m->zG n m f=true:=λn m C B=>ym C B _ (by simp [k]);apply R.r;refine r_range (λ(d:(List GH))=>h) (λ(d:(List GH))=>[.cells [osA h 0 10 (d.map GH.row)]]) (λ(d:(List GH))=>[d.length]) s0 l (wk.trans (wk_tokB (j:=0) rfl gt0 rfl st0 rfl rfl) (wk.le (by exact (.drop (.drop (.eq (.drop (.drop (.drop (.eq (.d4 (.drop (.drop leL.nil))))))))))))) (λ_=>rfl) rfl rfl rfl (λ_=>rfl) rfl gt6 rfl (λo p I A=>?_) (λd H1 z l=>?_) (λH d H1 z l=>?_)
 ·have e:∀F G,(o F G).low (h.blks.length+2) (h.toks.length+1)=true:=by intro F G;rw [p];simp [Blk.low,zG,AV.low,c,a]
  refine Spec.mono (u _ (fam (λ(d:(List GH))=>h) (λ(d:(List GH))=>[.cells [osA h 0 10 (d.map GH.row)]]) (λ(d:(List GH))=>[d.length]) o) (h.blks.length+2) (h.toks.length+1) (λ_=>by simp only [fam];rw [ext_len rfl];rfl) (λ_=>by simp only [fam];rw [ext_tlen rfl];rfl) (λ_=>closed_ext E (tR _ _) (tR _ _) (by simp only [sa,tc,rX,tW,ui,uH,Nat.reduceAdd,uT,e] <;> simp [Blk.low,zG,AV.low,c,a])) (λ_=>⟨_,_,rfl⟩) _ _ (sR _) (y_body p (xs:=λ(x:GH)=>[.agg (GH.row x)]) (λ_=>rfl) (λ_=>rfl) rfl (λ_=>rfl) (λ_=>by simp only [setL,ue,uf];try rfl) (λd v J L1 M1 H1 z l=>?_)) _ _ A) (λ_ _ h=>h.2);obtain rfl:H1=((h.ext ([.cells [osA h 0 10 (d.map GH.row)]]++[o .ready none]) [d.length]).ext L1 M1).ext [] []:=z;refine zz ?_;refine zc rfl (n_alloc (deep_len rfl rfl) (n:=0) rfl ze61 rfl) ss ?_;refine zc rfl (n_store (deep_len rfl rfl) (cs':=(GH.row v)) rfl ty61.choose_spec.1 gg gg (za rfl) rfl rfl rfl rfl rfl) rfl (R.r ?_);refine q_assign rfl rfl (R.r ?_);refine zc rfl (d_load rfl rfl ty58 gg rfl (yd rfl) (za rfl)) ss ?_;refine zc rfl (n_load (deep_len rfl rfl) rfl ty61.choose_spec.1 gg rfl (yR (cs':=(GH.row v)) ty61.choose_spec.2 rfl rfl) (za rfl)) ss ?_;refine zc rfl (zw (es:=([v]:List GH).map GH.row) rfl el58 ze61 rfl rfl (zk gg zq) (.cons (za rfl) .nil) rfl rfl rfl) ss ?_;refine yj l (λD l=>zc rfl (d_appT (j:=0) (T':=[((d++([v]:List GH))).length]) rfl rfl rfl rfl rfl el58 el58 gg gg (za rfl) (za rfl) yq D rfl rfl) ss ?_);refine zc rfl (d_store (A':=[.cells [osA h 0 10 ((d++([v]:List GH)).map GH.row)]]++[o .busy none]) (cs':=[osA h 0 10 ((d++([v]:List GH)).map GH.row)]) rfl rfl ty58 gg gg (za rfl) rfl rfl rfl rfl rfl rfl) rfl (R.r ?_);cases l;exact q_roundN E rfl rfl rfl rfl rfl rfl rfl rfl rfl rfl rfl (by simp only [sa,tc,rX,tW,ui,uH,Nat.reduceAdd,uT,e] <;> simp [Blk.low,zG,AV.low,c,a])
 ·obtain rfl:H1=h.ext [.cells [osA h 0 10 (d.map GH.row)],.dead] [d.length]:=z;apply R.r;cases l;exact fe rfl rfl (leV.osl _ _ _)
 ·obtain rfl:H1=h.ext [.cells [osA h 0 10 (d.map GH.row)],.dead] [d.length]:=z;cases l
theorem ok51 {i:(S:Type)->(S->GH->Option (Bool×S))->S->Option S} {g:FuncId} {c a:List AV} {res:(List GH)} (k:∀(S:Type) (Hy:S->AH) (nb nt:Nat),(∀s,(Hy s).blks.length=nb)->(∀s,(Hy s).toks.length=nt)->(∀s,(Hy s).closed nb nt)->(∀s,∃L M,Hy s=h.ext L M)->∀(y:S->GH->Option (Bool×S)) (f:Nat),f < nb->(∀s x b j L M,y s x=some (b,j)->SpecY Tryz.prog f [.agg (GH.row x)] ((Hy s).ext L M) (yy (.bool b) ((Hy j).ext L M)))->∀s j,i S y s=some j->Sp g (c++[.yld f]++a) (Hy s) (yy (.tup []) (Hy j))) (l:vf i=some res):Sp 51 [.fn (.func g) c a] h (yy (.sl 10 (res.map GH.row)) h):=by
 unfold vf at l;refine zY Tryz.func51 rfl (by kernel_rfl) (yV 5 rfl) (λd z=>?_);simp only [zG,AV.low,ud,u2,t7] at d;have p:∀n m,h.blks.length<=n->h.toks.length<=m->zG n m c=true:=λn m v t=>ym v t _ (by simp [d]);have o:∀n m,h.blks.length<=n->h.toks.length<=m->zG n m a=true:=λn m v t=>ym v t _ (by simp [d]);apply R.r;refine zi l (λD u l=>cp (ok92 (λS Hy nb nt C q z A y f w B s j l=>k S Hy nb nt C q z (λs=>by obtain ⟨L,M,e⟩:=A s;exact ⟨_,_,by rw [e,xf]⟩) y f w B s j l) u) (R.r ?_));cases l;exact fz rfl rfl
theorem ok22 {res:(List GH)}  (a:vU t0=some res):Sp 22 [.sl 3 (t0.map GA.row)] h (yy (.sl 10 (res.map GH.row)) h):=by
 unfold vU at a;refine zb Tryz.func22 rfl (by kernel_rfl) (yV 9 rfl) (R.r ?_);refine zi a (λt c a=>cp (ok21 c) (R.r ?_));refine zf gg a (λi a=>?_) (λi a=>?_)
 ·apply R.r;cases a;exact fe rfl rfl (leV.osl _ _ _)
 ·apply R.r;refine zi a (λv3 f a=>xU rfl (sc rfl) (clo_ext rfl (n:=0) (B':=[.cells [.sl 3 (v3.1.map GA.row)],.cells [.sl 1 (v3.2.map zC)]]) (caps:=[.ptr (h.blks.length+0) 0,.ptr (h.blks.length+1) 0]) ((ok52 f).le (.eq (.cons (leV.osl _ _ _) leL.nil))) rfl rfl rfl) ss ?_);refine zi a (λv4 d a=>cp (ok51 (λS Hy nb nt p b l k y m g o s q a=>ok93 p b l g o (λs=>by obtain ⟨L,M,e⟩:=k s;rw [e];exact n_blk2 (j:=0) rfl rfl) (λs=>by obtain ⟨L,M,e⟩:=k s;rw [e];exact n_blk2 (j:=1) rfl rfl) a) d) (R.r ?_));cases a;exact fz rfl rfl
def joinTryzRen:Go.Shelf.Ren :=
  { f:=λx=>match x with
      | 156=>53
      | 165=>95
      | 166=>96
      | 169=>97
      | 240=>121
      | 241=>122
      | 276=>150
      | 277=>151
      | n=>n
    t:=λx=>match x with
      | 0=>0
      | 3=>3
      | 4=>4
      | 9=>9
      | 20=>20
      | 31=>37
      | 37=>88
      | 70=>123
      | 72=>125
      | 75=>128
      | 76=>129
      | 127=>152
      | 164=>172
      | 5=>5
      | 80=>131
      | n=>n
    g:=λn=>n }
theorem joinTryzLays:Go.Proofs.Lays.n156 Tryz.prog joinTryzRen where
  mixed:=mixed
  f156:=Tryz.func53.trans (by kernel_rfl)
  f165:=Tryz.func95.trans (by kernel_rfl)
  f166:=Tryz.func96.trans (by kernel_rfl)
  f169:=Tryz.func97.trans (by kernel_rfl)
  f240:=Tryz.func121.trans (by kernel_rfl)
  f241:=Tryz.func122.trans (by kernel_rfl)
  f276:=Tryz.func150.trans (by kernel_rfl)
  f277:=Tryz.func151.trans (by kernel_rfl)
  t0:=Tryz.underlying0
  a0:=Tryz.isAgg0
  z0:=Tryz.sizeOf0
  v0:=Tryz.zeroValue0
  t3:=Tryz.underlying3
  a3:=Tryz.isAgg3
  z3:=Tryz.sizeOf3
  v3:=Tryz.zeroValue3
  t4:=Tryz.underlying4
  a4:=Tryz.isAgg4
  z4:=Tryz.sizeOf4
  v4:=Tryz.zeroValue4
  t9:=Tryz.underlying9
  a9:=Tryz.isAgg9
  z9:=Tryz.sizeOf9
  v9:=Tryz.zeroValue9
  t20:=Tryz.underlying20
  a20:=Tryz.isAgg20
  z20:=Tryz.sizeOf20
  v20:=Tryz.zeroValue20
  t31:=Tryz.underlying37
  a31:=Tryz.isAgg37
  z31:=Tryz.sizeOf37
  v31:=Tryz.zeroValue37
  t37:=Tryz.underlying88
  a37:=Tryz.isAgg88
  z37:=Tryz.sizeOf88
  v37:=Tryz.zeroValue88
  t70:=Tryz.underlying123
  a70:=Tryz.isAgg123
  z70:=Tryz.sizeOf123
  v70:=Tryz.zeroValue123
  t72:=Tryz.underlying125
  a72:=Tryz.isAgg125
  z72:=Tryz.sizeOf125
  v72:=Tryz.zeroValue125
  t75:=Tryz.underlying128
  a75:=Tryz.isAgg128
  z75:=Tryz.sizeOf128
  v75:=Tryz.zeroValue128
  t76:=Tryz.underlying129
  a76:=Tryz.isAgg129
  z76:=Tryz.sizeOf129
  v76:=Tryz.zeroValue129
  t127:=Tryz.underlying152
  a127:=Tryz.isAgg152
  z127:=Tryz.sizeOf152
  v127:=Tryz.zeroValue152
  t164:=Tryz.underlying172
  a164:=Tryz.isAgg172
  z164:=Tryz.sizeOf172
  v164:=Tryz.zeroValue172
theorem joinTryzExtra:Go.Proofs.Builder.Extra Tryz.prog joinTryzRen where
  sizeBuilder:=by kernel_rfl
  liesBuilder:=by kernel_rfl
  t5:=Tryz.underlying5
  a5:=Tryz.isAgg5
  z5:=Tryz.sizeOf5
  v5:=Tryz.zeroValue5
  infoByte:=by kernel_rfl
  cellsByte:=by kernel_rfl
  sizeByte:=by kernel_rfl
  neB5:=by decide
theorem ok53 {b:List zd} {a:zd} {res:zd} (c:stringsJoin b a=some res):Sp 53 [.sl 1 (b.map zC),.str a] h (yy (.str res) h) :=
 spec_join joinTryzLays joinTryzExtra c
theorem ok23 {c:(List zd)} {a:Int} {res:zd}  (b:xZ c a=some res):Sp 23 [.sl 1 (c.map zC),.int .u8 a] h (yy (.str res) h):=by
 unfold xZ at b;refine zb Tryz.func23 rfl (by kernel_rfl) (yV 12 rfl) (R.r ?_);refine yl [1] [] trivial mixed (by kernel_rfl) (R.r ?_);refine zi b (λk d b=>zK rfl rfl (λ_=>sc rfl) (by rintro _ ⟨B2,T2,rfl,j⟩;exact ok53 d) ss ?_);refine yj b (λg b=>zx rfl rfl (yK rfl gg rfl (uF g)) ss (R.r ?_));refine yj b (λe b=>zx rfl rfl (zw (es:=([(UInt8.ofNat a.toNat)]:List UInt8).map byteRow) rfl el88 ze5 rfl rfl (zk gg zq) (.cons (za rfl) .nil) rfl rfl (by simp only [uD,tS,byteRow,byte_of e];rfl)) ss ?_);refine yj b (λi b=>draw_b rfl rfl rfl (convB rfl el88.u ty5.u ty9.u gg (.inr ⟨_,za rfl⟩) i) ss ?_);refine yj b (λf b=>zx rfl rfl (yK rfl gg gg (uF f)) ss (R.r ?_));cases b;exact fz rfl rfl
end Go.Vv
