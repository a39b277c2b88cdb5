/- Each function that the law reaches computes what its reading says; printed by a program. -/
import Derived.Test.YtdgbnljehpacjaaGreatW3
set_option linter.all false
namespace Go.Vv
open Go Go.Proofs
set_option maxRecDepth 100000
set_option synthInstance.maxSize 100000
set_option synthInstance.maxHeartbeats 1000000
set_option maxHeartbeats 1000000
variable {l0 a1 b2:(List GA)} {res:Int} {h:AH} {bl tl:Nat}
theorem ok61 {l0:GA} {a1:GA} {b2:GA} {res:(List GC)}  (a:treeXthree l0 a1 b2=some res):Sp 61 [.agg [.str l0.name,.sl 9 (l0.leaves.map GC.row),.sl 3 (l0.subs.map GA.row)],.agg [.str a1.name,.sl 9 (a1.leaves.map GC.row),.sl 3 (a1.subs.map GA.row)],.agg [.str b2.name,.sl 9 (b2.leaves.map GC.row),.sl 3 (b2.subs.map GA.row)]] h (yL (.sl 9 (res.map GC.row)) h):=by
 unfold treeXthree at a;refine zb Tryz.func61 rfl (by kernel_rfl) (yK 61 rfl) (R.r ?_);refine xe (λ(b:(List GC)×Int)=>zo 0 3 (zo 9 52 [(6,osA h 0 9 (b.1.map GC.row)),(8,.int .u8 b.2)])) (λb=>h.ext [.cells [.str l0.name,.sl 9 (l0.leaves.map GC.row),.sl 3 (l0.subs.map GA.row)],.cells [.str a1.name,.sl 9 (a1.leaves.map GC.row),.sl 3 (a1.subs.map GA.row)],.cells [.str b2.name,.sl 9 (b2.leaves.map GC.row),.sl 3 (b2.subs.map GA.row)]] [(b.1).length]) a (λ_=>by simp only [zo,wg,uf,ug];try rfl) (wk.trans (wk_tok gt6 rfl st6 rfl) (wk.le (by exact (.drop (.drop (.drop (.eq (.eq (.eq (.cons (leV.of_eq rfl) (.eq (.cons (leV.of_eq rfl) (.d16 (.d16 (.d16 (.d4 leL.nil)))))))))))))))) ?_;intro q b p a c;apply R.r;refine ze gg a (λf a=>?_) (λf a=>?_)
 ·apply R.r;refine zd a (λn k a=>yg rfl (z7 rfl rfl gg (zk gg (zk gg zA)) (.cons (za rfl) (.cons (za rfl) .nil))) (ok108 k) ss (R.r ?_));refine zd a (λm i a=>yg rfl (z7 rfl rfl gg (zk gg (zk gg zA)) (.cons (za rfl) (.cons (za rfl) .nil))) (ok108 i) ss (R.r ?_));refine zd a (λv22 d a=>yg rfl (z7 rfl rfl gg (zk gg (zk gg zA)) (.cons (za rfl) (.cons (za rfl) .nil))) (ok108 d) ss (R.r ?_));refine ze gg a (λg a=>?_) (λg a=>?_)
  ·apply R.r;refine zd a (λv24 e a=>cp (ok109 e) (R.r ?_));refine zc rfl (zr (es:=([v24.1]:List GC).map GC.row) rfl el47 ze55 rfl rfl (zf gg zg) (.cons (za rfl) .nil) rfl rfl rfl) ss ?_;refine yf a (λl a=>zc rfl (xq (j:=0) (T':=[((b.1++([v24.1]:List GC))).length]) rfl rfl rfl rfl el47 el47 gg gg (za rfl) (za rfl) yH l rfl rfl) ss (R.r ?_));cases a;exact ⟨((b.1++([v24.1]:List GC)),(IntKind.wrap .u8 (b.2+(1:Int)))),c,wk.trans (wk.le LEL.o) (yz (by simp [zD,AV.low]) rfl rfl (by simp [Blk.low,zD,AV.low]))⟩
  ·apply R.r;cases a;exact ⟨(b.1,(IntKind.wrap .u8 (b.2+(1:Int)))),c,wk.trans (wk.le LEL.o) (yz (by simp [zD,AV.low]) rfl rfl (by simp [Blk.low,zD,AV.low]))⟩
 ·apply R.r;cases a;replace a:=c;apply R.r;cases a;exact fe rfl rfl (leV.osl _ _ _)
theorem ok40N (n:Nat):∀{l0:(List GA)} {a1:(List GA)} {b2:(List GA)} {res:(List GA)} {h:AH} , x4 n l0 a1 b2=some res->Sp 40 [.sl 3 (l0.map GA.row),.sl 3 (a1.map GA.row),.sl 3 (b2.map GA.row)] h (yL (.sl 3 (res.map GA.row)) h):=by
 induction n with
 | zero=>intro l0 a1 b2 res h  a;simp [x4] at a
 | succ n ih =>
  intro l0 a1 b2 res h  a;unfold x4 at a;refine zb Tryz.func40 rfl (by kernel_rfl) (yK 61 rfl) (R.r ?_);refine zc rfl (zr (es:=([l0,a1,b2]:List (List GA)).map (λl=>[AV.sl 3 (l.map GA.row)])) rfl el142 ze23 rfl rfl (zf gg (zf gg (zf gg zg))) (.cons (za rfl) (.cons (za rfl) (.cons (za rfl) .nil))) rfl rfl rfl) ss ?_;refine zd a (λB s a=>cp ((ok59 s).le (.cons (leV.osl _ _ _) leL.nil)) ?_);refine ln λm=>?_;replace m:=yh m;apply R.r;refine zy (λ(w:Nat) (d:(List GA))=>zo 3 3 (zo 7 12 (zo 22 39 [(6,osA h 0 3 (d.map GA.row)),(21,.int .i64 (w:Int))]))) (λd=>h.ext [] [d.length]) a (λ_ _=>by simp only [zo,wg,uf,ug];try rfl) (wk.trans (wk_tok gt6 rfl st6 rfl) (wk.le (by exact (.eq (.eq (.eq (.drop (.drop (.drop (.cons (leV.of_eq rfl) (.d4 (.d4 (.d4 (.eq (.eq (.cons (leV.of_eq rfl) (.d16 (.d16 (.d4 (.drop (.drop (.drop leL.nil)))))))))))))))))))))) ?_;intro w d x a;apply R.r;refine zF gg a (λp C u t a v=>?_) (λa=>?_)
  ·apply R.r;refine ix (zB t) (R.r ?_);refine zd a (λy o a=>cp (ok60 o) (R.r ?_));refine zd a (λA f a=>cp (ok60 f) (R.r ?_));refine zd a (λz i a=>cp (ok60 i) (R.r ?_));refine yN [5,12] [] trivial mixed (by kernel_rfl) (R.r ?_);refine zd a (λb g a=>zJ rfl rfl (λ_=>sc rfl) (by rintro _ ⟨B2,T2,rfl,q⟩;exact ok61 g) ss (R.r ?_));refine zd a (λc k a=>zJ rfl rfl (λ_=>sc rfl) (by rintro _ ⟨B2,T2,rfl,q⟩;exact ih k) ss ?_);refine zq rfl rfl (yi (cs':=[.str p,.sl 9 (b.map GC.row),.sl 3 (c.map GA.row)]) rfl su49 q9 pl49 (zf gg (zf gg (zf gg zg))) (.cons (za rfl) (.cons (za rfl) (.cons (za rfl) .nil))) rfl rfl) ss ?_;refine zq rfl rfl (zr (es:=([(GA.mk p b c)]:List GA).map GA.row) rfl el23 q9 rfl rfl (zf gg zg) (.cons (za rfl) .nil) rfl rfl (by simp only [uz,tr,GA.row_eq];rfl)) ss ?_;refine yf a (λe a=>xu rfl (FOk.cons (.inr (yD trivial)) (FOk.cons (.inr (yD trivial)) FOk.nil)) (by rfl) rfl (xq (j:=0) (T':=[((d++([(GA.mk p b c)]:List GA))).length]) rfl rfl rfl rfl el23 el23 gg gg (za rfl) (za rfl) yH e rfl rfl) ss (R.r ?_));cases a;exact ⟨(d++([(GA.mk p b c)]:List GA)),u,v,wk.trans (wk.le (by exact (.eq (.eq (.eq (.drop (.drop (.drop (.cons (leV.of_eq rfl) (.d4 (.d4 (.d4 (.eq (.eq (.cons (leV.of_eq (xc (by omega) (by omega))) (.d16 (.d16 (.d4 (.drop (.drop (.drop leL.nil))))))))))))))))))))) (yz (by simp [zD,AV.low]) rfl rfl (by simp [Blk.low,zD,AV.low]))⟩
  ·apply R.r;cases a;exact fe rfl rfl (leV.osl _ _ _)
theorem okR40 {res:(List GA)} (w:h.blks.length=bl) (z:h.toks.length=tl) (a:treeXmerged l0 a1 b2=some res):Sp 40 [.sl 3 (l0.map GA.row),.sl 3 (a1.map GA.row),.sl 3 (b2.map GA.row)] h (yL (.rsl bl tl 3 res.length) (h.ext [.row tl 3 (res.map GA.row)] [res.length])):=by
 obtain ⟨n,a⟩:=anyN_is a;cases n with
 | zero=>simp [x4] at a
 | succ n =>
  unfold x4 at a;subst w z;refine zb Tryz.func40 rfl (by kernel_rfl) (yK 61 rfl) (R.r ?_);refine zc rfl (zr (es:=([l0,a1,b2]:List (List GA)).map (λl=>[AV.sl 3 (l.map GA.row)])) rfl el142 ze23 rfl rfl (zf gg (zf gg (zf gg zg))) (.cons (za rfl) (.cons (za rfl) (.cons (za rfl) .nil))) rfl rfl rfl) ss ?_;refine zd a (λF y a=>cp ((ok59 y).le (.cons (leV.osl _ _ _) leL.nil)) ?_);refine ln λt=>?_;replace t:=yh t;apply R.r;refine zy (λ(D:Nat) (d:(List GA))=>zo 3 3 (zo 7 12 (zo 22 39 [(6,zT h 0 0 3 (d.length)),(21,.int .i64 (D:Int))]))) (λd=>h.ext [yA h 0 3 (d.map GA.row)] [d.length]) a (λ_ _=>by simp only [zo,wg,uf,ug];try rfl) (wk.trans ((qy gt6 rfl rfl st6 rfl rfl).wk) (wk.le LEL.o)) ?_;intro D d E a;apply R.r;refine zF gg a (λv G B A a C=>?_) (λa=>?_)
  ·apply R.r;refine ix (zB A) (R.r ?_);refine zd a (λe u a=>cp (ok60 u) (R.r ?_));refine zd a (λg m a=>cp (ok60 m) (R.r ?_));refine zd a (λf q a=>cp (ok60 q) (R.r ?_));refine yN [5,12] [] trivial mixed (by kernel_rfl) (R.r ?_);refine zd a (λb p a=>zJ rfl rfl (λ_=>sc rfl) (by rintro _ ⟨B2,T2,rfl,x⟩;exact ok61 p) ss (R.r ?_));refine zd a (λc s a=>zJ rfl rfl (λ_=>sc rfl) (by rintro _ ⟨B2,T2,rfl,x⟩;exact ok40N n s) ss ?_);refine zq rfl rfl (yi (cs':=[.str v,.sl 9 (b.map GC.row),.sl 3 (c.map GA.row)]) rfl su49 q9 pl49 (zf gg (zf gg (zf gg zg))) (.cons (za rfl) (.cons (za rfl) (.cons (za rfl) .nil))) rfl rfl) ss ?_;refine zq rfl rfl (zr (es:=([(GA.mk v b c)]:List GA).map GA.row) rfl el23 q9 rfl rfl (zf gg zg) (.cons (za rfl) .nil) rfl rfl (by simp only [uz,tr,GA.row_eq];rfl)) ss ?_;refine yf a (λk a=>zz rfl (FOk.cons (.inr (yD trivial)) (FOk.cons (.inr (yD trivial)) FOk.nil)) (by kernel_rfl) rfl (e_appR (i:=0) (j:=0) (B':=[yA h 0 3 ((d++([(GA.mk v b c)]:List GA)).map GA.row),.cells [.str e.1.name,.sl 9 (e.1.leaves.map GC.row),.sl 3 (e.1.subs.map GA.row)],.cells [.str g.1.name,.sl 9 (g.1.leaves.map GC.row),.sl 3 (g.1.subs.map GA.row)],.cells [.str f.1.name,.sl 9 (f.1.leaves.map GC.row),.sl 3 (f.1.subs.map GA.row)]]) (T':=[((d++([(GA.mk v b c)]:List GA))).length]) rfl rfl rfl rfl el23 el23 gg gg rfl (za rfl) yH k rfl rfl rfl rfl rfl) ss (R.r ?_));cases a;exact ⟨(d++([(GA.mk v b c)]:List GA)),B,C,wk.trans (wk.le (by exact (.eq (.eq (.eq (.drop (.drop (.drop (.cons (leV.of_eq rfl) (.d4 (.d4 (.d4 (.eq (.eq (.cons (leV.of_eq (xc (by omega) (by omega))) (.d16 (.d16 (.d4 (.drop (.drop (.drop leL.nil))))))))))))))))))))) (yz (by simp [zD,AV.low]) rfl rfl (by simp [Blk.low,zD,AV.low]))⟩
  ·apply R.r;cases a;refine fr rfl (qP (hds_row (j:=0) (i:=0) rfl (by simp)) ?_);exact ⟨by simp only [ul];try rfl,by simp only [ul];try rfl⟩
theorem okR25 {res:((List GA)×Int)} (d:h.blks.length=bl) (l:h.toks.length=tl) (a:treeMerge l0 a1 b2=some res):Sp 25 [.sl 3 (l0.map GA.row),.sl 3 (a1.map GA.row),.sl 3 (b2.map GA.row)] h (yL (.tup [.rsl bl tl 3 (res.1).length,.int .i64 res.2]) (h.ext [.row tl 3 (res.1.map GA.row)] [(res.1).length])):=by
 unfold treeMerge at a;subst d l;refine zb Tryz.func25 rfl (by kernel_rfl) (yK 25 rfl) (R.r ?_);refine zd a (λn f a=>cp (ok21 f) (R.r ?_));refine ya a (λm b a=>zL rfl sc (λk=>ok21 (b k)) ss (R.r ?_));refine ya a (λv3 c a=>zL rfl sc (λk=>ok21 (c k)) ss (R.r ?_));refine ze gg a (λe a=>?_) (λe a=>?_)
 ·apply R.r;cases a;refine fr rfl (vJ hds_nil rfl ?_);exact ⟨rfl,rfl⟩
 ·apply R.r;refine zd a (λv5 g a=>yP rfl (sc rfl) (vT (v':=zT h 0 0 3 (v5.length)) (B':=[yA h 0 3 (v5.map GA.row)]) (T':=[v5.length]) (okR40 (by rw [ext_bl];rfl) (by rw [ext_tl];rfl) g) rfl rfl rfl) ss (R.r ?_));cases a;refine fr rfl (vJ (hds_row (j:=0) (i:=0) rfl (by simp)) rfl ?_);exact ⟨by simp only [ul];try rfl,by simp only [ul];try rfl⟩
theorem ok42 {k0:Int}  (a:opType k0=some res):Sp 42 [.int .u8 k0] h (yL (.int .u8 res) h):=by
 unfold opType at a;refine zb Tryz.func42 rfl (by kernel_rfl) (yK 12 rfl) (R.r ?_);refine zd a (λc b a=>cp (ok57 b) (R.r ?_));cases a;exact fz rfl rfl
theorem ok141 {j:(List GF)} {a:GF} {k:(GF->GF->Option Int)} {g:FuncId} {d c:List AV} {res:(Int×Bool)} (f:∀j p v (L:List Blk) (M:List Nat),k j p=some v->Sp g (d++[.agg [.int .u64 j.time,.int .u8 j.dot.actor.rep,.int .u32 j.dot.actor.inc,.int .u64 j.dot.seq,.str j.text],.agg [.int .u64 p.time,.int .u8 p.dot.actor.rep,.int .u32 p.dot.actor.inc,.int .u64 p.dot.seq,.str p.text]]++c) (h.ext L M) (yL (.int .i64 v) (h.ext L M))) (b:zS j a k=some res):Sp 141 [.sl 5 (j.map GF.row),.agg [.int .u64 a.time,.int .u8 a.dot.actor.rep,.int .u32 a.dot.actor.inc,.int .u64 a.dot.seq,.str a.text],.fn (.func g) d c] h (yL (.tup [.int .i64 res.1,.bool res.2]) h):=by
 unfold zS at b;refine zR Tryz.func141 rfl (by kernel_rfl) (yK 49 rfl) (λe H=>?_);simp only [zD,AV.low,ud,uU,tQ] at e;have x:∀n m,h.blks.length<=n->h.toks.length<=m->zD n m d=true:=λn m C B=>yk C B _ (by simp [e]);have s:∀n m,h.blks.length<=n->h.toks.length<=m->zD n m c=true:=λn m C B=>yk C B _ (by simp [e]);apply R.r;refine ln λq=>?_;replace q:=yh q;apply R.r;refine xe (λ(i:Int×Int)=>zo 5 3 (zo 11 38 [(1,.any),(3,.any),(9,.int .i64 i.1),(10,.int .i64 i.2)])) (λi=>h.ext [.cells [.int .u64 a.time,.int .u8 a.dot.actor.rep,.int .u32 a.dot.actor.inc,.int .u64 a.dot.seq,.str a.text]] []) b (λ_=>by simp only [zo,wg,uf,ug];try rfl) (wk.le LEL.o) ?_;intro J i I b l;apply R.r;refine ze gg b (λw b=>?_) (λw b=>?_)
 ·apply R.r;refine zc rfl (s_convert rfl ty3 ty159 gg rfl) ss (R.r ?_);refine zc rfl (s_convert rfl ty159 ty3 gg rfl) ss (R.r ?_);refine zX (by kernel_rfl) (R.r ?_);refine zd b (λG t b=>dix t (R.r ?_));refine zd b (λD u b=>wq rfl rfl (scC rfl) (f _ _ _ _ _ u) ss (R.r ?_));refine ze gg b (λA b=>?_) (λA b=>?_)
  ·apply R.r;cases b;exact ⟨((IntKind.wrap .i64 ((IntKind.wrap .i64 ((Int.fdiv (IntKind.wrap .u64 ((IntKind.wrap .i64 (i.1+i.2)))) (2 ^ (min (1:Int).toNat (IntKind.bits .u64))))))+(1:Int))),i.2),l,wk.le LEL.o⟩
  ·apply R.r;cases b;exact ⟨(i.1,(IntKind.wrap .i64 ((Int.fdiv (IntKind.wrap .u64 ((IntKind.wrap .i64 (i.1+i.2)))) (2 ^ (min (1:Int).toNat (IntKind.bits .u64))))))),l,wk.le LEL.o⟩
 ·apply R.r;cases b;replace b:=l;apply R.r;refine zX (by kernel_rfl) (R.r ?_);refine yf b (λz b=>dgix z (R.r ?_));refine ya b (λF y b=>xi rfl rfl scC (λE=>f _ _ _ _ _ (y E)) ss (R.r ?_));cases b;exact fz rfl rfl
theorem ok142 {a0:GF} {a:GF}  (b:yQ a0 a=some res):Sp 142 [.agg [.int .u64 a0.time,.int .u8 a0.dot.actor.rep,.int .u32 a0.dot.actor.inc,.int .u64 a0.dot.seq,.str a0.text],.agg [.int .u64 a.time,.int .u8 a.dot.actor.rep,.int .u32 a.dot.actor.inc,.int .u64 a.dot.seq,.str a.text]] h (yL (.int .i64 res) h):=by
 unfold yQ at b;refine zb Tryz.func142 rfl (by kernel_rfl) (yK 14 rfl) (R.r ?_);refine zd b (λd c b=>cp (ok139 c) (R.r ?_));cases b;exact fz rfl rfl
def ins143TryzRen:Go.Shelf.Ren :=
  { f:=λx=>match x with
      | 22=>143
      | 29=>168
      | 30=>169
      | n=>n
    t:=λx=>match x with
      | 0=>0
      | 3=>3
      | 4=>4
      | 9=>73
      | 24=>53
      | n=>n
    g:=λn=>n }
theorem ins143TryzLays:InsLays Tryz.prog ins143TryzRen 53 5 where
  mixed:=by kernel_rfl
  f22:=⟨Tryz.f143.name,Tryz.f143.targs,Tryz.func143.trans (by kernel_rfl),by kernel_rfl⟩
  f29:=λargs w=>run_callFunc_extern Tryz.func168 (by kernel_rfl) (by kernel_rfl) (by kernel_rfl) (e:=Extern.SlicesOverlaps.overlaps #[53,53] #[4]) (by kernel_rfl) args w
  t0:=Tryz.underlying0
  a0:=Tryz.isAgg0
  z0:=Tryz.sizeOf0
  v0:=Tryz.zeroValue0
  t3:=Tryz.underlying3
  a3:=Tryz.isAgg3
  z3:=Tryz.sizeOf3
  v3:=Tryz.zeroValue3
  t4:=Tryz.underlying4
  a4:=Tryz.isAgg4
  z4:=Tryz.sizeOf4
  v4:=Tryz.zeroValue4
  t24:=Tryz.underlying53
  a24:=Tryz.isAgg53
  z24:=Tryz.sizeOf53
  v24:=Tryz.zeroValue53
  t23:=Tryz.underlying53
  a23:=Tryz.isAgg53
  z23:=Tryz.sizeOf53
  v23:=Tryz.zeroValue53
  i9:=⟨_,_,rfl,rfl,rfl,rfl,by decide⟩
  k0:=by decide
theorem okR116 {x:(List GF)} {A:(GF->Option Bool)} {t:FuncId} {g k:List AV} {res:(List GF)} (H:h.blks.length=bl) (K:h.toks.length=tl) (p:∀u v (L:List Blk) (M:List Nat),A u=some v->Sp t (g++[.agg [.int .u64 u.time,.int .u8 u.dot.actor.rep,.int .u32 u.dot.actor.inc,.int .u64 u.dot.seq,.str u.text]]++k) (h.ext L M) (yL (.bool v) (h.ext L M))) (c:∀n m,h.blks.length<=n->h.toks.length<=m->zD n m g=true) (b:∀n m,h.blks.length<=n->h.toks.length<=m->zD n m k=true) (e:xD x A=some res):Sp 116 [.rsl bl tl 5 x.length,.fn (.func t) g k] (h.ext [.row tl 5 (x.map GF.row)] [x.length]) (TurnK h bl tl 5 res.length (res.map GF.row)):=by
 unfold xD at e;subst H K;refine zC Tryz.func116 rfl (by kernel_rfl) (yK 42 rfl) (R.r ?_);refine zd e (λU J e=>cp (row_read (B1:=[]) (T1:=[]) (okR148 (by simp [AH.ext]) (by simp [AH.ext]) (λu v L M T=>by rw [wO];exact p u v _ _ T) (λn m N I=>c n m (by simp [AH.ext] at N;omega) (by simp [AH.ext] at I;omega)) (λn m N I=>b n m (by simp [AH.ext] at N;omega) (by simp [AH.ext] at I;omega)) J) rfl rfl) (R.r ?_));refine ze gg e (λO e=>?_) (λO e=>?_)
 ·apply R.r;cases e;refine fr rfl (fin_turn0 (row:=GF.row) ?_);exact ⟨rfl,_,rfl⟩
 ·apply R.r;refine xe (λ(f:Int×Int×(List GF))=>zo 2 3 (zo 7 35 [(5,.int .i64 f.1),(6,.int .i64 f.2.1)])) (λf=>h.ext [yA h 0 5 (f.2.2.map GF.row)] [x.length]) e (λ_=>by simp only [zo,wg,uf,ug];try rfl) (wk.le LEL.o) ?_;intro W f V e B;refine yf e (λl e=>R.r ?_);refine ln λP=>R.r ?_;refine ze gg e (λE e=>?_) (λE e=>?_)
  ·apply R.r;refine zd e (λa w e=>zc rfl (yG rfl el53 gg gg (xn w l)) ss ?_);refine zc rfl (vh (off:=0) (i:=0) (q:=h.toks.length+0) (z:=f.2.1.toNat) (row:=GF.row) (λ_=>rfl) rfl ty73.choose_spec.1 (by decide) gg rfl l (wz w).2.2 (yO (cs':=[.int .u64 a.time,.int .u8 a.dot.actor.rep,.int .u32 a.dot.actor.inc,.int .u64 a.dot.seq,.str a.text]) ty73.choose_spec.2 rfl rfl) (za rfl)) ss (R.r ?_);refine zd e (λQ D e=>yg rfl (scC rfl) (p _ _ _ _ D) ss (R.r ?_));refine ze gg e (λF e=>?_) (λF e=>?_)
   ·apply R.r;refine zd e (λS y e=>zc rfl (yG rfl el53 gg gg (xn y l)) ss ?_);refine zc rfl (vM (off:=0) (i:=0) (q:=h.toks.length+0) (z:=f.1.toNat) (row:=GF.row) (y':=a) (us:=[.int .u64 a.time,.int .u8 a.dot.actor.rep,.int .u32 a.dot.actor.inc,.int .u64 a.dot.seq,.str a.text]) (B':=[yA h 0 5 ((f.2.2.set f.1.toNat a).map GF.row),.cells [.int .u64 a.time,.int .u8 a.dot.actor.rep,.int .u32 a.dot.actor.inc,.int .u64 a.dot.seq,.str a.text]]) (λ_=>rfl) rfl ty73.choose_spec.1 gg gg (za rfl) rfl rfl rfl rfl l (wz y).2.2 (by decide) rfl rfl) rfl (R.r ?_);cases e;exact ⟨((IntKind.wrap .i64 (f.1+(1:Int))),(IntKind.wrap .i64 (f.2.1+(1:Int))),(f.2.2.set f.1.toNat a)),B,wk.trans (wk.le LEL.o) (yz (by simp [zD,AV.low,c,b]) rfl rfl (by simp [Blk.low,zD,AV.low,c,b]))⟩
   ·apply R.r;cases e;exact ⟨(f.1,(IntKind.wrap .i64 (f.2.1+(1:Int))),f.2.2),B,wk.trans (wk.le LEL.o) (yz (by simp [zD,AV.low,c,b]) rfl rfl (by simp [Blk.low,zD,AV.low,c,b]))⟩
  ·apply R.r;cases e;replace e:=B;apply R.r;refine yf e (λs e=>xE rfl (e_sufR rfl el53 gg gg s) ss ?_);refine xE rfl (e_clrR (i:=0) (q:=h.toks.length+0) (L:=f.2.2) (row:=GF.row) (d:=(GF.mk (0:Int) (GE.mk (GJ.mk (0:Int) (0:Int)) (0:Int)) ([]:zu))) (B':=[yA h 0 5 ((f.2.2.take f.1.toNat++List.replicate (x.length - f.1.toNat) (GF.mk (0:Int) (GE.mk (GJ.mk (0:Int) (0:Int)) (0:Int)) ([]:zu))).map GF.row)]) (λ_=>rfl) rfl rfl rfl rfl el53 ze73 rfl gg rfl l (rP.2 s.2) rfl) rfl (R.r ?_);refine zd e (λC G e=>xE rfl (e_cutR (i:=0) (j:=0) (L:=(f.2.2.take f.1.toNat++List.replicate (x.length - f.1.toNat) (GF.mk (0:Int) (GE.mk (GJ.mk (0:Int) (0:Int)) (0:Int)) ([]:zu)))) (row:=GF.row) (B':=[.dead,yA h 1 5 (C.map GF.row)]) (T':=[x.length+1,C.length]) rfl el53 gg gg rfl (clr_len l (rP.2 s.2)) G rfl rfl rfl rfl) ss (R.r ?_));cases e;refine fr rfl (wF ?_);exact ⟨rfl,_,rfl⟩
theorem ok117 {a:GF} {f:GH} {e:Nat} {res:Bool} (c:h.blk e=some (.cells (GH.row f))) (b:wl a f=some res):Sp 117 [.agg [.int .u64 a.time,.int .u8 a.dot.actor.rep,.int .u32 a.dot.actor.inc,.int .u64 a.dot.seq,.str a.text],.ptr e 0] h (yL (.bool res) h):=by
 unfold wl at b;refine zb Tryz.func117 rfl (by kernel_rfl) (yK 10 rfl) (R.r ?_);refine zc rfl (b_load rfl ty38 gg c (yq rfl) (za rfl)) ss (R.r ?_);refine zd b (λg d b=>cp (ok111 d) (R.r ?_));cases b;exact fz rfl rfl
end Go.Vv
