/- Each function that the law reaches computes what its reading says; printed by a program. -/
import Derived.Test.YtcociipjgndnaaaGreatW5
set_option linter.all false
namespace Go.Vv
open Go Go.Proofs
set_option maxRecDepth 100000
set_option synthInstance.maxSize 100000
set_option synthInstance.maxHeartbeats 1000000
set_option maxHeartbeats 1000000
variable {s0 t0:(List GA)} {res kind0:Int} {h:AH} {fcmp2 ff1:FuncId} {acmp2 kcmp2 af1 kf1:List AV} {n0:GA} {l0:GC}
theorem okR101 {res:(List GA)}  (a:xi s0=some res):Sp 101 [.sl 3 (s0.map GA.row)] h (NewK h 3 res.length (res.map GA.row)):=by
 unfold xi at a;refine zb Tryz.func101 rfl (by kernel_rfl) (yI 8 rfl) (R.r ?_);refine ops_nilqE rfl rfl el24 gg isl rfl (λ_=>ss) a (λe d a=>R.r ?_);refine ze gg a (λb a=>?_) (λb a=>?_)
 ·apply R.r;cases a;refine fr rfl (fin_row0 ?_);exact ⟨rfl,rfl⟩
 ·apply R.r;refine zc rfl (zr (es:=([]:List GA).map GA.row) rfl el24 ze66 rfl rfl zj .nil rfl rfl (by simp only [ux,tB,GA.row_eq];rfl)) ss (R.r ?_);refine qu (swk_thaw gt5 rfl rfl st5 rfl rfl) ?_;refine zW a (λc a=>zc rfl (e_appR (i:=0) (j:=0) (B':=[y4 h 0 3 ((([]:List GA)++s0).map GA.row)]) (T':=[((([]:List GA)++s0)).length]) rfl rfl rfl rfl el24 el24 gg gg rfl (za rfl) xS c rfl rfl rfl rfl rfl) ss (R.r ?_));cases a;refine fr rfl (xq ?_);exact ⟨rfl,rfl⟩
theorem ok149 {g:(List GA)} {c:zx} {f:(GA->zx->Option Int)} {res:(Int×Bool)} (e:∀g A v (L:List Blk) (M:List Nat),f g A=some v->Sp fcmp2 (acmp2++[.agg [.str g.name,.sl 9 (g.leaves.map GC.row),.sl 3 (g.subs.map GA.row)],.str A]++kcmp2) (h.ext L M) (yo (.int .i64 v) (h.ext L M))) (a:zp g c f=some res):Sp 149 [.sl 3 (g.map GA.row),.str c,.fn (.func fcmp2) acmp2 kcmp2] h (yo (.tup [.int .i64 res.1,.bool res.2]) h):=by
 unfold zp at a;refine zH Tryz.func149 rfl (by kernel_rfl) (yI 49 rfl) (λd D=>?_);simp only [zA,AV.low,ud,uS,tK] at d;have t:∀n m,h.blks.length<=n->h.toks.length<=m->zA n m acmp2=true:=λn m x w=>yb x w _ (by simp [d]);have p:∀n m,h.blks.length<=n->h.toks.length<=m->zA n m kcmp2=true:=λn m x w=>yb x w _ (by simp [d]);apply R.r;refine ln λk=>?_;replace k:=zX k;apply R.r;refine yF (λ(b:Int×Int)=>zn 3 5 (zn 11 38 [(9,.int .i64 b.1),(10,.int .i64 b.2)])) (λb=>h.ext [] []) a (λ_=>by simp only [zn,xU,ue,uf];try rfl) (wk.le LEL.o) ?_;intro G b E a i;apply R.r;refine ze gg a (λz a=>?_) (λz a=>?_)
 ·apply R.r;refine zc rfl (zM rfl ty3 ty166 gg rfl) ss (R.r ?_);refine zc rfl (zM rfl ty166 ty3 gg rfl) ss (R.r ?_);refine zd a (λF y a=>zc rfl (yh rfl el24 gg gg isl y (GA.row_eq _)) ss (R.r ?_));refine zd a (λB s a=>x7 rfl (scC rfl) (e _ _ _ _ _ s) ss (R.r ?_));refine ze gg a (λu a=>?_) (λu a=>?_)
  ·apply R.r;cases a;exact ⟨((IntKind.wrap .i64 ((IntKind.wrap .i64 ((Int.fdiv (IntKind.wrap .u64 ((IntKind.wrap .i64 (b.1+b.2)))) (2 ^ (min (1:Int).toNat (IntKind.bits .u64))))))+(1:Int))),b.2),i,wk.le LEL.o⟩
  ·apply R.r;cases a;exact ⟨(b.1,(IntKind.wrap .i64 ((Int.fdiv (IntKind.wrap .u64 ((IntKind.wrap .i64 (b.1+b.2)))) (2 ^ (min (1:Int).toNat (IntKind.bits .u64))))))),i,wk.le LEL.o⟩
 ·apply R.r;cases a;replace a:=i;apply R.r;refine zW a (λj a=>qz rfl (λl=>s_gidxRowE default rfl el24 (yf gg l) (yf gg l) isl (j l) (GA.row_eq _)) ss (R.r ?_));refine zY a (λC q a=>zJ rfl scC (λl=>e _ _ _ _ _ (q l)) ss (R.r ?_));cases a;exact fz rfl rfl
def scmpTryzRen:Go.Shelf.Ren :=
  { f:=λx=>match x with
      | 106=>151
      | 213=>175
      | 265=>195
      | n=>n
    t:=λx=>match x with
      | 3=>3
      | 9=>9
      | n=>n
    g:=λn=>n }
theorem scmpTryzLays:Go.Proofs.Lays.n106 Tryz.prog scmpTryzRen where
  mixed:=mixed
  f106:=Tryz.func151.trans (by kernel_rfl)
  f213:=Tryz.func175.trans (by kernel_rfl)
  f265:=Tryz.func195.trans (by kernel_rfl)
  t3:=Tryz.underlying3
  a3:=Tryz.isAgg3
  z3:=Tryz.sizeOf3
  v3:=Tryz.zeroValue3
  t9:=Tryz.underlying9
  a9:=Tryz.isAgg9
  z9:=Tryz.sizeOf9
  v9:=Tryz.zeroValue9
theorem ok151 {b:zx} {a:zx} (c:stringsCompare b a=some res):Sp 151 [.str b,.str a] h (yo (.int .i64 res) h):=by
 cases c;exact spec_scompare scmpTryzLays
theorem ok150 {s1:zx}  (a:treeXfindC1 n0 s1=some res):Sp 150 [.agg [.str n0.name,.sl 9 (n0.leaves.map GC.row),.sl 3 (n0.subs.map GA.row)],.str s1] h (yo (.int .i64 res) h):=by
 unfold treeXfindC1 at a;refine zb Tryz.func150 rfl (by kernel_rfl) (yI 9 rfl) (R.r ?_);refine zd a (λc b a=>cp (ok151 b) (R.r ?_));cases a;exact fz rfl rfl
theorem ok102 {a:zx} {res:(Int×Bool)}  (b:treeXfind t0 a=some res):Sp 102 [.sl 3 (t0.map GA.row),.str a] h (yo (.tup [.int .i64 res.1,.bool res.2]) h):=by
 unfold treeXfind at b;refine zb Tryz.func102 rfl (by kernel_rfl) (yI 11 rfl) (R.r ?_);refine zd b (λe c b=>cp (ok149 (λ_ _ v L M d=>ok150  d) c) (R.r ?_));cases b;exact fz rfl rfl
def ins103TryzRen:Go.Shelf.Ren :=
  { f:=λx=>match x with
      | 22=>103
      | 29=>152
      | 30=>153
      | n=>n
    t:=λx=>match x with
      | 0=>0
      | 3=>3
      | 4=>4
      | 9=>66
      | 24=>24
      | n=>n
    g:=λn=>n }
theorem ins103TryzLays:InsLays Tryz.prog ins103TryzRen 23 3 where
  mixed:=by kernel_rfl
  f22:=⟨Tryz.f103.name,Tryz.f103.targs,Tryz.func103.trans (by kernel_rfl),by kernel_rfl⟩
  f29:=λargs w=>run_callFunc_extern Tryz.func152 (by kernel_rfl) (by kernel_rfl) (by kernel_rfl) (e:=Extern.SlicesOverlaps.overlaps #[23,23] #[4]) (by kernel_rfl) args w
  t0:=Tryz.underlying0
  a0:=Tryz.isAgg0
  z0:=Tryz.sizeOf0
  v0:=Tryz.zeroValue0
  t3:=Tryz.underlying3
  a3:=Tryz.isAgg3
  z3:=Tryz.sizeOf3
  v3:=Tryz.zeroValue3
  t4:=Tryz.underlying4
  a4:=Tryz.isAgg4
  z4:=Tryz.sizeOf4
  v4:=Tryz.zeroValue4
  t24:=Tryz.underlying24
  a24:=Tryz.isAgg24
  z24:=Tryz.sizeOf24
  v24:=Tryz.zeroValue24
  t23:=Tryz.underlying23
  a23:=Tryz.isAgg23
  z23:=Tryz.sizeOf23
  v23:=Tryz.zeroValue23
  i9:=⟨_,_,rfl,rfl,rfl,rfl,by decide⟩
  k0:=by decide
theorem okR104 {s0:(List GC)} {res:(List GC)}  (a:xJ s0=some res):Sp 104 [.sl 9 (s0.map GC.row)] h (NewK h 9 res.length (res.map GC.row)):=by
 unfold xJ at a;refine zb Tryz.func104 rfl (by kernel_rfl) (yI 8 rfl) (R.r ?_);refine ops_nilqE rfl rfl el64 gg isl rfl (λ_=>ss) a (λe d a=>R.r ?_);refine ze gg a (λb a=>?_) (λb a=>?_)
 ·apply R.r;cases a;refine fr rfl (fin_row0 ?_);exact ⟨rfl,rfl⟩
 ·apply R.r;refine zc rfl (zr (es:=([]:List GC).map GC.row) rfl el64 ze63 rfl rfl zj .nil rfl rfl rfl) ss (R.r ?_);refine qu (swk_thaw gt5 rfl rfl st5 rfl rfl) ?_;refine zW a (λc a=>zc rfl (e_appR (i:=0) (j:=0) (B':=[y4 h 0 9 ((([]:List GC)++s0).map GC.row)]) (T':=[((([]:List GC)++s0)).length]) rfl rfl rfl rfl el64 el64 gg gg rfl (za rfl) xS c rfl rfl rfl rfl rfl) ss (R.r ?_));cases a;refine fr rfl (xq ?_);exact ⟨rfl,rfl⟩
theorem ok105 {g:(List GC)} {b:Int} {e:(GC->Int->Option Int)} {res:(Int×Bool)} (d:∀g y v (L:List Blk) (M:List Nat),e g y=some v->Sp fcmp2 (acmp2++[.agg (GC.row g),.int .u8 y]++kcmp2) (h.ext L M) (yo (.int .i64 v) (h.ext L M))) (a:zK g b e=some res):Sp 105 [.sl 9 (g.map GC.row),.int .u8 b,.fn (.func fcmp2) acmp2 kcmp2] h (yo (.tup [.int .i64 res.1,.bool res.2]) h):=by
 unfold zK at a;refine zH Tryz.func105 rfl (by kernel_rfl) (yI 49 rfl) (λc C=>?_);simp only [zA,AV.low,ud,uS,tK] at c;have q:∀n m,h.blks.length<=n->h.toks.length<=m->zA n m acmp2=true:=λn m u t=>yb u t _ (by simp [c]);have k:∀n m,h.blks.length<=n->h.toks.length<=m->zA n m kcmp2=true:=λn m u t=>yb u t _ (by simp [c]);apply R.r;refine ln λj=>?_;replace j:=zX j;apply R.r;refine yF (λ(s1:Int×Int)=>zn 3 5 (zn 11 38 [(9,.int .i64 s1.1),(10,.int .i64 s1.2)])) (λs1=>h.ext [] []) a (λ_=>by simp only [zn,xU,ue,uf];try rfl) (wk.le LEL.o) ?_;intro F s1 D a f;apply R.r;refine ze gg a (λx a=>?_) (λx a=>?_)
 ·apply R.r;refine zc rfl (zM rfl ty3 ty166 gg rfl) ss (R.r ?_);refine zc rfl (zM rfl ty166 ty3 gg rfl) ss (R.r ?_);refine zd a (λE w a=>ix w (R.r ?_));refine zd a (λz p a=>x7 rfl (scC rfl) (d _ _ _ _ _ p) ss (R.r ?_));refine ze gg a (λs a=>?_) (λs a=>?_)
  ·apply R.r;cases a;exact ⟨((IntKind.wrap .i64 ((IntKind.wrap .i64 ((Int.fdiv (IntKind.wrap .u64 ((IntKind.wrap .i64 (s1.1+s1.2)))) (2 ^ (min (1:Int).toNat (IntKind.bits .u64))))))+(1:Int))),s1.2),f,wk.le LEL.o⟩
  ·apply R.r;cases a;exact ⟨(s1.1,(IntKind.wrap .i64 ((Int.fdiv (IntKind.wrap .u64 ((IntKind.wrap .i64 (s1.1+s1.2)))) (2 ^ (min (1:Int).toNat (IntKind.bits .u64))))))),f,wk.le LEL.o⟩
 ·apply R.r;cases a;replace a:=f;apply R.r;refine zW a (λi a=>gix i (R.r ?_));refine zY a (λA l a=>zJ rfl scC (λB=>d _ _ _ _ _ (l B)) ss (R.r ?_));cases a;exact fz rfl rfl
theorem ok106 {d:GC} {a:Int}  (b:vf d a=some res):Sp 106 [.agg (GC.row d),.int .u8 a] h (yo (.int .i64 res) h):=by
 unfold vf at b;refine zb Tryz.func106 rfl (by kernel_rfl) (yI 9 rfl) (R.r ?_);refine zd b (λe c b=>cp (ok107 c) (R.r ?_));cases b;exact fz rfl rfl
def ins108TryzRen:Go.Shelf.Ren :=
  { f:=λx=>match x with
      | 22=>108
      | 29=>155
      | 30=>156
      | n=>n
    t:=λx=>match x with
      | 0=>0
      | 3=>3
      | 4=>4
      | 9=>63
      | 24=>64
      | n=>n
    g:=λn=>n }
theorem ins108TryzLays:InsLays Tryz.prog ins108TryzRen 64 9 where
  mixed:=by kernel_rfl
  f22:=⟨Tryz.f108.name,Tryz.f108.targs,Tryz.func108.trans (by kernel_rfl),by kernel_rfl⟩
  f29:=λargs w=>run_callFunc_extern Tryz.func155 (by kernel_rfl) (by kernel_rfl) (by kernel_rfl) (e:=Extern.SlicesOverlaps.overlaps #[64,64] #[4]) (by kernel_rfl) args w
  t0:=Tryz.underlying0
  a0:=Tryz.isAgg0
  z0:=Tryz.sizeOf0
  v0:=Tryz.zeroValue0
  t3:=Tryz.underlying3
  a3:=Tryz.isAgg3
  z3:=Tryz.sizeOf3
  v3:=Tryz.zeroValue3
  t4:=Tryz.underlying4
  a4:=Tryz.isAgg4
  z4:=Tryz.sizeOf4
  v4:=Tryz.zeroValue4
  t24:=Tryz.underlying64
  a24:=Tryz.isAgg64
  z24:=Tryz.sizeOf64
  v24:=Tryz.zeroValue64
  t23:=Tryz.underlying64
  a23:=Tryz.isAgg64
  z23:=Tryz.sizeOf64
  v23:=Tryz.zeroValue64
  i9:=⟨_,_,rfl,rfl,rfl,rfl,by decide⟩
  k0:=by decide
theorem ok67N (n:Nat):∀{t0:(List GA)} {t:(List zx)} {b:GC} {res:(List GA)} {h:AH} , wo n t0 t b=some res->Sp 67 [.sl 3 (t0.map GA.row),.sl 1 (t.map yz),.agg (GC.row b)] h (yo (.sl 3 (res.map GA.row)) h):=by
 induction n with
 | zero=>intro t0 t b res h  c;simp [wo] at c
 | succ n ih =>
  intro t0 t b res h  c;unfold wo at c;refine zb Tryz.func67 rfl (by kernel_rfl) (yI 77 rfl) (R.r ?_);refine zd c (λp hv1 c=>zP rfl (sc rfl) (row_new (B':=[.cells (GC.row b),y4 h 0 3 (p.map GA.row)]) (T':=[p.length]) (okR101 hv1) rfl rfl rfl rfl) ss (R.r ?_));refine zd c (λy2 hy2 c=>ix hy2 (R.r ?_));refine zd c (λv3 hv3 c=>cp (qH (by exact (.cons (.row _ _ _ _ _ (by rw [yC];rfl) (by simp)) (.cons (.low _ rfl) .nil))) rfl (ok102 hv3) (λ_ _ h=>h.1)) (R.r ?_));refine ze gg c (λhc4 c=>?_) (λhc4 c=>?_)
  ·apply R.r;refine zd c (λy5 hy5 c=>ix hy5 (R.r ?_));refine zc rfl (ya (cs':=[.str y5,.osl none 9 (([]:List GC).map GC.row),.osl none 3 (([]:List GA).map GA.row)]) rfl su66 ze66 pl66 (zg gg zj) (.cons (za rfl) .nil) rfl rfl) ss ?_;refine zc rfl (zr (es:=([(GA.mk y5 ([]:List GC) ([]:List GA))]:List GA).map GA.row) rfl el23 ze66 rfl rfl (zg gg zj) (.cons (za rfl) .nil) rfl rfl (by simp only [ux,tB,GA.row_eq];rfl)) ss ?_;refine zd c (λu hv6 c=>zP rfl (sc rfl) (spec_insO ins103TryzLays (row:=GA.row) (λ_=>by rw [GA.row_eq];rfl) hv6 (.inr rfl) (i:=1) (q:=0) (B':=[.cells (GC.row b),.dead,y4 h 1 3 (u.map GA.row)]) (T':=[p.length+1,u.length]) rfl rfl rfl rfl rfl) ss (R.r ?_));refine zd c (λd K c=>zc rfl (yG rfl el24 gg gg (xk K rfl)) ss ?_);refine zc rfl (w8 (off:=0) (i:=2) (q:=h.toks.length+1) (z:=v3.1.toNat) (row:=GA.row) (λ_=>by rw [GA.row_eq];rfl) rfl ty66.choose_spec.1 (by decide) gg rfl rfl (wA K).2.2 (by rw [GA.row_eq _];exact (yq (cs':=[.str d.name,.sl 9 (d.leaves.map GC.row),.sl 3 (d.subs.map GA.row)]) ty66.choose_spec.2 rfl rfl)) (za rfl)) ss (R.r ?_);refine ln λP=>?_;replace P:=zX P;apply R.r;refine ze gg c (λhc9 c=>?_) (λhc9 c=>?_)
   ·refine zL (by kernel_rfl) (R.r ?_);refine zd c (λm10 X c=>zt rfl rfl (wy rfl el31 gg (.inl rfl) (.some rfl) .none X) ss (R.r ?_));refine zd c (λw Z c=>xH rfl rfl (sc rfl) (ih Z) ss (R.r ?_));refine zF rfl FOk.nil (by kernel_rfl) rfl (yd (cs':=[.str d.name,.sl 9 (d.leaves.map GC.row),.sl 3 (w.map GA.row)]) rfl ty24 gg gg (za rfl) rfl rfl rfl rfl rfl) rfl (R.r ?_);refine zd c (λy12 E c=>zc rfl (yG rfl el24 gg gg (xk E rfl)) ss ?_);refine zc rfl (qT (off:=0) (i:=2) (q:=h.toks.length+1) (z:=v3.1.toNat) (row:=GA.row) (y':=(GA.mk d.name d.leaves w)) (us:=[.str d.name,.sl 9 (d.leaves.map GC.row),.sl 3 (w.map GA.row)]) (B':=[.cells (GC.row b),.dead,y4 h 1 3 ((u.set v3.1.toNat (GA.mk d.name d.leaves w)).map GA.row),.cells [.str d.name,.sl 9 (d.leaves.map GC.row),.sl 3 (w.map GA.row)]]) (λ_=>by rw [GA.row_eq];rfl) rfl ty66.choose_spec.1 gg gg (za rfl) rfl rfl rfl rfl rfl (wA E).2.2 (by decide) (by simp only [GA.row_eq];rfl) rfl) rfl (R.r ?_);cases c;refine fr rfl (wD ((yS (j:=2) (m:=1) (B':=[.cells (GC.row b),.dead,.dead,.cells [.str d.name,.sl 9 (d.leaves.map GC.row),.sl 3 (w.map GA.row)]]) (T':=[p.length+1,((u.set v3.1.toNat (GA.mk d.name d.leaves w)).map GA.row).length+1]) rfl (by exact (.cons (.hit2 _ _ (by rw [uq];exact si ((uD.trans rfl)))) (.refl _))) rfl rfl).wk) ?_);refine wz (leV.refl _) rfl ?_;exact ⟨rfl,rfl⟩
   ·apply R.r;refine zd c (λg hv13 c=>zP rfl (sc rfl) (row_new (B':=[.cells (GC.row b),.dead,y4 h 1 3 (u.map GA.row),.cells [.str d.name,.sl 9 (d.leaves.map GC.row),.sl 3 (d.subs.map GA.row)],y4 h 2 9 (g.map GC.row)]) (T':=[p.length+1,u.length,g.length]) (okR104 hv13) rfl rfl rfl rfl) ss (R.r ?_));refine zd c (λf Q c=>cp (qH (by exact (.cons (.row _ _ _ _ _ (by rw [yC];rfl) (by simp)) (.cons (.low _ rfl) (.cons (.low _ rfl) .nil)))) rfl (ok105 (λ_ _ v L M hv=>ok106  hv) Q) (λ_ _ h=>h.1)) (R.r ?_));refine ze gg c (λS c=>?_) (λS c=>?_)
    ·apply R.r;refine zc rfl (zr (es:=([b]:List GC).map GC.row) rfl el64 ze63 rfl rfl (zg gg zj) (.cons (za rfl) .nil) rfl rfl rfl) ss ?_;refine zd c (λo T c=>zP rfl (sc rfl) (spec_insO ins108TryzLays (row:=GC.row) (λ_=>rfl) T (.inr rfl) (i:=4) (q:=2) (B':=[.cells (GC.row b),.dead,y4 h 1 3 (u.map GA.row),.cells [.str d.name,yl h 4 2 9 (g.length),.sl 3 (d.subs.map GA.row)],.dead,y4 h 3 9 (o.map GC.row)]) (T':=[p.length+1,u.length,g.length+1,o.length]) rfl rfl rfl rfl rfl) ss (R.r ?_));refine zd c (λy17 D c=>zc rfl (yG rfl el64 gg gg (xk D rfl)) ss ?_);refine zc rfl (qT (off:=0) (i:=5) (q:=h.toks.length+3) (z:=f.1.toNat) (row:=GC.row) (y':=b) (us:=(GC.row b)) (B':=[.cells (GC.row b),.dead,y4 h 1 3 (u.map GA.row),.cells [.str d.name,yl h 5 3 9 (o.length),.sl 3 (d.subs.map GA.row)],.dead,y4 h 3 9 ((o.set f.1.toNat b).map GC.row)]) (λ_=>rfl) rfl ty63.choose_spec.1 gg gg (za rfl) rfl rfl rfl rfl rfl (wA D).2.2 (by decide) rfl rfl) rfl ?_;refine ops_nil (q_seq (r_seq (vr ?_)));refine zc rfl (s_move rfl gg (za rfl)) ss ?_;refine zc rfl (s_move rfl gg (za rfl)) ss ?_;refine qu (swk_freezeB (j:=5) (jb:=3) (m:=3) (B':=[.cells (GC.row b),.dead,y4 h 1 3 (u.map GA.row),.cells [.str d.name,.sl 9 ((o.set f.1.toNat b).map GC.row),.sl 3 (d.subs.map GA.row)],.dead,.dead]) (T':=[p.length+1,u.length,g.length+1,((o.set f.1.toNat b).map GC.row).length+1]) rfl (by exact (.s16 (.s16 (.s16 (.s16 (.s (.cons (FzA.hit2 _ _ (by rw [uq];exact si ((uD.trans rfl)))) (.s (.s (.cons (FzA.hit2 _ _ (by rw [uq];exact si ((uD.trans rfl)))) (FzL.refl _))))))))))) rfl (by exact (.s (.cons (FzA.hit2 _ _ (by rw [uq];exact si ((uD.trans rfl)))) (FzL.refl _)))) rfl rfl) (R.r ?_);refine zd c (λy18 J c=>zc rfl (yG rfl el24 gg gg (xk J rfl)) ss ?_);refine zc rfl (qT (off:=0) (i:=2) (q:=h.toks.length+1) (z:=v3.1.toNat) (row:=GA.row) (y':=(GA.mk d.name (o.set f.1.toNat b) d.subs)) (us:=[.str d.name,.sl 9 ((o.set f.1.toNat b).map GC.row),.sl 3 (d.subs.map GA.row)]) (B':=[.cells (GC.row b),.dead,y4 h 1 3 ((u.set v3.1.toNat (GA.mk d.name (o.set f.1.toNat b) d.subs)).map GA.row),.cells [.str d.name,.sl 9 ((o.set f.1.toNat b).map GC.row),.sl 3 (d.subs.map GA.row)],.dead,.dead]) (λ_=>by rw [GA.row_eq];rfl) rfl ty66.choose_spec.1 gg gg (za rfl) rfl rfl rfl rfl rfl (wA J).2.2 (by decide) (by simp only [GA.row_eq];rfl) rfl) rfl (R.r ?_);cases c;refine fr rfl (wD ((yS (j:=2) (m:=1) (B':=[.cells (GC.row b),.dead,.dead,.cells [.str d.name,.sl 9 ((o.set f.1.toNat b).map GC.row),.sl 3 (d.subs.map GA.row)],.dead,.dead]) (T':=[p.length+1,((u.set v3.1.toNat (GA.mk d.name (o.set f.1.toNat b) d.subs)).map GA.row).length+1,g.length+1,((o.set f.1.toNat b).map GC.row).length+1]) rfl (by exact (.cons (.hit2 _ _ (by rw [uq];exact si ((uD.trans rfl)))) (.refl _))) rfl rfl).wk) ?_);refine wz (leV.refl _) rfl ?_;exact ⟨rfl,rfl⟩
    ·apply R.r;refine zd c (λy19 C c=>zc rfl (yG rfl el64 gg gg (xk C rfl)) ss ?_);refine zc rfl (qT (off:=0) (i:=4) (q:=h.toks.length+2) (z:=f.1.toNat) (row:=GC.row) (y':=b) (us:=(GC.row b)) (B':=[.cells (GC.row b),.dead,y4 h 1 3 (u.map GA.row),.cells [.str d.name,yl h 4 2 9 (g.length),.sl 3 (d.subs.map GA.row)],y4 h 2 9 ((g.set f.1.toNat b).map GC.row)]) (λ_=>rfl) rfl ty63.choose_spec.1 gg gg (za rfl) rfl rfl rfl rfl rfl (wA C).2.2 (by decide) rfl rfl) rfl ?_;refine ops_nil (q_seq (r_seq (vr ?_)));refine zc rfl (s_move rfl gg (za rfl)) ss ?_;refine zc rfl (s_move rfl gg (za rfl)) ss ?_;refine qu (swk_freezeB (j:=4) (jb:=3) (m:=2) (B':=[.cells (GC.row b),.dead,y4 h 1 3 (u.map GA.row),.cells [.str d.name,.sl 9 ((g.set f.1.toNat b).map GC.row),.sl 3 (d.subs.map GA.row)],.dead]) (T':=[p.length+1,u.length,((g.set f.1.toNat b).map GC.row).length+1]) rfl (by exact (.s16 (.s16 (.s16 (.cons (FzA.hit2 _ _ (by rw [uq];exact si ((uD.trans rfl)))) (.s (.s (.s (.cons (FzA.hit2 _ _ (by rw [uq];exact si ((uD.trans rfl)))) (.s4 (.s4 (.s4 (.s (.s (.s (.cons (FzA.hit2 _ _ (by rw [uq];exact si ((uD.trans rfl)))) (FzL.refl _))))))))))))))))) rfl (by exact (.s (.cons (FzA.hit2 _ _ (by rw [uq];exact si ((uD.trans rfl)))) (FzL.refl _)))) rfl rfl) (R.r ?_);refine zd c (λy20 G c=>zc rfl (yG rfl el24 gg gg (xk G rfl)) ss ?_);refine zc rfl (qT (off:=0) (i:=2) (q:=h.toks.length+1) (z:=v3.1.toNat) (row:=GA.row) (y':=(GA.mk d.name (g.set f.1.toNat b) d.subs)) (us:=[.str d.name,.sl 9 ((g.set f.1.toNat b).map GC.row),.sl 3 (d.subs.map GA.row)]) (B':=[.cells (GC.row b),.dead,y4 h 1 3 ((u.set v3.1.toNat (GA.mk d.name (g.set f.1.toNat b) d.subs)).map GA.row),.cells [.str d.name,.sl 9 ((g.set f.1.toNat b).map GC.row),.sl 3 (d.subs.map GA.row)],.dead]) (λ_=>by rw [GA.row_eq];rfl) rfl ty66.choose_spec.1 gg gg (za rfl) rfl rfl rfl rfl rfl (wA G).2.2 (by decide) (by simp only [GA.row_eq];rfl) rfl) rfl (R.r ?_);cases c;refine fr rfl (wD ((yS (j:=2) (m:=1) (B':=[.cells (GC.row b),.dead,.dead,.cells [.str d.name,.sl 9 ((g.set f.1.toNat b).map GC.row),.sl 3 (d.subs.map GA.row)],.dead]) (T':=[p.length+1,((u.set v3.1.toNat (GA.mk d.name (g.set f.1.toNat b) d.subs)).map GA.row).length+1,((g.set f.1.toNat b).map GC.row).length+1]) rfl (by exact (.cons (.hit2 _ _ (by rw [uq];exact si ((uD.trans rfl)))) (.refl _))) rfl rfl).wk) ?_);refine wz (leV.refl _) rfl ?_;exact ⟨rfl,rfl⟩
  ·apply R.r;refine zd c (λa B c=>zc rfl (yG rfl el24 gg gg (xk B rfl)) ss ?_);refine zc rfl (w8 (off:=0) (i:=1) (q:=h.toks.length+0) (z:=v3.1.toNat) (row:=GA.row) (λ_=>by rw [GA.row_eq];rfl) rfl ty66.choose_spec.1 (by decide) gg rfl rfl (wA B).2.2 (by rw [GA.row_eq _];exact (yq (cs':=[.str a.name,.sl 9 (a.leaves.map GC.row),.sl 3 (a.subs.map GA.row)]) ty66.choose_spec.2 rfl rfl)) (za rfl)) ss (R.r ?_);refine ln λy=>?_;replace y:=zX y;apply R.r;refine ze gg c (λU c=>?_) (λU c=>?_)
   ·refine zL (by kernel_rfl) (R.r ?_);refine zd c (λm24 O c=>zt rfl rfl (wy rfl el31 gg (.inl rfl) (.some rfl) .none O) ss (R.r ?_));refine zd c (λv25 V c=>xH rfl rfl (sc rfl) (ih V) ss (R.r ?_));refine zF rfl FOk.nil (by kernel_rfl) rfl (yd (cs':=[.str a.name,.sl 9 (a.leaves.map GC.row),.sl 3 (v25.map GA.row)]) rfl ty24 gg gg (za rfl) rfl rfl rfl rfl rfl) rfl (R.r ?_);refine zd c (λy26 H c=>zc rfl (yG rfl el24 gg gg (xk H rfl)) ss ?_);refine zc rfl (qT (off:=0) (i:=1) (q:=h.toks.length+0) (z:=v3.1.toNat) (row:=GA.row) (y':=(GA.mk a.name a.leaves v25)) (us:=[.str a.name,.sl 9 (a.leaves.map GC.row),.sl 3 (v25.map GA.row)]) (B':=[.cells (GC.row b),y4 h 0 3 ((p.set v3.1.toNat (GA.mk a.name a.leaves v25)).map GA.row),.cells [.str a.name,.sl 9 (a.leaves.map GC.row),.sl 3 (v25.map GA.row)]]) (λ_=>by rw [GA.row_eq];rfl) rfl ty66.choose_spec.1 gg gg (za rfl) rfl rfl rfl rfl rfl (wA H).2.2 (by decide) (by simp only [GA.row_eq];rfl) rfl) rfl (R.r ?_);cases c;refine fr rfl (wD ((yS (j:=1) (m:=0) (B':=[.cells (GC.row b),.dead,.cells [.str a.name,.sl 9 (a.leaves.map GC.row),.sl 3 (v25.map GA.row)]]) (T':=[((p.set v3.1.toNat (GA.mk a.name a.leaves v25)).map GA.row).length+1]) rfl (by exact (.cons (.hit2 _ _ (by rw [uq];exact si ((uD.trans rfl)))) (.refl _))) rfl rfl).wk) ?_);refine wz (leV.refl _) rfl ?_;exact ⟨rfl,rfl⟩
   ·apply R.r;refine zd c (λk Y c=>zP rfl (sc rfl) (row_new (B':=[.cells (GC.row b),y4 h 0 3 (p.map GA.row),.cells [.str a.name,.sl 9 (a.leaves.map GC.row),.sl 3 (a.subs.map GA.row)],y4 h 1 9 (k.map GC.row)]) (T':=[p.length,k.length]) (okR104 Y) rfl rfl rfl rfl) ss (R.r ?_));refine zd c (λe hv28 c=>cp (qH (by exact (.cons (.row _ _ _ _ _ (by rw [yC];rfl) (by simp)) (.cons (.low _ rfl) (.cons (.low _ rfl) .nil)))) rfl (ok105 (λ_ _ v L M hv=>ok106  hv) hv28) (λ_ _ h=>h.1)) (R.r ?_));refine ze gg c (λN c=>?_) (λN c=>?_)
    ·apply R.r;refine zc rfl (zr (es:=([b]:List GC).map GC.row) rfl el64 ze63 rfl rfl (zg gg zj) (.cons (za rfl) .nil) rfl rfl rfl) ss ?_;refine zd c (λl W c=>zP rfl (sc rfl) (spec_insO ins108TryzLays (row:=GC.row) (λ_=>rfl) W (.inr rfl) (i:=3) (q:=1) (B':=[.cells (GC.row b),y4 h 0 3 (p.map GA.row),.cells [.str a.name,yl h 3 1 9 (k.length),.sl 3 (a.subs.map GA.row)],.dead,y4 h 2 9 (l.map GC.row)]) (T':=[p.length,k.length+1,l.length]) rfl rfl rfl rfl rfl) ss (R.r ?_));refine zd c (λy31 I c=>zc rfl (yG rfl el64 gg gg (xk I rfl)) ss ?_);refine zc rfl (qT (off:=0) (i:=4) (q:=h.toks.length+2) (z:=e.1.toNat) (row:=GC.row) (y':=b) (us:=(GC.row b)) (B':=[.cells (GC.row b),y4 h 0 3 (p.map GA.row),.cells [.str a.name,yl h 4 2 9 (l.length),.sl 3 (a.subs.map GA.row)],.dead,y4 h 2 9 ((l.set e.1.toNat b).map GC.row)]) (λ_=>rfl) rfl ty63.choose_spec.1 gg gg (za rfl) rfl rfl rfl rfl rfl (wA I).2.2 (by decide) rfl rfl) rfl ?_;refine ops_nil (q_seq (r_seq (vr ?_)));refine zc rfl (s_move rfl gg (za rfl)) ss ?_;refine zc rfl (s_move rfl gg (za rfl)) ss ?_;refine qu (swk_freezeB (j:=4) (jb:=2) (m:=2) (B':=[.cells (GC.row b),y4 h 0 3 (p.map GA.row),.cells [.str a.name,.sl 9 ((l.set e.1.toNat b).map GC.row),.sl 3 (a.subs.map GA.row)],.dead,.dead]) (T':=[p.length,k.length+1,((l.set e.1.toNat b).map GC.row).length+1]) rfl (by exact (.s16 (.s16 (.s16 (.s16 (.s (.cons (FzA.hit2 _ _ (by rw [uq];exact si ((uD.trans rfl)))) (.s (.s (.cons (FzA.hit2 _ _ (by rw [uq];exact si ((uD.trans rfl)))) (FzL.refl _))))))))))) rfl (by exact (.s (.cons (FzA.hit2 _ _ (by rw [uq];exact si ((uD.trans rfl)))) (FzL.refl _)))) rfl rfl) (R.r ?_);refine zd c (λy32 x c=>zc rfl (yG rfl el24 gg gg (xk x rfl)) ss ?_);refine zc rfl (qT (off:=0) (i:=1) (q:=h.toks.length+0) (z:=v3.1.toNat) (row:=GA.row) (y':=(GA.mk a.name (l.set e.1.toNat b) a.subs)) (us:=[.str a.name,.sl 9 ((l.set e.1.toNat b).map GC.row),.sl 3 (a.subs.map GA.row)]) (B':=[.cells (GC.row b),y4 h 0 3 ((p.set v3.1.toNat (GA.mk a.name (l.set e.1.toNat b) a.subs)).map GA.row),.cells [.str a.name,.sl 9 ((l.set e.1.toNat b).map GC.row),.sl 3 (a.subs.map GA.row)],.dead,.dead]) (λ_=>by rw [GA.row_eq];rfl) rfl ty66.choose_spec.1 gg gg (za rfl) rfl rfl rfl rfl rfl (wA x).2.2 (by decide) (by simp only [GA.row_eq];rfl) rfl) rfl (R.r ?_);cases c;refine fr rfl (wD ((yS (j:=1) (m:=0) (B':=[.cells (GC.row b),.dead,.cells [.str a.name,.sl 9 ((l.set e.1.toNat b).map GC.row),.sl 3 (a.subs.map GA.row)],.dead,.dead]) (T':=[((p.set v3.1.toNat (GA.mk a.name (l.set e.1.toNat b) a.subs)).map GA.row).length+1,k.length+1,((l.set e.1.toNat b).map GC.row).length+1]) rfl (by exact (.cons (.hit2 _ _ (by rw [uq];exact si ((uD.trans rfl)))) (.refl _))) rfl rfl).wk) ?_);refine wz (leV.refl _) rfl ?_;exact ⟨rfl,rfl⟩
    ·apply R.r;refine zd c (λy33 A c=>zc rfl (yG rfl el64 gg gg (xk A rfl)) ss ?_);refine zc rfl (qT (off:=0) (i:=3) (q:=h.toks.length+1) (z:=e.1.toNat) (row:=GC.row) (y':=b) (us:=(GC.row b)) (B':=[.cells (GC.row b),y4 h 0 3 (p.map GA.row),.cells [.str a.name,yl h 3 1 9 (k.length),.sl 3 (a.subs.map GA.row)],y4 h 1 9 ((k.set e.1.toNat b).map GC.row)]) (λ_=>rfl) rfl ty63.choose_spec.1 gg gg (za rfl) rfl rfl rfl rfl rfl (wA A).2.2 (by decide) rfl rfl) rfl ?_;refine ops_nil (q_seq (r_seq (vr ?_)));refine zc rfl (s_move rfl gg (za rfl)) ss ?_;refine zc rfl (s_move rfl gg (za rfl)) ss ?_;refine qu (swk_freezeB (j:=3) (jb:=2) (m:=1) (B':=[.cells (GC.row b),y4 h 0 3 (p.map GA.row),.cells [.str a.name,.sl 9 ((k.set e.1.toNat b).map GC.row),.sl 3 (a.subs.map GA.row)],.dead]) (T':=[p.length,((k.set e.1.toNat b).map GC.row).length+1]) rfl (by exact (.s16 (.s16 (.s16 (.cons (FzA.hit2 _ _ (by rw [uq];exact si ((uD.trans rfl)))) (.s (.s (.s (.cons (FzA.hit2 _ _ (by rw [uq];exact si ((uD.trans rfl)))) (.s4 (.s4 (.s4 (.s (.s (.s (.cons (FzA.hit2 _ _ (by rw [uq];exact si ((uD.trans rfl)))) (FzL.refl _))))))))))))))))) rfl (by exact (.s (.cons (FzA.hit2 _ _ (by rw [uq];exact si ((uD.trans rfl)))) (FzL.refl _)))) rfl rfl) (R.r ?_);refine zd c (λy34 F c=>zc rfl (yG rfl el24 gg gg (xk F rfl)) ss ?_);refine zc rfl (qT (off:=0) (i:=1) (q:=h.toks.length+0) (z:=v3.1.toNat) (row:=GA.row) (y':=(GA.mk a.name (k.set e.1.toNat b) a.subs)) (us:=[.str a.name,.sl 9 ((k.set e.1.toNat b).map GC.row),.sl 3 (a.subs.map GA.row)]) (B':=[.cells (GC.row b),y4 h 0 3 ((p.set v3.1.toNat (GA.mk a.name (k.set e.1.toNat b) a.subs)).map GA.row),.cells [.str a.name,.sl 9 ((k.set e.1.toNat b).map GC.row),.sl 3 (a.subs.map GA.row)],.dead]) (λ_=>by rw [GA.row_eq];rfl) rfl ty66.choose_spec.1 gg gg (za rfl) rfl rfl rfl rfl rfl (wA F).2.2 (by decide) (by simp only [GA.row_eq];rfl) rfl) rfl (R.r ?_);cases c;refine fr rfl (wD ((yS (j:=1) (m:=0) (B':=[.cells (GC.row b),.dead,.cells [.str a.name,.sl 9 ((k.set e.1.toNat b).map GC.row),.sl 3 (a.subs.map GA.row)],.dead]) (T':=[((p.set v3.1.toNat (GA.mk a.name (k.set e.1.toNat b) a.subs)).map GA.row).length+1,((k.set e.1.toNat b).map GC.row).length+1]) rfl (by exact (.cons (.hit2 _ _ (by rw [uq];exact si ((uD.trans rfl)))) (.refl _))) rfl rfl).wk) ?_);refine wz (leV.refl _) rfl ?_;exact ⟨rfl,rfl⟩
theorem ok67 {a:(List zx)} {b:GC} {res:(List GA)}  (d:treeXput t0 a b=some res):Sp 67 [.sl 3 (t0.map GA.row),.sl 1 (a.map yz),.agg (GC.row b)] h (yo (.sl 3 (res.map GA.row)) h):=by
 obtain ⟨n,c⟩:=anyN_is d;exact ok67N n c
theorem ok99N (n:Nat):∀{t0:(List GA)} {k:(GC->Option GC)} {g:FuncId} {d e:List AV} {res:(List GA)} {h:AH} (f:∀y v (L:List Blk) (M:List Nat),k y=some v->Sp g (d++[.agg (GC.row y)]++e) (h.ext L M) (yo (.agg (GC.row v)) (h.ext L M))),wK n t0 k=some res->Sp 99 [.sl 3 (t0.map GA.row),.fn (.func g) d e] h (yo (.sl 3 (res.map GA.row)) h):=by
 induction n with
 | zero=>intro t0 k g d e res h f c;simp [wK] at c
 | succ n ih =>
  intro t0 k g d e res h f c;unfold wK at c;refine zH Tryz.func99 rfl (by kernel_rfl) (yI 45 rfl) (λl N=>?_);simp only [zA,AV.low,ud,uS,tK] at l;have a:∀n m,h.blks.length<=n->h.toks.length<=m->zA n m d=true:=λn m C A=>yb C A _ (by simp [l]);have b:∀n m,h.blks.length<=n->h.toks.length<=m->zA n m e=true:=λn m C A=>yb C A _ (by simp [l]);apply R.r;refine ln λs=>?_;replace s:=zX s;apply R.r;refine zz (λ(H:Nat) (s1:(List GA))=>zn 2 2 (zn 5 5 (zn 13 32 [(0,.any),(4,osA h 0 3 (s1.map GA.row)),(12,.int .i64 (H:Int))]))) (λs1=>h.ext [] [s1.length]) c (λ_ _=>by simp only [zn,xU,ue,uf];try rfl) (wk.trans (wk_tok gt4 rfl st4 rfl) (wk.le (by exact (.drop (.eq (.drop (.drop (.cons (leV.of_eq rfl) (.d4 (.drop (.eq (.eq (.cons (leV.of_eq rfl) (.d16 (.d16 leL.nil))))))))))))))) ?_;intro H s1 I c;apply R.r;refine zC gg c (λi P F E c G=>?_) (λc=>?_)
  ·apply R.r;refine zc rfl (yh rfl el24 gg gg isl (zB E) (GA.row_eq _)) ss (R.r ?_);refine yP [1,3,5] [(1,[(0,.cells [.str i.name,.sl 9 (i.leaves.map GC.row),.sl 3 (i.subs.map GA.row)])]),(3,[(0,.cells [.str i.name,.sl 9 (i.leaves.map GC.row),.sl 3 (i.subs.map GA.row)])])] ⟨⟨rfl,trivial⟩,⟨rfl,trivial⟩,trivial⟩ mixed (by kernel_rfl) (R.r ?_);refine xh rfl rfl (by rintro _ ⟨B2,T2,rfl,o⟩;exact xW rfl ty9 gg (vi o) (yx rfl) (za rfl)) ss (R.r ?_);refine xh rfl rfl (by rintro _ ⟨B2,T2,rfl,o⟩;exact xW rfl ty24 gg (vi o) (yx rfl) (za rfl)) ss (R.r ?_);refine zd c (λv23 x c=>zS rfl rfl (λ_=>sc rfl) (by rintro _ ⟨B2,T2,rfl,o⟩;exact ih (λy v L M K=>by rw [zQ];exact f y v _ _ K) x) ss ?_);refine zt rfl rfl (ya (cs':=[.str i.name,.osl none 9 (([]:List GC).map GC.row),.sl 3 (v23.map GA.row)]) rfl su66 ze66 pl66 (zg gg (zg gg zj)) (.cons (za rfl) (.cons (za rfl) .nil)) rfl rfl) ss ?_;refine zF rfl (FOk.cons (.inr (yi ⟨rfl,trivial⟩)) (FOk.cons (.inr (yi ⟨rfl,trivial⟩)) (FOk.cons (.inr (yi trivial)) FOk.nil))) (by kernel_rfl) rfl (e_alloc (n:=1) rfl ze66 rfl) ss ?_;refine zF rfl (FOk.cons (.inr (yi ⟨rfl,trivial⟩)) (FOk.cons (.inr (yi ⟨rfl,trivial⟩)) (FOk.cons (.inr (yi trivial)) FOk.nil))) (by kernel_rfl) rfl (yd (cs':=[.str i.name,.osl none 9 (([]:List GC).map GC.row),.sl 3 (v23.map GA.row)]) rfl ty66.choose_spec.1 gg gg (za rfl) rfl rfl rfl rfl rfl) rfl (R.r ?_);refine ln λq=>?_;replace q:=zX q;apply R.r;refine zz (λ(n2:Nat) (s2:(List GC))=>zn 2 2 (zn 5 2 (zn 8 2 (zn 13 11 (zn 27 18 [(0,.any),(26,.int .i64 (n2:Int))]))))) (λs2=>h.ext [.cells [.str i.name,.sl 9 (i.leaves.map GC.row),.sl 3 (i.subs.map GA.row)],.cells [.str i.name,osA h 1 9 (s2.map GC.row),.sl 3 (v23.map GA.row)]] [s1.length,s2.length]) c (λ_ _=>by simp only [zn,xU,ue,uf];try rfl) (wk.trans (wk_tokB (j:=1) rfl gt1 rfl st1 rfl rfl) (wk.le (by exact (.drop (.eq (.drop (.drop (.eq (.drop (.drop (.eq (.drop (.drop (.eq (.eq (.eq (.d4 (.d4 (.drop (.drop (.drop (.eq (.eq (.cons (leV.of_eq rfl) (.d16 (.drop (.drop leL.nil))))))))))))))))))))))))))) ?_;intro n2 s2 J c;apply R.r;refine zC gg c (λQ O B z c D=>?_) (λc=>?_)
   ·apply R.r;refine ix (zB z) (R.r ?_);refine zL (by kernel_rfl) (R.r ?_);refine zd c (λp u c=>xH rfl rfl (scC rfl) (f _ _ _ _ u) ss ?_);refine zt rfl rfl (zr (es:=([p]:List GC).map GC.row) rfl el64 ze63 rfl rfl (zg gg zj) (.cons (za rfl) .nil) rfl rfl rfl) ss ?_;refine zW c (λt c=>xB rfl FOk.nil (by rfl) rfl (yW (j:=1) (T':=[s1.length,((s2++([p]:List GC))).length]) rfl rfl rfl rfl el64 el64 gg gg (za rfl) (za rfl) yB t rfl rfl) ss (R.r ?_));refine zF rfl FOk.nil (by kernel_rfl) rfl (yd (cs':=[.str i.name,osA h 1 9 ((s2++([p]:List GC)).map GC.row),.sl 3 (v23.map GA.row)]) rfl ty64 gg gg (za rfl) rfl rfl rfl rfl rfl) rfl (R.r ?_);cases c;exact ⟨(s2++([p]:List GC)),B,D,wk.trans (wk.le (by exact (.drop (.eq (.drop (.drop (.eq (.drop (.drop (.eq (.drop (.drop (.eq (.eq (.eq (.d4 (.d4 (.drop (.drop (.drop (.eq (.eq (.cons (leV.of_eq (yN (by omega) (by omega))) (.d16 (.drop (.drop leL.nil)))))))))))))))))))))))))) (yj (by simp [zA,AV.low,a,b]) rfl rfl (by simp [Blk.low,zA,AV.low,a,b]))⟩
   ·apply R.r;refine zc rfl (zr (es:=([(GA.mk i.name s2 v23)]:List GA).map GA.row) rfl el24 ze66 rfl rfl (zg gg zj) (.cons (za rfl) .nil) rfl rfl (by simp only [ux,tB,GA.row_eq];rfl)) ss ?_;refine zW c (λw c=>zc rfl (yW (j:=0) (T':=[((s1++([(GA.mk i.name s2 v23)]:List GA))).length,s2.length]) rfl rfl rfl rfl el24 el24 gg gg (za rfl) (za rfl) yB w rfl rfl) ss (R.r ?_));cases c;exact ⟨(s1++([(GA.mk i.name s2 v23)]:List GA)),F,G,wk.trans (wk.le (by exact (.drop (.eq (.drop (.drop (.cons (leV.of_eq rfl) (.d4 (.drop (.eq (.eq (.cons (leV.of_eq (yN (by omega) (by omega))) (.d16 (.d16 leL.nil)))))))))))))) (yj (by simp [zA,AV.low,a,b]) rfl rfl (by simp [Blk.low,zA,AV.low,a,b]))⟩
  ·apply R.r;cases c;exact fe rfl rfl (leV.osl _ _ _)
theorem ok99 {d:(GC->Option GC)} {a:FuncId} {b c:List AV} {res:(List GA)} (e:∀f v (L:List Blk) (M:List Nat),d f=some v->Sp a (b++[.agg (GC.row f)]++c) (h.ext L M) (yo (.agg (GC.row v)) (h.ext L M))) (i:treeXchanged t0 d=some res):Sp 99 [.sl 3 (t0.map GA.row),.fn (.func a) b c] h (yo (.sl 3 (res.map GA.row)) h):=by
 obtain ⟨n,g⟩:=anyN_is i;exact ok99N n e g
theorem ok100 {res:GC}  (a:qw l0=some res):Sp 100 [.agg (GC.row l0)] h (yo (.agg (GC.row res)) h):=by
 unfold qw at a;refine zb Tryz.func100 rfl (by kernel_rfl) (yI 12 rfl) (R.r ?_);refine zL (by kernel_rfl) (R.r ?_);refine zd a (λb d a=>yT rfl FOk.nil (by rfl) rfl (sc rfl) (x6 (T':=[b.length]) (ok92 d) (m:=0) rfl rfl) ss (R.r ?_));refine zd a (λe c a=>yT rfl FOk.nil (by rfl) rfl (sc rfl) (x6 (T':=[b.length,e.length]) (ok93 c) (m:=1) rfl rfl) ss (R.r ?_));refine zF rfl FOk.nil (by kernel_rfl) rfl (yd (cs':=(zy l0 (osA h 0 5 (b.map GH.row)) (.sl 3 (l0.tombs.map GF.row)))) rfl ty61 gg gg (za rfl) rfl rfl rfl rfl rfl) rfl (R.r ?_);refine zF rfl FOk.nil (by kernel_rfl) rfl (yd (cs':=(zy l0 (osA h 0 5 (b.map GH.row)) (osA h 1 3 (e.map GF.row)))) rfl ty32 gg gg (za rfl) rfl rfl rfl rfl rfl) rfl (R.r ?_);cases a;exact fe rfl rfl (leV.agg (.eq (.eq (.eq (.eq (.eq (.eq (.eq (.cons (leV.osl _ _ _) (.cons (leV.osl _ _ _) leL.nil))))))))) rfl)
theorem ok66 {res:(List GA)}  (a:treeXown t0=some res):Sp 66 [.sl 3 (t0.map GA.row)] h (yo (.sl 3 (res.map GA.row)) h):=by
 unfold treeXown at a;refine zb Tryz.func66 rfl (by kernel_rfl) (yI 5 rfl) (R.r ?_);refine zd a (λd b a=>cp (ok99 (λ_ v L M c=>ok100  c) b) (R.r ?_));cases a;exact fz rfl rfl
theorem ok139 {t:(GA->Option Bool)} (s:∀e v (L:List Blk) (M:List Nat),t e=some v->Sp ff1 (af1++[.agg [.str e.name,.sl 9 (e.leaves.map GC.row),.sl 3 (e.subs.map GA.row)]]++kf1) (h.ext L M) (yo (.bool v) (h.ext L M))) (a:xZ s0 t=some res):Sp 139 [.sl 3 (s0.map GA.row),.fn (.func ff1) af1 kf1] h (yo (.int .i64 res) h):=by
 unfold xZ at a;refine zH Tryz.func139 rfl (by kernel_rfl) (yI 19 rfl) (λb x=>?_);simp only [zA,AV.low,ud,uS,tK] at b;have k:∀n m,h.blks.length<=n->h.toks.length<=m->zA n m af1=true:=λn m i f=>yb i f _ (by simp [b]);have g:∀n m,h.blks.length<=n->h.toks.length<=m->zA n m kf1=true:=λn m i f=>yb i f _ (by simp [b]);apply R.r;refine ln λc=>?_;replace c:=zX c;apply R.r;refine zz (λ(u:Nat) (s1:Unit)=>zn 2 5 (zn 9 10 [(8,.int .i64 (u:Int))])) (λs1=>h.ext [] []) a (λ_ _=>by simp only [zn,xU,ue,uf];try rfl) (wk.le LEL.o) ?_;intro u s1 w a;apply R.r;refine zC gg a (λA z q j a d=>?_) (λa=>?_)
 ·apply R.r;refine zc rfl (yh rfl el24 gg gg isl (zB j) (GA.row_eq _)) ss (R.r ?_);refine zd a (λy p a=>x7 rfl (scC rfl) (s _ _ _ _ p) ss (R.r ?_));refine ze gg a (λl a=>?_) (λl a=>?_)
  ·apply R.r;cases a;replace a:=d;apply R.r;cases a;exact fz rfl rfl
  ·apply R.r;cases a;exact ⟨(),q,d,wk.le (by exact (.eq (.eq (.d4 (.drop (.eq (.cons (leV.of_eq (yN (by omega) (by omega))) (.d4 (.d4 (.drop (.drop leL.nil)))))))))))⟩
 ·apply R.r;cases a;exact fz rfl rfl
theorem ok140 {b:zx} {i0:Nat} {res:Bool} (a:h.blk i0=some (.cells [.str b])) (c:treeXlinearC1 n0 b=some res):Sp 140 [.agg [.str n0.name,.sl 9 (n0.leaves.map GC.row),.sl 3 (n0.subs.map GA.row)],.ptr i0 0] h (yo (.bool res) h):=by
 unfold treeXlinearC1 at c;refine zb Tryz.func140 rfl (by kernel_rfl) (yI 8 rfl) (R.r ?_);refine zc rfl (b_load rfl ty9 gg a (yx rfl) (za rfl)) ss (R.r ?_);cases c;exact fz rfl rfl
theorem ok88 {a:zx} {res:(GA×Bool)}  (b:qG t0 a=some res):Sp 88 [.sl 3 (t0.map GA.row),.str a] h (yo (.tup [.agg [.str res.1.name,.sl 9 (res.1.leaves.map GC.row),.sl 3 (res.1.subs.map GA.row)],.bool res.2]) h):=by
 unfold qG at b;refine zb Tryz.func88 rfl (by kernel_rfl) (yI 17 rfl) (R.r ?_);refine zc rfl (wL rfl rfl rfl) ss ?_;refine zd b (λi d b=>cp (ok139 (λ_ v L M f=>ok140 (blk_ext2 (j:=0) rfl) f) d) (R.r ?_));refine ze gg b (λe b=>?_) (λe b=>?_)
 ·apply R.r;refine zc rfl (ya (cs':=lit5x) rfl su66 ze66 pl66 zj .nil rfl rfl) ss (R.r ?_);cases b;exact fe rfl rfl (leV.tup (.cons (leV.agg (.eq (.cons (leV.osl _ _ _) (.cons (leV.osl _ _ _) leL.nil))) rfl) (.eq leL.nil)))
 ·apply R.r;refine zd b (λg c b=>zc rfl (yh rfl el24 gg gg isl c (GA.row_eq _)) ss (R.r ?_));cases b;exact fz rfl rfl
theorem ok89 {s0:(List GC)} {t:(GC->Option Bool)} (q:∀s v (L:List Blk) (M:List Nat),t s=some v->Sp ff1 (af1++[.agg (GC.row s)]++kf1) (h.ext L M) (yo (.bool v) (h.ext L M))) (a:yK s0 t=some res):Sp 89 [.sl 9 (s0.map GC.row),.fn (.func ff1) af1 kf1] h (yo (.int .i64 res) h):=by
 unfold yK at a;refine zH Tryz.func89 rfl (by kernel_rfl) (yI 19 rfl) (λb x=>?_);simp only [zA,AV.low,ud,uS,tK] at b;have j:∀n m,h.blks.length<=n->h.toks.length<=m->zA n m af1=true:=λn m g e=>yb g e _ (by simp [b]);have f:∀n m,h.blks.length<=n->h.toks.length<=m->zA n m kf1=true:=λn m g e=>yb g e _ (by simp [b]);apply R.r;refine ln λc=>?_;replace c:=zX c;apply R.r;refine zz (λ(u:Nat) (s1:Unit)=>zn 2 5 (zn 9 10 [(8,.int .i64 (u:Int))])) (λs1=>h.ext [] []) a (λ_ _=>by simp only [zn,xU,ue,uf];try rfl) (wk.le LEL.o) ?_;intro u s1 w a;apply R.r;refine zC gg a (λA z p i a d=>?_) (λa=>?_)
 ·apply R.r;refine ix (zB i) (R.r ?_);refine zd a (λy l a=>x7 rfl (scC rfl) (q _ _ _ _ l) ss (R.r ?_));refine ze gg a (λk a=>?_) (λk a=>?_)
  ·apply R.r;cases a;replace a:=d;apply R.r;cases a;exact fz rfl rfl
  ·apply R.r;cases a;exact ⟨(),p,d,wk.le (by exact (.eq (.eq (.d4 (.drop (.eq (.cons (leV.of_eq (yN (by omega) (by omega))) (.d4 (.d4 (.drop (.drop leL.nil)))))))))))⟩
 ·apply R.r;cases a;exact fz rfl rfl
theorem ok90 {b:Int} {i0:Nat} {res:Bool} (a:h.blk i0=some (.cells [.int .u8 b])) (c:treeLeafC1 l0 b=some res):Sp 90 [.agg (GC.row l0),.ptr i0 0] h (yo (.bool res) h):=by
 unfold treeLeafC1 at c;refine zb Tryz.func90 rfl (by kernel_rfl) (yI 8 rfl) (R.r ?_);refine zc rfl (b_load rfl ty5 gg a (yx rfl) (za rfl)) ss (R.r ?_);cases c;exact fz rfl rfl
theorem ok91 {res:GC}  (a:qv kind0=some res):Sp 91 [.int .u8 kind0] h (yo (.agg (GC.row res)) h):=by
 unfold qv at a;refine zb Tryz.func91 rfl (by kernel_rfl) (yI 12 rfl) (R.r ?_);refine ze gg a (λb a=>?_) (λb a=>?_)
 ·apply R.r;refine zc rfl (ya (cs':=xR) rfl su63 ze63 pl63 zj .nil rfl rfl) ss (R.r ?_);cases a;exact fe rfl rfl (leV.agg (.eq (.eq (.eq (.eq (.eq (.eq (.eq (.cons (leV.osl _ _ _) (.cons (leV.osl _ _ _) leL.nil))))))))) rfl)
 ·apply R.r;refine zc rfl (ya (cs':=[.int .u8 kind0,.int .i64 (0:Int),.int .u64 (0:Int),.int .u8 (0:Int),.int .u32 (0:Int),.int .u64 (0:Int),.str ([]:zx),.osl none 5 (([]:List GH).map GH.row),.osl none 3 (([]:List GF).map GF.row)]) rfl su63 ze63 pl63 (zg gg zj) (.cons (za rfl) .nil) rfl rfl) ss (R.r ?_);cases a;exact fe rfl rfl (leV.agg (.eq (.eq (.eq (.eq (.eq (.eq (.eq (.cons (leV.osl _ _ _) (.cons (leV.osl _ _ _) leL.nil))))))))) rfl)
theorem ok63 {d:(List zx)} {c:Int} {res:(GC×Bool)}  (a:qX t0 d c=some res):Sp 63 [.sl 3 (t0.map GA.row),.sl 1 (d.map yz),.int .u8 c] h (yo (.tup [.agg (GC.row res.1),.bool res.2]) h):=by
 unfold qX at a;refine zb Tryz.func63 rfl (by kernel_rfl) (yI 66 rfl) (R.r ?_);refine ln λn=>?_;replace n:=zX n;refine zc rfl (vJ rfl gg rfl rfl) ss ?_;refine zc rfl (s_assign rfl gg (za rfl)) ss ?_;refine ops_nil (q_seq ?_);refine r_join (λ(s1:Bool×zx×(List GC)×(List GA))=>zn 0 5 (zn 10 56 [(7,.any),(9,.bool s1.1)])) (λs1=>h.ext [.cells [.int .u8 c],.cells xR,.cells [.str s1.2.1,.sl 9 (s1.2.2.1.map GC.row),.sl 3 (s1.2.2.2.map GA.row)]] []) a (λ_=>by simp only [zn,xU,ue,uf];try rfl) (λH a x=>?_) (λs1 a=>?_)
 ·apply R.r;refine ln λf=>?_;replace f:=zX f;apply R.r;refine zz (λ(n2:Nat) (s2:(List GA)×Bool×zx×(List GC)×(List GA))=>zn 1 4 (zn 10 7 (zn 20 46 [(7,.any),(0,.sl 3 (s2.1.map GA.row)),(9,.bool s2.2.1),(19,.int .i64 (n2:Int))]))) (λs2=>h.ext [.cells [.int .u8 c],.cells xR,.cells [.str s2.2.2.1,.sl 9 (s2.2.2.2.1.map GC.row),.sl 3 (s2.2.2.2.2.map GA.row)]] []) a (λ_ _=>by simp only [zn,xU,ue,uf];try rfl) (wk.trans (wk_leB (j:=2) rfl (by exact (.eq (.cons (leV.osl _ _ _) (.cons (leV.osl _ _ _) leL.nil)))) rfl rfl) (wk.le LEL.o)) ?_;intro n2 s2 D a;apply R.r;refine zC gg a (λI G B z a q=>?_) (λa=>?_)
  ·apply R.r;refine ix (zB z) (R.r ?_);refine zd a (λb u a=>cp (ok88 u) (R.r ?_));refine ze gg a (λw a=>?_) (λw a=>?_)
   ·apply R.r;refine q_block_miss (by decide) (R.r ?_);cases a;replace a:=q;apply R.r;refine q_join ?_;cases a;exact ⟨(b.2,b.1.name,b.1.leaves,b.1.subs),x,wk.le LEL.o⟩
   ·apply R.r;cases a;exact ⟨(b.1.subs,b.2,b.1.name,b.1.leaves,b.1.subs),B,q,wk.le (by exact (.cons (leV.of_eq rfl) (.d4 (.eq (.eq (.drop (.eq (.cons (leV.of_eq rfl) (.d4 (.drop (.drop (.drop (.eq (.eq (.cons (leV.of_eq (yN (by omega) (by omega))) (.d16 (.d16 (.d4 (.d4 (.d4 (.drop (.drop leL.nil))))))))))))))))))))))⟩
  ·apply R.r;refine q_join ?_;cases a;exact ⟨(s2.2.1,s2.2.2.1,s2.2.2.2.1,s2.2.2.2.2),x,wk.le LEL.o⟩
 ·apply R.r;refine zc rfl (wL rfl rfl rfl) ss ?_;refine zd a (λF t a=>cp (ok89 (λ_ v L M E=>ok90 (blk_ext2 (j:=0) rfl) E) t) (R.r ?_));refine zY a (λv50 k a=>zJ rfl sc (λA=>ok91 (k A)) ss ?_);refine qz rfl (λA=>s_field rfl fo63x0 ty5 (yf gg A) rfl (za rfl)) ss (R.r ?_);refine ze gg a (λi a=>?_) (λi a=>?_)
  ·apply R.r;refine zd a (λC y a=>cp (ok91 y) (R.r ?_));cases a;exact fz rfl rfl
  ·apply R.r;refine zd a (λg p a=>ix p (R.r ?_));refine zL (by kernel_rfl) (R.r ?_);refine zd a (λe s a=>yT rfl FOk.nil (by rfl) rfl (sc rfl) (x6 (T':=[e.length]) (ok92 s) (m:=0) rfl rfl) ss (R.r ?_));refine zd a (λv55 l a=>yT rfl FOk.nil (by rfl) rfl (sc rfl) (x6 (T':=[e.length,v55.length]) (ok93 l) (m:=1) rfl rfl) ss (R.r ?_));refine zF rfl FOk.nil (by kernel_rfl) rfl (yd (cs':=(zy g (osA h 0 5 (e.map GH.row)) (.sl 3 (g.tombs.map GF.row)))) rfl ty61 gg gg (za rfl) rfl rfl rfl rfl rfl) rfl (R.r ?_);refine zF rfl FOk.nil (by kernel_rfl) rfl (yd (cs':=(zy g (osA h 0 5 (e.map GH.row)) (osA h 1 3 (v55.map GF.row)))) rfl ty32 gg gg (za rfl) rfl rfl rfl rfl rfl) rfl (R.r ?_);cases a;exact fe rfl rfl (leV.tup (.cons (leV.agg (.eq (.eq (.eq (.eq (.eq (.eq (.eq (.cons (leV.osl _ _ _) (.cons (leV.osl _ _ _) leL.nil))))))))) rfl) (.eq leL.nil)))
theorem ok34 {c:GJ} {res:((List GA)×Int)}  (a:treeApply t0 c=some res):Sp 34 [.sl 3 (t0.map GA.row),.agg (GJ.row c)] h (yo (.tup [.sl 3 (res.1.map GA.row),.int .i64 res.2]) h):=by
 unfold treeApply at a;refine zb Tryz.func34 rfl (by kernel_rfl) (yI 45 rfl) (R.r ?_);refine zd a (λq d a=>cp (ok22 d) (R.r ?_));refine zY a (λt f a=>zJ rfl sc (λo=>ok33 (f o)) ss (R.r ?_));refine ze gg a (λm a=>?_) (λm a=>?_)
 ·apply R.r;cases a;exact fe rfl rfl (leV.tup (.cons (leV.osl _ _ _) (.eq leL.nil)))
 ·apply R.r;refine yP [3,6,7,8] [(3,[(0,.cells (GJ.row c))]),(6,[(0,.cells (GJ.row c))])] ⟨⟨rfl,trivial⟩,⟨rfl,trivial⟩,trivial⟩ mixed (by kernel_rfl) (R.r ?_);refine xh rfl rfl (by rintro _ ⟨B2,T2,rfl,b⟩;exact xW rfl ty31 gg (vi b) (yx rfl) (za rfl)) ss (R.r ?_);refine xh rfl rfl (by rintro _ ⟨B2,T2,rfl,b⟩;exact xW rfl ty5 gg (vi b) (yx rfl) (za rfl)) ss ?_;refine zd a (λv4 e a=>zS rfl rfl (λ_=>sc rfl) (by rintro _ ⟨B2,T2,rfl,b⟩;exact ok64 e) ss ?_);refine zd a (λv5 k a=>zS rfl rfl (λ_=>sc rfl) (by rintro _ ⟨B2,T2,rfl,b⟩;exact ok63 k) ss (R.r ?_));refine zF rfl (FOk.cons (.inr (yi ⟨rfl,trivial⟩)) (FOk.cons (.inr (yi ⟨rfl,trivial⟩)) (FOk.cons (.inr (yi trivial)) (FOk.cons (.inr (yi trivial)) FOk.nil)))) (by kernel_rfl) rfl (e_alloc (n:=1) rfl ze63 rfl) ss ?_;refine zF rfl (FOk.cons (.inr (yi ⟨rfl,trivial⟩)) (FOk.cons (.inr (yi ⟨rfl,trivial⟩)) (FOk.cons (.inr (yi trivial)) (FOk.cons (.inr (yi trivial)) FOk.nil)))) (by kernel_rfl) rfl (yd (cs':=(GC.row v5.1)) rfl ty63.choose_spec.1 gg gg (za rfl) rfl rfl rfl rfl rfl) rfl (R.r ?_);refine zd a (λp l a=>cp (ok65 l) (R.r ?_));refine ze gg a (λj a=>?_) (λj a=>?_)
  ·apply R.r;cases a;exact fe rfl rfl (leV.tup (.cons (leV.osl _ _ _) (.eq leL.nil)))
  ·apply R.r;refine zd a (λs i a=>cp (ok67 i) ?_);refine zd a (λv9 g a=>cp (ok66 g) (R.r ?_));cases a;exact fz rfl rfl
theorem ok36 {b:zx} {res:GI}  (a:vO t0 b=some res):Sp 36 [.sl 3 (t0.map GA.row),.str b] h (yo (.agg (GI.row res)) h):=by
 unfold vO at a;refine zb Tryz.func36 rfl (by kernel_rfl) (yI 28 rfl) (R.r ?_);refine ln λf=>?_;replace f:=zX f;apply R.r;refine zz (λ(l:Nat) (d:Unit)=>zn 2 2 (zn 5 2 (zn 10 18 [(9,.int .i64 (l:Int))]))) (λd=>h.ext [.cells lit2x] []) a (λ_ _=>by simp only [zn,xU,ue,uf];try rfl) (wk.le LEL.o) ?_;intro l d m a;apply R.r;refine zC gg a (λq s j k a e=>?_) (λa=>?_)
 ·apply R.r;refine zc rfl (yh rfl el24 gg gg isl (zB k) (GA.row_eq _)) ss (R.r ?_);refine ze gg a (λc a=>?_) (λc a=>?_)
  ·apply R.r;refine zd a (λn i a=>zc rfl (wy rfl el24 gg (.inl rfl) (.some gg) (.some gg) i) ss ?_);refine zd a (λp g a=>cp (ok23 g) (R.r ?_));cases a;replace a:=e;apply R.r;cases a;exact fz rfl rfl
  ·apply R.r;cases a;exact ⟨(),j,e,wk.trans (wk.le (by exact (.eq (.eq (.drop (.drop (.eq (.drop (.drop (.eq (.eq (.cons (leV.of_eq (yN (by omega) (by omega))) (.d16 (.drop (.drop leL.nil))))))))))))))) (yj (by simp [zA,AV.low]) rfl rfl (by simp [Blk.low,zA,AV.low]))⟩
 ·apply R.r;refine zc rfl (ya (cs':=[.str b,.int .i64 (0:Int),.int .i64 (0:Int),.int .i64 (0:Int),.int .i64 (0:Int)]) rfl su44 ze44 pl44 (zg gg zj) (.cons (za rfl) .nil) rfl rfl) ss (R.r ?_);cases a;exact fz rfl rfl
theorem ok15 {l0:(List GI)} {F:(List GA)} {y:GJ} {res:(Bool×Int)}  (a:meterFits l0 F y=some res):Sp 15 [.sl 5 (l0.map GI.row),.sl 3 (F.map GA.row),.agg (GJ.row y)] h (yo (.tup [.bool res.1,.int .i64 res.2]) h):=by
 unfold meterFits at a;refine zb Tryz.func15 rfl (by kernel_rfl) (yI 70 rfl) (R.r ?_);refine zd a (λM t a=>cp (ok11 t) (R.r ?_));refine zY a (λQ u a=>zJ rfl sc (λb=>ok22 (u b)) ss (R.r ?_));refine zY a (λv3 z a=>zJ rfl sc (λb=>ok33 (z b)) ss (R.r ?_));refine ze gg a (λA a=>?_) (λA a=>?_)
 ·apply R.r;cases a;exact fz rfl rfl
 ·apply R.r;refine zd a (λv5 C a=>cp (ok34 C) (R.r ?_));refine zd a (λP B a=>ix B (R.r ?_));refine zd a (λN D a=>cp (ok36 D) ?_);refine zd a (λs x a=>cp (ok35 x) (R.r ?_));refine zd a (λv9 w a=>cp (ok36 w) ?_);refine zd a (λd l a=>cp (ok35 l) (R.r ?_));refine zd a (λK n a=>cp (ok36 n) ?_);refine zd a (λH m a=>cp (ok31 m) (R.r ?_));refine zW a (λL a=>zz (λ(E:Nat) (s1:Unit)=>zn 0 9 (zn 13 38 (zn 53 17 [(10,.any),(52,.int .i64 (E:Int))]))) (λs1=>h.ext [.cells (GJ.row y),.cells [.int .i64 s.1,.int .i64 s.2.1,.int .i64 s.2.2.1,.int .i64 s.2.2.2],.cells [.int .i64 d.1,.int .i64 d.2.1,.int .i64 d.2.2.1,.int .i64 d.2.2.2]] []) a (λ_ _=>by simp only [zn,xU,ue,uf];try rfl) (wk.le LEL.o) ?_);intro E s1 G a;apply R.r;refine r_condR gg a (λS O e I J a c=>?_) (λa=>?_)
  ·refine iteF a (λf a=>?_) (λf a=>?_)
   ·subst f;apply R.r;refine zc rfl (wM rfl ty76 ty3 (gk gt11) (gk gt12) rfl (za rfl)) (sk st15) (R.r ?_);refine zL (by kernel_rfl) (R.r ?_);refine wl rfl rfl (λb=>yc (v:=.ptr (h.blks.length+2) 0) rfl ty76 ty3 gt12 (yf (gk gt19) b) rfl) (sk st20) (R.r ?_);refine wl rfl rfl (λb=>yc (v:=.ptr (h.blks.length+1) 0) rfl ty76 ty3 gt11 (yf (gk gt22) b) rfl) (sk st23) (R.r ?_);refine ze gg a (λj a=>?_) (λj a=>?_)
    ·apply R.r;cases a;replace a:=c;apply R.r;cases a;exact fz rfl rfl
    ·apply R.r;cases a;exact ⟨(),e,c,wk.le (by exact (.d4 (.d4 (.drop (.eq (.drop (.eq (.eq (.d16 (.d16 (.d4 (.drop (.drop (.eq (.cons (leV.of_eq (yN (by omega) (by omega))) (.d16 (.drop leL.nil)))))))))))))))))⟩
   ·refine iteF a (λi a=>?_) (λi a=>?_)
    ·subst i;apply R.r;refine zc rfl (wM rfl ty76 ty3 (gk gt11) (gk gt12) rfl (za rfl)) (sk st15) (R.r ?_);refine zL (by kernel_rfl) (R.r ?_);refine wl rfl rfl (λb=>yc (v:=.ptr (h.blks.length+2) 1) rfl ty76 ty3 gt12 (yf (gk gt19) b) rfl) (sk st20) (R.r ?_);refine wl rfl rfl (λb=>yc (v:=.ptr (h.blks.length+1) 1) rfl ty76 ty3 gt11 (yf (gk gt22) b) rfl) (sk st23) (R.r ?_);refine ze gg a (λp a=>?_) (λp a=>?_)
     ·apply R.r;cases a;replace a:=c;apply R.r;cases a;exact fz rfl rfl
     ·apply R.r;cases a;exact ⟨(),e,c,wk.le (by exact (.d4 (.d4 (.drop (.eq (.drop (.eq (.eq (.d16 (.d16 (.d4 (.drop (.drop (.eq (.cons (leV.of_eq (yN (by omega) (by omega))) (.d16 (.drop leL.nil)))))))))))))))))⟩
    ·refine iteF a (λg a=>?_) (λg a=>?_)
     ·subst g;apply R.r;refine zc rfl (wM rfl ty76 ty3 (gk gt11) (gk gt12) rfl (za rfl)) (sk st15) (R.r ?_);refine zL (by kernel_rfl) (R.r ?_);refine wl rfl rfl (λb=>yc (v:=.ptr (h.blks.length+2) 2) rfl ty76 ty3 gt12 (yf (gk gt19) b) rfl) (sk st20) (R.r ?_);refine wl rfl rfl (λb=>yc (v:=.ptr (h.blks.length+1) 2) rfl ty76 ty3 gt11 (yf (gk gt22) b) rfl) (sk st23) (R.r ?_);refine ze gg a (λq a=>?_) (λq a=>?_)
      ·apply R.r;cases a;replace a:=c;apply R.r;cases a;exact fz rfl rfl
      ·apply R.r;cases a;exact ⟨(),e,c,wk.le (by exact (.d4 (.d4 (.drop (.eq (.drop (.eq (.eq (.d16 (.d16 (.d4 (.drop (.drop (.eq (.cons (leV.of_eq (yN (by omega) (by omega))) (.d16 (.drop leL.nil)))))))))))))))))⟩
     ·obtain rfl:E=3:=by omega
      apply R.r;refine zc rfl (wM rfl ty76 ty3 (gk gt11) (gk gt12) rfl (za rfl)) (sk st15) (R.r ?_);refine zL (by kernel_rfl) (R.r ?_);refine wl rfl rfl (λb=>yc (v:=.ptr (h.blks.length+2) 3) rfl ty76 ty3 gt12 (yf (gk gt19) b) rfl) (sk st20) (R.r ?_);refine wl rfl rfl (λb=>yc (v:=.ptr (h.blks.length+1) 3) rfl ty76 ty3 gt11 (yf (gk gt22) b) rfl) (sk st23) (R.r ?_);refine ze gg a (λk a=>?_) (λk a=>?_)
      ·apply R.r;cases a;replace a:=c;apply R.r;cases a;exact fz rfl rfl
      ·apply R.r;cases a;exact ⟨(),e,c,wk.le (by exact (.d4 (.d4 (.drop (.eq (.drop (.eq (.eq (.d16 (.d16 (.d4 (.drop (.drop (.eq (.cons (leV.of_eq (yN (by omega) (by omega))) (.d16 (.drop leL.nil)))))))))))))))))⟩
  ·apply R.r;cases a;exact fz rfl rfl
theorem ok110 {j:(List zx)} {res:Bool}  (a:ref04MayPath j=some res):Sp 110 [.sl 1 (j.map yz)] h (yo (.bool res) h):=by
 unfold ref04MayPath at a;refine zb Tryz.func110 rfl (by kernel_rfl) (yI 24 rfl) (R.r ?_);refine zz (λ(l:Nat) (s1:Unit)=>zn 1 2 (zn 4 20 [(3,.int .i64 (l:Int))])) (λs1=>h.ext [] []) a (λ_ _=>by simp only [zn,xU,ue,uf];try rfl) (wk.le LEL.o) ?_;intro l s1 m a;apply R.r;refine ln λd=>?_;replace d:=zX d;apply R.r;refine zC gg a (λn p f i a e=>?_) (λa=>?_)
 ·apply R.r;refine ix (zB i) (R.r ?_);refine zd a (λv9 g a=>cp (ok30 g) (R.r ?_));refine ze gg a (λc a=>?_) (λc a=>?_)
  ·apply R.r;cases a;replace a:=e;apply R.r;cases a;exact fz rfl rfl
  ·apply R.r;cases a;exact ⟨(),f,e,wk.le (by exact (.eq (.drop (.drop (.cons (leV.of_eq (yN (by omega) (by omega))) (.d16 (.d4 leL.nil)))))))⟩
 ·apply R.r;refine ln λb=>?_;replace b:=zX b;apply R.r;refine lng λk=>R.r ?_;cases a;exact fz rfl rfl
theorem ok71  (a:ref04Type kind0=some res):Sp 71 [.int .u8 kind0] h (yo (.int .u8 res) h):=by
 unfold ref04Type at a;refine zb Tryz.func71 rfl (by kernel_rfl) (yI 13 rfl) (R.r ?_);refine ze gg a (λi a=>?_) (λi a=>?_)
 ·apply R.r;cases a;exact fz rfl rfl
 ·apply R.r;refine ze gg a (λf a=>?_) (λf a=>?_)
  ·apply R.r;cases a;exact fz rfl rfl
  ·apply R.r;refine ze gg a (λg a=>?_) (λg a=>?_)
   ·apply R.r;refine ze gg a (λc a=>?_) (λc a=>?_)
    ·apply R.r;cases a;exact fz rfl rfl
    ·apply R.r;refine ze gg a (λb a=>?_) (λb a=>?_)
     ·apply R.r;cases a;exact fz rfl rfl
     ·apply R.r;cases a;exact fz rfl rfl
   ·apply R.r;refine ze gg a (λd a=>?_) (λd a=>?_)
    ·apply R.r;cases a;exact fz rfl rfl
    ·apply R.r;refine ze gg a (λe a=>?_) (λe a=>?_)
     ·apply R.r;cases a;exact fz rfl rfl
     ·apply R.r;cases a;exact fz rfl rfl
theorem ok69 {q:GM} {res:Bool}  (a:ref04May q=some res):Sp 69 [.agg (GM.row q)] h (yo (.bool res) h):=by
 unfold ref04May at a;refine zb Tryz.func69 rfl (by kernel_rfl) (yI 95 rfl) (R.r ?_);refine zd a (λD j a=>cp (ok71 j) (R.r ?_));refine zY a (λF m a=>zJ rfl sc (λk=>ok110 (m k)) ss (R.r ?_));refine lng λz=>R.r ?_;refine lng λv=>R.r ?_;refine ze gg a (λl a=>?_) (λl a=>?_)
 ·apply R.r;cases a;exact fz rfl rfl
 ·apply R.r;refine ze gg a (λt a=>?_) (λt a=>?_)
  ·apply R.r;refine lng λA=>R.r ?_;cases a;exact fz rfl rfl
  ·apply R.r;refine lng λy=>R.r ?_;refine ze gg a (λp a=>?_) (λp a=>?_)
   ·apply R.r;cases a;exact fz rfl rfl
   ·apply R.r;refine zz (λ(u:Nat) (s1:Unit)=>zn 4 91 [(0,.any),(2,.any),(3,.int .i64 (u:Int))]) (λs1=>h.ext [.cells (GM.row q)] []) a (λ_ _=>by simp only [zn,xU,ue,uf];try rfl) (wk.le LEL.o) ?_;intro u s1 w a;apply R.r;refine ln λb=>?_;replace b:=zX b;apply R.r;refine zC gg a (λG E s n a i=>?_) (λa=>?_)
    ·apply R.r;refine yP [5] [] trivial mixed (by kernel_rfl) (R.r ?_);refine dix (zB n) (R.r ?_);refine zd a (λC g a=>zS rfl rfl (λ_=>sc rfl) (by rintro _ ⟨B2,T2,rfl,x⟩;exact ok68 g) ss (R.r ?_));refine zW a (λe a=>dgix e (R.r ?_));refine zW a (λc a=>dgix c (R.r ?_));refine zY a (λB d a=>yZ rfl (aG_gv rfl rfl rfl) sc (λk=>ok111 (d k)) ss (R.r ?_));refine ze gg a (λf a=>?_) (λf a=>?_)
     ·apply R.r;cases a;replace a:=i;apply R.r;cases a;exact fz rfl rfl
     ·apply R.r;cases a;exact ⟨(),s,i,wk.le (by exact (.drop (.eq (.drop (.cons (leV.of_eq (yN (by omega) (by omega))) (.d16 (.d16 (.d16 (.d16 (.d16 (.d4 (.d4 (.drop (.drop (.drop leL.nil)))))))))))))))⟩
    ·apply R.r;cases a;exact fz rfl rfl
theorem ok37 {d:GJ} {res:Bool}  (a:wN d=some res):Sp 37 [.agg (GJ.row d)] h (yo (.bool res) h):=by
 unfold wN at a;refine zb Tryz.func37 rfl (by kernel_rfl) (yI 21 rfl) (R.r ?_);refine zd a (λg c a=>cp (ok68 c) (R.r ?_));refine zY a (λf b a=>zJ rfl sc (λe=>ok69 (b e)) ss (R.r ?_));cases a;exact fz rfl rfl
theorem ok112 {res:GC}  (a:ref05New kind0=some res):Sp 112 [.int .u8 kind0] h (yo (.agg (GC.row res)) h):=by
 unfold ref05New at a;refine zb Tryz.func112 rfl (by kernel_rfl) (yI 12 rfl) (R.r ?_);refine ze gg a (λb a=>?_) (λb a=>?_)
 ·apply R.r;refine zc rfl (ya (cs':=[.int .u8 kind0,.int .i64 (0:Int),.int .u64 (0:Int),.int .u8 (0:Int),.int .u32 (0:Int),.int .u64 (0:Int),.str ([]:zx),.osl none 5 (([]:List GH).map GH.row),.osl none 3 (([]:List GF).map GF.row)]) rfl su63 ze63 pl63 (zg gg zj) (.cons (za rfl) .nil) rfl rfl) ss (R.r ?_);cases a;exact fe rfl rfl (leV.agg (.eq (.eq (.eq (.eq (.eq (.eq (.eq (.cons (leV.osl _ _ _) (.cons (leV.osl _ _ _) leL.nil))))))))) rfl)
 ·apply R.r;refine zc rfl (ya (cs':=xR) rfl su63 ze63 pl63 zj .nil rfl rfl) ss (R.r ?_);cases a;exact fe rfl rfl (leV.agg (.eq (.eq (.eq (.eq (.eq (.eq (.eq (.cons (leV.osl _ _ _) (.cons (leV.osl _ _ _) leL.nil))))))))) rfl)
end Go.Vv
