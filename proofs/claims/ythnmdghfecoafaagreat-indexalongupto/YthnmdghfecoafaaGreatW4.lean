/- Each function that the law reaches computes what its reading says; printed by a program. -/
import Derived.Test.YthnmdghfecoafaaGreatW3
set_option linter.all false
namespace Go.Vv
open Go Go.Proofs
set_option maxRecDepth 100000
set_option synthInstance.maxSize 100000
set_option synthInstance.maxHeartbeats 1000000
set_option maxHeartbeats 1000000
variable {t0:(List GA)} {res:Bool} {h:AH}
theorem ok36N (n:Nat):∀{t0:(List GA)} {b:Int} {res:Bool} {h:AH} , vn n t0 b=some res->Sp 36 [.sl 3 (t0.map GA.row),.int .i64 b] h (y5 (.bool res) h):=by
 induction n with
 | zero=>intro t0 b res h  a;simp [vn] at a
 | succ n ih =>
  intro t0 b res h  a;unfold vn at a;refine zd Tryz.func36 rfl (by kernel_rfl) (xH 95 rfl) (R.r ?_);refine zU (λ(z:Nat) (y:Unit)=>zK 2 3 (zK 6 89 [(5,.int .i64 (z:Int))])) (λy=>h.ext [] []) a (λ_ _=>by simp only [zK,vi,ug,uh];try rfl) (wk.le LEL.o) ?_;intro z y B a;apply R.r;refine ln λe=>?_;replace e:=yz e;apply R.r;refine zZ gg a (λx G w v a f=>?_) (λa=>?_)
  ·apply R.r;refine zb rfl (wb rfl el23 gg gg isl (yd v) (GA.row_eq _)) ss (R.r ?_);refine wC (by kernel_rfl) (R.r ?_);refine yw a (λv31 i a=>wr rfl rfl sc (λc=>ok71 (i c)) ss (R.r ?_));refine xu a (λk a=>draw_gv rfl (aG_gv rfl rfl rfl) (λc=>s_gidxRowE default rfl el23 (yi gg c) (yi gg c) isl (k c) (GA.row_eq _)) ss (R.r ?_));refine draw_glen rfl rfl (λc=>xM rfl rfl rfl rfl el95 (yi gg c) vQ) ss (R.r ?_);refine draw_glen rfl (aG_gv rfl rfl rfl) (λc=>xM rfl rfl rfl rfl el23 (yi gg c) vQ) ss (R.r ?_);refine yw a (λE q a=>wr rfl rfl sc (λc=>ih (q c)) ss (R.r ?_));refine zt gg a (λl a=>?_) (λl a=>?_)
   ·apply R.r;cases a;replace a:=f;apply R.r;cases a;exact fz rfl rfl
   ·apply R.r;refine zU (λ(A:Nat) (s2:Unit)=>zK 2 3 (zK 8 87 [(7,.int .i64 (A:Int))])) (λs2=>h.ext [.cells [.str x.name,.sl 9 (x.leaves.map GE.row),.sl 3 (x.subs.map GA.row)]] []) a (λ_ _=>by simp only [zK,vi,ug,uh];try rfl) (wk.le LEL.o) ?_;intro A s2 D a;apply R.r;refine ln λd=>?_;replace d:=yz d;apply R.r;refine zZ gg a (λH F u t a p=>?_) (λa=>?_)
    ·apply R.r;refine yu [5] [] trivial mixed (by kernel_rfl) (R.r ?_);refine dix (yd t) (R.r ?_);refine zo a (λv50 g a=>zR rfl rfl (λ_=>sc rfl) (by rintro _ ⟨B2,T2,rfl,C⟩;exact ok72 g) ss (R.r ?_));refine xu a (λs a=>dgix s (R.r ?_));refine xu a (λm a=>dgix m (R.r ?_));refine zt gg a (λj a=>?_) (λj a=>?_)
     ·apply R.r;cases a;replace a:=p;apply R.r;cases a;replace a:=f;apply R.r;cases a;exact fz rfl rfl
     ·apply R.r;cases a;exact ⟨(),u,p,wk.le (by exact (.eq (.eq (.drop (.drop (.drop (.eq (.eq (.cons (leV.of_eq (xw (by omega) (by omega))) (.d16 (.d16 (.d16 (.d16 (.d16 (.d4 (.drop (.drop (.drop leL.nil))))))))))))))))))⟩
    ·apply R.r;cases a;exact ⟨(),w,f,wk.trans (wk.le (by exact (.eq (.eq (.drop (.drop (.drop (.cons (leV.of_eq (xw (by omega) (by omega))) (.d16 (.d16 (.d16 (.d16 (.d16 (.d4 (.d4 (.drop leL.nil)))))))))))))))) (yb (by simp [zP,AV.low]) rfl rfl (by simp [Blk.low,zP,AV.low]))⟩
  ·apply R.r;cases a;exact fz rfl rfl
theorem ok36 {a:Int}  (c:ref07Xmay t0 a=some res):Sp 36 [.sl 3 (t0.map GA.row),.int .i64 a] h (y5 (.bool res) h):=by
 obtain ⟨n,b⟩:=anyN_is c;exact ok36N n b
theorem ok15  (a:vW t0=some res):Sp 15 [.sl 3 (t0.map GA.row)] h (y5 (.bool res) h):=by
 unfold vW at a;refine zd Tryz.func15 rfl (by kernel_rfl) (xH 5 rfl) (R.r ?_);refine zo a (λc b a=>cp (ok36 b) (R.r ?_));cases a;exact fz rfl rfl
theorem ok37 {c:(List zi)} {a:Int} {res:zi}  (b:qb c a=some res):Sp 37 [.sl 1 (c.map zr),.int .u8 a] h (y5 (.str res) h):=by
 unfold qb at b;refine zd Tryz.func37 rfl (by kernel_rfl) (xH 12 rfl) (R.r ?_);refine yu [1] [] trivial mixed (by kernel_rfl) (R.r ?_);refine zo b (λk d b=>zR rfl rfl (λ_=>sc rfl) (by rintro _ ⟨B2,T2,rfl,j⟩;exact ok73 d) ss ?_);refine xu b (λg b=>zu rfl rfl (zX rfl gg rfl (uG g)) ss (R.r ?_));refine xu b (λe b=>zu rfl rfl (zI (es:=([(UInt8.ofNat a.toNat)]:List UInt8).map vN) rfl el120 ze5 rfl rfl (zn gg zA) (.cons (za rfl) .nil) rfl rfl (by simp only [uw,tR,vN,byte_of e];rfl)) ss ?_);refine xu b (λi b=>draw_b rfl rfl rfl (convB rfl el120.u ty5.u ty9.u gg (.inr ⟨_,za rfl⟩) i) ss ?_);refine xu b (λf b=>zu rfl rfl (zX rfl gg gg (uG f)) ss (R.r ?_));cases b;exact fz rfl rfl
theorem ok74 {a:GH} {res:GH}  (c:qs a=some res):Sp 74 [.agg (GH.row a)] h (y5 (.agg (GH.row res)) h):=by
 unfold qs at c;refine zd Tryz.func74 rfl (by kernel_rfl) (xH 16 rfl) (R.r ?_);refine yu [5,8] [] trivial mixed (by kernel_rfl) (R.r ?_);refine zo c (λd i c=>xh rfl (FOk.cons (.inr (yR trivial)) (FOk.cons (.inr (yR trivial)) FOk.nil)) (by rfl) rfl (sc rfl) (x5 (T':=[d.length]) (ok43 i) (m:=0) rfl rfl) ss (R.r ?_));refine zo c (λb e c=>zR rfl rfl (λ_=>sc rfl) (by rintro _ ⟨B2,T2,rfl,g⟩;exact ok109 e) ss (R.r ?_));refine zo c (λv3 f c=>zR rfl rfl (λ_=>sc rfl) (by rintro _ ⟨B2,T2,rfl,g⟩;exact ok109 f) ss (R.r ?_));refine yo rfl (FOk.cons (.inr (yR trivial)) (FOk.cons (.inr (yR trivial)) FOk.nil)) (by kernel_rfl) rfl (yc (cs':=[osA h 0 1 (d.map zr),.int .u8 a.typ,.bool a.had,.bool a.has,.int .u8 a.was.typ,.int .i64 a.was.n,.int .u64 a.was.time,.int .u8 a.was.dot.actor.rep,.int .u32 a.was.dot.actor.inc,.int .u64 a.was.dot.seq,.str a.was.text,.sl 5 (a.was.items.map GI.row),.sl 3 (a.was.tombs.map GF.row),.int .u8 a.is.typ,.int .i64 a.is.n,.int .u64 a.is.time,.int .u8 a.is.dot.actor.rep,.int .u32 a.is.dot.actor.inc,.int .u64 a.is.dot.seq,.str a.is.text,.sl 5 (a.is.items.map GI.row),.sl 3 (a.is.tombs.map GF.row)]) rfl ty45 gg gg (za rfl) rfl rfl rfl rfl rfl) rfl (R.r ?_);refine yo rfl (FOk.cons (.inr (yR trivial)) (FOk.cons (.inr (yR trivial)) FOk.nil)) (by kernel_rfl) rfl (yc (cs':=[osA h 0 1 (d.map zr),.int .u8 a.typ,.bool a.had,.bool a.has,.int .u8 b.typ,.int .i64 b.n,.int .u64 b.time,.int .u8 b.dot.actor.rep,.int .u32 b.dot.actor.inc,.int .u64 b.dot.seq,.str b.text,.sl 5 (b.items.map GI.row),.sl 3 (b.tombs.map GF.row),.int .u8 a.is.typ,.int .i64 a.is.n,.int .u64 a.is.time,.int .u8 a.is.dot.actor.rep,.int .u32 a.is.dot.actor.inc,.int .u64 a.is.dot.seq,.str a.is.text,.sl 5 (a.is.items.map GI.row),.sl 3 (a.is.tombs.map GF.row)]) rfl ty72.choose_spec.1 gg gg (za rfl) rfl rfl rfl rfl rfl) rfl (R.r ?_);refine yo rfl (FOk.cons (.inr (yR trivial)) (FOk.cons (.inr (yR trivial)) FOk.nil)) (by kernel_rfl) rfl (yc (cs':=[osA h 0 1 (d.map zr),.int .u8 a.typ,.bool a.had,.bool a.has,.int .u8 b.typ,.int .i64 b.n,.int .u64 b.time,.int .u8 b.dot.actor.rep,.int .u32 b.dot.actor.inc,.int .u64 b.dot.seq,.str b.text,.sl 5 (b.items.map GI.row),.sl 3 (b.tombs.map GF.row),.int .u8 v3.typ,.int .i64 v3.n,.int .u64 v3.time,.int .u8 v3.dot.actor.rep,.int .u32 v3.dot.actor.inc,.int .u64 v3.dot.seq,.str v3.text,.sl 5 (v3.items.map GI.row),.sl 3 (v3.tombs.map GF.row)]) rfl ty72.choose_spec.1 gg gg (za rfl) rfl rfl rfl rfl rfl) rfl (R.r ?_);cases c;exact fe rfl rfl (leV.agg (.cons (leV.osl _ _ _) (.eq (.eq (.eq (.eq (.eq (.eq (.eq (.eq (.eq (.eq (.eq (.eq (.eq (.eq (.eq (.eq (.eq (.eq (.eq (.eq (.eq leL.nil)))))))))))))))))))))) rfl)
def sort75TryzRen:Go.Shelf.Ren :=
  { f:=λx=>match x with
      | 6=>75
      | 15=>79
      | 14=>128
      | 28=>138
      | 29=>139
      | 20=>165
      | 21=>166
      | 22=>167
      | 23=>168
      | 24=>169
      | 25=>170
      | 26=>171
      | 27=>172
      | 46=>198
      | 47=>174
      | 48=>175
      | 49=>199
      | 50=>200
      | 57=>212
      | n=>n
    t:=λx=>match x with
      | 22=>35
      | 24=>79
      | 25=>123
      | 3=>3
      | 39=>126
      | 0=>0
      | 53=>64
      | 55=>63
      | 4=>4
      | 46=>179
      | 45=>178
      | 50=>151
      | 5=>5
      | 9=>9
      | 66=>206
      | 70=>210
      | 76=>228
      | 77=>43
      | n=>n
    g:=λn=>n }
theorem sort75TryzLays:Go.Proofs.SlLaysF0.n6 Tryz.prog sort75TryzRen where
  mixed:=mixed
  f6:=⟨Tryz.f75.name,by kernel_rfl,Tryz.func75.trans (by kernel_rfl)⟩
  f15:=Tryz.func79.trans (by kernel_rfl)
  f14:=⟨Tryz.f128.name,by kernel_rfl,Tryz.func128.trans (by kernel_rfl)⟩
  f28:=Tryz.func138.trans (by kernel_rfl)
  f29:=Tryz.func139.trans (by kernel_rfl)
  f20:=⟨Tryz.f165.name,by kernel_rfl,Tryz.func165.trans (by kernel_rfl)⟩
  f21:=⟨Tryz.f166.name,by kernel_rfl,Tryz.func166.trans (by kernel_rfl)⟩
  f22:=⟨Tryz.f167.name,by kernel_rfl,Tryz.func167.trans (by kernel_rfl)⟩
  f23:=⟨Tryz.f168.name,by kernel_rfl,Tryz.func168.trans (by kernel_rfl)⟩
  f24:=⟨Tryz.f169.name,by kernel_rfl,Tryz.func169.trans (by kernel_rfl)⟩
  f25:=⟨Tryz.f170.name,by kernel_rfl,Tryz.func170.trans (by kernel_rfl)⟩
  f26:=⟨Tryz.f171.name,by kernel_rfl,Tryz.func171.trans (by kernel_rfl)⟩
  f27:=⟨Tryz.f172.name,by kernel_rfl,Tryz.func172.trans (by kernel_rfl)⟩
  f46:=⟨Tryz.f198.name,by kernel_rfl,Tryz.func198.trans (by kernel_rfl)⟩
  f47:=Tryz.func174.trans (by kernel_rfl)
  f48:=Tryz.func175.trans (by kernel_rfl)
  f49:=⟨Tryz.f199.name,by kernel_rfl,Tryz.func199.trans (by kernel_rfl)⟩
  f50:=⟨Tryz.f200.name,by kernel_rfl,Tryz.func200.trans (by kernel_rfl)⟩
  f57:=⟨Tryz.f212.name,by kernel_rfl,Tryz.func212.trans (by kernel_rfl)⟩
  t0:=Tryz.underlying0
  a0:=Tryz.isAgg0
  z0:=Tryz.sizeOf0
  v0:=Tryz.zeroValue0
  t3:=Tryz.underlying3
  a3:=Tryz.isAgg3
  z3:=Tryz.sizeOf3
  v3:=Tryz.zeroValue3
  t4:=Tryz.underlying4
  a4:=Tryz.isAgg4
  z4:=Tryz.sizeOf4
  v4:=Tryz.zeroValue4
  t5:=Tryz.underlying5
  a5:=Tryz.isAgg5
  z5:=Tryz.sizeOf5
  v5:=Tryz.zeroValue5
  t9:=Tryz.underlying9
  a9:=Tryz.isAgg9
  z9:=Tryz.sizeOf9
  v9:=Tryz.zeroValue9
  t22:=Tryz.underlying35
  a22:=Tryz.isAgg35
  z22:=Tryz.sizeOf35
  v22:=Tryz.zeroValue35
  t25:=Tryz.underlying123
  a25:=Tryz.isAgg123
  z25:=Tryz.sizeOf123
  v25:=Tryz.zeroValue123
  t39:=Tryz.underlying126
  a39:=Tryz.isAgg126
  z39:=Tryz.sizeOf126
  v39:=Tryz.zeroValue126
  t45:=Tryz.underlying178
  a45:=Tryz.isAgg178
  z45:=Tryz.sizeOf178
  v45:=Tryz.zeroValue178
  t46:=Tryz.underlying179
  a46:=Tryz.isAgg179
  z46:=Tryz.sizeOf179
  v46:=Tryz.zeroValue179
  t50:=Tryz.underlying151
  a50:=Tryz.isAgg151
  z50:=Tryz.sizeOf151
  v50:=Tryz.zeroValue151
  t53:=Tryz.underlying64
  a53:=Tryz.isAgg64
  z53:=Tryz.sizeOf64
  v53:=Tryz.zeroValue64
  t55:=Tryz.underlying63
  a55:=Tryz.isAgg63
  z55:=Tryz.sizeOf63
  v55:=Tryz.zeroValue63
  t66:=Tryz.underlying206
  a66:=Tryz.isAgg206
  z66:=Tryz.sizeOf206
  v66:=Tryz.zeroValue206
  t70:=Tryz.underlying210
  a70:=Tryz.isAgg210
  z70:=Tryz.sizeOf210
  v70:=Tryz.zeroValue210
  t76:=Tryz.underlying228
  a76:=Tryz.isAgg228
  z76:=Tryz.sizeOf228
  v76:=Tryz.zeroValue228
  t77:=Tryz.underlying43
  a77:=Tryz.isAgg43
  z77:=Tryz.sizeOf43
  v77:=Tryz.zeroValue43
theorem ok38 {f:List (zi×GH)} {b:Nat} {res:(List GH)} (g:h.blk b=some (.mapo (f.map (wp AV.str (λx=>AV.agg (GH.row x)))) 0)) (e:qr f=some res):Sp 38 [.map b] h (y5 (.sl 22 (res.map GH.row)) h):=by
 unfold qr at e;refine zd Tryz.func38 rfl (by kernel_rfl) (env:=[.map b,aundef,aundef,aundef,aundef,aundef,aundef,aundef,aundef,aundef,aundef,aundef,aundef,aundef,aundef,aundef,aundef,aundef,aundef,aundef,aundef,aundef,aundef,aundef,aundef,aundef,aundef,aundef,aundef,aundef,aundef,aundef]) (by rfl) ?_;have a:=blk_lt g rfl;have c:∀k,b < h.blks.length+k:=λk=>th a (tV _ _);refine zk (zc ?_);refine zb rfl (zq rfl rfl (ty_nil el35)) st2 ?_;refine ze (zj (zk (zk (zc ?_))));refine zb rfl (zf rfl xW (za rfl)) st5 ?_;refine ops_rangeM (kv:=AV.str) (vv:=(λx=>AV.agg (GH.row x))) rfl rfl Tryz.underlying84 gt5 (blk_old g) rfl st6 rfl ?_;refine ze (zj (yh ?_));refine r_loopMF (λ(p:(List GH))=>[(0,.any),(1,.any),(2,rsA h 1 0 22 (p.length)),(3,.any),(4,.any),(5,.any),(7,.any),(8,.any),(9,.any),(10,.any),(11,.any),(12,.any),(13,.any),(14,.any),(15,.any),(16,.any),(17,.any),(18,.any),(19,.any),(20,.any),(21,.any),(22,.any),(23,.any),(24,.any),(25,.any),(26,.any),(27,.any),(28,.any),(29,.any),(30,.any),(31,.any)]) (λd p=>h.ext [.miter b f.length d,rwA h 0 22 (p.map GH.row)] [p.length]) e (λ_=>by simp only [vi,ug,uh];try rfl) (wk.trans ((vU gt2 rfl rfl st2 rfl rfl).wk) (wk.le (by exact (.drop (.drop (.cons (leV.of_eq rfl) (.drop (.drop (.drop (.eq (.d16 (.d4 (.d4 (.drop leL.nil)))))))))))))) ?_;intro d p e;refine zk (zc ?_);refine ops_nextMF rfl rfl vh rfl (blk_old g) st7 e (λz t D w q e u=>⟨_,st7,?_⟩) (λe=>?_)
 ·refine zb rfl (zN rfl qI rfl (za rfl)) st8 ?_;refine ze (zj (zk ?_));refine y4 gt8 (λ_=>?_) (λhh=>by cases hh);refine yl (zj (yh (zk (zc ?_))));refine ops_entryM rfl rfl vh rfl (blk_old g) w st9 ?_;refine zb rfl (zN rfl gt9 rfl (za rfl)) vD ?_;refine zb rfl (wS (n:=2) rfl ze79 rfl) st4 ?_;refine zb rfl (yc (cs':=(GH.row t.2)) rfl ty79.choose_spec.1 w5 vJ (za rfl) rfl rfl rfl rfl rfl) rfl ?_;refine ze (zj (zk (zc ?_)));refine zb rfl (zp rfl fo79x2 w5 rfl) vg ?_;refine zb rfl (zH rfl ty4 vd rfl (zD rfl) (za rfl)) st12 ?_;refine zb rfl (zp rfl fo79x3 w5 rfl) st13 ?_;refine zb rfl (zH rfl ty4 vR rfl (zD rfl) (za rfl)) st14 ?_;refine zb rfl (zX rfl qS gt14 (bin_boolE ty4)) qe ?_;refine zb rfl (zf rfl wR (za rfl)) qY ?_;refine yE rfl (λo=>zp rfl fo79x4 w5 rfl) qX ?_;refine yE rfl (λo=>zH rfl ty72.choose_spec.1 (yi qR o) rfl (z7 (cs':=(GE.row t.2.was)) ty72.choose_spec.2 rfl rfl) (za rfl)) st18 ?_;refine yE rfl (λo=>zp rfl fo79x5 w5 rfl) st19 ?_;refine yE rfl (λo=>zH rfl ty72.choose_spec.1 (yi gt19 o) rfl (z7 (cs':=(GE.row t.2.is)) ty72.choose_spec.2 rfl rfl) (za rfl)) st20 ?_;refine yw e (λC A e=>ya rfl (λo=>zC rfl rfl rfl (zg (yi gt18 o) (zg (yi gt20 o) zw)) (.cons (za rfl) (.cons (za rfl) .nil))) (λo=>ok65 (A o)) st21 ?_);refine zb rfl (qx rfl gt16 gt21 rfl (pick_and (λB=>gT B))) st22 ?_;refine zb rfl (s_un rfl gt22 rfl) st23 ?_;refine ze (zj ?_);refine zt gt23 e (λy e=>?_) (λy e=>?_)
  ·refine zc ?_;refine zb rfl (zf rfl gt2 (za rfl)) st24 ?_;refine zb rfl (zH rfl ty79.choose_spec.1 w5 rfl (z7 (cs':=(GH.row t.2)) ty79.choose_spec.2 rfl rfl) (za rfl)) st25 ?_;refine zo e (λv9 v e=>zT rfl (zC rfl rfl rfl (zg qJ zw) (.cons (za rfl) .nil)) (ok74 v) st26 ?_);refine zb rfl (zI (es:=([v9]:List GH).map GH.row) rfl el35 ze79 rfl rfl (zn gt26 zA) (.cons (za rfl) .nil) rfl rfl rfl) st27 ?_;refine xu e (λr e=>zb rfl (e_appR (i:=1) (j:=0) (B':=[.miter b f.length (d++[z]),rwA h 0 22 ((p++([v9]:List GH)).map GH.row),.cells (GH.row t.2)]) (T':=[((p++([v9]:List GH))).length]) rfl rfl rfl rfl el35 el35 gt24 gt27 rfl (za rfl) xL r rfl rfl rfl rfl rfl) st28 ?_);refine zb rfl (zq rfl gt28 (za rfl)) st2 ?_;refine ze (yK (xd ?_));obtain rfl:=uj e;exact ⟨z,(p++([v9]:List GH)),q,u,wk.trans (wk.le (by exact (.drop (.drop (.cons (leV.of_eq rfl) (.drop (.drop (.drop (.eq (.d16 (.d4 (.d4 (.drop leL.nil))))))))))))) (yb (by simp [zP,AV.low,a,c]) rfl rfl (by simp [Blk.low,zP,AV.low,a,c]))⟩
  ·refine yl (yK (xd ?_));obtain rfl:=uj e;exact ⟨z,p,q,u,wk.trans (wk.le (by exact (.drop (.drop (.cons (leV.of_eq rfl) (.drop (.drop (.drop (.eq (.d16 (.d4 (.d4 (.drop leL.nil))))))))))))) (yb (by simp [zP,AV.low,a,c]) rfl rfl (by simp [Blk.low,zP,AV.low,a,c]))⟩
 ·refine zb rfl (zN rfl qI rfl (za rfl)) st8 ?_;refine ze (zj (zk ?_));refine y4 gt8 (λhh=>by cases hh) (λ_=>wn ?_);refine yr ?_;refine ym ?_;refine yn ?_;refine zj (zk (zc ?_));refine zb rfl (zf rfl gt2 (za rfl)) st29 ?_;refine zo e (λs l e=>y8 rfl (zC rfl rfl rfl (zg gt29 (zg rfl zw)) (.cons (za rfl) (.cons (za rfl) .nil))) (qZ sort75TryzLays Tryz.isAgg79 Tryz.sizeOf79 (λ_=>rfl) (λ_=>rfl) (λ_=>by simp [plL,AV.pl,plE_map,zr,intRow,vN,boolRow,GK.row,GF.row,GI.row,GE.row,GJ.row,GC.row,GH.row]) (enters_fn Tryz.func76 rfl (by kernel_rfl)) (λ_ _ _ h=>ok76 h) l (i:=1) (B':=[.miter b f.length d,rwA h 0 22 (s.map GH.row)]) rfl rfl) st30 ?_);refine ze ?_;refine q_seqw ((vl (j:=1) (m:=0) (B':=[.miter b f.length d,.dead]) (T':=[(s.map GH.row).length+1]) rfl (by exact (FzL.cons (FzA.same _) (FzL.cons (FzA.same _) (FzL.cons (FzA.hit2 _ _ (by rw [ut];exact pn (vE l))) (FzL.cons (FzA.same _) (FzL.cons (FzA.same _) (FzL.cons (FzA.same _) (FzL.cons (FzA.same _) (FzL.cons (FzA.same _) (FzL.cons (FzA.same _) (FzL.cons (FzA.same _) (FzL.cons (FzA.same _) (FzL.cons (FzA.same _) (FzL.cons (FzA.same _) (FzL.cons (FzA.same _) (FzL.cons (FzA.same _) (FzL.cons (FzA.same _) (FzL.cons (FzA.same _) (FzL.cons (FzA.same _) (FzL.cons (FzA.same _) (FzL.cons (FzA.same _) (FzL.cons (FzA.same _) (FzL.cons (FzA.same _) (FzL.cons (FzA.same _) (FzL.cons (FzA.same _) (FzL.cons (FzA.same _) (FzL.cons (FzA.same _) (FzL.cons (FzA.same _) (FzL.cons (FzA.same _) (FzL.cons (FzA.same _) (FzL.cons (FzA.hit2 _ _ (by rw [ut];exact pn (vE l))) (FzL.refl _)))))))))))))))))))))))))))))))) rfl rfl).wk) ?_;refine zk (zc ?_);refine zb rfl (zf rfl gt2 (za rfl)) st31 ?_;refine zb rfl (zq rfl gt31 (za rfl)) st2 ?_;refine ze (zj (xr ?_));obtain rfl:=uj e;refine yJ rfl (yy gt2 yD) (fin_ext (leV.refl _) rfl ?_);exact ⟨rfl,rfl⟩
theorem ok16 {a0:(List GA)} {K:(List GA)} {res:((List GH)×Int)}  (c:diffDiff a0 K=some res):Sp 16 [.sl 3 (a0.map GA.row),.sl 3 (K.map GA.row)] h (y5 (.tup [.sl 22 (res.1.map GH.row),.int .i64 res.2]) h):=by
 unfold diffDiff at c;refine zd Tryz.func16 rfl (by kernel_rfl) (xH 81 rfl) (R.r ?_);refine zo c (λS B c=>cp (ok24 B) (R.r ?_));refine yw c (λV D c=>ya rfl sc (λP=>ok24 (D P)) ss (R.r ?_));refine zt gg c (λJ c=>?_) (λJ c=>?_)
 ·apply R.r;cases c;exact fe rfl rfl (leV.tup (.cons (leV.osl _ _ _) (.eq leL.nil)))
 ·apply R.r;refine zb rfl (e_makeMap (n:=0) rfl rfl) ss (R.r ?_);refine zo c (λv4 C c=>cp (ok26 C) ?_);refine ln λl=>?_;replace l:=yz l;apply R.r;refine zU (λ(L:Nat) (u:List (zi×GH))=>zK 2 4 (zK 7 15 (zK 25 56 [(0,.any),(24,.int .i64 (L:Int))]))) (λu=>h.ext [.mapo (u.map (wp AV.str (λx=>AV.agg (GH.row x)))) 0] []) c (λ_ _=>by simp only [zK,vi,ug,uh];try rfl) (wk.le LEL.o) ?_;intro L u N c;apply R.r;refine zZ gg c (λf U H G c I=>?_) (λc=>?_)
  ·apply R.r;refine ix (yd G) (R.r ?_);refine yu [6] [] trivial mixed (by kernel_rfl) (R.r ?_);refine zo c (λz y c=>zR rfl rfl (λ_=>sc rfl) (by rintro _ ⟨B2,T2,rfl,g⟩;exact ok37 y) ss (R.r ?_));refine zu rfl rfl (yB (cs':=[.sl 1 (f.path.map zr),.int .u8 f.leaf.typ,.bool true,.bool false,.int .u8 f.leaf.typ,.int .i64 f.leaf.n,.int .u64 f.leaf.time,.int .u8 f.leaf.dot.actor.rep,.int .u32 f.leaf.dot.actor.inc,.int .u64 f.leaf.dot.seq,.str f.leaf.text,.sl 5 (f.leaf.items.map GI.row),.sl 3 (f.leaf.tombs.map GF.row),.int .u8 (0:Int),.int .i64 (0:Int),.int .u64 (0:Int),.int .u8 (0:Int),.int .u32 (0:Int),.int .u64 (0:Int),.str ([]:zi),.osl none 5 (([]:List GI).map GI.row),.osl none 3 (([]:List GF).map GF.row)]) rfl su79 ze79 pl79 (zn gg (zn gg (zn rfl (zn gg zA)))) (.cons (za rfl) (.cons (za rfl) (.cons (za rfl) (.cons (za rfl) .nil)))) rfl rfl) ss ?_;refine yo rfl (FOk.cons (.inr (yR trivial)) FOk.nil) (by kernel_rfl) rfl (e_mapPut (m:=u) (k:=z) (v:=(GH.mk f.path f.leaf.typ true false f.leaf yv)) (j:=0) (kv:=AV.str) (vv:=(λx=>AV.agg (GH.row x))) rfl Tryz.underlying84 kq9 gg rfl gg gg rfl rfl) rfl (R.r ?_);cases c;exact ⟨(xS (λa b=>a==b) u z (GH.mk f.path f.leaf.typ true false f.leaf yv)),H,I,wk.trans (wk.le (by exact (.drop (.eq (.d4 (.eq (.d4 (.d4 (.d4 (.drop (.drop (.drop (.eq (.eq (.cons (leV.of_eq (xw (by omega) (by omega))) (.d16 (.d16 (.d16 (.d4 (.d4 leL.nil)))))))))))))))))))) (yb (by simp [zP,AV.low]) rfl rfl (by simp [Blk.low,zP,AV.low,GH.row,wp]))⟩
  ·apply R.r;refine zo c (λO w c=>cp (ok26 w) ?_);refine ln λi=>?_;replace i:=yz i;apply R.r;refine zU (λ(M:Nat) (s2:List (zi×GH))=>zK 0 6 (zK 7 38 (zK 48 33 [(47,.int .i64 (M:Int))]))) (λs2=>h.ext [.mapo (s2.map (wp AV.str (λx=>AV.agg (GH.row x)))) 0] []) c (λ_ _=>by simp only [zK,vi,ug,uh];try rfl) (wk.le LEL.o) ?_;intro M s2 Q c;apply R.r;refine zZ gg c (λe T E A c F=>?_) (λc=>?_)
   ·apply R.r;refine ix (yd A) (R.r ?_);refine zo c (λv20 t c=>cp (ok37 t) ?_);refine zb rfl (e_lookup (m:=s2) (k:=v20) (d:=(GH.mk ([]:List zi) (0:Int) false false yv yv)) (j:=0) (kv:=AV.str) (vv:=(λx=>AV.agg (GH.row x))) rfl Tryz.underlying84 kq9 az79 gg rfl gg) ss (R.r ?_);refine yu [4,6] [(4,[(1,.cells (GJ.row e))]),(6,[(1,.cells (GJ.row e))])] ⟨⟨rfl,trivial⟩,⟨rfl,trivial⟩,trivial⟩ mixed (by kernel_rfl) (R.r ?_);refine draw_okN rfl rfl (by rintro _ ⟨B2,T2,rfl,g⟩;exact zH rfl ty5 gg (keeps1 g) (zD rfl) (za rfl)) ss (R.r ?_);refine draw_okN rfl rfl (by rintro _ ⟨B2,T2,rfl,g⟩;exact zH rfl ty72.choose_spec.1 gg (keeps1 g) (z7 (cs':=(GE.row e.leaf)) ty72.choose_spec.2 rfl rfl) (za rfl)) ss (R.r ?_);refine yo rfl (FOk.cons (.inr (yR ⟨rfl,trivial⟩)) (FOk.cons (.inr (yR ⟨rfl,trivial⟩)) FOk.nil)) (by kernel_rfl) rfl (yc (cs':=[.sl 1 (e.path.map zr),.int .u8 ((zz (λa b=>a==b) (GH.mk ([]:List zi) (0:Int) false false yv yv) s2 v20).typ),.bool ((zz (λa b=>a==b) (GH.mk ([]:List zi) (0:Int) false false yv yv) s2 v20).had),.bool ((zz (λa b=>a==b) (GH.mk ([]:List zi) (0:Int) false false yv yv) s2 v20).has),.int .u8 ((zz (λa b=>a==b) (GH.mk ([]:List zi) (0:Int) false false yv yv) s2 v20).was.typ),.int .i64 ((zz (λa b=>a==b) (GH.mk ([]:List zi) (0:Int) false false yv yv) s2 v20).was.n),.int .u64 ((zz (λa b=>a==b) (GH.mk ([]:List zi) (0:Int) false false yv yv) s2 v20).was.time),.int .u8 ((zz (λa b=>a==b) (GH.mk ([]:List zi) (0:Int) false false yv yv) s2 v20).was.dot.actor.rep),.int .u32 ((zz (λa b=>a==b) (GH.mk ([]:List zi) (0:Int) false false yv yv) s2 v20).was.dot.actor.inc),.int .u64 ((zz (λa b=>a==b) (GH.mk ([]:List zi) (0:Int) false false yv yv) s2 v20).was.dot.seq),.str ((zz (λa b=>a==b) (GH.mk ([]:List zi) (0:Int) false false yv yv) s2 v20).was.text),.sl 5 (((zz (λa b=>a==b) (GH.mk ([]:List zi) (0:Int) false false yv yv) s2 v20).was.items).map GI.row),.sl 3 (((zz (λa b=>a==b) (GH.mk ([]:List zi) (0:Int) false false yv yv) s2 v20).was.tombs).map GF.row),.int .u8 ((zz (λa b=>a==b) (GH.mk ([]:List zi) (0:Int) false false yv yv) s2 v20).is.typ),.int .i64 ((zz (λa b=>a==b) (GH.mk ([]:List zi) (0:Int) false false yv yv) s2 v20).is.n),.int .u64 ((zz (λa b=>a==b) (GH.mk ([]:List zi) (0:Int) false false yv yv) s2 v20).is.time),.int .u8 ((zz (λa b=>a==b) (GH.mk ([]:List zi) (0:Int) false false yv yv) s2 v20).is.dot.actor.rep),.int .u32 ((zz (λa b=>a==b) (GH.mk ([]:List zi) (0:Int) false false yv yv) s2 v20).is.dot.actor.inc),.int .u64 ((zz (λa b=>a==b) (GH.mk ([]:List zi) (0:Int) false false yv yv) s2 v20).is.dot.seq),.str ((zz (λa b=>a==b) (GH.mk ([]:List zi) (0:Int) false false yv yv) s2 v20).is.text),.sl 5 (((zz (λa b=>a==b) (GH.mk ([]:List zi) (0:Int) false false yv yv) s2 v20).is.items).map GI.row),.sl 3 (((zz (λa b=>a==b) (GH.mk ([]:List zi) (0:Int) false false yv yv) s2 v20).is.tombs).map GF.row)]) rfl ty45 gg gg (za rfl) rfl rfl rfl rfl rfl) rfl (R.r ?_);refine yo rfl (FOk.cons (.inr (yR ⟨rfl,trivial⟩)) (FOk.cons (.inr (yR ⟨rfl,trivial⟩)) FOk.nil)) (by kernel_rfl) rfl (yc (cs':=[.sl 1 (e.path.map zr),.int .u8 e.leaf.typ,.bool ((zz (λa b=>a==b) (GH.mk ([]:List zi) (0:Int) false false yv yv) s2 v20).had),.bool ((zz (λa b=>a==b) (GH.mk ([]:List zi) (0:Int) false false yv yv) s2 v20).has),.int .u8 ((zz (λa b=>a==b) (GH.mk ([]:List zi) (0:Int) false false yv yv) s2 v20).was.typ),.int .i64 ((zz (λa b=>a==b) (GH.mk ([]:List zi) (0:Int) false false yv yv) s2 v20).was.n),.int .u64 ((zz (λa b=>a==b) (GH.mk ([]:List zi) (0:Int) false false yv yv) s2 v20).was.time),.int .u8 ((zz (λa b=>a==b) (GH.mk ([]:List zi) (0:Int) false false yv yv) s2 v20).was.dot.actor.rep),.int .u32 ((zz (λa b=>a==b) (GH.mk ([]:List zi) (0:Int) false false yv yv) s2 v20).was.dot.actor.inc),.int .u64 ((zz (λa b=>a==b) (GH.mk ([]:List zi) (0:Int) false false yv yv) s2 v20).was.dot.seq),.str ((zz (λa b=>a==b) (GH.mk ([]:List zi) (0:Int) false false yv yv) s2 v20).was.text),.sl 5 (((zz (λa b=>a==b) (GH.mk ([]:List zi) (0:Int) false false yv yv) s2 v20).was.items).map GI.row),.sl 3 (((zz (λa b=>a==b) (GH.mk ([]:List zi) (0:Int) false false yv yv) s2 v20).was.tombs).map GF.row),.int .u8 ((zz (λa b=>a==b) (GH.mk ([]:List zi) (0:Int) false false yv yv) s2 v20).is.typ),.int .i64 ((zz (λa b=>a==b) (GH.mk ([]:List zi) (0:Int) false false yv yv) s2 v20).is.n),.int .u64 ((zz (λa b=>a==b) (GH.mk ([]:List zi) (0:Int) false false yv yv) s2 v20).is.time),.int .u8 ((zz (λa b=>a==b) (GH.mk ([]:List zi) (0:Int) false false yv yv) s2 v20).is.dot.actor.rep),.int .u32 ((zz (λa b=>a==b) (GH.mk ([]:List zi) (0:Int) false false yv yv) s2 v20).is.dot.actor.inc),.int .u64 ((zz (λa b=>a==b) (GH.mk ([]:List zi) (0:Int) false false yv yv) s2 v20).is.dot.seq),.str ((zz (λa b=>a==b) (GH.mk ([]:List zi) (0:Int) false false yv yv) s2 v20).is.text),.sl 5 (((zz (λa b=>a==b) (GH.mk ([]:List zi) (0:Int) false false yv yv) s2 v20).is.items).map GI.row),.sl 3 (((zz (λa b=>a==b) (GH.mk ([]:List zi) (0:Int) false false yv yv) s2 v20).is.tombs).map GF.row)]) rfl ty5 gg gg (za rfl) rfl rfl rfl rfl rfl) rfl (R.r ?_);refine yo rfl (FOk.cons (.inr (yR ⟨rfl,trivial⟩)) (FOk.cons (.inr (yR ⟨rfl,trivial⟩)) FOk.nil)) (by kernel_rfl) rfl (yc (cs':=[.sl 1 (e.path.map zr),.int .u8 e.leaf.typ,.bool ((zz (λa b=>a==b) (GH.mk ([]:List zi) (0:Int) false false yv yv) s2 v20).had),.bool true,.int .u8 ((zz (λa b=>a==b) (GH.mk ([]:List zi) (0:Int) false false yv yv) s2 v20).was.typ),.int .i64 ((zz (λa b=>a==b) (GH.mk ([]:List zi) (0:Int) false false yv yv) s2 v20).was.n),.int .u64 ((zz (λa b=>a==b) (GH.mk ([]:List zi) (0:Int) false false yv yv) s2 v20).was.time),.int .u8 ((zz (λa b=>a==b) (GH.mk ([]:List zi) (0:Int) false false yv yv) s2 v20).was.dot.actor.rep),.int .u32 ((zz (λa b=>a==b) (GH.mk ([]:List zi) (0:Int) false false yv yv) s2 v20).was.dot.actor.inc),.int .u64 ((zz (λa b=>a==b) (GH.mk ([]:List zi) (0:Int) false false yv yv) s2 v20).was.dot.seq),.str ((zz (λa b=>a==b) (GH.mk ([]:List zi) (0:Int) false false yv yv) s2 v20).was.text),.sl 5 (((zz (λa b=>a==b) (GH.mk ([]:List zi) (0:Int) false false yv yv) s2 v20).was.items).map GI.row),.sl 3 (((zz (λa b=>a==b) (GH.mk ([]:List zi) (0:Int) false false yv yv) s2 v20).was.tombs).map GF.row),.int .u8 ((zz (λa b=>a==b) (GH.mk ([]:List zi) (0:Int) false false yv yv) s2 v20).is.typ),.int .i64 ((zz (λa b=>a==b) (GH.mk ([]:List zi) (0:Int) false false yv yv) s2 v20).is.n),.int .u64 ((zz (λa b=>a==b) (GH.mk ([]:List zi) (0:Int) false false yv yv) s2 v20).is.time),.int .u8 ((zz (λa b=>a==b) (GH.mk ([]:List zi) (0:Int) false false yv yv) s2 v20).is.dot.actor.rep),.int .u32 ((zz (λa b=>a==b) (GH.mk ([]:List zi) (0:Int) false false yv yv) s2 v20).is.dot.actor.inc),.int .u64 ((zz (λa b=>a==b) (GH.mk ([]:List zi) (0:Int) false false yv yv) s2 v20).is.dot.seq),.str ((zz (λa b=>a==b) (GH.mk ([]:List zi) (0:Int) false false yv yv) s2 v20).is.text),.sl 5 (((zz (λa b=>a==b) (GH.mk ([]:List zi) (0:Int) false false yv yv) s2 v20).is.items).map GI.row),.sl 3 (((zz (λa b=>a==b) (GH.mk ([]:List zi) (0:Int) false false yv yv) s2 v20).is.tombs).map GF.row)]) rfl ty4 gg rfl (za rfl) rfl rfl rfl rfl rfl) rfl (R.r ?_);refine yo rfl (FOk.cons (.inr (yR ⟨rfl,trivial⟩)) (FOk.cons (.inr (yR ⟨rfl,trivial⟩)) FOk.nil)) (by kernel_rfl) rfl (yc (cs':=[.sl 1 (e.path.map zr),.int .u8 e.leaf.typ,.bool ((zz (λa b=>a==b) (GH.mk ([]:List zi) (0:Int) false false yv yv) s2 v20).had),.bool true,.int .u8 ((zz (λa b=>a==b) (GH.mk ([]:List zi) (0:Int) false false yv yv) s2 v20).was.typ),.int .i64 ((zz (λa b=>a==b) (GH.mk ([]:List zi) (0:Int) false false yv yv) s2 v20).was.n),.int .u64 ((zz (λa b=>a==b) (GH.mk ([]:List zi) (0:Int) false false yv yv) s2 v20).was.time),.int .u8 ((zz (λa b=>a==b) (GH.mk ([]:List zi) (0:Int) false false yv yv) s2 v20).was.dot.actor.rep),.int .u32 ((zz (λa b=>a==b) (GH.mk ([]:List zi) (0:Int) false false yv yv) s2 v20).was.dot.actor.inc),.int .u64 ((zz (λa b=>a==b) (GH.mk ([]:List zi) (0:Int) false false yv yv) s2 v20).was.dot.seq),.str ((zz (λa b=>a==b) (GH.mk ([]:List zi) (0:Int) false false yv yv) s2 v20).was.text),.sl 5 (((zz (λa b=>a==b) (GH.mk ([]:List zi) (0:Int) false false yv yv) s2 v20).was.items).map GI.row),.sl 3 (((zz (λa b=>a==b) (GH.mk ([]:List zi) (0:Int) false false yv yv) s2 v20).was.tombs).map GF.row),.int .u8 e.leaf.typ,.int .i64 e.leaf.n,.int .u64 e.leaf.time,.int .u8 e.leaf.dot.actor.rep,.int .u32 e.leaf.dot.actor.inc,.int .u64 e.leaf.dot.seq,.str e.leaf.text,.sl 5 (e.leaf.items.map GI.row),.sl 3 (e.leaf.tombs.map GF.row)]) rfl ty72.choose_spec.1 gg gg (za rfl) rfl rfl rfl rfl rfl) rfl (R.r ?_);refine yu [6] [] trivial mixed (by kernel_rfl) (R.r ?_);refine zo c (λp s c=>zR rfl rfl (λ_=>sc rfl) (by rintro _ ⟨B2,T2,rfl,g⟩;exact ok37 s) ss (R.r ?_));refine yo rfl (FOk.cons (.inr (yR trivial)) FOk.nil) (by kernel_rfl) rfl (e_mapPut (m:=s2) (k:=p) (v:=(GH.mk e.path e.leaf.typ ((zz (λa b=>a==b) (GH.mk ([]:List zi) (0:Int) false false yv yv) s2 v20).had) true ((zz (λa b=>a==b) (GH.mk ([]:List zi) (0:Int) false false yv yv) s2 v20).was) e.leaf)) (j:=0) (kv:=AV.str) (vv:=(λx=>AV.agg (GH.row x))) rfl Tryz.underlying84 kq9 gg rfl gg gg rfl rfl) rfl (R.r ?_);cases c;exact ⟨(xS (λa b=>a==b) s2 p (GH.mk e.path e.leaf.typ ((zz (λa b=>a==b) (GH.mk ([]:List zi) (0:Int) false false yv yv) s2 v20).had) true ((zz (λa b=>a==b) (GH.mk ([]:List zi) (0:Int) false false yv yv) s2 v20).was) e.leaf)),E,F,wk.trans (wk.le (by exact (.d4 (.drop (.drop (.eq (.d16 (.d16 (.d4 (.drop (.drop (.eq (.eq (.cons (leV.of_eq (xw (by omega) (by omega))) (.d16 (.d16 (.drop leL.nil))))))))))))))))) (yb (by simp [zP,AV.low]) rfl rfl (by simp [Blk.low,zP,AV.low,GH.row,wp]))⟩
   ·apply R.r;refine zo c (λv22 q c=>cp (ok38 (n_blk rfl rfl) q) (R.r ?_));cases c;exact fz rfl rfl
end Go.Vv
