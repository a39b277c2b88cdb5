/- Each function that the law reaches computes what its reading says; printed by a program. -/
import Derived.Test.YtmpfjlkfmckohaaGreatW1
set_option linter.all false
namespace Go.Vv
open Go Go.Proofs
set_option maxRecDepth 100000
set_option synthInstance.maxSize 100000
set_option synthInstance.maxHeartbeats 1000000
set_option maxHeartbeats 1000000
variable {t0:(List GA)} {res:Bool} {h:AH} {l0:GE} {e0:GC}
theorem ok53N (n:Nat):∀{t0:(List GA)} {b:Int} {res:Bool} {h:AH} , vt n t0 b=some res->Sp 53 [.sl 3 (t0.map GA.row),.int .i64 b] h (yW (.bool res) h):=by
 induction n with
 | zero=>intro t0 b res h  a;simp [vt] at a
 | succ n ih =>
  intro t0 b res h  a;unfold vt at a;refine zd Tryz.func53 rfl (by kernel_rfl) (xR 89 rfl) (R.r ?_);refine ln λi=>?_;replace i:=yA i;apply R.r;refine zt gg a (λx a=>?_) (λx a=>?_)
  ·apply R.r;cases a;exact fz rfl rfl
  ·apply R.r;refine ln λm=>?_;replace m:=yA m;apply R.r;refine zY (λ(B:Nat) (A:Unit)=>zJ 2 14 (zJ 19 70 [(18,.int .i64 (B:Int))])) (λA=>h.ext [] []) a (λ_ _=>by simp only [zJ,qB,um,un];try rfl) (wk.le LEL.o) ?_;intro B A D a;apply R.r;refine ya gg a (λz H y w a e=>?_) (λa=>?_)
   ·apply R.r;refine za rfl (yR rfl el33 gg gg isl (yb w) (GA.row_eq _)) ss (R.r ?_);refine yB [2] [] trivial mixed (by kernel_rfl) (R.r ?_);refine zq a (λv27 q a=>zO rfl rfl (λ_=>sc rfl) (by rintro _ ⟨B2,T2,rfl,t⟩;exact ok36 q) ss (R.r ?_));refine xU a (λj a=>wz rfl (aG_gv rfl rfl rfl) (λc=>vY default rfl el33 (zX gg c) (zX gg c) isl (j c) (GA.row_eq _)) ss (R.r ?_));refine draw_glen rfl rfl (λc=>yU rfl rfl rfl rfl el68 (zX gg c) vN) ss (R.r ?_);refine draw_glen rfl rfl (λc=>yU rfl rfl rfl rfl el33 (zX gg c) vN) ss (R.r ?_);refine yE a (λv31 f a=>qk rfl rfl sc (λc=>ih (f c)) ss (R.r ?_));refine zt gg a (λk a=>?_) (λk a=>?_)
    ·apply R.r;cases a;replace a:=e;apply R.r;cases a;exact fz rfl rfl
    ·apply R.r;refine ln λd=>?_;replace d:=yA d;apply R.r;refine zY (λ(C:Nat) (s2:Unit)=>zJ 2 4 (zJ 7 9 (zJ 19 42 (zJ 64 25 [(63,.int .i64 (C:Int))])))) (λs2=>h.ext [.cells [.str z.name,.sl 9 (z.leaves.map GE.row),.sl 3 (z.subs.map GA.row)]] []) a (λ_ _=>by simp only [zJ,qB,um,un];try rfl) (wk.le LEL.o) ?_;intro C s2 E a;apply R.r;refine ya gg a (λI G v u a l=>?_) (λa=>?_)
     ·apply R.r;refine ix (yb u) (R.r ?_);refine yB [1] [] trivial mixed (by kernel_rfl) (R.r ?_);refine zq a (λF g a=>zO rfl rfl (λ_=>sc rfl) (by rintro _ ⟨B2,T2,rfl,t⟩;exact ok82 g) ss (R.r ?_));refine xU a (λs a=>dgix s (R.r ?_));refine zt gg a (λp a=>?_) (λp a=>?_)
      ·apply R.r;cases a;replace a:=l;apply R.r;cases a;replace a:=e;apply R.r;cases a;exact fz rfl rfl
      ·apply R.r;cases a;exact ⟨(),v,l,wk.trans (wk.le (by exact (.eq (.eq (.d4 (.eq (.d4 (.d4 (.drop (.eq (.eq (.eq (.d16 (.d16 (.d4 (.d4 (.drop (.drop (.eq (.eq (.cons (leV.of_eq (xC (by omega) (by omega))) (.d16 (.d4 (.d4 (.drop leL.nil))))))))))))))))))))))))) (yk (by simp [zG,AV.low]) rfl rfl (by simp [Blk.low,zG,AV.low]))⟩
     ·apply R.r;cases a;exact ⟨(),y,e,wk.trans (wk.le (by exact (.eq (.eq (.d4 (.d4 (.d4 (.drop (.drop (.eq (.eq (.cons (leV.of_eq (xC (by omega) (by omega))) (.d16 (.d16 (.d16 (.d16 (.d4 (.drop (.drop leL.nil))))))))))))))))))) (yk (by simp [zG,AV.low]) rfl rfl (by simp [Blk.low,zG,AV.low]))⟩
   ·apply R.r;cases a;exact fz rfl rfl
theorem ok53 {a:Int}  (c:treeXmay t0 a=some res):Sp 53 [.sl 3 (t0.map GA.row),.int .i64 a] h (yW (.bool res) h):=by
 obtain ⟨n,b⟩:=anyN_is c;exact ok53N n b
theorem ok30  (a:vg t0=some res):Sp 30 [.sl 3 (t0.map GA.row)] h (yW (.bool res) h):=by
 unfold vg at a;refine zd Tryz.func30 rfl (by kernel_rfl) (xR 5 rfl) (R.r ?_);refine zq a (λc b a=>cp (ok53 b) (R.r ?_));cases a;exact fz rfl rfl
theorem ok38 {res:(List GK)}  (a:vA t0=some res):Sp 38 [.sl 3 (t0.map GA.row)] h (yW (.sl 10 (res.map GK.row)) h):=by
 unfold vA at a;refine zd Tryz.func38 rfl (by kernel_rfl) (xR 9 rfl) (R.r ?_);refine zq a (λt c a=>cp (ok30 c) (R.r ?_));refine zt gg a (λi a=>?_) (λi a=>?_)
 ·apply R.r;cases a;exact fe rfl rfl (leV.osl _ _ _)
 ·apply R.r;refine zq a (λv3 f a=>xI rfl (sc rfl) (clo_ext rfl (n:=0) (B':=[.cells [.sl 3 (v3.1.map GA.row)],.cells [.sl 1 (v3.2.map zI)]]) (caps:=[.ptr (h.blks.length+0) 0,.ptr (h.blks.length+1) 0]) ((ok75 f).le (.eq (.cons (leV.osl _ _ _) leL.nil))) rfl rfl rfl) ss ?_);refine zq a (λv4 d a=>cp (ok74 (λS Hy nb nt p b l k y m g o s q a=>ok96 p b l g o (λs=>by obtain ⟨L,M,e⟩:=k s;rw [e];exact n_blk2 (j:=0) rfl rfl) (λs=>by obtain ⟨L,M,e⟩:=k s;rw [e];exact n_blk2 (j:=1) rfl rfl) a) d) (R.r ?_));cases a;exact fz rfl rfl
def joinTryzRen:Go.Shelf.Ren :=
  { f:=λx=>match x with
      | 156=>48
      | 165=>85
      | 166=>86
      | 169=>87
      | 240=>114
      | 241=>115
      | 276=>146
      | 277=>147
      | n=>n
    t:=λx=>match x with
      | 0=>0
      | 3=>3
      | 4=>4
      | 9=>9
      | 20=>20
      | 31=>29
      | 37=>23
      | 70=>144
      | 72=>146
      | 75=>149
      | 76=>150
      | 127=>174
      | 164=>197
      | 5=>5
      | 80=>152
      | n=>n
    g:=λn=>n }
theorem joinTryzLays:Go.Proofs.Lays.n156 Tryz.prog joinTryzRen where
  mixed:=mixed
  f156:=Tryz.func48.trans (by kernel_rfl)
  f165:=Tryz.func85.trans (by kernel_rfl)
  f166:=Tryz.func86.trans (by kernel_rfl)
  f169:=Tryz.func87.trans (by kernel_rfl)
  f240:=Tryz.func114.trans (by kernel_rfl)
  f241:=Tryz.func115.trans (by kernel_rfl)
  f276:=Tryz.func146.trans (by kernel_rfl)
  f277:=Tryz.func147.trans (by kernel_rfl)
  t0:=Tryz.underlying0
  a0:=Tryz.isAgg0
  z0:=Tryz.sizeOf0
  v0:=Tryz.zeroValue0
  t3:=Tryz.underlying3
  a3:=Tryz.isAgg3
  z3:=Tryz.sizeOf3
  v3:=Tryz.zeroValue3
  t4:=Tryz.underlying4
  a4:=Tryz.isAgg4
  z4:=Tryz.sizeOf4
  v4:=Tryz.zeroValue4
  t9:=Tryz.underlying9
  a9:=Tryz.isAgg9
  z9:=Tryz.sizeOf9
  v9:=Tryz.zeroValue9
  t20:=Tryz.underlying20
  a20:=Tryz.isAgg20
  z20:=Tryz.sizeOf20
  v20:=Tryz.zeroValue20
  t31:=Tryz.underlying29
  a31:=Tryz.isAgg29
  z31:=Tryz.sizeOf29
  v31:=Tryz.zeroValue29
  t37:=Tryz.underlying23
  a37:=Tryz.isAgg23
  z37:=Tryz.sizeOf23
  v37:=Tryz.zeroValue23
  t70:=Tryz.underlying144
  a70:=Tryz.isAgg144
  z70:=Tryz.sizeOf144
  v70:=Tryz.zeroValue144
  t72:=Tryz.underlying146
  a72:=Tryz.isAgg146
  z72:=Tryz.sizeOf146
  v72:=Tryz.zeroValue146
  t75:=Tryz.underlying149
  a75:=Tryz.isAgg149
  z75:=Tryz.sizeOf149
  v75:=Tryz.zeroValue149
  t76:=Tryz.underlying150
  a76:=Tryz.isAgg150
  z76:=Tryz.sizeOf150
  v76:=Tryz.zeroValue150
  t127:=Tryz.underlying174
  a127:=Tryz.isAgg174
  z127:=Tryz.sizeOf174
  v127:=Tryz.zeroValue174
  t164:=Tryz.underlying197
  a164:=Tryz.isAgg197
  z164:=Tryz.sizeOf197
  v164:=Tryz.zeroValue197
theorem joinTryzExtra:Go.Proofs.Builder.Extra Tryz.prog joinTryzRen where
  sizeBuilder:=by kernel_rfl
  liesBuilder:=by kernel_rfl
  t5:=Tryz.underlying5
  a5:=Tryz.isAgg5
  z5:=Tryz.sizeOf5
  v5:=Tryz.zeroValue5
  infoByte:=by kernel_rfl
  cellsByte:=by kernel_rfl
  sizeByte:=by kernel_rfl
  neB5:=by decide
theorem ok48 {b:List zj} {a:zj} {res:zj} (c:stringsJoin b a=some res):Sp 48 [.sl 1 (b.map zI),.str a] h (yW (.str res) h) :=
 spec_join joinTryzLays joinTryzExtra c
theorem ok27 {c:(List zj)} {a:Int} {res:zj}  (b:xQ c a=some res):Sp 27 [.sl 1 (c.map zI),.int .u8 a] h (yW (.str res) h):=by
 unfold xQ at b;refine zd Tryz.func27 rfl (by kernel_rfl) (xR 12 rfl) (R.r ?_);refine yB [1] [] trivial mixed (by kernel_rfl) (R.r ?_);refine zq b (λk d b=>zO rfl rfl (λ_=>sc rfl) (by rintro _ ⟨B2,T2,rfl,j⟩;exact ok48 d) ss ?_);refine xU b (λg b=>zp rfl rfl (zN rfl gg rfl (uz g)) ss (R.r ?_));refine xU b (λe b=>zp rfl rfl (zL (es:=([(UInt8.ofNat a.toNat)]:List UInt8).map vj) rfl el23 ze5 rfl rfl (zx gg zC) (.cons (zb rfl) .nil) rfl rfl (by simp only [uy,tM,vj,byte_of e];rfl)) ss ?_);refine xU b (λi b=>draw_b rfl rfl rfl (convB rfl el23.u ty5.u ty9.u gg (.inr ⟨_,zb rfl⟩) i) ss ?_);refine xU b (λf b=>zp rfl rfl (zN rfl gg gg (uz f)) ss (R.r ?_));cases b;exact fz rfl rfl
theorem ok66 {res:GE}  (a:qJ l0=some res):Sp 66 [.agg (GE.row l0)] h (yW (.agg (GE.row res)) h):=by
 unfold qJ at a;refine zd Tryz.func66 rfl (by kernel_rfl) (xR 12 rfl) (R.r ?_);refine wv (by kernel_rfl) (R.r ?_);refine zq a (λb d a=>yO rfl FOk.nil (by rfl) rfl (sc rfl) (xn (T':=[b.length]) (ok58 d) (m:=0) rfl rfl) ss (R.r ?_));refine zq a (λe c a=>yO rfl FOk.nil (by rfl) rfl (sc rfl) (xn (T':=[b.length,e.length]) (ok59 c) (m:=1) rfl rfl) ss (R.r ?_));refine zS rfl FOk.nil (by kernel_rfl) rfl (zQ (cs':=(GLeafRw l0 (wL h 0 5 (b.map GJ.row)) (.sl 3 (l0.tombs.map GF.row)))) rfl ty46 gg gg (zb rfl) rfl rfl rfl rfl rfl) rfl (R.r ?_);refine zS rfl FOk.nil (by kernel_rfl) rfl (zQ (cs':=(GLeafRw l0 (wL h 0 5 (b.map GJ.row)) (wL h 1 3 (e.map GF.row)))) rfl ty47 gg gg (zb rfl) rfl rfl rfl rfl rfl) rfl (R.r ?_);cases a;exact fe rfl rfl (leV.agg (.eq (.eq (.eq (.eq (.eq (.eq (.eq (.cons (leV.osl _ _ _) (.cons (leV.osl _ _ _) leL.nil))))))))) rfl)
theorem ok51 {res:GC}  (b:vE e0=some res):Sp 51 [.agg (GC.row e0)] h (yW (.agg (GC.row res)) h):=by
 unfold vE at b;refine zd Tryz.func51 rfl (by kernel_rfl) (xR 16 rfl) (R.r ?_);refine yB [5,8] [] trivial mixed (by kernel_rfl) (R.r ?_);refine zq b (λc g b=>yO rfl (FOk.cons (.inr (yj trivial)) (FOk.cons (.inr (yj trivial)) FOk.nil)) (by rfl) rfl (sc rfl) (xn (T':=[c.length]) (ok17 g) (m:=0) rfl rfl) ss (R.r ?_));refine zq b (λa d b=>zO rfl rfl (λ_=>sc rfl) (by rintro _ ⟨B2,T2,rfl,f⟩;exact ok66 d) ss (R.r ?_));refine zq b (λv3 e b=>zO rfl rfl (λ_=>sc rfl) (by rintro _ ⟨B2,T2,rfl,f⟩;exact ok66 e) ss (R.r ?_));refine zS rfl (FOk.cons (.inr (yj trivial)) (FOk.cons (.inr (yj trivial)) FOk.nil)) (by kernel_rfl) rfl (zQ (cs':=[wL h 0 1 (c.map zI),.int .u8 e0.typ,.bool e0.had,.bool e0.has,.int .u8 e0.was.typ,.int .i64 e0.was.n,.int .u64 e0.was.time,.int .u8 e0.was.dot.actor.rep,.int .u32 e0.was.dot.actor.inc,.int .u64 e0.was.dot.seq,.str e0.was.text,.sl 5 (e0.was.items.map GJ.row),.sl 3 (e0.was.tombs.map GF.row),.int .u8 e0.is.typ,.int .i64 e0.is.n,.int .u64 e0.is.time,.int .u8 e0.is.dot.actor.rep,.int .u32 e0.is.dot.actor.inc,.int .u64 e0.is.dot.seq,.str e0.is.text,.sl 5 (e0.is.items.map GJ.row),.sl 3 (e0.is.tombs.map GF.row)]) rfl ty29 gg gg (zb rfl) rfl rfl rfl rfl rfl) rfl (R.r ?_);refine zS rfl (FOk.cons (.inr (yj trivial)) (FOk.cons (.inr (yj trivial)) FOk.nil)) (by kernel_rfl) rfl (zQ (cs':=[wL h 0 1 (c.map zI),.int .u8 e0.typ,.bool e0.had,.bool e0.has,.int .u8 a.typ,.int .i64 a.n,.int .u64 a.time,.int .u8 a.dot.actor.rep,.int .u32 a.dot.actor.inc,.int .u64 a.dot.seq,.str a.text,.sl 5 (a.items.map GJ.row),.sl 3 (a.tombs.map GF.row),.int .u8 e0.is.typ,.int .i64 e0.is.n,.int .u64 e0.is.time,.int .u8 e0.is.dot.actor.rep,.int .u32 e0.is.dot.actor.inc,.int .u64 e0.is.dot.seq,.str e0.is.text,.sl 5 (e0.is.items.map GJ.row),.sl 3 (e0.is.tombs.map GF.row)]) rfl ty49.choose_spec.1 gg gg (zb rfl) rfl rfl rfl rfl rfl) rfl (R.r ?_);refine zS rfl (FOk.cons (.inr (yj trivial)) (FOk.cons (.inr (yj trivial)) FOk.nil)) (by kernel_rfl) rfl (zQ (cs':=[wL h 0 1 (c.map zI),.int .u8 e0.typ,.bool e0.had,.bool e0.has,.int .u8 a.typ,.int .i64 a.n,.int .u64 a.time,.int .u8 a.dot.actor.rep,.int .u32 a.dot.actor.inc,.int .u64 a.dot.seq,.str a.text,.sl 5 (a.items.map GJ.row),.sl 3 (a.tombs.map GF.row),.int .u8 v3.typ,.int .i64 v3.n,.int .u64 v3.time,.int .u8 v3.dot.actor.rep,.int .u32 v3.dot.actor.inc,.int .u64 v3.dot.seq,.str v3.text,.sl 5 (v3.items.map GJ.row),.sl 3 (v3.tombs.map GF.row)]) rfl ty49.choose_spec.1 gg gg (zb rfl) rfl rfl rfl rfl rfl) rfl (R.r ?_);cases b;exact fe rfl rfl (leV.agg (.cons (leV.osl _ _ _) (.eq (.eq (.eq (.eq (.eq (.eq (.eq (.eq (.eq (.eq (.eq (.eq (.eq (.eq (.eq (.eq (.eq (.eq (.eq (.eq (.eq leL.nil)))))))))))))))))))))) rfl)
def sort52TryzRen:Go.Shelf.Ren :=
  { f:=λx=>match x with
      | 6=>52
      | 15=>78
      | 14=>88
      | 28=>106
      | 29=>107
      | 20=>116
      | 21=>117
      | 22=>118
      | 23=>119
      | 24=>120
      | 25=>121
      | 26=>122
      | 27=>123
      | 46=>148
      | 47=>135
      | 48=>136
      | 49=>149
      | 50=>150
      | 57=>160
      | n=>n
    t:=λx=>match x with
      | 22=>40
      | 24=>51
      | 25=>107
      | 3=>3
      | 39=>141
      | 0=>0
      | 53=>41
      | 55=>37
      | 4=>4
      | 46=>163
      | 45=>162
      | 50=>120
      | 5=>5
      | 9=>9
      | 66=>186
      | 70=>190
      | 76=>204
      | 77=>205
      | n=>n
    g:=λn=>n }
theorem sort52TryzLays:Go.Proofs.SlLaysF0.n6 Tryz.prog sort52TryzRen where
  mixed:=mixed
  f6:=⟨Tryz.f52.name,by kernel_rfl,Tryz.func52.trans (by kernel_rfl)⟩
  f15:=Tryz.func78.trans (by kernel_rfl)
  f14:=⟨Tryz.f88.name,by kernel_rfl,Tryz.func88.trans (by kernel_rfl)⟩
  f28:=Tryz.func106.trans (by kernel_rfl)
  f29:=Tryz.func107.trans (by kernel_rfl)
  f20:=⟨Tryz.f116.name,by kernel_rfl,Tryz.func116.trans (by kernel_rfl)⟩
  f21:=⟨Tryz.f117.name,by kernel_rfl,Tryz.func117.trans (by kernel_rfl)⟩
  f22:=⟨Tryz.f118.name,by kernel_rfl,Tryz.func118.trans (by kernel_rfl)⟩
  f23:=⟨Tryz.f119.name,by kernel_rfl,Tryz.func119.trans (by kernel_rfl)⟩
  f24:=⟨Tryz.f120.name,by kernel_rfl,Tryz.func120.trans (by kernel_rfl)⟩
  f25:=⟨Tryz.f121.name,by kernel_rfl,Tryz.func121.trans (by kernel_rfl)⟩
  f26:=⟨Tryz.f122.name,by kernel_rfl,Tryz.func122.trans (by kernel_rfl)⟩
  f27:=⟨Tryz.f123.name,by kernel_rfl,Tryz.func123.trans (by kernel_rfl)⟩
  f46:=⟨Tryz.f148.name,by kernel_rfl,Tryz.func148.trans (by kernel_rfl)⟩
  f47:=Tryz.func135.trans (by kernel_rfl)
  f48:=Tryz.func136.trans (by kernel_rfl)
  f49:=⟨Tryz.f149.name,by kernel_rfl,Tryz.func149.trans (by kernel_rfl)⟩
  f50:=⟨Tryz.f150.name,by kernel_rfl,Tryz.func150.trans (by kernel_rfl)⟩
  f57:=⟨Tryz.f160.name,by kernel_rfl,Tryz.func160.trans (by kernel_rfl)⟩
  t0:=Tryz.underlying0
  a0:=Tryz.isAgg0
  z0:=Tryz.sizeOf0
  v0:=Tryz.zeroValue0
  t3:=Tryz.underlying3
  a3:=Tryz.isAgg3
  z3:=Tryz.sizeOf3
  v3:=Tryz.zeroValue3
  t4:=Tryz.underlying4
  a4:=Tryz.isAgg4
  z4:=Tryz.sizeOf4
  v4:=Tryz.zeroValue4
  t5:=Tryz.underlying5
  a5:=Tryz.isAgg5
  z5:=Tryz.sizeOf5
  v5:=Tryz.zeroValue5
  t9:=Tryz.underlying9
  a9:=Tryz.isAgg9
  z9:=Tryz.sizeOf9
  v9:=Tryz.zeroValue9
  t22:=Tryz.underlying40
  a22:=Tryz.isAgg40
  z22:=Tryz.sizeOf40
  v22:=Tryz.zeroValue40
  t25:=Tryz.underlying107
  a25:=Tryz.isAgg107
  z25:=Tryz.sizeOf107
  v25:=Tryz.zeroValue107
  t39:=Tryz.underlying141
  a39:=Tryz.isAgg141
  z39:=Tryz.sizeOf141
  v39:=Tryz.zeroValue141
  t45:=Tryz.underlying162
  a45:=Tryz.isAgg162
  z45:=Tryz.sizeOf162
  v45:=Tryz.zeroValue162
  t46:=Tryz.underlying163
  a46:=Tryz.isAgg163
  z46:=Tryz.sizeOf163
  v46:=Tryz.zeroValue163
  t50:=Tryz.underlying120
  a50:=Tryz.isAgg120
  z50:=Tryz.sizeOf120
  v50:=Tryz.zeroValue120
  t53:=Tryz.underlying41
  a53:=Tryz.isAgg41
  z53:=Tryz.sizeOf41
  v53:=Tryz.zeroValue41
  t55:=Tryz.underlying37
  a55:=Tryz.isAgg37
  z55:=Tryz.sizeOf37
  v55:=Tryz.zeroValue37
  t66:=Tryz.underlying186
  a66:=Tryz.isAgg186
  z66:=Tryz.sizeOf186
  v66:=Tryz.zeroValue186
  t70:=Tryz.underlying190
  a70:=Tryz.isAgg190
  z70:=Tryz.sizeOf190
  v70:=Tryz.zeroValue190
  t76:=Tryz.underlying204
  a76:=Tryz.isAgg204
  z76:=Tryz.sizeOf204
  v76:=Tryz.zeroValue204
  t77:=Tryz.underlying205
  a77:=Tryz.isAgg205
  z77:=Tryz.sizeOf205
  v77:=Tryz.zeroValue205
theorem ok145 {a:zj}  (b:xg a=some res):Sp 145 [.str a] h (yW (.bool res) h):=by
 unfold xg at b;refine zd Tryz.func145 rfl (by kernel_rfl) (xR 6 rfl) (R.r ?_);cases b;exact fz rfl rfl
theorem ok113 {j:zj} {k:zj} {res:Int}  (a:yy j k=some res):Sp 113 [.str j,.str k] h (yW (.int .i64 res) h):=by
 unfold yy at a;refine zd Tryz.func113 rfl (by kernel_rfl) (xR 20 rfl) (R.r ?_);refine zq a (λm f a=>cp (ok145 f) (R.r ?_));refine zq a (λl b a=>cp (ok145 b) (R.r ?_));refine zt gg a (λi a=>?_) (λi a=>?_)
 ·apply R.r;refine zt gg a (λd a=>?_) (λd a=>?_)
  ·apply R.r;cases a;exact fz rfl rfl
  ·apply R.r;cases a;exact fz rfl rfl
 ·apply R.r;refine zt gg a (λc a=>?_) (λc a=>?_)
  ·apply R.r;cases a;exact fz rfl rfl
  ·apply R.r;refine zt gg a (λe a=>?_) (λe a=>?_)
   ·apply R.r;cases a;exact fz rfl rfl
   ·apply R.r;refine zt gg a (λg a=>?_) (λg a=>?_)
    ·apply R.r;cases a;exact fz rfl rfl
    ·apply R.r;cases a;exact fz rfl rfl
theorem ok84 {l:(List zj)} {m:(List zj)} {res:Int}  (a:yJ l m=some res):Sp 84 [.sl 1 (l.map zI),.sl 1 (m.map zI)] h (yW (.int .i64 res) h):=by
 unfold yJ at a;refine zd Tryz.func84 rfl (by kernel_rfl) (xR 36 rfl) (R.r ?_);refine ln λf=>?_;replace f:=yA f;apply R.r;refine zY (λ(t:Nat) (s:Unit)=>zJ 2 7 (zJ 12 24 [(11,.int .i64 (t:Int))])) (λs=>h.ext [] []) a (λ_ _=>by simp only [zJ,qB,um,un];try rfl) (wk.le LEL.o) ?_;intro t s u a;apply R.r;refine ya gg a (λy x q p a e=>?_) (λa=>?_)
 ·apply R.r;refine ix (yb p) (R.r ?_);refine ln λc=>?_;replace c:=yA c;apply R.r;refine zt gg a (λk a=>?_) (λk a=>?_)
  ·apply R.r;cases a;replace a:=e;apply R.r;cases a;exact fz rfl rfl
  ·apply R.r;refine zq a (λw j a=>ix j (R.r ?_));refine zq a (λv n a=>cp (ok113 n) (R.r ?_));refine zt gg a (λg a=>?_) (λg a=>?_)
   ·apply R.r;cases a;replace a:=e;apply R.r;cases a;exact fz rfl rfl
   ·apply R.r;cases a;exact ⟨(),q,e,wk.le (by exact (.eq (.eq (.d4 (.drop (.drop (.drop (.eq (.eq (.cons (leV.of_eq (xC (by omega) (by omega))) (.d16 (.d4 (.d4 leL.nil)))))))))))))⟩
 ·apply R.r;refine ln λd=>?_;replace d:=yA d;apply R.r;refine ln λb=>?_;replace b:=yA b;apply R.r;refine zt gg a (λi a=>?_) (λi a=>?_)
  ·apply R.r;cases a;exact fz rfl rfl
  ·apply R.r;cases a;exact fz rfl rfl
theorem ok47 {a0:GC} {f:GC} {res:Int}  (a:wH a0 f=some res):Sp 47 [.agg (GC.row a0),.agg (GC.row f)] h (yW (.int .i64 res) h):=by
 unfold wH at a;refine zd Tryz.func47 rfl (by kernel_rfl) (xR 17 rfl) (R.r ?_);refine yB [4,9,11] [] trivial mixed (by kernel_rfl) (R.r ?_);refine zq a (λi e a=>zO rfl rfl (λ_=>sc rfl) (by rintro _ ⟨B2,T2,rfl,b⟩;exact ok84 e) ss (R.r ?_));refine zq a (λg c a=>zO rfl rfl (λ_=>sc rfl) (by rintro _ ⟨B2,T2,rfl,b⟩;exact ok69 c) ss ?_);refine zp rfl rfl (zL (es:=([i,g]:List Int).map (intRow .i64)) rfl el73 ze3 rfl rfl (zx gg (zx gg zC)) (.cons (zb rfl) (.cons (zb rfl) .nil)) rfl rfl rfl) ss ?_;refine zq a (λv3 d a=>zO rfl rfl (λ_=>sc rfl) (by rintro _ ⟨B2,T2,rfl,b⟩;exact (ok83 d).le (.cons (leV.osl _ _ _) leL.nil)) ss (R.r ?_));cases a;exact fz rfl rfl
theorem ok29 {f:List (zj×GC)} {b:Nat} {res:(List GC)} (g:h.blk b=some (.mapo (f.map (yd AV.str (λx=>AV.agg (GC.row x)))) 0)) (e:wb f=some res):Sp 29 [.map b] h (yW (.sl 22 (res.map GC.row)) h):=by
 unfold wb at e;refine zd Tryz.func29 rfl (by kernel_rfl) (env:=[.map b,aundef,aundef,aundef,aundef,aundef,aundef,aundef,aundef,aundef,aundef,aundef,aundef,aundef,aundef,aundef,aundef,aundef,aundef,aundef,aundef,aundef,aundef,aundef,aundef,aundef,aundef,aundef,aundef,aundef,aundef,aundef]) (by rfl) ?_;have a:=blk_lt g rfl;have c:∀k,b < h.blks.length+k:=λk=>tg a (tO _ _);refine zn (zc ?_);refine za rfl (zg rfl rfl (vH el40)) st2 ?_;refine zf (zk (zn (zn (zc ?_))));refine za rfl (ze rfl y8 (zb rfl)) st5 ?_;refine ops_rangeM (kv:=AV.str) (vv:=(λx=>AV.agg (GC.row x))) rfl rfl Tryz.underlying84 vW (blk_old g) rfl st6 rfl ?_;refine zf (zk (xL ?_));refine r_loopMF (λ(p:(List GC))=>[(0,.any),(1,.any),(2,rsA h 1 0 22 (p.length)),(3,.any),(4,.any),(5,.any),(7,.any),(8,.any),(9,.any),(10,.any),(11,.any),(12,.any),(13,.any),(14,.any),(15,.any),(16,.any),(17,.any),(18,.any),(19,.any),(20,.any),(21,.any),(22,.any),(23,.any),(24,.any),(25,.any),(26,.any),(27,.any),(28,.any),(29,.any),(30,.any),(31,.any)]) (λd p=>h.ext [.miter b f.length d,rwA h 0 22 (p.map GC.row)] [p.length]) e (λ_=>by simp only [qB,um,un];try rfl) (wk.trans ((swk_thaw gt2 rfl rfl st2 rfl rfl).wk) (wk.le (by exact (.drop (.drop (.cons (leV.of_eq rfl) (.drop (.drop (.drop (.eq (.d16 (.d4 (.d4 (.drop leL.nil)))))))))))))) ?_;intro d p e;refine zn (zc ?_);refine ops_nextMF rfl rfl gt6 rfl (blk_old g) st7 e (λz t D w q e u=>⟨_,st7,?_⟩) (λe=>?_)
 ·refine za rfl (z6 rfl gt7 rfl (zb rfl)) st8 ?_;refine zf (zk (zn ?_));refine vK gt8 (λ_=>?_) (λhh=>by cases hh);refine yD (zk (xL (zn (zc ?_))));refine ops_entryM rfl rfl gt6 rfl (blk_old g) w st9 ?_;refine za rfl (z6 rfl gt9 rfl (zb rfl)) wZ ?_;refine za rfl (vQ (n:=2) rfl ze51 rfl) vh ?_;refine za rfl (zQ (cs':=(GC.row t.2)) rfl ty51.choose_spec.1 vG x8 (zb rfl) rfl rfl rfl rfl rfl) rfl ?_;refine zf (zk (zn (zc ?_)));refine za rfl (zi rfl fo51x2 vG rfl) vF ?_;refine za rfl (zF rfl ty4 w8 rfl (zA rfl) (zb rfl)) st12 ?_;refine za rfl (zi rfl fo51x3 vG rfl) st13 ?_;refine za rfl (zF rfl ty4 gt13 rfl (zA rfl) (zb rfl)) st14 ?_;refine za rfl (zN rfl gt12 gt14 (bin_boolE ty4)) st15 ?_;refine za rfl (ze rfl gt15 (zb rfl)) st16 ?_;refine ym rfl (λo=>zi rfl fo51x4 vG rfl) st17 ?_;refine ym rfl (λo=>zF rfl ty49.choose_spec.1 (zX gt17 o) rfl (yP (cs':=(GE.row t.2.was)) ty49.choose_spec.2 rfl rfl) (zb rfl)) st18 ?_;refine ym rfl (λo=>zi rfl fo51x5 vG rfl) st19 ?_;refine ym rfl (λo=>zF rfl ty49.choose_spec.1 (zX gt19 o) rfl (yP (cs':=(GE.row t.2.is)) ty49.choose_spec.2 rfl rfl) (zb rfl)) st20 ?_;refine yE e (λC A e=>zZ rfl (λo=>zM rfl rfl rfl (zr (zX gt18 o) (zr (zX gt20 o) zB)) (.cons (zb rfl) (.cons (zb rfl) .nil))) (λo=>ok28 (A o)) st21 ?_);refine za rfl (wu rfl gt16 gt21 rfl (xM (λB=>gT B))) st22 ?_;refine za rfl (s_un rfl gt22 rfl) st23 ?_;refine zf (zk ?_);refine zt gt23 e (λy e=>?_) (λy e=>?_)
  ·refine zc ?_;refine za rfl (ze rfl gt2 (zb rfl)) st24 ?_;refine za rfl (zF rfl ty51.choose_spec.1 vG rfl (yP (cs':=(GC.row t.2)) ty51.choose_spec.2 rfl rfl) (zb rfl)) st25 ?_;refine zq e (λv9 v e=>yq rfl (zM rfl rfl rfl (zr gt25 zB) (.cons (zb rfl) .nil)) (ok51 v) st26 ?_);refine za rfl (zL (es:=([v9]:List GC).map GC.row) rfl el40 ze51 rfl rfl (zx gt26 zC) (.cons (zb rfl) .nil) rfl rfl rfl) st27 ?_;refine xU e (λr e=>za rfl (e_appR (i:=1) (j:=0) (B':=[.miter b f.length (d++[z]),rwA h 0 22 ((p++([v9]:List GC)).map GC.row),.cells (GC.row t.2)]) (T':=[((p++([v9]:List GC))).length]) rfl rfl rfl rfl el40 el40 gt24 gt27 rfl (zb rfl) w5 r rfl rfl rfl rfl rfl) st28 ?_);refine za rfl (zg rfl gt28 (zb rfl)) st2 ?_;refine zf (xZ (vL ?_));obtain rfl:=uj e;exact ⟨z,(p++([v9]:List GC)),q,u,wk.trans (wk.le (by exact (.drop (.drop (.cons (leV.of_eq rfl) (.drop (.drop (.drop (.eq (.d16 (.d4 (.d4 (.drop leL.nil))))))))))))) (yk (by simp [zG,AV.low,a,c]) rfl rfl (by simp [Blk.low,zG,AV.low,a,c]))⟩
  ·refine yD (xZ (vL ?_));obtain rfl:=uj e;exact ⟨z,p,q,u,wk.trans (wk.le (by exact (.drop (.drop (.cons (leV.of_eq rfl) (.drop (.drop (.drop (.eq (.d16 (.d4 (.d4 (.drop leL.nil))))))))))))) (yk (by simp [zG,AV.low,a,c]) rfl rfl (by simp [Blk.low,zG,AV.low,a,c]))⟩
 ·refine za rfl (z6 rfl gt7 rfl (zb rfl)) st8 ?_;refine zf (zk (zn ?_));refine vK gt8 (λhh=>by cases hh) (λ_=>r_exit ?_);refine wC ?_;refine x9 ?_;refine wa ?_;refine zk (zn (zc ?_));refine za rfl (ze rfl gt2 (zb rfl)) st29 ?_;refine zq e (λs l e=>xI rfl (zM rfl rfl rfl (zr gt29 (zr rfl zB)) (.cons (zb rfl) (.cons (zb rfl) .nil))) (spec_sortO sort52TryzLays Tryz.isAgg51 Tryz.sizeOf51 (λ_=>rfl) (λ_=>rfl) (λ_=>by simp [plL,AV.pl,plE_map,zI,intRow,vj,boolRow,GL.row,GF.row,GJ.row,GE.row,GK.row,GC.row]) (enters_fn Tryz.func47 rfl (by kernel_rfl)) (λ_ _ _ h=>ok47 h) l (i:=1) (B':=[.miter b f.length d,rwA h 0 22 (s.map GC.row)]) rfl rfl) st30 ?_);refine zf ?_;refine q_seqw ((swk_freeze (j:=1) (m:=0) (B':=[.miter b f.length d,.dead]) (T':=[(s.map GC.row).length+1]) rfl (by exact (FzL.cons (FzA.same _) (FzL.cons (FzA.same _) (FzL.cons (FzA.hit2 _ _ (by rw [uA];exact pH (sortO_len l))) (FzL.cons (FzA.same _) (FzL.cons (FzA.same _) (FzL.cons (FzA.same _) (FzL.cons (FzA.same _) (FzL.cons (FzA.same _) (FzL.cons (FzA.same _) (FzL.cons (FzA.same _) (FzL.cons (FzA.same _) (FzL.cons (FzA.same _) (FzL.cons (FzA.same _) (FzL.cons (FzA.same _) (FzL.cons (FzA.same _) (FzL.cons (FzA.same _) (FzL.cons (FzA.same _) (FzL.cons (FzA.same _) (FzL.cons (FzA.same _) (FzL.cons (FzA.same _) (FzL.cons (FzA.same _) (FzL.cons (FzA.same _) (FzL.cons (FzA.same _) (FzL.cons (FzA.same _) (FzL.cons (FzA.same _) (FzL.cons (FzA.same _) (FzL.cons (FzA.same _) (FzL.cons (FzA.same _) (FzL.cons (FzA.same _) (FzL.cons (FzA.hit2 _ _ (by rw [uA];exact pH (sortO_len l))) (FzL.refl _)))))))))))))))))))))))))))))))) rfl rfl).wk) ?_;refine zn (zc ?_);refine za rfl (ze rfl gt2 (zb rfl)) st31 ?_;refine za rfl (zg rfl gt31 (zb rfl)) st2 ?_;refine zf (zk (yH ?_));obtain rfl:=uj e;refine yo rfl (zV gt2 ye) (qz (leV.refl _) rfl ?_);exact ⟨rfl,rfl⟩
theorem ok19 {a0:(List GA)} {K:(List GA)} {res:((List GC)×Int)}  (c:vd a0 K=some res):Sp 19 [.sl 3 (a0.map GA.row),.sl 3 (K.map GA.row)] h (yW (.tup [.sl 22 (res.1.map GC.row),.int .i64 res.2]) h):=by
 unfold vd at c;refine zd Tryz.func19 rfl (by kernel_rfl) (xR 81 rfl) (R.r ?_);refine zq c (λS B c=>cp (ok30 B) (R.r ?_));refine yE c (λV D c=>zZ rfl sc (λP=>ok30 (D P)) ss (R.r ?_));refine zt gg c (λJ c=>?_) (λJ c=>?_)
 ·apply R.r;cases c;exact fe rfl rfl (leV.tup (.cons (leV.osl _ _ _) (.eq leL.nil)))
 ·apply R.r;refine za rfl (e_makeMap (n:=0) rfl rfl) ss (R.r ?_);refine zq c (λv4 C c=>cp (ok38 C) ?_);refine ln λl=>?_;replace l:=yA l;apply R.r;refine zY (λ(L:Nat) (u:List (zj×GC))=>zJ 2 4 (zJ 7 15 (zJ 25 56 [(0,.any),(24,.int .i64 (L:Int))]))) (λu=>h.ext [.mapo (u.map (yd AV.str (λx=>AV.agg (GC.row x)))) 0] []) c (λ_ _=>by simp only [zJ,qB,um,un];try rfl) (wk.le LEL.o) ?_;intro L u N c;apply R.r;refine ya gg c (λf U H G c I=>?_) (λc=>?_)
  ·apply R.r;refine ix (yb G) (R.r ?_);refine yB [6] [] trivial mixed (by kernel_rfl) (R.r ?_);refine zq c (λz y c=>zO rfl rfl (λ_=>sc rfl) (by rintro _ ⟨B2,T2,rfl,g⟩;exact ok27 y) ss (R.r ?_));refine zp rfl rfl (xc (cs':=[.sl 1 (f.path.map zI),.int .u8 f.leaf.typ,.bool true,.bool false,.int .u8 f.leaf.typ,.int .i64 f.leaf.n,.int .u64 f.leaf.time,.int .u8 f.leaf.dot.actor.rep,.int .u32 f.leaf.dot.actor.inc,.int .u64 f.leaf.dot.seq,.str f.leaf.text,.sl 5 (f.leaf.items.map GJ.row),.sl 3 (f.leaf.tombs.map GF.row),.int .u8 (0:Int),.int .i64 (0:Int),.int .u64 (0:Int),.int .u8 (0:Int),.int .u32 (0:Int),.int .u64 (0:Int),.str ([]:zj),.osl none 5 (([]:List GJ).map GJ.row),.osl none 3 (([]:List GF).map GF.row)]) rfl su51 ze51 pl51 (zx gg (zx gg (zx rfl (zx gg zC)))) (.cons (zb rfl) (.cons (zb rfl) (.cons (zb rfl) (.cons (zb rfl) .nil)))) rfl rfl) ss ?_;refine zS rfl (FOk.cons (.inr (yj trivial)) FOk.nil) (by kernel_rfl) rfl (w9 (m:=u) (k:=z) (v:=(GC.mk f.path f.leaf.typ true false f.leaf zP)) (j:=0) (kv:=AV.str) (vv:=(λx=>AV.agg (GC.row x))) rfl Tryz.underlying84 kq9 gg rfl gg gg rfl rfl) rfl (R.r ?_);cases c;exact ⟨(yn (λa b=>a==b) u z (GC.mk f.path f.leaf.typ true false f.leaf zP)),H,I,wk.trans (wk.le (by exact (.drop (.eq (.d4 (.eq (.d4 (.d4 (.d4 (.drop (.drop (.drop (.eq (.eq (.cons (leV.of_eq (xC (by omega) (by omega))) (.d16 (.d16 (.d16 (.d4 (.d4 leL.nil)))))))))))))))))))) (yk (by simp [zG,AV.low]) rfl rfl (by simp [Blk.low,zG,AV.low,GC.row,yd]))⟩
  ·apply R.r;refine zq c (λO w c=>cp (ok38 w) ?_);refine ln λi=>?_;replace i:=yA i;apply R.r;refine zY (λ(M:Nat) (s2:List (zj×GC))=>zJ 0 6 (zJ 7 38 (zJ 48 33 [(47,.int .i64 (M:Int))]))) (λs2=>h.ext [.mapo (s2.map (yd AV.str (λx=>AV.agg (GC.row x)))) 0] []) c (λ_ _=>by simp only [zJ,qB,um,un];try rfl) (wk.le LEL.o) ?_;intro M s2 Q c;apply R.r;refine ya gg c (λe T E A c F=>?_) (λc=>?_)
   ·apply R.r;refine ix (yb A) (R.r ?_);refine zq c (λv20 t c=>cp (ok27 t) ?_);refine za rfl (e_lookup (m:=s2) (k:=v20) (d:=(GC.mk ([]:List zj) (0:Int) false false zP zP)) (j:=0) (kv:=AV.str) (vv:=(λx=>AV.agg (GC.row x))) rfl Tryz.underlying84 kq9 az51 gg rfl gg) ss (R.r ?_);refine yB [4,6] [(4,[(1,.cells (GK.row e))]),(6,[(1,.cells (GK.row e))])] ⟨⟨rfl,trivial⟩,⟨rfl,trivial⟩,trivial⟩ mixed (by kernel_rfl) (R.r ?_);refine vR rfl rfl (by rintro _ ⟨B2,T2,rfl,g⟩;exact zF rfl ty5 gg (keeps1 g) (zA rfl) (zb rfl)) ss (R.r ?_);refine vR rfl rfl (by rintro _ ⟨B2,T2,rfl,g⟩;exact zF rfl ty49.choose_spec.1 gg (keeps1 g) (yP (cs':=(GE.row e.leaf)) ty49.choose_spec.2 rfl rfl) (zb rfl)) ss (R.r ?_);refine zS rfl (FOk.cons (.inr (yj ⟨rfl,trivial⟩)) (FOk.cons (.inr (yj ⟨rfl,trivial⟩)) FOk.nil)) (by kernel_rfl) rfl (zQ (cs':=[.sl 1 (e.path.map zI),.int .u8 ((zo (λa b=>a==b) (GC.mk ([]:List zj) (0:Int) false false zP zP) s2 v20).typ),.bool ((zo (λa b=>a==b) (GC.mk ([]:List zj) (0:Int) false false zP zP) s2 v20).had),.bool ((zo (λa b=>a==b) (GC.mk ([]:List zj) (0:Int) false false zP zP) s2 v20).has),.int .u8 ((zo (λa b=>a==b) (GC.mk ([]:List zj) (0:Int) false false zP zP) s2 v20).was.typ),.int .i64 ((zo (λa b=>a==b) (GC.mk ([]:List zj) (0:Int) false false zP zP) s2 v20).was.n),.int .u64 ((zo (λa b=>a==b) (GC.mk ([]:List zj) (0:Int) false false zP zP) s2 v20).was.time),.int .u8 ((zo (λa b=>a==b) (GC.mk ([]:List zj) (0:Int) false false zP zP) s2 v20).was.dot.actor.rep),.int .u32 ((zo (λa b=>a==b) (GC.mk ([]:List zj) (0:Int) false false zP zP) s2 v20).was.dot.actor.inc),.int .u64 ((zo (λa b=>a==b) (GC.mk ([]:List zj) (0:Int) false false zP zP) s2 v20).was.dot.seq),.str ((zo (λa b=>a==b) (GC.mk ([]:List zj) (0:Int) false false zP zP) s2 v20).was.text),.sl 5 (((zo (λa b=>a==b) (GC.mk ([]:List zj) (0:Int) false false zP zP) s2 v20).was.items).map GJ.row),.sl 3 (((zo (λa b=>a==b) (GC.mk ([]:List zj) (0:Int) false false zP zP) s2 v20).was.tombs).map GF.row),.int .u8 ((zo (λa b=>a==b) (GC.mk ([]:List zj) (0:Int) false false zP zP) s2 v20).is.typ),.int .i64 ((zo (λa b=>a==b) (GC.mk ([]:List zj) (0:Int) false false zP zP) s2 v20).is.n),.int .u64 ((zo (λa b=>a==b) (GC.mk ([]:List zj) (0:Int) false false zP zP) s2 v20).is.time),.int .u8 ((zo (λa b=>a==b) (GC.mk ([]:List zj) (0:Int) false false zP zP) s2 v20).is.dot.actor.rep),.int .u32 ((zo (λa b=>a==b) (GC.mk ([]:List zj) (0:Int) false false zP zP) s2 v20).is.dot.actor.inc),.int .u64 ((zo (λa b=>a==b) (GC.mk ([]:List zj) (0:Int) false false zP zP) s2 v20).is.dot.seq),.str ((zo (λa b=>a==b) (GC.mk ([]:List zj) (0:Int) false false zP zP) s2 v20).is.text),.sl 5 (((zo (λa b=>a==b) (GC.mk ([]:List zj) (0:Int) false false zP zP) s2 v20).is.items).map GJ.row),.sl 3 (((zo (λa b=>a==b) (GC.mk ([]:List zj) (0:Int) false false zP zP) s2 v20).is.tombs).map GF.row)]) rfl ty29 gg gg (zb rfl) rfl rfl rfl rfl rfl) rfl (R.r ?_);refine zS rfl (FOk.cons (.inr (yj ⟨rfl,trivial⟩)) (FOk.cons (.inr (yj ⟨rfl,trivial⟩)) FOk.nil)) (by kernel_rfl) rfl (zQ (cs':=[.sl 1 (e.path.map zI),.int .u8 e.leaf.typ,.bool ((zo (λa b=>a==b) (GC.mk ([]:List zj) (0:Int) false false zP zP) s2 v20).had),.bool ((zo (λa b=>a==b) (GC.mk ([]:List zj) (0:Int) false false zP zP) s2 v20).has),.int .u8 ((zo (λa b=>a==b) (GC.mk ([]:List zj) (0:Int) false false zP zP) s2 v20).was.typ),.int .i64 ((zo (λa b=>a==b) (GC.mk ([]:List zj) (0:Int) false false zP zP) s2 v20).was.n),.int .u64 ((zo (λa b=>a==b) (GC.mk ([]:List zj) (0:Int) false false zP zP) s2 v20).was.time),.int .u8 ((zo (λa b=>a==b) (GC.mk ([]:List zj) (0:Int) false false zP zP) s2 v20).was.dot.actor.rep),.int .u32 ((zo (λa b=>a==b) (GC.mk ([]:List zj) (0:Int) false false zP zP) s2 v20).was.dot.actor.inc),.int .u64 ((zo (λa b=>a==b) (GC.mk ([]:List zj) (0:Int) false false zP zP) s2 v20).was.dot.seq),.str ((zo (λa b=>a==b) (GC.mk ([]:List zj) (0:Int) false false zP zP) s2 v20).was.text),.sl 5 (((zo (λa b=>a==b) (GC.mk ([]:List zj) (0:Int) false false zP zP) s2 v20).was.items).map GJ.row),.sl 3 (((zo (λa b=>a==b) (GC.mk ([]:List zj) (0:Int) false false zP zP) s2 v20).was.tombs).map GF.row),.int .u8 ((zo (λa b=>a==b) (GC.mk ([]:List zj) (0:Int) false false zP zP) s2 v20).is.typ),.int .i64 ((zo (λa b=>a==b) (GC.mk ([]:List zj) (0:Int) false false zP zP) s2 v20).is.n),.int .u64 ((zo (λa b=>a==b) (GC.mk ([]:List zj) (0:Int) false false zP zP) s2 v20).is.time),.int .u8 ((zo (λa b=>a==b) (GC.mk ([]:List zj) (0:Int) false false zP zP) s2 v20).is.dot.actor.rep),.int .u32 ((zo (λa b=>a==b) (GC.mk ([]:List zj) (0:Int) false false zP zP) s2 v20).is.dot.actor.inc),.int .u64 ((zo (λa b=>a==b) (GC.mk ([]:List zj) (0:Int) false false zP zP) s2 v20).is.dot.seq),.str ((zo (λa b=>a==b) (GC.mk ([]:List zj) (0:Int) false false zP zP) s2 v20).is.text),.sl 5 (((zo (λa b=>a==b) (GC.mk ([]:List zj) (0:Int) false false zP zP) s2 v20).is.items).map GJ.row),.sl 3 (((zo (λa b=>a==b) (GC.mk ([]:List zj) (0:Int) false false zP zP) s2 v20).is.tombs).map GF.row)]) rfl ty5 gg gg (zb rfl) rfl rfl rfl rfl rfl) rfl (R.r ?_);refine zS rfl (FOk.cons (.inr (yj ⟨rfl,trivial⟩)) (FOk.cons (.inr (yj ⟨rfl,trivial⟩)) FOk.nil)) (by kernel_rfl) rfl (zQ (cs':=[.sl 1 (e.path.map zI),.int .u8 e.leaf.typ,.bool ((zo (λa b=>a==b) (GC.mk ([]:List zj) (0:Int) false false zP zP) s2 v20).had),.bool true,.int .u8 ((zo (λa b=>a==b) (GC.mk ([]:List zj) (0:Int) false false zP zP) s2 v20).was.typ),.int .i64 ((zo (λa b=>a==b) (GC.mk ([]:List zj) (0:Int) false false zP zP) s2 v20).was.n),.int .u64 ((zo (λa b=>a==b) (GC.mk ([]:List zj) (0:Int) false false zP zP) s2 v20).was.time),.int .u8 ((zo (λa b=>a==b) (GC.mk ([]:List zj) (0:Int) false false zP zP) s2 v20).was.dot.actor.rep),.int .u32 ((zo (λa b=>a==b) (GC.mk ([]:List zj) (0:Int) false false zP zP) s2 v20).was.dot.actor.inc),.int .u64 ((zo (λa b=>a==b) (GC.mk ([]:List zj) (0:Int) false false zP zP) s2 v20).was.dot.seq),.str ((zo (λa b=>a==b) (GC.mk ([]:List zj) (0:Int) false false zP zP) s2 v20).was.text),.sl 5 (((zo (λa b=>a==b) (GC.mk ([]:List zj) (0:Int) false false zP zP) s2 v20).was.items).map GJ.row),.sl 3 (((zo (λa b=>a==b) (GC.mk ([]:List zj) (0:Int) false false zP zP) s2 v20).was.tombs).map GF.row),.int .u8 ((zo (λa b=>a==b) (GC.mk ([]:List zj) (0:Int) false false zP zP) s2 v20).is.typ),.int .i64 ((zo (λa b=>a==b) (GC.mk ([]:List zj) (0:Int) false false zP zP) s2 v20).is.n),.int .u64 ((zo (λa b=>a==b) (GC.mk ([]:List zj) (0:Int) false false zP zP) s2 v20).is.time),.int .u8 ((zo (λa b=>a==b) (GC.mk ([]:List zj) (0:Int) false false zP zP) s2 v20).is.dot.actor.rep),.int .u32 ((zo (λa b=>a==b) (GC.mk ([]:List zj) (0:Int) false false zP zP) s2 v20).is.dot.actor.inc),.int .u64 ((zo (λa b=>a==b) (GC.mk ([]:List zj) (0:Int) false false zP zP) s2 v20).is.dot.seq),.str ((zo (λa b=>a==b) (GC.mk ([]:List zj) (0:Int) false false zP zP) s2 v20).is.text),.sl 5 (((zo (λa b=>a==b) (GC.mk ([]:List zj) (0:Int) false false zP zP) s2 v20).is.items).map GJ.row),.sl 3 (((zo (λa b=>a==b) (GC.mk ([]:List zj) (0:Int) false false zP zP) s2 v20).is.tombs).map GF.row)]) rfl ty4 gg rfl (zb rfl) rfl rfl rfl rfl rfl) rfl (R.r ?_);refine zS rfl (FOk.cons (.inr (yj ⟨rfl,trivial⟩)) (FOk.cons (.inr (yj ⟨rfl,trivial⟩)) FOk.nil)) (by kernel_rfl) rfl (zQ (cs':=[.sl 1 (e.path.map zI),.int .u8 e.leaf.typ,.bool ((zo (λa b=>a==b) (GC.mk ([]:List zj) (0:Int) false false zP zP) s2 v20).had),.bool true,.int .u8 ((zo (λa b=>a==b) (GC.mk ([]:List zj) (0:Int) false false zP zP) s2 v20).was.typ),.int .i64 ((zo (λa b=>a==b) (GC.mk ([]:List zj) (0:Int) false false zP zP) s2 v20).was.n),.int .u64 ((zo (λa b=>a==b) (GC.mk ([]:List zj) (0:Int) false false zP zP) s2 v20).was.time),.int .u8 ((zo (λa b=>a==b) (GC.mk ([]:List zj) (0:Int) false false zP zP) s2 v20).was.dot.actor.rep),.int .u32 ((zo (λa b=>a==b) (GC.mk ([]:List zj) (0:Int) false false zP zP) s2 v20).was.dot.actor.inc),.int .u64 ((zo (λa b=>a==b) (GC.mk ([]:List zj) (0:Int) false false zP zP) s2 v20).was.dot.seq),.str ((zo (λa b=>a==b) (GC.mk ([]:List zj) (0:Int) false false zP zP) s2 v20).was.text),.sl 5 (((zo (λa b=>a==b) (GC.mk ([]:List zj) (0:Int) false false zP zP) s2 v20).was.items).map GJ.row),.sl 3 (((zo (λa b=>a==b) (GC.mk ([]:List zj) (0:Int) false false zP zP) s2 v20).was.tombs).map GF.row),.int .u8 e.leaf.typ,.int .i64 e.leaf.n,.int .u64 e.leaf.time,.int .u8 e.leaf.dot.actor.rep,.int .u32 e.leaf.dot.actor.inc,.int .u64 e.leaf.dot.seq,.str e.leaf.text,.sl 5 (e.leaf.items.map GJ.row),.sl 3 (e.leaf.tombs.map GF.row)]) rfl ty49.choose_spec.1 gg gg (zb rfl) rfl rfl rfl rfl rfl) rfl (R.r ?_);refine yB [6] [] trivial mixed (by kernel_rfl) (R.r ?_);refine zq c (λp s c=>zO rfl rfl (λ_=>sc rfl) (by rintro _ ⟨B2,T2,rfl,g⟩;exact ok27 s) ss (R.r ?_));refine zS rfl (FOk.cons (.inr (yj trivial)) FOk.nil) (by kernel_rfl) rfl (w9 (m:=s2) (k:=p) (v:=(GC.mk e.path e.leaf.typ ((zo (λa b=>a==b) (GC.mk ([]:List zj) (0:Int) false false zP zP) s2 v20).had) true ((zo (λa b=>a==b) (GC.mk ([]:List zj) (0:Int) false false zP zP) s2 v20).was) e.leaf)) (j:=0) (kv:=AV.str) (vv:=(λx=>AV.agg (GC.row x))) rfl Tryz.underlying84 kq9 gg rfl gg gg rfl rfl) rfl (R.r ?_);cases c;exact ⟨(yn (λa b=>a==b) s2 p (GC.mk e.path e.leaf.typ ((zo (λa b=>a==b) (GC.mk ([]:List zj) (0:Int) false false zP zP) s2 v20).had) true ((zo (λa b=>a==b) (GC.mk ([]:List zj) (0:Int) false false zP zP) s2 v20).was) e.leaf)),E,F,wk.trans (wk.le (by exact (.d4 (.drop (.drop (.eq (.d16 (.d16 (.d4 (.drop (.drop (.eq (.eq (.cons (leV.of_eq (xC (by omega) (by omega))) (.d16 (.d16 (.drop leL.nil))))))))))))))))) (yk (by simp [zG,AV.low]) rfl rfl (by simp [Blk.low,zG,AV.low,GC.row,yd]))⟩
   ·apply R.r;refine zq c (λv22 q c=>cp (ok29 (n_blk rfl rfl) q) (R.r ?_));cases c;exact fz rfl rfl
def sorted20TryzRen:Go.Shelf.Ren :=
  { f:=λx=>match x with
      | 6=>20
      | 8=>39
      | 9=>40
      | 11=>76
      | n=>n
    t:=λx=>match x with
      | 0=>0
      | 24=>73
      | 26=>3
      | 28=>76
      | 33=>103
      | n=>n
    g:=λn=>n }
theorem sorted20TryzLays:Go.Proofs.SlLaysZI.n6 Tryz.prog sorted20TryzRen where
  mixed:=mixed
  f6:=⟨Tryz.f20.name,by kernel_rfl,Tryz.func20.trans (by kernel_rfl)⟩
  f8:=⟨Tryz.f39.name,by kernel_rfl,Tryz.func39.trans (by kernel_rfl)⟩
  f11:=⟨Tryz.f76.name,by kernel_rfl,Tryz.func76.trans (by kernel_rfl)⟩
  t0:=Tryz.underlying0
  a0:=Tryz.isAgg0
  z0:=Tryz.sizeOf0
  v0:=Tryz.zeroValue0
  t24:=Tryz.underlying73
  a24:=Tryz.isAgg73
  z24:=Tryz.sizeOf73
  v24:=Tryz.zeroValue73
  t26:=Tryz.underlying3
  a26:=Tryz.isAgg3
  z26:=Tryz.sizeOf3
  v26:=Tryz.zeroValue3
  t28:=Tryz.underlying76
  a28:=Tryz.isAgg76
  z28:=Tryz.sizeOf76
  v28:=Tryz.zeroValue76
  i26:=by kernel_rfl
def sortI20TryzRen:Go.Shelf.Ren :=
  { f:=λx=>match x with
      | 5=>40
      | 7=>77
      | 8=>78
      | 10=>97
      | 11=>98
      | 12=>99
      | 13=>100
      | 14=>101
      | 15=>102
      | 16=>103
      | 17=>104
      | 18=>105
      | 19=>106
      | 20=>107
      | 30=>134
      | 31=>135
      | 32=>136
      | 33=>137
      | 34=>138
      | 35=>139
      | 40=>154
      | n=>n
    t:=λx=>match x with
      | 0=>0
      | 3=>3
      | 4=>4
      | 5=>5
      | 9=>9
      | 22=>73
      | 23=>73
      | 25=>3
      | 32=>141
      | 35=>162
      | 36=>163
      | 41=>120
      | 44=>41
      | 46=>37
      | 53=>186
      | 57=>190
      | 63=>204
      | 64=>205
      | n=>n
    g:=λn=>n }
theorem sortI20TryzLays:Go.Proofs.SlLaysM.n5 Tryz.prog sortI20TryzRen where
  mixed:=mixed
  f5:=⟨Tryz.f40.name,by kernel_rfl,Tryz.func40.trans (by kernel_rfl)⟩
  f7:=⟨Tryz.f77.name,by kernel_rfl,Tryz.func77.trans (by kernel_rfl)⟩
  f8:=Tryz.func78.trans (by kernel_rfl)
  f10:=⟨Tryz.f97.name,by kernel_rfl,Tryz.func97.trans (by kernel_rfl)⟩
  f11:=⟨Tryz.f98.name,by kernel_rfl,Tryz.func98.trans (by kernel_rfl)⟩
  f12:=⟨Tryz.f99.name,by kernel_rfl,Tryz.func99.trans (by kernel_rfl)⟩
  f13:=⟨Tryz.f100.name,by kernel_rfl,Tryz.func100.trans (by kernel_rfl)⟩
  f14:=⟨Tryz.f101.name,by kernel_rfl,Tryz.func101.trans (by kernel_rfl)⟩
  f15:=⟨Tryz.f102.name,by kernel_rfl,Tryz.func102.trans (by kernel_rfl)⟩
  f16:=⟨Tryz.f103.name,by kernel_rfl,Tryz.func103.trans (by kernel_rfl)⟩
  f17:=⟨Tryz.f104.name,by kernel_rfl,Tryz.func104.trans (by kernel_rfl)⟩
  f18:=⟨Tryz.f105.name,by kernel_rfl,Tryz.func105.trans (by kernel_rfl)⟩
  f19:=Tryz.func106.trans (by kernel_rfl)
  f20:=Tryz.func107.trans (by kernel_rfl)
  f30:=⟨Tryz.f134.name,by kernel_rfl,Tryz.func134.trans (by kernel_rfl)⟩
  f31:=Tryz.func135.trans (by kernel_rfl)
  f32:=Tryz.func136.trans (by kernel_rfl)
  f33:=⟨Tryz.f137.name,by kernel_rfl,Tryz.func137.trans (by kernel_rfl)⟩
  f34:=⟨Tryz.f138.name,by kernel_rfl,Tryz.func138.trans (by kernel_rfl)⟩
  f35:=⟨Tryz.f139.name,by kernel_rfl,Tryz.func139.trans (by kernel_rfl)⟩
  f40:=⟨Tryz.f154.name,by kernel_rfl,Tryz.func154.trans (by kernel_rfl)⟩
  t0:=Tryz.underlying0
  a0:=Tryz.isAgg0
  z0:=Tryz.sizeOf0
  v0:=Tryz.zeroValue0
  t3:=Tryz.underlying3
  a3:=Tryz.isAgg3
  z3:=Tryz.sizeOf3
  v3:=Tryz.zeroValue3
  t4:=Tryz.underlying4
  a4:=Tryz.isAgg4
  z4:=Tryz.sizeOf4
  v4:=Tryz.zeroValue4
  t5:=Tryz.underlying5
  a5:=Tryz.isAgg5
  z5:=Tryz.sizeOf5
  v5:=Tryz.zeroValue5
  t9:=Tryz.underlying9
  a9:=Tryz.isAgg9
  z9:=Tryz.sizeOf9
  v9:=Tryz.zeroValue9
  t22:=Tryz.underlying73
  a22:=Tryz.isAgg73
  z22:=Tryz.sizeOf73
  v22:=Tryz.zeroValue73
  t23:=Tryz.underlying73
  a23:=Tryz.isAgg73
  z23:=Tryz.sizeOf73
  v23:=Tryz.zeroValue73
  t25:=Tryz.underlying3
  a25:=Tryz.isAgg3
  z25:=Tryz.sizeOf3
  v25:=Tryz.zeroValue3
  t32:=Tryz.underlying141
  a32:=Tryz.isAgg141
  z32:=Tryz.sizeOf141
  v32:=Tryz.zeroValue141
  t35:=Tryz.underlying162
  a35:=Tryz.isAgg162
  z35:=Tryz.sizeOf162
  v35:=Tryz.zeroValue162
  t36:=Tryz.underlying163
  a36:=Tryz.isAgg163
  z36:=Tryz.sizeOf163
  v36:=Tryz.zeroValue163
  t41:=Tryz.underlying120
  a41:=Tryz.isAgg120
  z41:=Tryz.sizeOf120
  v41:=Tryz.zeroValue120
  t44:=Tryz.underlying41
  a44:=Tryz.isAgg41
  z44:=Tryz.sizeOf41
  v44:=Tryz.zeroValue41
  t46:=Tryz.underlying37
  a46:=Tryz.isAgg37
  z46:=Tryz.sizeOf37
  v46:=Tryz.zeroValue37
  t53:=Tryz.underlying186
  a53:=Tryz.isAgg186
  z53:=Tryz.sizeOf186
  v53:=Tryz.zeroValue186
  t57:=Tryz.underlying190
  a57:=Tryz.isAgg190
  z57:=Tryz.sizeOf190
  v57:=Tryz.zeroValue190
  t63:=Tryz.underlying204
  a63:=Tryz.isAgg204
  z63:=Tryz.sizeOf204
  v63:=Tryz.zeroValue204
  t64:=Tryz.underlying205
  a64:=Tryz.isAgg205
  z64:=Tryz.sizeOf205
  v64:=Tryz.zeroValue205
def keys21TryzRen:Go.Shelf.Ren :=
  { f:=λx=>match x with
      | 7=>21
      | 10=>41
      | n=>n
    t:=λx=>match x with
      | 0=>0
      | 3=>67
      | 4=>4
      | 23=>61
      | 26=>3
      | 27=>75
      | 28=>76
      | 33=>103
      | n=>n
    g:=λn=>n }
theorem vP:Go.Proofs.SlLaysZI.n7 Tryz.prog keys21TryzRen where
  mixed:=mixed
  f7:=⟨Tryz.f21.name,by kernel_rfl,Tryz.func21.trans (by kernel_rfl)⟩
  f10:=⟨Tryz.f41.name,by kernel_rfl,Tryz.func41.trans (by kernel_rfl)⟩
  t0:=Tryz.underlying0
  a0:=Tryz.isAgg0
  z0:=Tryz.sizeOf0
  v0:=Tryz.zeroValue0
  t4:=Tryz.underlying4
  a4:=Tryz.isAgg4
  z4:=Tryz.sizeOf4
  v4:=Tryz.zeroValue4
  t23:=Tryz.underlying61
  a23:=Tryz.isAgg61
  z23:=Tryz.sizeOf61
  v23:=Tryz.zeroValue61
  t26:=Tryz.underlying3
  a26:=Tryz.isAgg3
  z26:=Tryz.sizeOf3
  v26:=Tryz.zeroValue3
  t27:=Tryz.underlying75
  a27:=Tryz.isAgg75
  z27:=Tryz.sizeOf75
  v27:=Tryz.zeroValue75
  t28:=Tryz.underlying76
  a28:=Tryz.isAgg76
  z28:=Tryz.sizeOf76
  v28:=Tryz.zeroValue76
  t33:=Tryz.underlying103
  a33:=Tryz.isAgg103
  z33:=Tryz.sizeOf103
  v33:=Tryz.zeroValue103
theorem ok79 {c:zj}  (a:opMayPathC1 c=some res):Sp 79 [.str c] h (yW (.bool res) h):=by
 unfold opMayPathC1 at a;refine zd Tryz.func79 rfl (by kernel_rfl) (xR 6 rfl) (R.r ?_);refine zq a (λd b a=>cp (ok36 b) (R.r ?_));cases a;exact fz rfl rfl
theorem ok42 {d:(List zj)}  (b:qc d=some res):Sp 42 [.sl 1 (d.map zI)] h (yW (.bool res) h):=by
 unfold qc at b;refine zd Tryz.func42 rfl (by kernel_rfl) (xR 16 rfl) (R.r ?_);refine ln λa=>?_;replace a:=yA a;apply R.r;refine lng λg=>R.r ?_;refine yE b (λv3 c b=>zZ rfl sc (λf=>ok37 (λ_ v L M e=>ok79  e) (c f)) ss (R.r ?_));cases b;exact fz rfl rfl
theorem ok22 {p:(List zj)} {b:(List zj)}  (a:yV p b=some res):Sp 22 [.sl 1 (p.map zI),.sl 1 (b.map zI)] h (yW (.bool res) h):=by
 unfold yV at a;refine zd Tryz.func22 rfl (by kernel_rfl) (xR 58 rfl) (R.r ?_);refine zq a (λy g a=>cp (ok34 g) (R.r ?_));refine zq a (λA i a=>cp (ok16 i) (R.r ?_));refine yE a (λv3 k a=>zZ rfl sc (λv=>ok42 (k v)) ss (R.r ?_));refine lng λs=>R.r ?_;refine lng λu=>R.r ?_;refine lng λw=>R.r ?_;refine lng λx=>R.r ?_;refine zt gg a (λl a=>?_) (λl a=>?_)
 ·apply R.r;cases a;exact fz rfl rfl
 ·apply R.r;refine ln λf=>?_;replace f:=yA f;apply R.r;refine zY (λ(q:Nat) (n:Unit)=>zJ 2 38 (zJ 43 15 [(0,.any),(42,.int .i64 (q:Int))])) (λn=>h.ext [] []) a (λ_ _=>by simp only [zJ,qB,um,un];try rfl) (wk.le LEL.o) ?_;intro q n t a;apply R.r;refine ya gg a (λB z m j a e=>?_) (λa=>?_)
  ·apply R.r;refine ix (yb j) (R.r ?_);refine xU a (λd a=>gix d (R.r ?_));refine zt gg a (λc a=>?_) (λc a=>?_)
   ·apply R.r;cases a;replace a:=e;apply R.r;cases a;exact fz rfl rfl
   ·apply R.r;cases a;exact ⟨(),m,e,wk.le (by exact (.drop (.eq (.d16 (.d16 (.d4 (.drop (.drop (.eq (.eq (.cons (leV.of_eq (xC (by omega) (by omega))) (.d4 (.d4 (.d4 (.drop (.drop (.drop leL.nil)))))))))))))))))⟩
  ·apply R.r;cases a;exact fz rfl rfl
theorem ok80 {res:GE}  (a:watchXown l0=some res):Sp 80 [.agg (GE.row l0)] h (yW (.agg (GE.row res)) h):=by
 unfold watchXown at a;refine zd Tryz.func80 rfl (by kernel_rfl) (xR 12 rfl) (R.r ?_);refine wv (by kernel_rfl) (R.r ?_);refine zq a (λb d a=>yO rfl FOk.nil (by rfl) rfl (sc rfl) (xn (T':=[b.length]) (ok58 d) (m:=0) rfl rfl) ss (R.r ?_));refine zq a (λe c a=>yO rfl FOk.nil (by rfl) rfl (sc rfl) (xn (T':=[b.length,e.length]) (ok59 c) (m:=1) rfl rfl) ss (R.r ?_));refine zS rfl FOk.nil (by kernel_rfl) rfl (zQ (cs':=(GLeafRw l0 (wL h 0 5 (b.map GJ.row)) (.sl 3 (l0.tombs.map GF.row)))) rfl ty46 gg gg (zb rfl) rfl rfl rfl rfl rfl) rfl (R.r ?_);refine zS rfl FOk.nil (by kernel_rfl) rfl (zQ (cs':=(GLeafRw l0 (wL h 0 5 (b.map GJ.row)) (wL h 1 3 (e.map GF.row)))) rfl ty47 gg gg (zb rfl) rfl rfl rfl rfl rfl) rfl (R.r ?_);cases a;exact fe rfl rfl (leV.agg (.eq (.eq (.eq (.eq (.eq (.eq (.eq (.cons (leV.osl _ _ _) (.cons (leV.osl _ _ _) leL.nil))))))))) rfl)
theorem ok43 {res:GC}  (b:wc e0=some res):Sp 43 [.agg (GC.row e0)] h (yW (.agg (GC.row res)) h):=by
 unfold wc at b;refine zd Tryz.func43 rfl (by kernel_rfl) (xR 16 rfl) (R.r ?_);refine yB [5,8] [] trivial mixed (by kernel_rfl) (R.r ?_);refine zq b (λc g b=>yO rfl (FOk.cons (.inr (yj trivial)) (FOk.cons (.inr (yj trivial)) FOk.nil)) (by rfl) rfl (sc rfl) (xn (T':=[c.length]) (ok17 g) (m:=0) rfl rfl) ss (R.r ?_));refine zq b (λa d b=>zO rfl rfl (λ_=>sc rfl) (by rintro _ ⟨B2,T2,rfl,f⟩;exact ok80 d) ss (R.r ?_));refine zq b (λv3 e b=>zO rfl rfl (λ_=>sc rfl) (by rintro _ ⟨B2,T2,rfl,f⟩;exact ok80 e) ss (R.r ?_));refine zS rfl (FOk.cons (.inr (yj trivial)) (FOk.cons (.inr (yj trivial)) FOk.nil)) (by kernel_rfl) rfl (zQ (cs':=[wL h 0 1 (c.map zI),.int .u8 e0.typ,.bool e0.had,.bool e0.has,.int .u8 e0.was.typ,.int .i64 e0.was.n,.int .u64 e0.was.time,.int .u8 e0.was.dot.actor.rep,.int .u32 e0.was.dot.actor.inc,.int .u64 e0.was.dot.seq,.str e0.was.text,.sl 5 (e0.was.items.map GJ.row),.sl 3 (e0.was.tombs.map GF.row),.int .u8 e0.is.typ,.int .i64 e0.is.n,.int .u64 e0.is.time,.int .u8 e0.is.dot.actor.rep,.int .u32 e0.is.dot.actor.inc,.int .u64 e0.is.dot.seq,.str e0.is.text,.sl 5 (e0.is.items.map GJ.row),.sl 3 (e0.is.tombs.map GF.row)]) rfl ty29 gg gg (zb rfl) rfl rfl rfl rfl rfl) rfl (R.r ?_);refine zS rfl (FOk.cons (.inr (yj trivial)) (FOk.cons (.inr (yj trivial)) FOk.nil)) (by kernel_rfl) rfl (zQ (cs':=[wL h 0 1 (c.map zI),.int .u8 e0.typ,.bool e0.had,.bool e0.has,.int .u8 a.typ,.int .i64 a.n,.int .u64 a.time,.int .u8 a.dot.actor.rep,.int .u32 a.dot.actor.inc,.int .u64 a.dot.seq,.str a.text,.sl 5 (a.items.map GJ.row),.sl 3 (a.tombs.map GF.row),.int .u8 e0.is.typ,.int .i64 e0.is.n,.int .u64 e0.is.time,.int .u8 e0.is.dot.actor.rep,.int .u32 e0.is.dot.actor.inc,.int .u64 e0.is.dot.seq,.str e0.is.text,.sl 5 (e0.is.items.map GJ.row),.sl 3 (e0.is.tombs.map GF.row)]) rfl ty49.choose_spec.1 gg gg (zb rfl) rfl rfl rfl rfl rfl) rfl (R.r ?_);refine zS rfl (FOk.cons (.inr (yj trivial)) (FOk.cons (.inr (yj trivial)) FOk.nil)) (by kernel_rfl) rfl (zQ (cs':=[wL h 0 1 (c.map zI),.int .u8 e0.typ,.bool e0.had,.bool e0.has,.int .u8 a.typ,.int .i64 a.n,.int .u64 a.time,.int .u8 a.dot.actor.rep,.int .u32 a.dot.actor.inc,.int .u64 a.dot.seq,.str a.text,.sl 5 (a.items.map GJ.row),.sl 3 (a.tombs.map GF.row),.int .u8 v3.typ,.int .i64 v3.n,.int .u64 v3.time,.int .u8 v3.dot.actor.rep,.int .u32 v3.dot.actor.inc,.int .u64 v3.dot.seq,.str v3.text,.sl 5 (v3.items.map GJ.row),.sl 3 (v3.tombs.map GF.row)]) rfl ty49.choose_spec.1 gg gg (zb rfl) rfl rfl rfl rfl rfl) rfl (R.r ?_);cases b;exact fe rfl rfl (leV.agg (.cons (leV.osl _ _ _) (.eq (.eq (.eq (.eq (.eq (.eq (.eq (.eq (.eq (.eq (.eq (.eq (.eq (.eq (.eq (.eq (.eq (.eq (.eq (.eq (.eq leL.nil)))))))))))))))))))))) rfl)
theorem ok44N (n:Nat):∀{t0:(List GA)} {d:(List zj)} {s:((List zj)->Option Bool)} {k:FuncId} {f g:List AV} {res:(List GA)} {h:AH} (l:∀O v (L:List Blk) (M:List Nat),s O=some v->Sp k (f++[.sl 1 (O.map zI)]++g) (h.ext L M) (yW (.bool v) (h.ext L M))),wE n t0 d s=some res->Sp 44 [.sl 3 (t0.map GA.row),.sl 1 (d.map zI),.fn (.func k) f g] h (yW (.sl 3 (res.map GA.row)) h):=by
 induction n with
 | zero=>intro t0 d s k f g res h l c;simp [wE] at c
 | succ n ih =>
  intro t0 d s k f g res h l c;unfold wE at c;refine z1 Tryz.func44 rfl (by kernel_rfl) (xR 65 rfl) (λo hC=>?_);simp only [zG,AV.low,ud,uZ,tR] at o;have a:∀n m,h.blks.length<=n->h.toks.length<=m->zG n m f=true:=λn m S Q=>yp S Q _ (by simp [o]);have b:∀n m,h.blks.length<=n->h.toks.length<=m->zG n m g=true:=λn m S Q=>yp S Q _ (by simp [o]);apply R.r;refine ln λz=>?_;replace z:=yA z;apply R.r;refine zY (λ(U:Nat) (q:(List GA))=>zJ 3 3 (zJ 7 6 (zJ 16 49 [(0,.any),(6,wL h 0 3 (q.map GA.row)),(15,.int .i64 (U:Int))]))) (λq=>h.ext [] [q.length]) c (λ_ _=>by simp only [zJ,qB,um,un];try rfl) (wk.trans (wk_tok gt6 rfl st6 rfl) (wk.le (by exact (.drop (.eq (.eq (.drop (.drop (.drop (.cons (leV.of_eq rfl) (.d4 (.drop (.drop (.eq (.eq (.cons (leV.of_eq rfl) (.d16 (.d16 (.d16 (.drop leL.nil)))))))))))))))))))) ?_;intro U q W c;apply R.r;refine ya gg c (λe o1 K T c N=>?_) (λc=>?_)
  ·apply R.r;refine za rfl (yR rfl el33 gg gg isl (yb T) (GA.row_eq _)) ss (R.r ?_);refine wv (by kernel_rfl) (R.r ?_);refine zq c (λv32 D c=>yO rfl FOk.nil (by rfl) rfl (sc rfl) (xn (T':=[q.length,v32.length]) (ok17 D) (m:=1) rfl rfl) ss (R.r ?_));refine zp rfl rfl (zL (es:=([e.name]:List zj).map zI) rfl el29 ze9 rfl rfl (zx gg zC) (.cons (zb rfl) .nil) rfl rfl rfl) ss ?_;refine xU c (λJ c=>draw_okH rfl FOk.nil (by rfl) rfl (vn (j:=1) (T':=[q.length,((v32++([e.name]:List zj))).length]) rfl rfl rfl rfl el29 el29 gg gg (zb rfl) (zb rfl) w5 J rfl rfl) ss (R.r ?_));refine yB [1,3,6] [(1,[(0,.cells [.str e.name,.sl 9 (e.leaves.map GE.row),.sl 3 (e.subs.map GA.row)])]),(3,[(0,.cells [.str e.name,.sl 9 (e.leaves.map GE.row),.sl 3 (e.subs.map GA.row)])])] ⟨⟨rfl,trivial⟩,⟨rfl,trivial⟩,trivial⟩ mixed (by kernel_rfl) (R.r ?_);refine vR rfl rfl (by rintro _ ⟨B2,T2,rfl,p⟩;exact zF rfl ty9 gg (keeps1 p) (zA rfl) (zb rfl)) ss (R.r ?_);refine vR rfl rfl (by rintro _ ⟨B2,T2,rfl,p⟩;exact zF rfl ty33 gg (keeps1 p) (zA rfl) (zb rfl)) ss (R.r ?_);refine zq c (λi H c=>zO rfl rfl (λ_=>sc rfl) (by rintro _ ⟨B2,T2,rfl,p⟩;exact (ih (λO v L M Y=>by rw [xd];exact l O v _ _ Y) H).le (.eq (.cons (leV.osl _ _ _) (.eq leL.nil)))) ss ?_);refine zp rfl rfl (xc (cs':=[.str e.name,.osl none 9 (([]:List GE).map GE.row),.sl 3 (i.map GA.row)]) rfl su70 ze70 pl70 (zx gg (zx gg zC)) (.cons (zb rfl) (.cons (zb rfl) .nil)) rfl rfl) ss ?_;refine zS rfl (FOk.cons (.inr (yj ⟨rfl,trivial⟩)) (FOk.cons (.inr (yj ⟨rfl,trivial⟩)) (FOk.cons (.inr (yj trivial)) FOk.nil))) (by kernel_rfl) rfl (vQ (n:=1) rfl ze70 rfl) ss ?_;refine zS rfl (FOk.cons (.inr (yj ⟨rfl,trivial⟩)) (FOk.cons (.inr (yj ⟨rfl,trivial⟩)) (FOk.cons (.inr (yj trivial)) FOk.nil))) (by kernel_rfl) rfl (zQ (cs':=[.str e.name,.osl none 9 (([]:List GE).map GE.row),.sl 3 (i.map GA.row)]) rfl ty70.choose_spec.1 gg gg (zb rfl) rfl rfl rfl rfl rfl) rfl (R.r ?_);refine ln λu=>?_;replace u:=yA u;apply R.r;refine zY (λ(V:Nat) (s2:(List GE))=>zJ 3 3 (zJ 7 2 (zJ 11 2 (zJ 16 18 (zJ 37 28 [(0,.any),(36,.int .i64 (V:Int))]))))) (λs2=>h.ext [.cells [.str e.name,.sl 9 (e.leaves.map GE.row),.sl 3 (e.subs.map GA.row)],.cells [.str e.name,wL h 2 9 (s2.map GE.row),.sl 3 (i.map GA.row)]] [q.length,((v32++([e.name]:List zj))).length,s2.length]) c (λ_ _=>by simp only [zJ,qB,um,un];try rfl) (wk.trans (wk_tokB (j:=1) rfl gt1 rfl st1 rfl rfl) (wk.le (by exact (.drop (.eq (.eq (.drop (.drop (.drop (.eq (.drop (.drop (.eq (.eq (.drop (.drop (.eq (.eq (.eq (.d16 (.drop (.drop (.eq (.eq (.cons (leV.of_eq rfl) (.d16 (.d4 (.d4 (.d4 leL.nil))))))))))))))))))))))))))))) ?_;intro V s2 X c;apply R.r;refine ya gg c (λx2 o2 C P c F=>?_) (λc=>?_)
   ·apply R.r;refine ix (yb P) (R.r ?_);refine zq c (λZ I c=>yq rfl (scC rfl) ((l _ _ _ _ I).le (leL.app (leL.pre (.cons (leV.osl _ _ _) leL.nil)))) ss (R.r ?_));refine zt gg c (λy c=>?_) (λy c=>?_)
    ·refine yB [3] [] trivial mixed (by kernel_rfl) (R.r ?_);refine zq c (λt B c=>zO rfl rfl (λ_=>sc rfl) (by rintro _ ⟨B2,T2,rfl,p⟩;exact ok81 B) ss ?_);refine zp rfl rfl (zL (es:=([t]:List GE).map GE.row) rfl el68 ze49 rfl rfl (zx gg zC) (.cons (zb rfl) .nil) rfl rfl rfl) ss ?_;refine xU c (λA c=>draw_okH rfl (FOk.cons (.inr (yj trivial)) FOk.nil) (by rfl) rfl (vn (j:=2) (T':=[q.length,((v32++([e.name]:List zj))).length,((s2++([t]:List GE))).length]) rfl rfl rfl rfl el68 el68 gg gg (zb rfl) (zb rfl) w5 A rfl rfl) ss (R.r ?_));refine zS rfl (FOk.cons (.inr (yj trivial)) FOk.nil) (by kernel_rfl) rfl (zQ (cs':=[.str e.name,wL h 2 9 ((s2++([t]:List GE)).map GE.row),.sl 3 (i.map GA.row)]) rfl ty68 gg gg (zb rfl) rfl rfl rfl rfl rfl) rfl (R.r ?_);cases c;exact ⟨(s2++([t]:List GE)),C,F,wk.trans (wk.le (by exact (.drop (.eq (.eq (.drop (.drop (.drop (.eq (.drop (.drop (.eq (.eq (.drop (.drop (.eq (.eq (.eq (.d16 (.drop (.drop (.eq (.eq (.cons (leV.of_eq (xC (by omega) (by omega))) (.d16 (.d4 (.d4 (.d4 leL.nil)))))))))))))))))))))))))))) (yk (by simp [zG,AV.low,a,b]) rfl rfl (by simp [Blk.low,zG,AV.low,a,b]))⟩
    ·apply R.r;cases c;exact ⟨s2,C,F,wk.trans (wk.le (by exact (.drop (.eq (.eq (.drop (.drop (.drop (.eq (.drop (.drop (.eq (.eq (.drop (.drop (.eq (.eq (.eq (.d16 (.drop (.drop (.eq (.eq (.cons (leV.of_eq (xC (by omega) (by omega))) (.d16 (.d4 (.d4 (.d4 leL.nil)))))))))))))))))))))))))))) (yk (by simp [zG,AV.low,a,b]) rfl rfl (by simp [Blk.low,zG,AV.low,a,b]))⟩
   ·apply R.r;refine ln λx=>?_;replace x:=yA x;apply R.r;refine ln λw=>?_;replace w:=yA w;apply R.r;refine zt gg c (λE c=>?_) (λE c=>?_)
    ·apply R.r;refine za rfl (zL (es:=([(GA.mk e.name s2 i)]:List GA).map GA.row) rfl el33 ze70 rfl rfl (zx gg zC) (.cons (zb rfl) .nil) rfl rfl (by simp only [uy,tM,GA.row_eq];rfl)) ss ?_;refine xU c (λG c=>za rfl (vn (j:=0) (T':=[((q++([(GA.mk e.name s2 i)]:List GA))).length,((v32++([e.name]:List zj))).length,s2.length]) rfl rfl rfl rfl el33 el33 gg gg (zb rfl) (zb rfl) w5 G rfl rfl) ss (R.r ?_));cases c;exact ⟨(q++([(GA.mk e.name s2 i)]:List GA)),K,N,wk.trans (wk.le (by exact (.drop (.eq (.eq (.drop (.drop (.drop (.cons (leV.of_eq rfl) (.d4 (.drop (.drop (.eq (.eq (.cons (leV.of_eq (xC (by omega) (by omega))) (.d16 (.d16 (.d16 (.drop leL.nil))))))))))))))))))) (yk (by simp [zG,AV.low,a,b]) rfl rfl (by simp [Blk.low,zG,AV.low,a,b]))⟩
    ·apply R.r;cases c;exact ⟨q,K,N,wk.trans (wk.le (by exact (.drop (.eq (.eq (.drop (.drop (.drop (.cons (leV.of_eq rfl) (.d4 (.drop (.drop (.eq (.eq (.cons (leV.of_eq (xC (by omega) (by omega))) (.d16 (.d16 (.d16 (.drop leL.nil))))))))))))))))))) (yk (by simp [zG,AV.low,a,b]) rfl rfl (by simp [Blk.low,zG,AV.low,a,b]))⟩
  ·apply R.r;cases c;exact fe rfl rfl (leV.osl _ _ _)
theorem ok44 {a:(List zj)} {e:((List zj)->Option Bool)} {c:FuncId} {b d:List AV} {res:(List GA)} (f:∀g v (L:List Blk) (M:List Nat),e g=some v->Sp c (b++[.sl 1 (g.map zI)]++d) (h.ext L M) (yW (.bool v) (h.ext L M))) (j:pathsXkept t0 a e=some res):Sp 44 [.sl 3 (t0.map GA.row),.sl 1 (a.map zI),.fn (.func c) b d] h (yW (.sl 3 (res.map GA.row)) h):=by
 obtain ⟨n,i⟩:=anyN_is j;exact ok44N n f i
theorem ok45 {a:(List zj)} {f:(List zj)} {e:Nat} (c:h.blk e=some (.cells [.sl 1 (f.map zI)])) (b:qw a f=some res):Sp 45 [.sl 1 (a.map zI),.ptr e 0] h (yW (.bool res) h):=by
 unfold qw at b;refine zd Tryz.func45 rfl (by kernel_rfl) (xR 7 rfl) (R.r ?_);refine za rfl (b_load rfl ty29 gg c (zA rfl) (zb rfl)) ss (R.r ?_);refine zq b (λg d b=>cp (ok22 d) (R.r ?_));cases b;exact fz rfl rfl
theorem ok24 {f:(List zj)} {res:((List GA)×Int)}  (a:xr t0 f=some res):Sp 24 [.sl 3 (t0.map GA.row),.sl 1 (f.map zI)] h (yW (.tup [.sl 3 (res.1.map GA.row),.int .i64 res.2]) h):=by
 unfold xr at a;refine zd Tryz.func24 rfl (by kernel_rfl) (xR 17 rfl) (R.r ?_);refine zq a (λl c a=>cp (ok30 c) (R.r ?_));refine yE a (λk b a=>zZ rfl sc (λi=>ok16 (b i)) ss (R.r ?_));refine zt gg a (λd a=>?_) (λd a=>?_)
 ·apply R.r;cases a;exact fe rfl rfl (leV.tup (.cons (leV.osl _ _ _) (.eq leL.nil)))
 ·apply R.r;refine za rfl (vX rfl rfl rfl) ss ?_;refine zq a (λv4 e a=>cp ((ok44 (λ_ v L M g=>ok45 (blk_ext2 (j:=0) rfl) g) e).le (.eq (.cons (leV.osl _ _ _) (.eq leL.nil)))) (R.r ?_));cases a;exact fz rfl rfl
theorem ok25 {d:(List GH)} {res:(List GH)}  (a:yr d=some res):Sp 25 [.sl 24 (d.map GH.row)] h (OwnK h 24 res.length (res.map GH.row)):=by
 unfold yr at a;refine zd Tryz.func25 rfl (by kernel_rfl) (xR 8 rfl) (R.r ?_);refine ops_nilqE rfl rfl el31 gg isl rfl (λ_=>ss) a (λf e a=>R.r ?_);refine zt gg a (λb a=>?_) (λb a=>?_)
 ·apply R.r;cases a;refine fr rfl (fin_own0 (row:=GH.row) (L:=([]:List GH)) ?_);exact ⟨rfl,rfl⟩
 ·apply R.r;refine za rfl (zL (es:=([]:List GH).map GH.row) rfl el31 ze53 rfl rfl zC .nil rfl rfl rfl) ss (R.r ?_);refine xU a (λc a=>za rfl (e_appN (m:=0) (T':=[((([]:List GH)++d)).length]) rfl rfl rfl rfl el31 el31 gg gg (zb rfl) (zb rfl) wP c rfl rfl) ss (R.r ?_));cases a;refine fr rfl (fin_own ?_);exact ⟨rfl,rfl⟩
end Go.Vv
