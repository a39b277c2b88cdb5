/- Each function that the law reaches computes what its reading says; printed by a program. -/
import Derived.Test.YtonoilllklmacaaGreatW1
set_option linter.all false
namespace Go.Vv
open Go Go.Proofs
set_option maxRecDepth 100000
set_option synthInstance.maxSize 100000
set_option synthInstance.maxHeartbeats 1000000
set_option maxHeartbeats 1000000
variable {res:Bool} {h:AH} {l0 a1 b2 p0:GC} {f1:(Int->Option Bool)} {ff1:FuncId} {af1 kf1:List AV} {t0:(List GA)} {bl tl:Nat} {n0:GA} {kind1:Int} {s0:(List GE)} {v1:GE}
theorem ok86 {a0:GC} {e:GC}  (b:leafSame a0 e=some res):Sp 86 [.agg (GC.row a0),.agg (GC.row e)] h (yP (.bool res) h):=by
 unfold leafSame at b;refine zc Tryz.func86 rfl (by kernel_rfl) (xh 52 rfl) (R.r ?_);refine zY rfl (λa=>yH rfl (zO gg a) (zO gg a) (bin_eq pk41 rfl)) ss (R.r ?_);refine yb b (λv1 d b=>zQ rfl sc (λa=>ok119 (d a)) ss (R.r ?_));refine yb b (λf c b=>zQ rfl sc (λa=>ok120 (c a)) ss (R.r ?_));cases b;exact fz rfl rfl
theorem ok51  (a:vu l0=some res):Sp 51 [.agg (GC.row l0)] h (yP (.bool res) h):=by
 unfold vu at a;refine zc Tryz.func51 rfl (by kernel_rfl) (xh 89 rfl) (R.r ?_);refine zb rfl (z8 (cs':=[.int .u8 l0.typ,.int .i64 (0:Int),.int .u64 (0:Int),.int .u8 (0:Int),.int .u32 (0:Int),.int .u64 (0:Int),.str ([]:zx),.osl none 5 (([]:List GF).map GF.row),.osl none 3 (([]:List GE).map GE.row)]) rfl su51 xV pl51 (zd gg zk) (.cons (za rfl) .nil) rfl rfl) ss (R.r ?_);refine zj gg a (λv a=>?_) (λv a=>?_)
 ·apply R.r;refine zg a (λC n a=>cp ((ok86 n).le (.eq (.cons (leV.agg (.eq (.eq (.eq (.eq (.eq (.eq (.eq (.cons (leV.osl _ _ _) (.cons (leV.osl _ _ _) leL.nil))))))))) rfl) leL.nil))) (R.r ?_));cases a;exact fz rfl rfl
 ·apply R.r;refine zj gg a (λu a=>?_) (λu a=>?_)
  ·apply R.r;refine yU [3,5] [(3,[(0,.cells (GC.row l0))]),(5,[(0,.cells (GC.row l0))])] ⟨⟨rfl,trivial⟩,⟨rfl,trivial⟩,trivial⟩ mixed (by kernel_rfl) (R.r ?_);refine yX rfl rfl (by rintro _ ⟨B2,T2,rfl,b⟩;exact zH rfl ty41.choose_spec.1 gg (wU b) (zL (cs':=(GE.row l0.dot)) ty41.choose_spec.2 rfl rfl) (za rfl)) ss (R.r ?_);refine yX rfl rfl (by rintro _ ⟨B2,T2,rfl,b⟩;exact zH rfl ty9 gg (wU b) (zI rfl) (za rfl)) ss (R.r ?_);refine zN rfl (FOk.cons (.inr (yi ⟨rfl,trivial⟩)) (FOk.cons (.inr (yi ⟨rfl,trivial⟩)) FOk.nil)) (by kernel_rfl) rfl (zG (cs':=[.int .u8 l0.typ,.int .i64 (0:Int),.int .u64 l0.time,.int .u8 (0:Int),.int .u32 (0:Int),.int .u64 (0:Int),.str ([]:zx),.osl none 5 (([]:List GF).map GF.row),.osl none 3 (([]:List GE).map GE.row)]) rfl ty39 gg gg (za rfl) rfl rfl rfl rfl rfl) rfl (R.r ?_);refine zN rfl (FOk.cons (.inr (yi ⟨rfl,trivial⟩)) (FOk.cons (.inr (yi ⟨rfl,trivial⟩)) FOk.nil)) (by kernel_rfl) rfl (zG (cs':=[.int .u8 l0.typ,.int .i64 (0:Int),.int .u64 l0.time,.int .u8 l0.dot.actor.rep,.int .u32 l0.dot.actor.inc,.int .u64 l0.dot.seq,.str ([]:zx),.osl none 5 (([]:List GF).map GF.row),.osl none 3 (([]:List GE).map GE.row)]) rfl ty41.choose_spec.1 gg gg (za rfl) rfl rfl rfl rfl rfl) rfl (R.r ?_);refine zN rfl (FOk.cons (.inr (yi ⟨rfl,trivial⟩)) (FOk.cons (.inr (yi ⟨rfl,trivial⟩)) FOk.nil)) (by kernel_rfl) rfl (zG (cs':=[.int .u8 l0.typ,.int .i64 (0:Int),.int .u64 l0.time,.int .u8 l0.dot.actor.rep,.int .u32 l0.dot.actor.inc,.int .u64 l0.dot.seq,.str l0.text,.osl none 5 (([]:List GF).map GF.row),.osl none 3 (([]:List GE).map GE.row)]) rfl ty9 gg gg (za rfl) rfl rfl rfl rfl rfl) rfl (R.r ?_);refine yb a (λv4 m a=>zQ rfl sc (λc=>ok82 (m c)) ss (R.r ?_));refine yb a (λv5 s a=>zQ (vP rfl rfl rfl) sc (λc=>ok52 (s c)) ss (R.r ?_));refine yb a (λB t a=>zQ (vP rfl rfl rfl) sc (λc=>ok83 (t c)) ss (R.r ?_));refine zY (vP rfl rfl rfl) (λc=>z8 (cs':=lit4x) rfl su41 ze41 pl41 zk .nil rfl rfl) ss ?_;refine zY (vP rfl rfl rfl) (λc=>yH rfl (zO gg c) (zO gg c) (bin_ne pk41 rfl)) ss (R.r ?_);refine zj gg a (λq a=>?_) (λq a=>?_)
   ·apply R.r;cases a;exact fz rfl rfl
   ·apply R.r;refine zg a (λD o a=>cp ((ok86 o).le (.eq (.cons (leV.agg (.eq (.eq (.eq (.eq (.eq (.eq (.eq (.cons (leV.osl _ _ _) (.cons (leV.osl _ _ _) leL.nil))))))))) rfl) leL.nil))) (R.r ?_));cases a;exact fz rfl rfl
  ·apply R.r;refine zj gg a (λp a=>?_) (λp a=>?_)
   ·apply R.r;refine yU [3] [(3,[(0,.cells (GC.row l0))])] ⟨⟨rfl,trivial⟩,trivial⟩ mixed (by kernel_rfl) (R.r ?_);refine yX rfl rfl (by rintro _ ⟨B2,T2,rfl,b⟩;exact zH rfl ty43 gg (wU b) (zI rfl) (za rfl)) ss (R.r ?_);refine zN rfl (FOk.cons (.inr (yi ⟨rfl,trivial⟩)) FOk.nil) (by kernel_rfl) rfl (zG (cs':=[.int .u8 l0.typ,.int .i64 (0:Int),.int .u64 (0:Int),.int .u8 (0:Int),.int .u32 (0:Int),.int .u64 (0:Int),.str ([]:zx),.sl 5 (l0.items.map GF.row),.osl none 3 (([]:List GE).map GE.row)]) rfl ty49 gg gg (za rfl) rfl rfl rfl rfl rfl) rfl (R.r ?_);refine zN rfl (FOk.cons (.inr (yi ⟨rfl,trivial⟩)) FOk.nil) (by kernel_rfl) rfl (zG (cs':=[.int .u8 l0.typ,.int .i64 (0:Int),.int .u64 (0:Int),.int .u8 (0:Int),.int .u32 (0:Int),.int .u64 (0:Int),.str ([]:zx),.sl 5 (l0.items.map GF.row),.sl 3 (l0.tombs.map GE.row)]) rfl ty43 gg gg (za rfl) rfl rfl rfl rfl rfl) rfl (R.r ?_);refine zg a (λx f a=>cp (ok84 f) (R.r ?_));refine yb a (λA k a=>zQ rfl sc (λc=>ok85 (k c)) ss (R.r ?_));refine zj gg a (λj a=>?_) (λj a=>?_)
    ·apply R.r;cases a;exact fz rfl rfl
    ·apply R.r;refine zg a (λw l a=>cp (ok86 l) (R.r ?_));cases a;exact fz rfl rfl
   ·apply R.r;refine zj gg a (λd a=>?_) (λd a=>?_)
    ·apply R.r;refine zg a (λy e a=>cp (ok84 e) (R.r ?_));refine zj gg a (λi a=>?_) (λi a=>?_)
     ·apply R.r;cases a;exact fz rfl rfl
     ·apply R.r;refine zg a (λz g a=>cp ((ok86 g).le (.eq (.cons (leV.agg (.eq (.eq (.eq (.eq (.eq (.eq (.eq (.eq (.cons (leV.osl _ _ _) leL.nil))))))))) rfl) leL.nil))) (R.r ?_));cases a;exact fz rfl rfl
    ·apply R.r;cases a;exact fz rfl rfl
theorem ok108 {b:Int}  (a:opIsNameC1 b=some res):Sp 108 [.int .i32 b] h (yP (.bool res) h):=by
 unfold opIsNameC1 at a;refine zc Tryz.func108 rfl (by kernel_rfl) (xh 25 rfl) (R.r ?_);cases a;exact fz rfl rfl
theorem ok168 {s0:zx} {b:Bool} {res:Int} (p:∀q v (L:List Blk) (M:List Nat),f1 q=some v->Sp ff1 (af1++[.int .i32 q]++kf1) (h.ext L M) (yP (.bool v) (h.ext L M))) (a:vp s0 f1 b=some res):Sp 168 [.str s0,.fn (.func ff1) af1 kf1,.bool b] h (yP (.int .i64 res) h):=by
 unfold vp at a;refine yg Tryz.func168 rfl (by kernel_rfl) (xh 21 rfl) (λc t=>?_);simp only [zR,AV.low,ud,uS,tM] at c;have j:∀n m,h.blks.length<=n->h.toks.length<=m->zR n m af1=true:=λn m i f=>yF i f _ (by simp [c]);have g:∀n m,h.blks.length<=n->h.toks.length<=m->zR n m kf1=true:=λn m i f=>yF i f _ (by simp [c]);apply R.r;refine zb rfl (e_range (n:=0) rfl ty9 gg rfl) ss (R.r ?_);refine xI (λ(e:Nat)=>zt 3 7 (zt 11 10 [(0,.any)])) (λe=>h.ext [.siter s0 e] []) a (λ_=>by simp only [zt,wE,ue,uf];try rfl) (wk.le LEL.o) ?_;intro x e w a d;apply R.r;refine ops_nextF rfl rfl gg rfl ss ss a (λs a=>?_) (λa=>?_)
 ·apply R.r;refine r_cond gg (λ_=>?_) (λhh=>by cases hh);apply R.r;refine zg a (λu l a=>zP rfl (scC rfl) (p _ _ _ _ l) ss (R.r ?_));refine zb rfl (yH rfl gg gg (bin_boolE ty4)) ss (R.r ?_);refine zj gg a (λk a=>?_) (λk a=>?_)
  ·apply R.r;cases a;replace a:=d;apply R.r;cases a;exact fz rfl rfl
  ·apply R.r;cases a;exact ⟨(e+(dec s0 e).2),d,wk.le LEL.o⟩
 ·apply R.r;refine r_cond gg (λhh=>by cases hh) (λ_=>R.r ?_);cases a;replace a:=d;apply R.r;cases a;exact fz rfl rfl
theorem ok136 {s0:zx} {res:Int} (e:∀b v (L:List Blk) (M:List Nat),f1 b=some v->Sp ff1 (af1++[.int .i32 b]++kf1) (h.ext L M) (yP (.bool v) (h.ext L M))) (c:vR s0 f1=some res):Sp 136 [.str s0,.fn (.func ff1) af1 kf1] h (yP (.int .i64 res) h):=by
 unfold vR at c;refine yg Tryz.func136 rfl (by kernel_rfl) (xh 8 rfl) (λa l=>?_);simp only [zR,AV.low,ud,uS,tM] at a;have d:∀n m,h.blks.length<=n->h.toks.length<=m->zR n m af1=true:=λn m j f=>yF j f _ (by simp [a]);have g:∀n m,h.blks.length<=n->h.toks.length<=m->zR n m kf1=true:=λn m j f=>yF j f _ (by simp [a]);apply R.r;refine zg c (λv1 i c=>cp (ok168 (λb v L M k=>by rw [w6];exact e b v _ _ k) i) (R.r ?_));cases c;exact fz rfl rfl
theorem ok109 {s0:zx} (e:∀b v (L:List Blk) (M:List Nat),f1 b=some v->Sp ff1 (af1++[.int .i32 b]++kf1) (h.ext L M) (yP (.bool v) (h.ext L M))) (c:wc s0 f1=some res):Sp 109 [.str s0,.fn (.func ff1) af1 kf1] h (yP (.bool res) h):=by
 unfold wc at c;refine yg Tryz.func109 rfl (by kernel_rfl) (xh 9 rfl) (λa l=>?_);simp only [zR,AV.low,ud,uS,tM] at a;have d:∀n m,h.blks.length<=n->h.toks.length<=m->zR n m af1=true:=λn m j f=>yF j f _ (by simp [a]);have g:∀n m,h.blks.length<=n->h.toks.length<=m->zR n m kf1=true:=λn m j f=>yF j f _ (by simp [a]);apply R.r;refine zg c (λv1 i c=>cp (ok136 (λb v L M k=>by rw [w6];exact e b v _ _ k) i) (R.r ?_));cases c;exact fz rfl rfl
theorem ok71 {s0:zx}  (b:opIsName s0=some res):Sp 71 [.str s0] h (yP (.bool res) h):=by
 unfold opIsName at b;refine zc Tryz.func71 rfl (by kernel_rfl) (xh 18 rfl) (R.r ?_);refine ln λa=>?_;replace a:=yD a;apply R.r;refine lng λf=>R.r ?_;refine yb b (λv3 c b=>zQ rfl sc (λe=>ok109 (λ_ v L M d=>ok108  d) (c e)) ss (R.r ?_));cases b;exact fz rfl rfl
theorem ok40N (n:Nat):∀{t0:(List GA)} {b:Int} {res:Bool} {h:AH} , qC n t0 b=some res->Sp 40 [.sl 3 (t0.map GA.row),.int .i64 b] h (yP (.bool res) h):=by
 induction n with
 | zero=>intro t0 b res h  a;simp [qC] at a
 | succ n ih =>
  intro t0 b res h  a;unfold qC at a;refine zc Tryz.func40 rfl (by kernel_rfl) (xh 89 rfl) (R.r ?_);refine ln λi=>?_;replace i:=yD i;apply R.r;refine zj gg a (λx a=>?_) (λx a=>?_)
  ·apply R.r;cases a;exact fz rfl rfl
  ·apply R.r;refine ln λm=>?_;replace m:=yD m;apply R.r;refine zM (λ(C:Nat) (B:Unit)=>zt 2 14 (zt 19 70 [(18,.int .i64 (C:Int))])) (λB=>h.ext [] []) a (λ_ _=>by simp only [zt,wE,ue,uf];try rfl) (wk.le LEL.o) ?_;intro C B D a;apply R.r;refine zT gg a (λz J y w a e=>?_) (λa=>?_)
   ·apply R.r;refine zb rfl (yl rfl el23 gg gg isl (zK w) (GA.row_eq _)) ss (R.r ?_);refine yU [2] [] trivial mixed (by kernel_rfl) (R.r ?_);refine zg a (λG q a=>zZ rfl rfl (λ_=>sc rfl) (by rintro _ ⟨B2,T2,rfl,t⟩;exact ok71 q) ss (R.r ?_));refine yq a (λj a=>draw_gv rfl (vP rfl rfl rfl) (λc=>wF default rfl el23 (zO gg c) (zO gg c) isl (j c) (GA.row_eq _)) ss (R.r ?_));refine draw_glen rfl rfl (λc=>xw rfl rfl rfl rfl el54 (zO gg c) vn) ss (R.r ?_);refine draw_glen rfl rfl (λc=>xw rfl rfl rfl rfl el23 (zO gg c) vn) ss (R.r ?_);refine yb a (λE f a=>xz rfl rfl sc (λc=>ih (f c)) ss (R.r ?_));refine zj gg a (λk a=>?_) (λk a=>?_)
    ·apply R.r;cases a;replace a:=e;apply R.r;cases a;exact fz rfl rfl
    ·apply R.r;refine ln λd=>?_;replace d:=yD d;apply R.r;refine zM (λ(n2:Nat) (A:Unit)=>zt 2 4 (zt 7 9 (zt 19 42 (zt 64 25 [(63,.int .i64 (n2:Int))])))) (λA=>h.ext [.cells [.str z.name,.sl 9 (z.leaves.map GC.row),.sl 3 (z.subs.map GA.row)]] []) a (λ_ _=>by simp only [zt,wE,ue,uf];try rfl) (wk.le LEL.o) ?_;intro n2 A F a;apply R.r;refine zT gg a (λK I v u a l=>?_) (λa=>?_)
     ·apply R.r;refine ix (zK u) (R.r ?_);refine yU [1] [] trivial mixed (by kernel_rfl) (R.r ?_);refine zg a (λH g a=>zZ rfl rfl (λ_=>sc rfl) (by rintro _ ⟨B2,T2,rfl,t⟩;exact ok51 g) ss (R.r ?_));refine yq a (λs a=>dgix s (R.r ?_));refine zj gg a (λp a=>?_) (λp a=>?_)
      ·apply R.r;cases a;replace a:=l;apply R.r;cases a;replace a:=e;apply R.r;cases a;exact fz rfl rfl
      ·apply R.r;cases a;exact ⟨(),v,l,wk.trans (wk.le (by exact (.eq (.eq (.d4 (.eq (.d4 (.d4 (.drop (.eq (.eq (.eq (.d16 (.d16 (.d4 (.d4 (.drop (.drop (.eq (.eq (.cons (leV.of_eq (xq (by omega) (by omega))) (.d16 (.d4 (.d4 (.drop leL.nil))))))))))))))))))))))))) (yp (by simp [zR,AV.low]) rfl rfl (by simp [Blk.low,zR,AV.low]))⟩
     ·apply R.r;cases a;exact ⟨(),y,e,wk.trans (wk.le (by exact (.eq (.eq (.d4 (.d4 (.d4 (.drop (.drop (.eq (.eq (.cons (leV.of_eq (xq (by omega) (by omega))) (.d16 (.d16 (.d16 (.d16 (.d4 (.drop (.drop leL.nil))))))))))))))))))) (yp (by simp [zR,AV.low]) rfl rfl (by simp [Blk.low,zR,AV.low]))⟩
   ·apply R.r;cases a;exact fz rfl rfl
theorem ok40 {a:Int}  (c:treeXmay t0 a=some res):Sp 40 [.sl 3 (t0.map GA.row),.int .i64 a] h (yP (.bool res) h):=by
 obtain ⟨n,b⟩:=qc c;exact ok40N n b
theorem ok17  (a:treeMay t0=some res):Sp 17 [.sl 3 (t0.map GA.row)] h (yP (.bool res) h):=by
 unfold treeMay at a;refine zc Tryz.func17 rfl (by kernel_rfl) (xh 5 rfl) (R.r ?_);refine zg a (λv1 b a=>cp (ok40 b) (R.r ?_));cases a;exact fz rfl rfl
def sortS73TryzRen:Go.Shelf.Ren :=
  { f:=λx=>match x with
      | 54=>73
      | 61=>143
      | 64=>111
      | 65=>110
      | 69=>174
      | 78=>146
      | 79=>147
      | 80=>137
      | 81=>138
      | 82=>139
      | 83=>140
      | 84=>141
      | 85=>142
      | 86=>144
      | 87=>145
      | 89=>170
      | 90=>171
      | 93=>169
      | 94=>172
      | 95=>173
      | 97=>185
      | n=>n
    t:=λx=>match x with
      | 0=>0
      | 3=>3
      | 4=>4
      | 5=>5
      | 9=>9
      | 25=>42
      | 26=>9
      | 44=>101
      | 51=>135
      | 60=>162
      | 61=>163
      | 67=>36
      | 69=>39
      | 75=>187
      | 79=>191
      | 83=>200
      | 84=>201
      | n=>n
    g:=λn=>n }
theorem sortS73TryzLays:Go.Proofs.SlLaysN.n54 Tryz.prog sortS73TryzRen where
  mixed:=mixed
  f54:=⟨Tryz.f73.name,by kernel_rfl,Tryz.func73.trans (by kernel_rfl)⟩
  f61:=⟨Tryz.f143.name,by kernel_rfl,Tryz.func143.trans (by kernel_rfl)⟩
  f64:=Tryz.func111.trans (by kernel_rfl)
  f65:=⟨Tryz.f110.name,by kernel_rfl,Tryz.func110.trans (by kernel_rfl)⟩
  f69:=⟨Tryz.f174.name,by kernel_rfl,Tryz.func174.trans (by kernel_rfl)⟩
  f78:=Tryz.func146.trans (by kernel_rfl)
  f79:=Tryz.func147.trans (by kernel_rfl)
  f80:=⟨Tryz.f137.name,by kernel_rfl,Tryz.func137.trans (by kernel_rfl)⟩
  f81:=⟨Tryz.f138.name,by kernel_rfl,Tryz.func138.trans (by kernel_rfl)⟩
  f82:=⟨Tryz.f139.name,by kernel_rfl,Tryz.func139.trans (by kernel_rfl)⟩
  f83:=⟨Tryz.f140.name,by kernel_rfl,Tryz.func140.trans (by kernel_rfl)⟩
  f84:=⟨Tryz.f141.name,by kernel_rfl,Tryz.func141.trans (by kernel_rfl)⟩
  f85:=⟨Tryz.f142.name,by kernel_rfl,Tryz.func142.trans (by kernel_rfl)⟩
  f86:=⟨Tryz.f144.name,by kernel_rfl,Tryz.func144.trans (by kernel_rfl)⟩
  f87:=⟨Tryz.f145.name,by kernel_rfl,Tryz.func145.trans (by kernel_rfl)⟩
  f89:=Tryz.func170.trans (by kernel_rfl)
  f90:=Tryz.func171.trans (by kernel_rfl)
  f93:=⟨Tryz.f169.name,by kernel_rfl,Tryz.func169.trans (by kernel_rfl)⟩
  f94:=⟨Tryz.f172.name,by kernel_rfl,Tryz.func172.trans (by kernel_rfl)⟩
  f95:=⟨Tryz.f173.name,by kernel_rfl,Tryz.func173.trans (by kernel_rfl)⟩
  f97:=⟨Tryz.f185.name,by kernel_rfl,Tryz.func185.trans (by kernel_rfl)⟩
  t0:=Tryz.underlying0
  a0:=Tryz.isAgg0
  z0:=Tryz.sizeOf0
  v0:=Tryz.zeroValue0
  t3:=Tryz.underlying3
  a3:=Tryz.isAgg3
  z3:=Tryz.sizeOf3
  v3:=Tryz.zeroValue3
  t4:=Tryz.underlying4
  a4:=Tryz.isAgg4
  z4:=Tryz.sizeOf4
  v4:=Tryz.zeroValue4
  t5:=Tryz.underlying5
  a5:=Tryz.isAgg5
  z5:=Tryz.sizeOf5
  v5:=Tryz.zeroValue5
  t9:=Tryz.underlying9
  a9:=Tryz.isAgg9
  z9:=Tryz.sizeOf9
  v9:=Tryz.zeroValue9
  t25:=Tryz.underlying42
  a25:=Tryz.isAgg42
  z25:=Tryz.sizeOf42
  v25:=Tryz.zeroValue42
  t26:=Tryz.underlying9
  a26:=Tryz.isAgg9
  z26:=Tryz.sizeOf9
  v26:=Tryz.zeroValue9
  t44:=Tryz.underlying101
  a44:=Tryz.isAgg101
  z44:=Tryz.sizeOf101
  v44:=Tryz.zeroValue101
  t51:=Tryz.underlying135
  a51:=Tryz.isAgg135
  z51:=Tryz.sizeOf135
  v51:=Tryz.zeroValue135
  t60:=Tryz.underlying162
  a60:=Tryz.isAgg162
  z60:=Tryz.sizeOf162
  v60:=Tryz.zeroValue162
  t61:=Tryz.underlying163
  a61:=Tryz.isAgg163
  z61:=Tryz.sizeOf163
  v61:=Tryz.zeroValue163
  t67:=Tryz.underlying36
  a67:=Tryz.isAgg36
  z67:=Tryz.sizeOf36
  v67:=Tryz.zeroValue36
  t69:=Tryz.underlying39
  a69:=Tryz.isAgg39
  z69:=Tryz.sizeOf39
  v69:=Tryz.zeroValue39
  t75:=Tryz.underlying187
  a75:=Tryz.isAgg187
  z75:=Tryz.sizeOf187
  v75:=Tryz.zeroValue187
  t79:=Tryz.underlying191
  a79:=Tryz.isAgg191
  z79:=Tryz.sizeOf191
  v79:=Tryz.zeroValue191
  t83:=Tryz.underlying200
  a83:=Tryz.isAgg200
  z83:=Tryz.sizeOf200
  v83:=Tryz.zeroValue200
  t84:=Tryz.underlying201
  a84:=Tryz.isAgg201
  z84:=Tryz.sizeOf201
  v84:=Tryz.zeroValue201
theorem ok72 {c:(List zx)} {res:(List zx)}  (a:treeNames t0 c=some res):Sp 72 [.sl 3 (t0.map GA.row),.sl 1 (c.map zW)] h (yP (.sl 1 (res.map zW)) h):=by
 unfold treeNames at a;refine zc Tryz.func72 rfl (by kernel_rfl) (xh 41 rfl) (R.r ?_);refine ln λf=>?_;replace f:=yD f;apply R.r;refine zM (λ(y:Nat) (u:(List GA))=>zt 1 3 (zt 5 6 (zt 14 27 [(0,.sl 3 (u.map GA.row)),(13,.int .i64 (y:Int))]))) (λu=>h.ext [] []) a (λ_ _=>by simp only [zt,wE,ue,uf];try rfl) (wk.le LEL.o) ?_;intro y u z a;apply R.r;refine zT gg a (λE D w q a x=>?_) (λa=>?_)
 ·apply R.r;refine ix (zK q) (R.r ?_);refine zg a (λB v a=>cp (ok34 v) (R.r ?_));cases a;exact ⟨B.1.subs,w,x,wk.trans (wk.le (by exact (.cons (leV.of_eq rfl) (.drop (.drop (.drop (.eq (.d4 (.drop (.drop (.eq (.eq (.cons (leV.of_eq (xq (by omega) (by omega))) (.d16 (.d4 (.d4 (.drop (.drop (.drop leL.nil))))))))))))))))))) (yp (by simp [zR,AV.low]) rfl rfl (by simp [Blk.low,zR,AV.low]))⟩
 ·apply R.r;refine ln λk=>?_;replace k:=yD k;apply R.r;refine zM (λ(n2:Nat) (d:(List zx))=>zt 0 4 (zt 5 21 (zt 29 12 [(4,yk h 0 0 1 (d.length)),(28,.int .i64 (n2:Int))]))) (λd=>h.ext [yR h 0 1 (d.map zW)] [d.length]) a (λ_ _=>by simp only [zt,wE,ue,uf];try rfl) (wk.trans ((qk gt4 rfl rfl st4 rfl rfl).wk) (wk.le LEL.o)) ?_;intro n2 d A a;apply R.r;refine zT gg a (λe C p n a t=>?_) (λa=>?_)
  ·apply R.r;refine zb rfl (yl rfl el23 gg gg isl (zK n) (GA.row_eq _)) ss (R.r ?_);refine zb rfl (zp (es:=([e.name]:List zx).map zW) rfl el42 ze9 rfl rfl (zd gg zk) (.cons (za rfl) .nil) rfl rfl rfl) ss ?_;refine yq a (λl a=>zb rfl (qh (i:=0) (j:=0) (B':=[yR h 0 1 ((d++([e.name]:List zx)).map zW),.cells [.str e.name,.sl 9 (e.leaves.map GC.row),.sl 3 (e.subs.map GA.row)]]) (T':=[((d++([e.name]:List zx))).length]) rfl rfl rfl rfl el42 el42 gg gg rfl (za rfl) yx l rfl rfl rfl rfl rfl) ss (R.r ?_));cases a;exact ⟨(d++([e.name]:List zx)),p,t,wk.trans (wk.le (by exact (.d4 (.cons (leV.of_eq rfl) (.d16 (.d4 (.drop (.eq (.eq (.cons (leV.of_eq (xq (by omega) (by omega))) (.d4 (.d4 (.d4 leL.nil))))))))))))) (yp (by simp [zR,AV.low]) rfl rfl (by simp [Blk.low,zR,AV.low]))⟩
  ·apply R.r;refine zg a (λg b a=>yG rfl (sc rfl) (spec_sortS sortS73TryzLays b (i:=0) (B':=[yR h 0 1 (g.map zW)]) rfl rfl) ss ?_);refine zn ?_;refine q_seqw ((yz (j:=0) (m:=0) (B':=[.dead]) (T':=[(g.map zW).length+1]) rfl (by exact (.s4 (.cons (FzA.hit2 _ _ (by rw [ul];exact tS (sortS_len b))) (.s16 (.s16 (.s (.cons (FzA.hit2 _ _ (by rw [ul];exact tS (sortS_len b))) (FzL.refl _)))))))) rfl rfl).wk) ?_;apply R.r;cases a;exact fz rfl rfl
theorem okR74 {s0:(List zx)} {res:(List zx)} (F:h.blks.length=bl) (G:h.toks.length=tl) (a:xQ s0=some res):Sp 74 [.rsl bl tl 1 s0.length] (h.ext [.row tl 1 (s0.map zW)] [s0.length]) (TurnK h bl tl 1 res.length (res.map zW)):=by
 unfold xQ at a;subst F G;refine yN Tryz.func74 rfl (by kernel_rfl) (xh 61 rfl) (R.r ?_);refine ln λy=>?_;replace y:=yD y;apply R.r;refine zj gg a (λH a=>?_) (λH a=>?_)
 ·apply R.r;cases a;refine fr rfl (fin_turn0 (row:=zW) ?_);exact ⟨rfl,_,rfl⟩
 ·apply R.r;refine xI (λ(l:Int)=>zt 1 2 (zt 4 57 [(3,.int .i64 l)])) (λl=>h.ext [yR h 0 1 (s0.map zW)] [s0.length]) a (λ_=>by simp only [zt,wE,ue,uf];try rfl) (wk.le LEL.o) ?_;intro S l Q a v;apply R.r;refine ln λp=>?_;replace p:=yD p;apply R.r;refine zj gg a (λE a=>?_) (λE a=>?_)
  ·apply R.r;refine yn (by kernel_rfl) (R.r ?_);refine zg a (λJ s a=>zr rfl rfl (wt rfl el42 gg gg (vK s rfl)) ss ?_);refine zr rfl rfl (e_ldR (off:=0) (i:=0) (q:=h.toks.length+0) (z:=l.toNat) (row:=zW) (λ_=>rfl) rfl ty9 (by decide) gg rfl rfl (idxR s).2.2 (zI rfl) (za rfl)) ss (R.r ?_);refine zg a (λK n a=>zr rfl rfl (wt rfl el42 gg gg (vK n rfl)) ss ?_);refine zr rfl rfl (e_ldR (off:=0) (i:=0) (q:=h.toks.length+0) (z:=(IntKind.wrap .i64 (l - (1:Int))).toNat) (row:=zW) (λ_=>rfl) rfl ty9 (by decide) gg rfl rfl (idxR n).2.2 (zI rfl) (za rfl)) ss (R.r ?_);refine zj gg a (λA a=>?_) (λA a=>?_)
   ·apply R.r;refine yq a (λD a=>wx rfl (e_sufR rfl el42 gg gg D) ss (R.r ?_));refine xI (λ(b:Int×Int×(List zx))=>zt 1 2 (zt 6 55 [(3,.int .i64 b.1),(5,.int .i64 b.2.1)])) (λb=>h.ext [yR h 0 1 (b.2.2.map zW)] [s0.length]) a (λ_=>by simp only [zt,wE,ue,uf];try rfl) (wk.le LEL.o) ?_;intro n2 b P a u;refine yq a (λc a=>R.r ?_);refine ln λI=>R.r ?_;refine zj gg a (λw a=>?_) (λw a=>?_)
    ·apply R.r;refine yn (by kernel_rfl) (R.r ?_);refine zg a (λM e a=>?_);replace e:=idxS e;refine zr rfl rfl (e_idxS rfl el42 gg gg ⟨e.1,by have:=e.2.1;have:=c;omega⟩) ss ?_;refine zr rfl rfl (e_ldR (off:=0) (i:=0) (q:=h.toks.length+0) (z:=(l.toNat+b.2.1.toNat)) (row:=zW) (λ_=>rfl) rfl ty9 (by decide) gg rfl c e.2.2 (zI rfl) (za rfl)) ss (R.r ?_);refine zg a (λO g a=>?_);replace g:=idxS g;refine zr rfl rfl (e_idxS rfl el42 gg gg ⟨g.1,by have:=g.2.1;have:=c;omega⟩) ss ?_;refine zr rfl rfl (e_ldR (off:=0) (i:=0) (q:=h.toks.length+0) (z:=(l.toNat+(IntKind.wrap .i64 (b.2.1 - (1:Int))).toNat)) (row:=zW) (λ_=>rfl) rfl ty9 (by decide) gg rfl c g.2.2 (zI rfl) (za rfl)) ss (R.r ?_);refine zj gg a (λx a=>?_) (λx a=>?_)
     ·apply R.r;refine zg a (λm f a=>?_);replace f:=idxS f;refine zb rfl (e_idxS rfl el42 gg gg ⟨f.1,by have:=f.2.1;have:=c;omega⟩) ss ?_;refine zb rfl (e_ldR (off:=0) (i:=0) (q:=h.toks.length+0) (z:=(l.toNat+b.2.1.toNat)) (row:=zW) (λ_=>rfl) rfl ty9 (by decide) gg rfl c f.2.2 (zI rfl) (za rfl)) ss ?_;refine zg a (λN t a=>zb rfl (wt rfl el42 gg gg (vK t c)) ss ?_);refine zb rfl (e_stR (off:=0) (i:=0) (q:=h.toks.length+0) (z:=b.1.toNat) (row:=zW) (y':=m) (us:=[.str m]) (B':=[yR h 0 1 ((b.2.2.set b.1.toNat m).map zW)]) (λ_=>rfl) rfl ty9 gg gg (za rfl) rfl rfl rfl rfl c (idxR t).2.2 (by decide) rfl rfl) rfl (R.r ?_);cases a;exact ⟨((IntKind.wrap .i64 (b.1+(1:Int))),(IntKind.wrap .i64 (b.2.1+(1:Int))),(b.2.2.set b.1.toNat m)),u,wk.le LEL.o⟩
     ·apply R.r;cases a;exact ⟨(b.1,(IntKind.wrap .i64 (b.2.1+(1:Int))),b.2.2),u,wk.le LEL.o⟩
    ·apply R.r;cases a;replace a:=u;apply R.r;refine yq a (λk a=>wx rfl (e_sufR rfl el42 gg gg k) ss ?_);refine wx rfl (e_clrR (i:=0) (q:=h.toks.length+0) (L:=b.2.2) (row:=zW) (d:=([]:zx)) (B':=[yR h 0 1 ((b.2.2.take b.1.toNat++List.replicate (s0.length - b.1.toNat) ([]:zx)).map zW)]) (λ_=>rfl) rfl rfl rfl rfl el42 ze9 rfl gg rfl c (rK.2 k.2) rfl) rfl (R.r ?_);refine zg a (λB C a=>wx rfl (e_cutR (i:=0) (j:=0) (L:=(b.2.2.take b.1.toNat++List.replicate (s0.length - b.1.toNat) ([]:zx))) (row:=zW) (B':=[.dead,yR h 1 1 (B.map zW)]) (T':=[s0.length+1,B.length]) rfl el42 gg gg rfl (clr_len c (rK.2 k.2)) C rfl rfl rfl rfl) ss (R.r ?_));cases a;replace a:=v;apply R.r;cases a;refine fr rfl (fin_at ?_);exact ⟨rfl,_,rfl⟩
   ·apply R.r;cases a;exact ⟨(IntKind.wrap .i64 (l+(1:Int))),v,wk.le LEL.o⟩
  ·apply R.r;cases a;replace a:=v;apply R.r;cases a;refine fr rfl (fin_turn0 (row:=zW) ?_);exact ⟨rfl,_,rfl⟩
theorem ok41 {l0:(List (List GA))} {res:(List zx)}  (a:treeXnames l0=some res):Sp 41 [.sl 1 (l0.map (λl=>[AV.sl 3 (l.map GA.row)]))] h (yP (.sl 1 (res.map zW)) h):=by
 unfold treeXnames at a;refine zc Tryz.func41 rfl (by kernel_rfl) (xh 20 rfl) (R.r ?_);refine ln λf=>?_;replace f:=yD f;apply R.r;refine zM (λ(v:Nat) (d:(List zx))=>zt 0 2 (zt 3 2 (zt 8 12 [(2,yk h 0 0 1 (d.length)),(7,.int .i64 (v:Int))]))) (λd=>h.ext [yR h 0 1 (d.map zW)] [d.length]) a (λ_ _=>by simp only [zt,wE,ue,uf];try rfl) (wk.trans ((qk gt2 rfl rfl st2 rfl rfl).wk) (wk.le LEL.o)) ?_;intro v d w a;apply R.r;refine zT gg a (λy x s p a t=>?_) (λa=>?_)
 ·apply R.r;refine ix (zK p) (R.r ?_);refine zg a (λu n a=>cp ((ok72 n).le (.eq (.cons (leV.osl _ _ _) leL.nil))) ?_);refine yq a (λq a=>zb rfl (qh (i:=0) (j:=0) (B':=[yR h 0 1 ((d++u).map zW)]) (T':=[((d++u)).length]) rfl rfl rfl rfl el42 el42 gg gg rfl (za rfl) xk q rfl rfl rfl rfl rfl) ss (R.r ?_));cases a;exact ⟨(d++u),s,t,wk.le (by exact (.drop (.drop (.cons (leV.of_eq rfl) (.drop (.drop (.eq (.eq (.cons (leV.of_eq (xq (by omega) (by omega))) (.d4 (.d4 (.d4 leL.nil))))))))))))⟩
 ·apply R.r;refine zg a (λb c a=>yG rfl (sc rfl) (spec_sortS sortS73TryzLays c (i:=0) (B':=[yR h 0 1 (b.map zW)]) rfl rfl) ss (R.r ?_));refine vr (swk_move (j:=0) (i:=0) (n2:=b.length) (B':=[.dead,yR h 1 1 (b.map zW)]) (T':=[b.length+1,b.length]) gt18 rfl (by rw [ul];exact sortS_len c) (tS (sortS_len c)) rfl rfl st18 rfl rfl) ?_;refine zg a (λk g a=>ops_turn (B1:=[.dead]) (T1:=[b.length+1]) (j:=1) (i:=1) (B':=[.dead,.dead,yR h 2 1 (k.map zW)]) rfl (zJ rfl rfl rfl (ze gg zB) (.cons (za rfl) .nil)) (okR74 (by simp [AH.ext]) (by simp [AH.ext]) g) rfl rfl ss rfl (λe=>?_));apply R.r;obtain rfl:=oi a;refine fr rfl (xp ((yz (j:=2) (m:=2) (B':=[.dead,.dead,.dead]) (T':=[b.length+1,e,(k.map zW).length+1]) rfl (by exact (.cons (.hit2 _ _ (by simp)) (.refl _))) rfl rfl).wk) ?_);refine yf (leV.refl _) rfl ?_;exact ⟨rfl,rfl⟩
theorem ok75 {res:(GC×Bool)}  (a:xj n0 kind1=some res):Sp 75 [.agg [.str n0.name,.sl 9 (n0.leaves.map GC.row),.sl 3 (n0.subs.map GA.row)],.int .u8 kind1] h (yP (.tup [.agg (GC.row res.1),.bool res.2]) h):=by
 unfold xj at a;refine zc Tryz.func75 rfl (by kernel_rfl) (xh 15 rfl) (R.r ?_);refine zb rfl (zp (es:=([n0]:List GA).map GA.row) rfl el23 qe rfl rfl (zd gg zk) (.cons (za rfl) .nil) rfl rfl (by simp only [uw,tr,GA.row_eq];rfl)) ss (R.r ?_);refine zb rfl (zp (es:=([n0.name]:List zx).map zW) rfl el42 ze9 rfl rfl (zd gg zk) (.cons (za rfl) .nil) rfl rfl rfl) ss (R.r ?_);refine zg a (λv1 b a=>cp ((ok16 b).le (.cons (leV.osl _ _ _) (.cons (leV.osl _ _ _) (.eq leL.nil)))) (R.r ?_));cases a;exact fz rfl rfl
theorem okM75 {res:(GC×Bool)}  (a:xj n0 kind1=some res):Sp 75 [.agg [.str n0.name,.sl 9 (n0.leaves.map GC.row),.sl 3 (n0.subs.map GA.row)],.int .u8 kind1] h (yP (.tup [.agg [.int .u8 res.1.typ,.int .i64 res.1.n,.int .u64 res.1.time,.int .u8 res.1.dot.actor.rep,.int .u32 res.1.dot.actor.inc,.int .u64 res.1.dot.seq,.str res.1.text,.nsl 5 (res.1.items.map GF.row),.nsl 3 (res.1.tombs.map GE.row)],.bool res.2]) h):=by
 unfold xj at a;refine zc Tryz.func75 rfl (by kernel_rfl) (env:=[.agg [.str n0.name,.sl 9 (n0.leaves.map GC.row),.sl 3 (n0.subs.map GA.row)],.int .u8 kind1,aundef,aundef,aundef,aundef,aundef,aundef,aundef,aundef,aundef,aundef,aundef,aundef,aundef]) (by rfl) ?_;refine zz (zf ?_);refine zb rfl (vg (n:=0) rfl gt0 (za rfl) rfl rfl) st2 ?_;refine zb rfl (yL (n:=1) rfl xV rfl) st4 ?_;refine zb rfl (zA rfl rfl (za rfl)) st5 ?_;refine zn (zy (zz (zf ?_)));refine zb rfl (zH rfl ty56.choose_spec.1 gt2 rfl (zL (cs':=[.str n0.name,.sl 9 (n0.leaves.map GC.row),.sl 3 (n0.subs.map GA.row)]) ty56.choose_spec.2 rfl rfl) (za rfl)) st6 ?_;refine zb rfl (zp (es:=([n0]:List GA).map GA.row) rfl el23 qe rfl rfl (zd gt6 zk) (.cons (za rfl) .nil) rfl rfl (by simp only [uw,tr,GA.row_eq];rfl)) st7 ?_;refine zb rfl (zw rfl fo56x0 gt2 rfl) st8 ?_;refine zb rfl (zH rfl ty9 gt8 rfl (zI rfl) (za rfl)) st9 ?_;refine zb rfl (zp (es:=([n0.name]:List zx).map zW) rfl el42 ze9 rfl rfl (zd gt9 zk) (.cons (za rfl) .nil) rfl rfl rfl) st10 ?_;refine zb rfl (zo rfl gt1 (za rfl)) st11 ?_;refine zg a (λv1 b a=>zP rfl (zJ rfl rfl rfl (ze gt7 (ze gt10 (ze gt11 zB))) (.cons (za rfl) (.cons (za rfl) (.cons (za rfl) .nil)))) ((okM16 b).le (.cons (leV.osl _ _ _) (.cons (leV.osl _ _ _) (.eq leL.nil)))) st12 ?_);refine zb rfl (yj rfl gt12 rfl (za rfl)) st13 ?_;refine zb rfl (yj rfl gt12 rfl (za rfl)) st14 ?_;refine zb rfl (zG (cs':=[.int .u8 v1.1.typ,.int .i64 v1.1.n,.int .u64 v1.1.time,.int .u8 v1.1.dot.actor.rep,.int .u32 v1.1.dot.actor.inc,.int .u64 v1.1.dot.seq,.str v1.1.text,.nsl 5 (v1.1.items.map GF.row),.nsl 3 (v1.1.tombs.map GE.row)]) rfl ty51.choose_spec.1 gt4 qV (za rfl) rfl rfl rfl rfl rfl) rfl ?_;refine zb rfl (zA rfl gt14 (za rfl)) st5 ?_;refine zn (zy (wj ?_));obtain rfl:=uo a;refine q_retL rfl (wg ty51.choose_spec.1 gt4 rfl (zL (cs':=[.int .u8 v1.1.typ,.int .i64 v1.1.n,.int .u64 v1.1.time,.int .u8 v1.1.dot.actor.rep,.int .u32 v1.1.dot.actor.inc,.int .u64 v1.1.dot.seq,.str v1.1.text,.nsl 5 (v1.1.items.map GF.row),.nsl 3 (v1.1.tombs.map GE.row)]) ty51.choose_spec.2 rfl rfl) (za rfl) (xL gt5 xb)) (yf (leV.refl _) rfl ?_);exact ⟨rfl,rfl⟩
theorem ok112 {res:GC}  (a:w5 l0 a1 b2=some res):Sp 112 [.agg (GC.row l0),.agg (GC.row a1),.agg (GC.row b2)] h (yP (.agg (GC.row res)) h):=by
 unfold w5 at a;refine zc Tryz.func112 rfl (by kernel_rfl) (xh 17 rfl) (R.r ?_);cases a;exact fz rfl rfl
theorem okM112 {res:GC}  (a:w5 l0 a1 b2=some res):Sp 112 [.agg (zi l0 (.nsl 5 (l0.items.map GF.row)) (.nsl 3 (l0.tombs.map GE.row))),.agg (zi a1 (.nsl 5 (a1.items.map GF.row)) (.nsl 3 (a1.tombs.map GE.row))),.agg (zi b2 (.nsl 5 (b2.items.map GF.row)) (.nsl 3 (b2.tombs.map GE.row)))] h (yP (.agg (zi res (.nsl 5 (res.items.map GF.row)) (.nsl 3 (res.tombs.map GE.row)))) h):=by
 unfold w5 at a;refine zc Tryz.func112 rfl (by kernel_rfl) (env:=[.agg (zi l0 (.nsl 5 (l0.items.map GF.row)) (.nsl 3 (l0.tombs.map GE.row))),.agg (zi a1 (.nsl 5 (a1.items.map GF.row)) (.nsl 3 (a1.tombs.map GE.row))),.agg (zi b2 (.nsl 5 (b2.items.map GF.row)) (.nsl 3 (b2.tombs.map GE.row))),aundef,aundef,aundef,aundef,aundef,aundef,aundef,aundef,aundef,aundef,aundef,aundef,aundef,aundef]) (by rfl) ?_;refine zz (zf ?_);refine zb rfl (vg (n:=0) rfl gt0 (za rfl) rfl rfl) st3 ?_;refine zb rfl (vg (n:=1) rfl gt1 (za rfl) rfl rfl) st4 ?_;refine zb rfl (vg (n:=2) rfl gt2 (za rfl) rfl rfl) st5 ?_;refine zb rfl (yL (n:=3) rfl xV rfl) st6 ?_;refine zn (zy (zz (zf ?_)));refine zb rfl (zw rfl fo51x1 gt4 rfl) st7 ?_;refine zb rfl (zH rfl ty2 gt7 rfl (zI rfl) (za rfl)) st8 ?_;refine zb rfl (zw rfl fo51x1 gt5 rfl) st9 ?_;refine zb rfl (zH rfl ty2 gt9 rfl (zI rfl) (za rfl)) st10 ?_;refine zb rfl (zw rfl fo51x1 gt3 rfl) st11 ?_;refine zb rfl (zH rfl ty2 gt11 rfl (zI rfl) (za rfl)) st12 ?_;refine zb rfl (yH rfl gt10 gt12 rfl) st13 ?_;refine zb rfl (yH rfl gt8 qV rfl) st14 ?_;refine zb rfl (zw rfl fo51x1 gt4 rfl) st15 ?_;refine zb rfl (zG (cs':=[.int .u8 a1.typ,.int .i64 (IntKind.wrap .i64 (a1.n+(IntKind.wrap .i64 (b2.n - l0.n)))),.int .u64 a1.time,.int .u8 a1.dot.actor.rep,.int .u32 a1.dot.actor.inc,.int .u64 a1.dot.seq,.str a1.text,.nsl 5 (a1.items.map GF.row),.nsl 3 (a1.tombs.map GE.row)]) rfl ty2 gt15 gt14 (za rfl) rfl rfl rfl rfl rfl) rfl ?_;refine zn (zy (zz (zf ?_)));refine zb rfl (zH rfl ty51.choose_spec.1 gt4 rfl (zL (cs':=[.int .u8 a1.typ,.int .i64 (IntKind.wrap .i64 (a1.n+(IntKind.wrap .i64 (b2.n - l0.n)))),.int .u64 a1.time,.int .u8 a1.dot.actor.rep,.int .u32 a1.dot.actor.inc,.int .u64 a1.dot.seq,.str a1.text,.nsl 5 (a1.items.map GF.row),.nsl 3 (a1.tombs.map GE.row)]) ty51.choose_spec.2 rfl rfl) (za rfl)) st16 ?_;refine zb rfl (zG (cs':=[.int .u8 a1.typ,.int .i64 (IntKind.wrap .i64 (a1.n+(IntKind.wrap .i64 (b2.n - l0.n)))),.int .u64 a1.time,.int .u8 a1.dot.actor.rep,.int .u32 a1.dot.actor.inc,.int .u64 a1.dot.seq,.str a1.text,.nsl 5 (a1.items.map GF.row),.nsl 3 (a1.tombs.map GE.row)]) rfl ty51.choose_spec.1 gt6 gt16 (za rfl) rfl rfl rfl rfl rfl) rfl ?_;refine zn (zy (wj ?_));obtain rfl:=uo a;refine wM rfl (wg ty51.choose_spec.1 gt6 rfl (zL (cs':=[.int .u8 a1.typ,.int .i64 (IntKind.wrap .i64 (a1.n+(IntKind.wrap .i64 (b2.n - l0.n)))),.int .u64 a1.time,.int .u8 a1.dot.actor.rep,.int .u32 a1.dot.actor.inc,.int .u64 a1.dot.seq,.str a1.text,.nsl 5 (a1.items.map GF.row),.nsl 3 (a1.tombs.map GE.row)]) ty51.choose_spec.2 rfl rfl) (za rfl) xb) (yf (leV.refl _) rfl ?_);exact ⟨rfl,rfl⟩
theorem ok113 {res:GC}  (a:wH p0 a1 b2=some res):Sp 113 [.agg (GC.row p0),.agg (GC.row a1),.agg (GC.row b2)] h (yP (.agg (GC.row res)) h):=by
 unfold wH at a;refine zc Tryz.func113 rfl (by kernel_rfl) (xh 29 rfl) (R.r ?_);refine yb a (λv1 b a=>zQ (vP rfl rfl rfl) sc (λd=>ok92 (b d)) ss (R.r ?_));refine zj gg a (λc a=>?_) (λc a=>?_)
 ·apply R.r;cases a;exact fz rfl rfl
 ·apply R.r;cases a;exact fz rfl rfl
theorem okM113 {res:GC}  (b:wH p0 a1 b2=some res):Sp 113 [.agg (zi p0 (.nsl 5 (p0.items.map GF.row)) (.nsl 3 (p0.tombs.map GE.row))),.agg (zi a1 (.nsl 5 (a1.items.map GF.row)) (.nsl 3 (a1.tombs.map GE.row))),.agg (zi b2 (.nsl 5 (b2.items.map GF.row)) (.nsl 3 (b2.tombs.map GE.row)))] h (yP (.agg (zi res (.nsl 5 (res.items.map GF.row)) (.nsl 3 (res.tombs.map GE.row)))) h):=by
 unfold wH at b;refine zc Tryz.func113 rfl (by kernel_rfl) (env:=[.agg (zi p0 (.nsl 5 (p0.items.map GF.row)) (.nsl 3 (p0.tombs.map GE.row))),.agg (zi a1 (.nsl 5 (a1.items.map GF.row)) (.nsl 3 (a1.tombs.map GE.row))),.agg (zi b2 (.nsl 5 (b2.items.map GF.row)) (.nsl 3 (b2.tombs.map GE.row))),aundef,aundef,aundef,aundef,aundef,aundef,aundef,aundef,aundef,aundef,aundef,aundef,aundef,aundef,aundef,aundef,aundef,aundef,aundef,aundef,aundef,aundef,aundef,aundef,aundef,aundef]) (by rfl) ?_;refine zz (zf ?_);refine zb rfl (vg (n:=0) rfl gt0 (za rfl) rfl rfl) st3 ?_;refine zb rfl (vg (n:=1) rfl gt1 (za rfl) rfl rfl) st4 ?_;refine zb rfl (vg (n:=2) rfl gt2 (za rfl) rfl rfl) st5 ?_;refine zb rfl (yL (n:=3) rfl xV rfl) st6 ?_;refine zn (zy (zz (zz (zf ?_))));refine zb rfl (zw rfl fo51x2 gt4 rfl) st7 ?_;refine zb rfl (zH rfl ty39 gt7 rfl (zI rfl) (za rfl)) st8 ?_;refine zb rfl (yH rfl gt8 rfl rfl) st9 ?_;refine zb rfl (zo rfl gt9 (za rfl)) st10 ?_;refine zY rfl (λa=>zw rfl fo51x2 gt5 rfl) st11 ?_;refine zY rfl (λa=>zH rfl ty39 (zO gt11 a) rfl (zI rfl) (za rfl)) st12 ?_;refine zY rfl (λa=>yH rfl (zO gt12 a) rfl rfl) st13 ?_;refine zY rfl (λa=>zo rfl (zO qV a) (za rfl)) st14 ?_;refine zY (vP rfl rfl rfl) (λa=>zw rfl fo51x2 gt5 rfl) st15 ?_;refine zY (vP rfl rfl rfl) (λa=>zH rfl ty39 (zO gt15 a) rfl (zI rfl) (za rfl)) st16 ?_;refine zY (vP rfl rfl rfl) (λa=>zw rfl fo51x3 gt5 rfl) st17 ?_;refine zY (vP rfl rfl rfl) (λa=>zH rfl ty41.choose_spec.1 (zO gt17 a) rfl (zL (cs':=(GE.row b2.dot)) ty41.choose_spec.2 rfl rfl) (za rfl)) st18 ?_;refine zY (vP rfl rfl rfl) (λa=>zw rfl fo51x2 gt4 rfl) st19 ?_;refine zY (vP rfl rfl rfl) (λa=>zH rfl ty39 (zO gt19 a) rfl (zI rfl) (za rfl)) st20 ?_;refine zY (vP rfl rfl rfl) (λa=>zw rfl fo51x3 gt4 rfl) st21 ?_;refine zY (vP rfl rfl rfl) (λa=>zH rfl ty41.choose_spec.1 (zO gt21 a) rfl (zL (cs':=(GE.row a1.dot)) ty41.choose_spec.2 rfl rfl) (za rfl)) st22 ?_;refine yb b (λv1 c b=>zQ (vP rfl rfl rfl) (λa=>zJ rfl rfl rfl (ze (zO gt16 a) (ze (zO gt18 a) (ze (zO gt20 a) (ze (zO gt22 a) zB)))) (.cons (za rfl) (.cons (za rfl) (.cons (za rfl) (.cons (za rfl) .nil))))) (λa=>ok92 (c a)) st23 ?_);refine zY (vP rfl rfl rfl) (λa=>s_un rfl (zO gt23 a) rfl) st24 ?_;refine zY rfl (λa=>wy rfl (zO gt14 a) gt24 rfl (pick_and (λe=>gT2 a e))) st25 ?_;refine zb rfl (wy rfl gt10 rfl gt25 (wD (λe=>gF e))) st26 ?_;refine zn (zy ?_);refine zj gt26 b (λd b=>?_) (λd b=>?_)
 ·refine zz (zf ?_);refine zb rfl (zH rfl ty51.choose_spec.1 gt5 rfl (zL (cs':=(zi b2 (.nsl 5 (b2.items.map GF.row)) (.nsl 3 (b2.tombs.map GE.row)))) ty51.choose_spec.2 rfl rfl) (za rfl)) st27 ?_;refine zb rfl (zG (cs':=(zi b2 (.nsl 5 (b2.items.map GF.row)) (.nsl 3 (b2.tombs.map GE.row)))) rfl ty51.choose_spec.1 gt6 gt27 (za rfl) rfl rfl rfl rfl rfl) rfl ?_;refine zn (zy (wj (wR ?_)));obtain rfl:=uo b;refine wM rfl (wg ty51.choose_spec.1 gt6 rfl (zL (cs':=(zi b2 (.nsl 5 (b2.items.map GF.row)) (.nsl 3 (b2.tombs.map GE.row)))) ty51.choose_spec.2 rfl rfl) (za rfl) xb) (yf (leV.refl _) rfl ?_);exact ⟨rfl,rfl⟩
 ·refine x5 (zy (zz (zf ?_)));refine zb rfl (zH rfl ty51.choose_spec.1 gt4 rfl (zL (cs':=(zi a1 (.nsl 5 (a1.items.map GF.row)) (.nsl 3 (a1.tombs.map GE.row)))) ty51.choose_spec.2 rfl rfl) (za rfl)) st28 ?_;refine zb rfl (zG (cs':=(zi a1 (.nsl 5 (a1.items.map GF.row)) (.nsl 3 (a1.tombs.map GE.row)))) rfl ty51.choose_spec.1 gt6 gt28 (za rfl) rfl rfl rfl rfl rfl) rfl ?_;refine zn (zy (wj ?_));obtain rfl:=uo b;refine wM rfl (wg ty51.choose_spec.1 gt6 rfl (zL (cs':=(zi a1 (.nsl 5 (a1.items.map GF.row)) (.nsl 3 (a1.tombs.map GE.row)))) ty51.choose_spec.2 rfl rfl) (za rfl) xb) (yf (leV.refl _) rfl ?_);exact ⟨rfl,rfl⟩
theorem okR97 {res:(List GE)} (G:h.blks.length=bl) (H:h.toks.length=tl) (a:xX s0=some res):Sp 97 [.rsl bl tl 3 s0.length] (h.ext [.row tl 3 (s0.map GE.row)] [s0.length]) (TurnK h bl tl 3 res.length (res.map GE.row)):=by
 unfold xX at a;subst G H;refine yN Tryz.func97 rfl (by kernel_rfl) (xh 61 rfl) (R.r ?_);refine ln λy=>?_;replace y:=yD y;apply R.r;refine zj gg a (λK a=>?_) (λK a=>?_)
 ·apply R.r;cases a;refine fr rfl (fin_turn0 (row:=GE.row) ?_);exact ⟨rfl,_,rfl⟩
 ·apply R.r;refine xI (λ(m:Int)=>zt 1 2 (zt 4 57 [(3,.int .i64 m)])) (λm=>h.ext [yR h 0 3 (s0.map GE.row)] [s0.length]) a (λ_=>by simp only [zt,wE,ue,uf];try rfl) (wk.le LEL.o) ?_;intro S m Q a v;apply R.r;refine ln λp=>?_;replace p:=yD p;apply R.r;refine zj gg a (λE a=>?_) (λE a=>?_)
  ·apply R.r;refine yn (by kernel_rfl) (R.r ?_);refine zg a (λF s a=>zr rfl rfl (wt rfl el43 gg gg (vK s rfl)) ss ?_);refine zr rfl rfl (e_ldR (off:=0) (i:=0) (q:=h.toks.length+0) (z:=m.toNat) (row:=GE.row) (λ_=>rfl) rfl ty41.choose_spec.1 (by decide) gg rfl rfl (idxR s).2.2 (zL (cs':=(GE.row F)) ty41.choose_spec.2 rfl rfl) (za rfl)) ss (R.r ?_);refine zg a (λI n a=>zr rfl rfl (wt rfl el43 gg gg (vK n rfl)) ss ?_);refine zr rfl rfl (e_ldR (off:=0) (i:=0) (q:=h.toks.length+0) (z:=(IntKind.wrap .i64 (m - (1:Int))).toNat) (row:=GE.row) (λ_=>rfl) rfl ty41.choose_spec.1 (by decide) gg rfl rfl (idxR n).2.2 (zL (cs':=(GE.row I)) ty41.choose_spec.2 rfl rfl) (za rfl)) ss ?_;refine zr rfl rfl (yH rfl gg gg (bin_eq pk41 rfl)) ss (R.r ?_);refine zj gg a (λA a=>?_) (λA a=>?_)
   ·apply R.r;refine yq a (λD a=>wx rfl (e_sufR rfl el43 gg gg D) ss (R.r ?_));refine xI (λ(b:Int×Int×(List GE))=>zt 1 2 (zt 6 55 [(3,.int .i64 b.1),(5,.int .i64 b.2.1)])) (λb=>h.ext [yR h 0 3 (b.2.2.map GE.row)] [s0.length]) a (λ_=>by simp only [zt,wE,ue,uf];try rfl) (wk.le LEL.o) ?_;intro n2 b P a u;refine yq a (λc a=>R.r ?_);refine ln λN=>R.r ?_;refine zj gg a (λw a=>?_) (λw a=>?_)
    ·apply R.r;refine yn (by kernel_rfl) (R.r ?_);refine zg a (λJ e a=>?_);replace e:=idxS e;refine zr rfl rfl (e_idxS rfl el43 gg gg ⟨e.1,by have:=e.2.1;have:=c;omega⟩) ss ?_;refine zr rfl rfl (e_ldR (off:=0) (i:=0) (q:=h.toks.length+0) (z:=(m.toNat+b.2.1.toNat)) (row:=GE.row) (λ_=>rfl) rfl ty41.choose_spec.1 (by decide) gg rfl c e.2.2 (zL (cs':=(GE.row J)) ty41.choose_spec.2 rfl rfl) (za rfl)) ss (R.r ?_);refine zg a (λM g a=>?_);replace g:=idxS g;refine zr rfl rfl (e_idxS rfl el43 gg gg ⟨g.1,by have:=g.2.1;have:=c;omega⟩) ss ?_;refine zr rfl rfl (e_ldR (off:=0) (i:=0) (q:=h.toks.length+0) (z:=(m.toNat+(IntKind.wrap .i64 (b.2.1 - (1:Int))).toNat)) (row:=GE.row) (λ_=>rfl) rfl ty41.choose_spec.1 (by decide) gg rfl c g.2.2 (zL (cs':=(GE.row M)) ty41.choose_spec.2 rfl rfl) (za rfl)) ss ?_;refine zr rfl rfl (yH rfl gg gg (bin_ne pk41 rfl)) ss (R.r ?_);refine zj gg a (λx a=>?_) (λx a=>?_)
     ·apply R.r;refine zg a (λl f a=>?_);replace f:=idxS f;refine zb rfl (e_idxS rfl el43 gg gg ⟨f.1,by have:=f.2.1;have:=c;omega⟩) ss ?_;refine zb rfl (e_ldR (off:=0) (i:=0) (q:=h.toks.length+0) (z:=(m.toNat+b.2.1.toNat)) (row:=GE.row) (λ_=>rfl) rfl ty41.choose_spec.1 (by decide) gg rfl c f.2.2 (zL (cs':=(GE.row l)) ty41.choose_spec.2 rfl rfl) (za rfl)) ss ?_;refine zg a (λO t a=>zb rfl (wt rfl el43 gg gg (vK t c)) ss ?_);refine zb rfl (e_stR (off:=0) (i:=0) (q:=h.toks.length+0) (z:=b.1.toNat) (row:=GE.row) (y':=l) (us:=(GE.row l)) (B':=[yR h 0 3 ((b.2.2.set b.1.toNat l).map GE.row)]) (λ_=>rfl) rfl ty41.choose_spec.1 gg gg (za rfl) rfl rfl rfl rfl c (idxR t).2.2 (by decide) rfl rfl) rfl (R.r ?_);cases a;exact ⟨((IntKind.wrap .i64 (b.1+(1:Int))),(IntKind.wrap .i64 (b.2.1+(1:Int))),(b.2.2.set b.1.toNat l)),u,wk.le LEL.o⟩
     ·apply R.r;cases a;exact ⟨(b.1,(IntKind.wrap .i64 (b.2.1+(1:Int))),b.2.2),u,wk.le LEL.o⟩
    ·apply R.r;cases a;replace a:=u;apply R.r;refine yq a (λk a=>wx rfl (e_sufR rfl el43 gg gg k) ss ?_);refine wx rfl (e_clrR (i:=0) (q:=h.toks.length+0) (L:=b.2.2) (row:=GE.row) (d:=(GE.mk (GI.mk (0:Int) (0:Int)) (0:Int))) (B':=[yR h 0 3 ((b.2.2.take b.1.toNat++List.replicate (s0.length - b.1.toNat) (GE.mk (GI.mk (0:Int) (0:Int)) (0:Int))).map GE.row)]) (λ_=>rfl) rfl rfl rfl rfl el43 ze41 rfl gg rfl c (rK.2 k.2) rfl) rfl (R.r ?_);refine zg a (λB C a=>wx rfl (e_cutR (i:=0) (j:=0) (L:=(b.2.2.take b.1.toNat++List.replicate (s0.length - b.1.toNat) (GE.mk (GI.mk (0:Int) (0:Int)) (0:Int)))) (row:=GE.row) (B':=[.dead,yR h 1 3 (B.map GE.row)]) (T':=[s0.length+1,B.length]) rfl el43 gg gg rfl (clr_len c (rK.2 k.2)) C rfl rfl rfl rfl) ss (R.r ?_));cases a;replace a:=v;apply R.r;cases a;refine fr rfl (fin_at ?_);exact ⟨rfl,_,rfl⟩
   ·apply R.r;cases a;exact ⟨(IntKind.wrap .i64 (m+(1:Int))),v,wk.le LEL.o⟩
  ·apply R.r;cases a;replace a:=v;apply R.r;cases a;refine fr rfl (fin_turn0 (row:=GE.row) ?_);exact ⟨rfl,_,rfl⟩
theorem okR175 {b:Int} {res:(List GE)} (c:h.blks.length=bl) (k:h.toks.length=tl) (a:ql ([]:List GE) b=some res):Sp 175 [.osl none 3 [],.int .i64 b] h (yP (.rsl bl tl 3 res.length) (h.ext [.row tl 3 (res.map GE.row)] [res.length])):=by
 unfold ql at a;subst c k;refine zc Tryz.func175 rfl (by kernel_rfl) (xh 27 rfl) (R.r ?_);refine zj gg a (λl a=>?_) (λl a=>?_)
 ·apply R.r;refine wx rfl (b_mkI rfl ty9 rfl rfl (za rfl)) ss ?_;cases a
 ·apply R.r;refine wx rfl (b_cap rfl rfl rfl rfl el43 gg (za rfl)) ss (R.r ?_);refine ln λo=>R.r ?_;refine zj gg a (λg a=>?_) (λg a=>?_)
  ·apply R.r;refine wx rfl (b_cap rfl rfl rfl rfl el43 gg (za rfl)) ss ?_;refine wx rfl (b_cut0 rfl el43 gg gg) ss (R.r ?_);refine yq a (λf a=>wx rfl (b_zeros (row:=GE.row) (d:=(GE.mk (GI.mk (0:Int) (0:Int)) (0:Int))) (B':=[yR h 0 3 ((List.replicate (IntKind.wrap .i64 (b - (IntKind.wrap .i64 ((0:Int) - ((0:Nat):Int))))).toNat (GE.mk (GI.mk (0:Int) (0:Int)) (0:Int))).map GE.row)]) (T':=[(IntKind.wrap .i64 (b - (IntKind.wrap .i64 ((0:Int) - ((0:Nat):Int))))).toNat]) rfl rfl rfl rfl el43 ty3 ze41 rfl rfl gg (za rfl) gg f rfl rfl rfl rfl) ss (R.r ?_));refine ln λn=>zg a (λm e a=>wx rfl (e_cutR (i:=0) (j:=0) (L:=(List.replicate (IntKind.wrap .i64 (b - (IntKind.wrap .i64 ((0:Int) - ((0:Nat):Int))))).toNat (GE.mk (GI.mk (0:Int) (0:Int)) (0:Int)))) (row:=GE.row) (B':=[.dead,yR h 1 3 (m.map GE.row)]) (T':=[((IntKind.wrap .i64 (b - (IntKind.wrap .i64 ((0:Int) - ((0:Nat):Int))))).toNat)+1,m.length]) rfl el43 gg gg rfl List.length_replicate e rfl rfl rfl rfl) ss ?_);apply R.r;cases a;refine fr rfl (fin_row1 (hds_row (j:=1) (i:=1) rfl (by simp)) ?_);exact ⟨by simp only [ul];try rfl,by simp only [ul];try rfl⟩
  ·apply R.r;cases a;refine fr rfl (fin_row1 hds_nil ?_);exact ⟨rfl,rfl⟩
theorem okR148 {b:(List (List GE))} {res:(List GE)} (p:h.blks.length=bl) (s:h.toks.length=tl) (a:vd b=some res):Sp 148 [.sl 1 (b.map (λl=>[AV.sl 3 (l.map GE.row)]))] h (yP (.rsl bl tl 3 res.length) (h.ext [.row tl 3 (res.map GE.row)] [res.length])):=by
 unfold vd at a;subst p s;refine zc Tryz.func148 rfl (by kernel_rfl) (xh 36 rfl) (R.r ?_);refine ln λf=>?_;replace f:=yD f;apply R.r;refine zM (λ(A:Nat) (n:Int)=>zt 1 2 (zt 4 5 (zt 12 24 [(3,.int .i64 n),(11,.int .i64 (A:Int))]))) (λn=>h.ext [] []) a (λ_ _=>by simp only [zt,wE,ue,uf];try rfl) (wk.le LEL.o) ?_;intro A n B a;apply R.r;refine zT gg a (λD F y v a z=>?_) (λa=>?_)
 ·apply R.r;refine ix (zK v) (R.r ?_);refine ln λg=>?_;replace g:=yD g;apply R.r;refine zj gg a (λw a=>?_) (λw a=>?_)
  ·apply R.r;refine wx rfl (b_mkI rfl ty9 rfl rfl (za rfl)) ss ?_;cases a
  ·apply R.r;cases a;exact ⟨(IntKind.wrap .i64 (n+(D.length:Int))),y,z,wk.le (by exact (.eq (.drop (.drop (.cons (leV.of_eq rfl) (.d4 (.drop (.eq (.eq (.cons (leV.of_eq (xq (by omega) (by omega))) (.d16 (.d4 (.d4 leL.nil)))))))))))))⟩
 ·apply R.r;refine zg a (λe m a=>yG rfl (sc rfl) (row_newv (v':=yk h 0 0 3 (e.length)) (B':=[yR h 0 3 (e.map GE.row)]) (T':=[e.length]) (okR175 (by rw [ext_bl];rfl) (by rw [ext_tl];rfl) m) rfl rfl rfl) ss (R.r ?_));refine ln λd=>?_;replace d:=yD d;apply R.r;refine zM (λ(n2:Nat) (c:(List GE))=>zt 0 6 (zt 7 18 (zt 28 8 [(6,yk h 0 0 3 (c.length)),(27,.int .i64 (n2:Int))]))) (λc=>h.ext [yR h 0 3 (c.map GE.row)] [c.length]) a (λ_ _=>by simp only [zt,wE,ue,uf];try rfl) (wk.le LEL.o) ?_;intro n2 c C a;apply R.r;refine zT gg a (λx E t q a u=>?_) (λa=>?_)
  ·apply R.r;refine ix (zK q) (R.r ?_);refine yq a (λk a=>zb rfl (qh (i:=0) (j:=0) (B':=[yR h 0 3 ((c++x).map GE.row)]) (T':=[((c++x)).length]) rfl rfl rfl rfl el43 el43 gg gg rfl (za rfl) xk k rfl rfl rfl rfl rfl) ss (R.r ?_));cases a;exact ⟨(c++x),t,u,wk.le (by exact (.d4 (.drop (.drop (.cons (leV.of_eq rfl) (.d16 (.drop (.drop (.eq (.eq (.cons (leV.of_eq (xq (by omega) (by omega))) (.d4 (.d4 leL.nil)))))))))))))⟩
  ·apply R.r;cases a;refine fr rfl (fin_row1 (hds_row (j:=0) (i:=0) rfl (by simp)) ?_);exact ⟨by simp only [ul];try rfl,by simp only [ul];try rfl⟩
theorem ok124 {res:Int}  (a:qZ s0 v1=some res):Sp 124 [.sl 3 (s0.map GE.row),.agg (GE.row v1)] h (yP (.int .i64 res) h):=by
 unfold qZ at a;refine zc Tryz.func124 rfl (by kernel_rfl) (xh 19 rfl) (R.r ?_);refine ln λb=>?_;replace b:=yD b;apply R.r;refine zM (λ(g:Nat) (i:Unit)=>zt 1 2 (zt 4 3 (zt 9 10 [(8,.int .i64 (g:Int))]))) (λi=>h.ext [.cells (GE.row v1)] []) a (λ_ _=>by simp only [zt,wE,ue,uf];try rfl) (wk.le LEL.o) ?_;intro g i j a;apply R.r;refine zT gg a (λk l e f a c=>?_) (λa=>?_)
 ·apply R.r;refine yn (by kernel_rfl) (R.r ?_);refine dix (zK f) (R.r ?_);refine zr rfl rfl (yH rfl gg gg (bin_eq pk41 rfl)) ss (R.r ?_);refine zj gg a (λd a=>?_) (λd a=>?_)
  ·apply R.r;cases a;replace a:=c;apply R.r;cases a;exact fz rfl rfl
  ·apply R.r;cases a;exact ⟨(),e,c,wk.le (by exact (.eq (.drop (.drop (.eq (.drop (.drop (.drop (.eq (.cons (leV.of_eq (xq (by omega) (by omega))) (.d4 (.d4 (.drop (.drop leL.nil))))))))))))))⟩
 ·apply R.r;cases a;exact fz rfl rfl
theorem ok93  (a:xf s0 v1=some res):Sp 93 [.sl 3 (s0.map GE.row),.agg (GE.row v1)] h (yP (.bool res) h):=by
 unfold xf at a;refine zc Tryz.func93 rfl (by kernel_rfl) (xh 9 rfl) (R.r ?_);refine zg a (λv1 b a=>cp (ok124 b) (R.r ?_));cases a;exact fz rfl rfl
theorem okR186 {b:Int} {res:(List GF)} (c:h.blks.length=bl) (k:h.toks.length=tl) (a:vB ([]:List GF) b=some res):Sp 186 [.osl none 5 [],.int .i64 b] h (yP (.rsl bl tl 5 res.length) (h.ext [.row tl 5 (res.map GF.row)] [res.length])):=by
 unfold vB at a;subst c k;refine zc Tryz.func186 rfl (by kernel_rfl) (xh 27 rfl) (R.r ?_);refine zj gg a (λl a=>?_) (λl a=>?_)
 ·apply R.r;refine wx rfl (b_mkI rfl ty9 rfl rfl (za rfl)) ss ?_;cases a
 ·apply R.r;refine wx rfl (b_cap rfl rfl rfl rfl el49 gg (za rfl)) ss (R.r ?_);refine ln λo=>R.r ?_;refine zj gg a (λg a=>?_) (λg a=>?_)
  ·apply R.r;refine wx rfl (b_cap rfl rfl rfl rfl el49 gg (za rfl)) ss ?_;refine wx rfl (b_cut0 rfl el49 gg gg) ss (R.r ?_);refine yq a (λf a=>wx rfl (b_zeros (row:=GF.row) (d:=(GF.mk (0:Int) (GE.mk (GI.mk (0:Int) (0:Int)) (0:Int)) ([]:zx))) (B':=[yR h 0 5 ((List.replicate (IntKind.wrap .i64 (b - (IntKind.wrap .i64 ((0:Int) - ((0:Nat):Int))))).toNat (GF.mk (0:Int) (GE.mk (GI.mk (0:Int) (0:Int)) (0:Int)) ([]:zx))).map GF.row)]) (T':=[(IntKind.wrap .i64 (b - (IntKind.wrap .i64 ((0:Int) - ((0:Nat):Int))))).toNat]) rfl rfl rfl rfl el49 ty3 ze70 rfl rfl gg (za rfl) gg f rfl rfl rfl rfl) ss (R.r ?_));refine ln λn=>zg a (λm e a=>wx rfl (e_cutR (i:=0) (j:=0) (L:=(List.replicate (IntKind.wrap .i64 (b - (IntKind.wrap .i64 ((0:Int) - ((0:Nat):Int))))).toNat (GF.mk (0:Int) (GE.mk (GI.mk (0:Int) (0:Int)) (0:Int)) ([]:zx)))) (row:=GF.row) (B':=[.dead,yR h 1 5 (m.map GF.row)]) (T':=[((IntKind.wrap .i64 (b - (IntKind.wrap .i64 ((0:Int) - ((0:Nat):Int))))).toNat)+1,m.length]) rfl el49 gg gg rfl List.length_replicate e rfl rfl rfl rfl) ss ?_);apply R.r;cases a;refine fr rfl (fin_row1 (hds_row (j:=1) (i:=1) rfl (by simp)) ?_);exact ⟨by simp only [ul];try rfl,by simp only [ul];try rfl⟩
  ·apply R.r;cases a;refine fr rfl (fin_row1 hds_nil ?_);exact ⟨rfl,rfl⟩
theorem okR177 {b:(List (List GF))} {res:(List GF)} (p:h.blks.length=bl) (s:h.toks.length=tl) (a:wm b=some res):Sp 177 [.sl 1 (b.map (λl=>[AV.sl 5 (l.map GF.row)]))] h (yP (.rsl bl tl 5 res.length) (h.ext [.row tl 5 (res.map GF.row)] [res.length])):=by
 unfold wm at a;subst p s;refine zc Tryz.func177 rfl (by kernel_rfl) (xh 36 rfl) (R.r ?_);refine ln λf=>?_;replace f:=yD f;apply R.r;refine zM (λ(A:Nat) (n:Int)=>zt 1 2 (zt 4 5 (zt 12 24 [(3,.int .i64 n),(11,.int .i64 (A:Int))]))) (λn=>h.ext [] []) a (λ_ _=>by simp only [zt,wE,ue,uf];try rfl) (wk.le LEL.o) ?_;intro A n B a;apply R.r;refine zT gg a (λD F y v a z=>?_) (λa=>?_)
 ·apply R.r;refine ix (zK v) (R.r ?_);refine ln λg=>?_;replace g:=yD g;apply R.r;refine zj gg a (λw a=>?_) (λw a=>?_)
  ·apply R.r;refine wx rfl (b_mkI rfl ty9 rfl rfl (za rfl)) ss ?_;cases a
  ·apply R.r;cases a;exact ⟨(IntKind.wrap .i64 (n+(D.length:Int))),y,z,wk.le (by exact (.eq (.drop (.drop (.cons (leV.of_eq rfl) (.d4 (.drop (.eq (.eq (.cons (leV.of_eq (xq (by omega) (by omega))) (.d16 (.d4 (.d4 leL.nil)))))))))))))⟩
 ·apply R.r;refine zg a (λe m a=>yG rfl (sc rfl) (row_newv (v':=yk h 0 0 5 (e.length)) (B':=[yR h 0 5 (e.map GF.row)]) (T':=[e.length]) (okR186 (by rw [ext_bl];rfl) (by rw [ext_tl];rfl) m) rfl rfl rfl) ss (R.r ?_));refine ln λd=>?_;replace d:=yD d;apply R.r;refine zM (λ(n2:Nat) (c:(List GF))=>zt 0 6 (zt 7 18 (zt 28 8 [(6,yk h 0 0 5 (c.length)),(27,.int .i64 (n2:Int))]))) (λc=>h.ext [yR h 0 5 (c.map GF.row)] [c.length]) a (λ_ _=>by simp only [zt,wE,ue,uf];try rfl) (wk.le LEL.o) ?_;intro n2 c C a;apply R.r;refine zT gg a (λx E t q a u=>?_) (λa=>?_)
  ·apply R.r;refine ix (zK q) (R.r ?_);refine yq a (λk a=>zb rfl (qh (i:=0) (j:=0) (B':=[yR h 0 5 ((c++x).map GF.row)]) (T':=[((c++x)).length]) rfl rfl rfl rfl el49 el49 gg gg rfl (za rfl) xk k rfl rfl rfl rfl rfl) ss (R.r ?_));cases a;exact ⟨(c++x),t,u,wk.le (by exact (.d4 (.drop (.drop (.cons (leV.of_eq rfl) (.d16 (.drop (.drop (.eq (.eq (.cons (leV.of_eq (xq (by omega) (by omega))) (.d4 (.d4 leL.nil)))))))))))))⟩
  ·apply R.r;cases a;refine fr rfl (fin_row1 (hds_row (j:=0) (i:=0) rfl (by simp)) ?_);exact ⟨by simp only [ul];try rfl,by simp only [ul];try rfl⟩
def sort178TryzRen:Go.Shelf.Ren :=
  { f:=λx=>match x with
      | 6=>178
      | 15=>111
      | 14=>187
      | 28=>146
      | 29=>147
      | 20=>190
      | 21=>191
      | 22=>192
      | 23=>193
      | 24=>194
      | 25=>195
      | 26=>196
      | 27=>197
      | 46=>198
      | 47=>170
      | 48=>171
      | 49=>199
      | 50=>200
      | 57=>201
      | n=>n
    t:=λx=>match x with
      | 22=>49
      | 24=>70
      | 25=>153
      | 3=>3
      | 39=>135
      | 0=>0
      | 53=>36
      | 55=>39
      | 4=>4
      | 46=>163
      | 45=>162
      | 50=>101
      | 5=>5
      | 9=>9
      | 66=>187
      | 70=>191
      | 76=>200
      | 77=>201
      | n=>n
    g:=λn=>n }
theorem sort178TryzLays:Go.Proofs.SlLaysF0.n6 Tryz.prog sort178TryzRen where
  mixed:=mixed
  f6:=⟨Tryz.f178.name,by kernel_rfl,Tryz.func178.trans (by kernel_rfl)⟩
  f15:=Tryz.func111.trans (by kernel_rfl)
  f14:=⟨Tryz.f187.name,by kernel_rfl,Tryz.func187.trans (by kernel_rfl)⟩
  f28:=Tryz.func146.trans (by kernel_rfl)
  f29:=Tryz.func147.trans (by kernel_rfl)
  f20:=⟨Tryz.f190.name,by kernel_rfl,Tryz.func190.trans (by kernel_rfl)⟩
  f21:=⟨Tryz.f191.name,by kernel_rfl,Tryz.func191.trans (by kernel_rfl)⟩
  f22:=⟨Tryz.f192.name,by kernel_rfl,Tryz.func192.trans (by kernel_rfl)⟩
  f23:=⟨Tryz.f193.name,by kernel_rfl,Tryz.func193.trans (by kernel_rfl)⟩
  f24:=⟨Tryz.f194.name,by kernel_rfl,Tryz.func194.trans (by kernel_rfl)⟩
  f25:=⟨Tryz.f195.name,by kernel_rfl,Tryz.func195.trans (by kernel_rfl)⟩
  f26:=⟨Tryz.f196.name,by kernel_rfl,Tryz.func196.trans (by kernel_rfl)⟩
  f27:=⟨Tryz.f197.name,by kernel_rfl,Tryz.func197.trans (by kernel_rfl)⟩
  f46:=⟨Tryz.f198.name,by kernel_rfl,Tryz.func198.trans (by kernel_rfl)⟩
  f47:=Tryz.func170.trans (by kernel_rfl)
  f48:=Tryz.func171.trans (by kernel_rfl)
  f49:=⟨Tryz.f199.name,by kernel_rfl,Tryz.func199.trans (by kernel_rfl)⟩
  f50:=⟨Tryz.f200.name,by kernel_rfl,Tryz.func200.trans (by kernel_rfl)⟩
  f57:=⟨Tryz.f201.name,by kernel_rfl,Tryz.func201.trans (by kernel_rfl)⟩
  t0:=Tryz.underlying0
  a0:=Tryz.isAgg0
  z0:=Tryz.sizeOf0
  v0:=Tryz.zeroValue0
  t3:=Tryz.underlying3
  a3:=Tryz.isAgg3
  z3:=Tryz.sizeOf3
  v3:=Tryz.zeroValue3
  t4:=Tryz.underlying4
  a4:=Tryz.isAgg4
  z4:=Tryz.sizeOf4
  v4:=Tryz.zeroValue4
  t5:=Tryz.underlying5
  a5:=Tryz.isAgg5
  z5:=Tryz.sizeOf5
  v5:=Tryz.zeroValue5
  t9:=Tryz.underlying9
  a9:=Tryz.isAgg9
  z9:=Tryz.sizeOf9
  v9:=Tryz.zeroValue9
  t22:=Tryz.underlying49
  a22:=Tryz.isAgg49
  z22:=Tryz.sizeOf49
  v22:=Tryz.zeroValue49
  t25:=Tryz.underlying153
  a25:=Tryz.isAgg153
  z25:=Tryz.sizeOf153
  v25:=Tryz.zeroValue153
  t39:=Tryz.underlying135
  a39:=Tryz.isAgg135
  z39:=Tryz.sizeOf135
  v39:=Tryz.zeroValue135
  t45:=Tryz.underlying162
  a45:=Tryz.isAgg162
  z45:=Tryz.sizeOf162
  v45:=Tryz.zeroValue162
  t46:=Tryz.underlying163
  a46:=Tryz.isAgg163
  z46:=Tryz.sizeOf163
  v46:=Tryz.zeroValue163
  t50:=Tryz.underlying101
  a50:=Tryz.isAgg101
  z50:=Tryz.sizeOf101
  v50:=Tryz.zeroValue101
  t53:=Tryz.underlying36
  a53:=Tryz.isAgg36
  z53:=Tryz.sizeOf36
  v53:=Tryz.zeroValue36
  t55:=Tryz.underlying39
  a55:=Tryz.isAgg39
  z55:=Tryz.sizeOf39
  v55:=Tryz.zeroValue39
  t66:=Tryz.underlying187
  a66:=Tryz.isAgg187
  z66:=Tryz.sizeOf187
  v66:=Tryz.zeroValue187
  t70:=Tryz.underlying191
  a70:=Tryz.isAgg191
  z70:=Tryz.sizeOf191
  v70:=Tryz.zeroValue191
  t76:=Tryz.underlying200
  a76:=Tryz.isAgg200
  z76:=Tryz.sizeOf200
  v76:=Tryz.zeroValue200
  t77:=Tryz.underlying201
  a77:=Tryz.isAgg201
  z77:=Tryz.sizeOf201
  v77:=Tryz.zeroValue201
theorem ok179 {b:GF} {c:GF} {res:Int}  (a:qP b c=some res):Sp 179 [.agg [.int .u64 b.time,.int .u8 b.dot.actor.rep,.int .u32 b.dot.actor.inc,.int .u64 b.dot.seq,.str b.text],.agg [.int .u64 c.time,.int .u8 c.dot.actor.rep,.int .u32 c.dot.actor.inc,.int .u64 c.dot.seq,.str c.text]] h (yP (.int .i64 res) h):=by
 unfold qP at a;refine zc Tryz.func179 rfl (by kernel_rfl) (xh 14 rfl) (R.r ?_);refine zg a (λv1 d a=>cp (ok92 d) (R.r ?_));refine zj gg a (λe a=>?_) (λe a=>?_)
 ·apply R.r;cases a;exact fz rfl rfl
 ·apply R.r;cases a;exact fz rfl rfl
end Go.Vv
