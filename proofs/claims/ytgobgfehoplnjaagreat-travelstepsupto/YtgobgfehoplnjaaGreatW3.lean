/- Each function that the law reaches computes what its reading says; printed by a program. -/
import Derived.Test.YtgobgfehoplnjaaGreatW2
set_option linter.all false
namespace Go.Vv
open Go Go.Proofs
set_option maxRecDepth 100000
set_option synthInstance.maxSize 100000
set_option synthInstance.maxHeartbeats 1000000
set_option maxHeartbeats 1000000
variable {res:Bool} {h:AH} {t0:(List GC)} {deep1 time0 other2:Int} {l0 ss0:(List GF)} {d1 oo3:GA} {f1:(GF->Option Bool)} {ff1:FuncId} {af1 kf1:List AV}
theorem zxm {g0:GR} {i:Nat} {g:GI} {c:GA} (d:h.gZ i=some (.cells [.int .u64 g0.b.num,za g0.b.f,za g0.b.g9,.int .u64 g0.b.time,zb g0.b.tree,zK g0.l])) (a:xp g0 g c=some res):Sp 56 [.ptr i 0,zo g,zn c] h (z7 (.bool res) h):=by
 unfold xp at a;refine zr Tryz.func56 rfl kr (tW 98 rfl) ?_;have j:=yi d rfl;have w:∀k,i < h.zh.length+k:=λk=>o5 j (n4 _ _);apply R.r;refine dr [] ?_;refine wV rfl rfl (λy=>yU rfl me (zN gg y) d (zB rfl) (zc rfl)) ss (R.r ?_);refine cH a (λ_=>zqN) λU a=>qe (λ(F:Nat) (A:Bool)=>zk 1 3 (zk 9 89 [(6,.any),(7,.bool A),(8,.int .i64 (F:Int))])) (λA=>h.ext [.cells (GI.row g),.cells (GA.row c)] []) a (λF A H a=>xU λC=>cL a (λY W N z a u=>?_) (λa=>?_))
 ·refine ix (zt z) (R.r ?_);refine cB a (λ_=>zpQ (zz d)) λP a=>cF a (λn a=>?_) (λn a=>?_)
  ·exact ZL
  ·refine dr [] ?_;refine wo (yU rfl ai gg d (zB rfl) (zc rfl)) ?_;refine zd a (λJ v a=>eU v (R.r ?_));refine tB gg a (λt a=>?_) (λt a=>?_)
   ·apply R.r;cases a;replace a:=u;apply R.r;exact Z
   ·refine ziu (ww ?_);refine zdq (λ(s2:Bool)=>zk 1 3 (zk 10 88 [(6,.any),(7,.bool s2)])) (λs2=>h.ext [.cells (GI.row g),.cells (GA.row c)] []) a (λ_=>UE) (λV a L=>?_) (λs2 a=>?_)
    ·apply R.r;refine dr [9] ?_;refine wo (yU rfl ai gg d (zB rfl) (zc rfl)) ?_;refine zd a (λS p a=>eU p (R.r ?_));refine cM a (λ_ e _=>zqN e) λv70 a=>cF a (λm a=>?_) (λm a=>?_)
     ·refine tC ?_;exact ZL
     ·refine tC ?_;exact ZL
    ·apply R.r;refine qe (λ(D:Nat) (E:Unit)=>zk 1 3 (zk 11 87 [(6,.any),(10,.int .i64 (D:Int))])) (λE=>h.ext [.cells (GI.row g),.cells (GA.row c)] []) a (λD E O a=>xU λB=>cL a (λT X M I a x=>?_) (λa=>?_))
     ·refine dr [] ?_;refine wV rfl rfl (λy=>yU rfl ai (zN gg y) d (zB rfl) (zc rfl)) ss (R.r ?_);refine zM a (λq a=>vE q (R.r ?_));refine zM a (λo a=>vE o (R.r ?_));refine cH a (λ_=>zqN) λK a=>cF a (λs a=>?_) (λs a=>?_)
      ·cases a;replace a:=x;apply R.r;cases a;replace a:=u;apply R.r;exact Z
      ·exact ZL
     ·exact ZL
 ·refine dr [] ?_;refine cH a (λ_=>zr4 (zz d)) λQ a=>cH a (λ_=>zr5) λG a=>?_;exact Z
theorem ztX (n:Nat):∀{t0:(List GC)} {deep1:Int} {res:Int} {h:AH} , xC n t0 deep1=some res->Sp 38 [zb t0,.int .i64 deep1] h (z7 (.int .i64 res) h):=by
 induction n with
 | zero=>intro t0 deep1 res h  a;simp [xC] at a
 | succ n ih =>
  intro t0 deep1 res h  a;unfold xC at a;refine y8 Tryz.func38 84 ?_;refine xd (λ(l:Int×Int)=>zk 2 3 (zk 7 77 [(5,.int .i64 l.1),(6,.int .i64 l.2)])) (λl=>h.ext [] []) a (λ_=>UE) (wk.le f9.o) ?_;intro N l L a v;apply R.r;refine xU λA=>cF a (λj a=>?_) (λj a=>?_)
  ·refine dr [16] ?_;refine zd a (λF i a=>wo (yN rfl wp gg gg oL i (GC.q8 _)) ?_);refine qm rfl rfl (zin rfl rfl rfl rfl cu gg) ss (R.r ?_);refine zd a (λG g a=>wo (yN rfl wp gg gg oL g (GC.q8 _)) ?_);refine zd a (λE f a=>aP (by rintro _ ⟨B2,T2,rfl,C⟩;exact ih f) ?_);refine xd (λ(s2:Int×Int)=>zk 2 3 (zk 8 76 [(5,.int .i64 s2.1),(7,.int .i64 s2.2)])) (λs2=>h.ext [] []) a (λ_=>UE) (wk.le f9.o) ?_;intro n2 s2 K a s;apply R.r;refine zd a (λB e a=>zO (yN rfl wp gg gg oL e (GC.q8 _)) ?_);refine xU λp=>cF a (λb a=>?_) (λb a=>?_)
   ·refine zd a (λz d a=>zO (yN rfl wp gg gg oL d (GC.q8 _)) ?_);refine zd a (λk c a=>ix c (R.r ?_));refine xU λw=>xU λx=>qe (λ(y:Nat) (u:Int)=>zk 2 3 (zk 10 74 [(5,.int .i64 u),(9,.int .i64 (y:Int))])) (λu=>h.ext [.cells (GE.row k)] []) a (λy u I a=>xU λq=>cL a (λJ M H m a D=>?_) (λa=>?_))
    ·refine ix (zt m) (R.r ?_);refine xU λt=>?_;exact ZL
    ·exact ZL
   ·cases a;replace a:=s;apply R.r;exact ZL
  ·cases a;replace a:=v;apply R.r;exact Z
theorem zxp {res:Int}  (a:nk t0 deep1=some res):Sp 38 [zb t0,.int .i64 deep1] h (z7 (.int .i64 res) h):=by
 obtain ⟨n,b⟩:=rG a;exact ztX n b
theorem zxw  (a:qK t0=some res):Sp 13 [zb t0] h (z7 (.bool res) h):=by
 unfold qK at a;refine y8 Tryz.func13 6 ?_;refine cB a (λ_=>zxp) λb a=>?_;exact Z
abbrev yy (x:List GF):AV:=.sl 5 (x.map GF.row)
theorem zrV {res:Int}  (a:rL l0 d1=some res):Sp 129 [yy l0,zn d1] h (z7 (.int .i64 res) h):=by
 unfold rL at a;refine y8 Tryz.func129 20 ?_;refine qe (λ(f:Nat) (g:Unit)=>zk 1 2 (zk 6 14 [(4,.any),(5,.int .i64 (f:Int))])) (λg=>h.ext [.cells (GA.row d1)] []) a (λf g i a=>xU λe=>cL a (λk l j d a c=>?_) (λa=>?_))
 ·refine dr [] ?_;refine eU (zt d) (R.r ?_);refine wo (wv rfl gg gg (rz p5 rfl)) ?_;refine cF a (λb a=>?_) (λb a=>?_)
  ·cases a;replace a:=c;apply R.r;exact Z
  ·exact ZL
 ·exact Z
theorem ztN  (a:qL time0 d1 other2 oo3=some res):Sp 84 [.int .u64 time0,zn d1,.int .u64 other2,zn oo3] h (z7 (.bool res) h):=by
 unfold qL at a;refine y8 Tryz.func84 18 ?_;refine cF a (λb a=>?_) (λb a=>?_)
 ·exact Z
 ·refine cB a (λ_=>zoF) λc a=>?_;exact Z
theorem zsY {l0:(List GA)}  (a:uf l0 d1=some res):Sp 85 [za l0,zn d1] h (z7 (.bool res) h):=by
 unfold uf at a;refine y8 Tryz.func85 18 ?_;refine qe (λ(f:Nat) (g:Unit)=>zk 1 2 (zk 6 12 [(4,.any),(5,.int .i64 (f:Int))])) (λg=>h.ext [.cells (GA.row d1)] []) a (λf g i a=>xU λe=>cL a (λk l j d a c=>?_) (λa=>?_))
 ·refine dr [] ?_;refine eU (zt d) (R.r ?_);refine wo (wv rfl gg gg (rz p5 rfl)) ?_;refine cF a (λb a=>?_) (λb a=>?_)
  ·cases a;replace a:=c;apply R.r;exact Z
  ·exact ZL
 ·exact Z
abbrev zF (x:GE):AV:=.agg (GE.row x)
theorem zvI {l0:GE}  (a:ph l0=some res):Sp 83 [zF l0] h (z7 (.bool res) h):=by
 unfold ph at a;refine y8 Tryz.func83 205 ?_;refine dm λH=>R.r ?_;refine dm λL=>R.r ?_;refine cF a (λx a=>?_) (λx a=>?_)
 ·exact Z
 ·refine zy rfl sb ss ?_;refine zy rfl (nG (n:=1) rfl zqJ rfl) ss ?_;refine zy rfl (uE (cs':=zlx) rfl f5.choose_spec.1 gg gg (zc rfl) rfl rfl rfl rfl rfl) rfl ?_;refine yG (ww ?_);refine zdq (λ(C:Unit)=>zk 2 203 [(0,.any)]) (λC=>h.ext [.cells (GE.row l0),.cells zlx] []) a (λ_=>UE) (λS a b=>?_) (λC a=>?_)
  ·apply R.r;refine cF a (λv a=>?_) (λv a=>?_)
   ·refine vN rfl (λy=>wv rfl (zN gg y) (zN gg y) (pG p5 rfl)) ss (R.r ?_);refine cF a (λp a=>?_) (λp a=>?_)
    ·refine zdr ?_;cases a;replace a:=b;exact Z
    ·refine tC ?_;cases a;exact ⟨(),b,wk.le f9.o⟩
   ·refine cG a (λ_=>aA) λM a=>dm λB=>R.r ?_;refine cF a (λl a=>?_) (λl a=>?_)
    ·refine zdr ?_;cases a;replace a:=b;exact Z
    ·refine tC ?_;cases a;exact ⟨(),b,wk.le f9.o⟩
  ·apply R.r;refine qe (λ(n2:Nat) (s2:Unit)=>zk 2 2 (zk 5 200 [(0,.any),(4,.int .i64 (n2:Int))])) (λs2=>h.ext [.cells (GE.row l0),.cells zlx] []) a (λn2 s2 I a=>xU λA=>cL a (λU Q u t a c=>?_) (λa=>?_))
   ·refine ix (zt t) (R.r ?_);refine cB a (λ_=>aA) λG a=>dm λD=>R.r ?_;refine cG a (λ_=>zrV) λK a=>cG a (λ_=>zsY) λv44 a=>cF a (λk a=>?_) (λk a=>?_)
    ·cases a;replace a:=c;apply R.r;exact Z
    ·refine dr [] ?_;refine zM a (λi a=>vE i (R.r ?_));refine zM a (λg a=>vE g (R.r ?_));refine cH a (λ_=>ztN) λJ a=>cF a (λf a=>?_) (λf a=>?_)
     ·cases a;replace a:=c;apply R.r;exact Z
     ·cases a;exact ⟨(),u,c,wk.trans (wk.le (by exact (.drop (.eq (.drop (.drop (.cons (g6.of_eq (oa (by omega) (by omega))) (.d16 (.d16 (.d16 (.d16 (.d16 (.d16 (.d16 (.d16 (.d16 (.d16 (.d16 (.d16 (.d4 (.d4 fd.nil))))))))))))))))))))) (yA (by simp [zA,AV.low]) rfl rfl (by simp [q6.low,zA,AV.low]))⟩
   ·refine qe (λ(z:Nat) (F:Unit)=>zk 2 4 (zk 7 198 [(0,.any),(6,.int .i64 (z:Int))])) (λF=>h.ext [.cells (GE.row l0),.cells zlx] []) a (λz F N a=>xU λE=>cL a (λP T w s a d=>?_) (λa=>?_))
    ·refine dr [5] ?_;refine eU (zt s) (R.r ?_);refine cM a (λ_ e _=>aA e) λO a=>zM a (λj a=>vE j (R.r ?_));refine zM a (λq a=>vE q (R.r ?_));refine cH a (λ_=>zoF) λv76 a=>cF a (λm a=>?_) (λm a=>?_)
     ·cases a;replace a:=d;apply R.r;exact Z
     ·cases a;exact ⟨(),w,d,wk.le (by exact (.drop (.eq (.d4 (.cons (g6.of_eq (oa (by omega) (by omega))) (.d16 (.d16 (.d16 (.d16 (.d16 (.d16 (.d16 (.d16 (.d16 (.d16 (.d16 (.d16 (.d4 (.drop (.drop fd.nil))))))))))))))))))))⟩
    ·exact Z
theorem ztO (n:Nat):∀{t0:(List GC)} {deep1:Int} {res:Bool} {h:AH} , qJ n t0 deep1=some res->Sp 80 [zb t0,.int .i64 deep1] h (z7 (.bool res) h):=by
 induction n with
 | zero=>intro t0 deep1 res h  a;simp [qJ] at a
 | succ n ih =>
  intro t0 deep1 res h  a;unfold qJ at a;refine y8 Tryz.func80 95 ?_;refine qe (λ(u:Nat) (t:Unit)=>zk 2 3 (zk 6 89 [(5,.int .i64 (u:Int))])) (λt=>h.ext [] []) a (λu t v a=>xU λs=>cL a (λp C A o a k=>?_) (λa=>?_))
  ·refine zO (yN rfl wp gg gg oL (zt o) (GC.q8 _)) ?_;refine dr [] ?_;refine cH a (λ_=>zrW) λw a=>zM a (λd a=>?_);refine wV rfl (zkm rfl rfl rfl) (λb=>vX default rfl wp (zN gg b) (zN gg b) oL (d b) (GC.q8 _)) ss (R.r ?_);refine qv rfl rfl (λb=>x9 rfl rfl rfl rfl bJ (zN gg b) vC) ss (R.r ?_);refine qv rfl (zkm rfl rfl rfl) (λb=>x9 rfl rfl rfl rfl wp (zN gg b) vC) ss (R.r ?_);refine qc a (λz i a=>?_);refine uK rfl rfl sc (λb=>ih (i b)) ss (R.r ?_);refine cF a (λf a=>?_) (λf a=>?_)
   ·cases a;replace a:=k;apply R.r;exact Z
   ·refine qe (λ(n2:Nat) (s2:Unit)=>zk 2 3 (zk 8 87 [(7,.int .i64 (n2:Int))])) (λs2=>h.ext [.cells [.str p.name,zH p.leaves,zb p.w5]] []) a (λn2 s2 y a=>xU λq=>cL a (λD B x l a m=>?_) (λa=>?_))
    ·refine dr [5] ?_;refine eU (zt l) (R.r ?_);refine cM a (λ_ e _=>zvI e) λv50 a=>zM a (λj a=>vE j (R.r ?_));refine zM a (λg a=>vE g (R.r ?_));refine cF a (λc a=>?_) (λc a=>?_)
     ·cases a;replace a:=m;apply R.r;cases a;replace a:=k;apply R.r;exact Z
     ·exact ZL
    ·exact ZL
  ·exact Z
theorem zxc  (a:zb7 t0 deep1=some res):Sp 80 [zb t0,.int .i64 deep1] h (z7 (.bool res) h):=by
 obtain ⟨n,b⟩:=rG a;exact ztO n b
theorem zvN  (a:ou t0=some res):Sp 32 [zb t0] h (z7 (.bool res) h):=by
 unfold ou at a;refine y8 Tryz.func32 5 ?_;refine cB a (λ_=>zxc) λb a=>?_;exact Z
abbrev oW (x:GL):AV:=.agg (GL.row x)
theorem zxv {b0:GL}  (a:q9 b0=some res):Sp 14 [oW b0] h (z7 (.bool res) h):=by
 unfold q9 at a;refine y8 Tryz.func14 85 ?_;refine dr [2,5] ?_;refine cM a (λ_ e _=>zrB e) λu a=>cM a (λ_ e _=>ok7 e) λw a=>?_;refine qv rfl rfl (λs=>x9 rfl rfl rfl rfl p6 (zN gg s) vC) ss (R.r ?_);refine cH a (λ_=>zvN) λv4 a=>cF a (λg a=>?_) (λg a=>?_)
 ·exact Z
 ·refine qe (λ(p:Nat) (o:Unit)=>zk 4 81 [(0,.any),(2,.any),(3,.int .i64 (p:Int))]) (λo=>h.ext [.cells (GL.row b0)] []) a (λp o q a=>xU λm=>cL a (λx v t i a j=>?_) (λa=>?_))
  ·refine dr [7] ?_;refine eU (zt i) (R.r ?_);refine cM a (λ_ e _=>zqN e) λv22 a=>zM a (λd a=>vE d (R.r ?_));refine zM a (λb a=>vE b (R.r ?_));refine cH a (λ_=>zoF) λv25 a=>cF a (λc a=>?_) (λc a=>?_)
   ·cases a;replace a:=j;apply R.r;exact Z
   ·exact ZL
  ·refine xU λl=>cF a (λf a=>?_) (λf a=>?_)
   ·refine dm λn=>R.r ?_;exact Z
   ·refine dm λk=>R.r ?_;exact Z
theorem zw7 {l0:(List GA)}  (a:tK l0=some res):Sp 91 [za l0] h (z7 (.bool res) h):=by
 unfold tK at a;refine y8 Tryz.func91 21 ?_;refine xd (λ(i:Int)=>zk 1 2 (zk 4 17 [(3,.int .i64 i)])) (λi=>h.ext [] []) a (λ_=>UE) (wk.le f9.o) ?_;intro n i p a d;apply R.r;refine xU λj=>cF a (λg a=>?_) (λg a=>?_)
 ·refine dr [9] ?_;refine zd a (λl f a=>eU f (R.r ?_));refine zd a (λm c a=>eU c (R.r ?_));refine cM a (λ_ e _=>zoE e) λk a=>cF a (λb a=>?_) (λb a=>?_)
  ·cases a;replace a:=d;apply R.r;exact Z
  ·exact ZL
 ·cases a;replace a:=d;apply R.r;exact Z
theorem zrI {b:Int}  (a:s9 b=some res):Sp 185 [.int .u64 b] h (z7 (.bool res) h):=by
 unfold s9 at a;refine y8 Tryz.func185 9 ?_;exact Z
theorem zrH {ss0:zq}  (a:uZ ss0=some res):Sp 186 [.str ss0] h (z7 (.bool res) h):=by
 unfold uZ at a;refine y8 Tryz.func186 6 ?_;refine xU λb=>?_;exact Z
theorem zug  (a:pn l0=some res):Sp 225 [yy l0] h (z7 (.bool res) h):=by
 unfold pn at a;refine y8 Tryz.func225 26 ?_;refine zO (tg (n:=0) rfl rfl) ?_;refine xU λl=>qe (λ(f:Nat) (b:List (GA×Int))=>zk 1 2 (zk 4 3 (zk 10 16 [(9,.int .i64 (f:Int))]))) (λb=>h.ext [.q7 (b.map (zZ (λx=>zn x) (AV.int .i64))) 0] []) a (λf b g a=>cL a (λc q i e a o=>?_) (λa=>?_))
 ·refine ix (zt e) (R.r ?_);refine zeB [3] (λ_=>ztc h 0 (b.map (zZ (λx=>zn x) (AV.int .i64))) ((bE GA.fi (0:Int) b c.z6).map (zZ (λx=>zn x) (AV.int .i64)))) (λ_=>⟨_,_,rfl,.inl rfl⟩) mixed kr (R.r ?_);refine yM rfl rfl (zcH (m:=b) (k:=c.z6) (d:=(0:Int)) (j:=0) (kv:=(λx=>zn x)) (vv:=(AV.int .i64)) rfl Tryz.underlying123 bD az3 gg gg) ss (R.r ?_);refine uA rfl (fY.all ⟨_,_,rfl,.inr rfl⟩) kr rfl (zhL (m:=b) (k:=c.z6) (d:=(0:Int)) (j:=0) (kv:=(λx=>zn x)) (vv:=(AV.int .i64)) rfl Tryz.underlying123 bD az3 gg rfl gg rfl) ss (R.r ?_);refine uA rfl (fY.skip kr) kr rfl (nF (m:=b) (k:=c.z6) (d:=(0:Int)) (v:=(IntKind.wrap .i64 ((zG GA.fi (0:Int) b c.z6)+(1:Int)))) (j:=0) (eq:=GA.fi) (kv:=(λx=>zn x)) (vv:=(AV.int .i64)) rfl gg rfl gg rfl gg rfl rfl) rfl (R.r ?_);exact ZL
 ·refine zbB (m:=b) (j:=0) (kv:=(λx=>zn x)) (vv:=(AV.int .i64)) rfl rfl rfl rfl rfl Tryz.underlying123 gg rfl ss (R.r ?_);refine xU λp=>?_;exact Z
theorem zrF {a0:Int} {f:Int} {res:Int}  (a:ug a0 d1 f oo3=some res):Sp 235 [.int .u64 a0,zn d1,.int .u64 f,zn oo3] h (z7 (.int .i64 res) h):=by
 unfold ug at a;refine y8 Tryz.func235 17 ?_;refine dr [2,5,7] ?_;refine cM a (λ_ e _=>ztP e) λi a=>zd a (λg b a=>yH rfl rfl (λ_=>sc rfl) (by rintro _ ⟨B2,T2,rfl,d⟩;exact zoE b) ss ?_);refine wo (bs (([i,g]:List Int).map (zdK .i64))) ?_;refine zd a (λv3 c a=>aP (by rintro _ ⟨B2,T2,rfl,d⟩;exact (zs0 c).le (.cons (g6.gW _ _ _) fd.nil)) ?_);exact Z
theorem zjV  (a:qt time0 d1 other2 oo3=some res):Sp 203 [.int .u64 time0,zn d1,.int .u64 other2,zn oo3] h (z7 (.bool res) h):=by
 unfold qt at a;refine y8 Tryz.func203 15 ?_;refine cB a (λ_=>zrF) λb a=>?_;exact Z
theorem zrG {b:Bool}  (a:su l0 b=some res):Sp 187 [yy l0,.bool b] h (z7 (.bool res) h):=by
 unfold su at a;refine y8 Tryz.func187 66 ?_;refine xU λq=>qe (λ(m:Nat) (l:Unit)=>zk 2 5 (zk 10 56 [(9,.int .i64 (m:Int))])) (λl=>h.ext [] []) a (λm l n a=>cL a (λx w v k a i=>?_) (λa=>?_))
 ·refine ix (zt k) (R.r ?_);refine cB a (λ_=>zpI) λo a=>cG a (λ_=>zrH) λu a=>qc a (λs c a=>?_);refine w8 rfl sc (λj=>zrI (c j)) ss ?_;refine vN rfl (λj=>wv rfl (zN gg j) (zN gg j) (zmx ty4)) ss (R.r ?_);refine cF a (λe a=>?_) (λe a=>?_)
  ·cases a;replace a:=i;apply R.r;exact Z
  ·refine dr [] ?_;refine zM a (λg a=>vE g (R.r ?_));refine zM a (λf a=>vE f (R.r ?_));refine cH a (λ_=>zjV) λt a=>cF a (λd a=>?_) (λd a=>?_)
   ·cases a;replace a:=i;apply R.r;exact Z
   ·exact ZL
 ·refine cB a (λ_=>zug) λp a=>?_;exact Z
abbrev wP (x:GF):AV:=.agg (GF.row x)
theorem zt3 {c:GF} {c0:GA} {e:Nat} (b:h.gZ e=some (.cells (GA.row c0))) (a:nB c c0=some res):Sp 256 [wP c,.ptr e 0] h (z7 (.bool res) h):=by
 unfold nB at a;refine zr Tryz.func256 rfl kr (tW 8 rfl) ?_;have d:=yi b rfl;have f:∀k,e < h.zh.length+k:=λk=>o5 d (n4 _ _);apply R.r;refine zO (yU rfl f5.choose_spec.1 gg b (yj (cs':=(GA.row c0)) f5.choose_spec.2 rfl rfl) (zc rfl)) ?_;refine zO (wv rfl gg gg (rz p5 rfl)) ?_;exact Z
theorem zt7 {res:Int} (k:∀o v (L:List q6) (M:List Nat),f1 o=some v->Sp ff1 (af1++[wP o]++kf1) (h.ext L M) (z7 (.bool v) (h.ext L M))) (a:yw ss0 f1=some res):Sp 241 [yy ss0,.fn (.func ff1) af1 kf1] h (z7 (.int .i64 res) h):=by
 unfold yw at a;refine zx Tryz.func241 rfl kr (tW 19 rfl) (λb w=>?_);simp only [zA,AV.low,tr,lA,kJ] at b;have g:∀n m,h.zh.length<=n->h.zs.length<=m->zA n m af1=true:=λn m e c=>zT e c _ (by simp [b]);have d:∀n m,h.zh.length<=n->h.zs.length<=m->zA n m kf1=true:=λn m e c=>zT e c _ (by simp [b]);apply R.r;refine xU λt=>qe (λ(q:Nat) (p:Unit)=>zk 2 5 (zk 9 10 [(8,.int .i64 (q:Int))])) (λp=>h.ext [] []) a (λq p s a=>cL a (λz y u f a l=>?_) (λa=>?_))
 ·refine ix (zt f) (R.r ?_);refine zd a (λx j a=>yf rfl (dU rfl) (k _ _ _ _ j) ss (R.r ?_));refine cF a (λi a=>?_) (λi a=>?_)
  ·cases a;replace a:=l;apply R.r;exact Z
  ·exact ZL
 ·exact Z
theorem zro {t c:Nat} {res:Int} (d:h.zh.length=t) (f:h.zs.length=c) (l:∀s v (L:List q6) (M:List Nat),f1 s=some v->Sp ff1 (af1++[wP s]++kf1) (h.ext L M) (z7 (.bool v) (h.ext L M))) (j:∀n m,h.zh.length<=n->h.zs.length<=m->zA n m af1=true) (e:∀n m,h.zh.length<=n->h.zs.length<=m->zA n m kf1=true) (a:yw ss0 f1=some res):Sp 241 [.fm t c 5 ss0.length,.fn (.func ff1) af1 kf1] (h.ext [.row c 5 (ss0.map GF.row)] [ss0.length]) (z7 (.int .i64 res) (h.ext [.row c 5 (ss0.map GF.row)] [ss0.length])):=by
 unfold yw at a;subst d f;refine eW Tryz.func241 19 ?_;refine xU λx=>qe (λ(o:Nat) (u:Unit)=>zk 2 5 (zk 9 10 [(8,.int .i64 (o:Int))])) (λu=>h.ext [yq h 0 5 (ss0.map GF.row)] [ss0.length]) a (λo u w a=>cL a (λA B y b a p=>?_) (λa=>?_))
 ·refine zO (iR (yZ (zt b) rfl)) ?_;refine zO (vn (off:=0) (i:=0) (q:=h.zs.length+0) (z:=(o:Int).toNat) (row:=GF.row) (λ_=>rfl) rfl dz.choose_spec.1 (by decide) gg rfl rfl (wy (zt b)).2.2 (yj (cs':=(GF.row A)) dz.choose_spec.2 rfl rfl) (zc rfl)) ?_;refine zd a (λC g a=>yf rfl (dU rfl) (l _ _ _ _ g) ss (R.r ?_));refine cF a (λk a=>?_) (λk a=>?_)
  ·cases a;replace a:=p;apply R.r;cases a;refine fr rfl (zi6 (L:=[]) (M:=[]) rfl rfl (g6.refl _) rfl ?_);exact ⟨rfl,rfl⟩
  ·exact ZL
 ·cases a;refine fr rfl (zi6 (L:=[]) (M:=[]) rfl rfl (g6.refl _) rfl ?_);exact ⟨rfl,rfl⟩
theorem zt4 (e:∀c v (L:List q6) (M:List Nat),f1 c=some v->Sp ff1 (af1++[wP c]++kf1) (h.ext L M) (z7 (.bool v) (h.ext L M))) (a:xK ss0 f1=some res):Sp 255 [yy ss0,.fn (.func ff1) af1 kf1] h (z7 (.bool res) h):=by
 unfold xK at a;refine zx Tryz.func255 rfl kr (tW 9 rfl) (λb k=>?_);simp only [zA,AV.low,tr,lA,kJ] at b;have d:∀n m,h.zh.length<=n->h.zs.length<=m->zA n m af1=true:=λn m i f=>zT i f _ (by simp [b]);have g:∀n m,h.zh.length<=n->h.zs.length<=m->zA n m kf1=true:=λn m i f=>zT i f _ (by simp [b]);apply R.r;refine cB a (λ_=>zt7 (λc v L M j=>by rw [xG];exact e c v _ _ j)) λl a=>?_;exact Z
theorem zpL  (a:ra l0 d1=some res):Sp 226 [yy l0,zn d1] h (z7 (.bool res) h):=by
 unfold ra at a;refine y8 Tryz.func226 8 ?_;refine zO mF ?_;refine cB a (λ_=>zt4 (λ_ v L M b=>zt3 (vq (j:=0) rfl) b)) λc a=>?_;exact Z
theorem zuw {l0:GE}  (a:po l0=some res):Sp 188 [zF l0] h (z7 (.bool res) h):=by
 unfold po at a;refine y8 Tryz.func188 38 ?_;refine xU λn=>qe (λ(g:Nat) (i:Unit)=>zk 2 4 (zk 9 29 [(0,.any),(8,.int .i64 (g:Int))])) (λi=>h.ext [.cells (GE.row l0)] []) a (λg i j a=>cL a (λo p k f a d=>?_) (λa=>?_))
 ·refine ix (zt f) (R.r ?_);refine dr [1] ?_;refine cM a (λ_ e _=>zpI e) λl a=>zM a (λb a=>vE b (R.r ?_));refine cH a (λ_=>zoE) λm a=>cH a (λ_=>zpL) λv22 a=>cF a (λc a=>?_) (λc a=>?_)
  ·cases a;replace a:=d;apply R.r;exact Z
  ·exact ZL
 ·exact Z
theorem zuf {d:(List GF)} {b:(List GF)}  (a:qi d b=some res):Sp 227 [yy d,yy b] h (z7 (.bool res) h):=by
 unfold qi at a;refine y8 Tryz.func227 26 ?_;refine xU λp=>xU λq=>cF a (λf a=>?_) (λf a=>?_)
 ·exact Z
 ·refine xU λl=>qe (λ(j:Nat) (k:Unit)=>zk 2 10 (zk 14 12 [(13,.int .i64 (j:Int))])) (λk=>h.ext [] []) a (λj k m a=>cL a (λs t n i a g=>?_) (λa=>?_))
  ·refine dr [] ?_;refine eU (zt i) (R.r ?_);refine zd a (λo e a=>eU e (R.r ?_));refine wo (wv rfl gg gg (pG zrc rfl)) ?_;refine cF a (λc a=>?_) (λc a=>?_)
   ·cases a;replace a:=g;apply R.r;exact Z
   ·exact ZL
  ·exact Z
theorem zue {d:(List GA)} {b:(List GA)}  (a:qI d b=some res):Sp 228 [za d,za b] h (z7 (.bool res) h):=by
 unfold qI at a;refine y8 Tryz.func228 26 ?_;refine xU λp=>xU λq=>cF a (λf a=>?_) (λf a=>?_)
 ·exact Z
 ·refine xU λl=>qe (λ(j:Nat) (k:Unit)=>zk 2 10 (zk 14 12 [(13,.int .i64 (j:Int))])) (λk=>h.ext [] []) a (λj k m a=>cL a (λs t n i a g=>?_) (λa=>?_))
  ·refine dr [] ?_;refine eU (zt i) (R.r ?_);refine zd a (λo e a=>eU e (R.r ?_));refine wo (wv rfl gg gg (pG p5 rfl)) ?_;refine cF a (λc a=>?_) (λc a=>?_)
   ·cases a;replace a:=g;apply R.r;exact Z
   ·exact ZL
  ·exact Z
theorem zny {a0:GE} {b:GE}  (a:rb a0 b=some res):Sp 189 [zF a0,zF b] h (z7 (.bool res) h):=by
 unfold rb at a;refine y8 Tryz.func189 52 ?_;refine vN rfl (λc=>wv rfl (zN gg c) (zN gg c) (rz p5 rfl)) ss (R.r ?_);refine cG a (λ_=>zuf) λe a=>cG a (λ_=>zue) λd a=>?_;exact Z
end Go.Vv
