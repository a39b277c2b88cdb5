/- Each function that the law reaches computes what its reading says; printed by a program. -/
import Derived.Test.YthnmdghfecoafaaGreatW2
set_option linter.all false
namespace Go.Vv
open Go Go.Proofs
set_option maxRecDepth 100000
set_option synthInstance.maxSize 100000
set_option synthInstance.maxHeartbeats 1000000
set_option maxHeartbeats 1000000
variable {t0:(List GA)} {kind2:Int} {res:Bool} {h:AH} {x0 l0:GE} {s0:(List GE)} {d1:GF}
theorem ok64 {c:(List zi)} {res:(GE×Bool)}  (a:treeLeaf t0 c kind2=some res):Sp 64 [.sl 3 (t0.map GA.row),.sl 1 (c.map zr),.int .u8 kind2] h (y5 (.tup [.agg (GE.row res.1),.bool res.2]) h):=by
 unfold treeLeaf at a;refine zd Tryz.func64 rfl (by kernel_rfl) (xH 66 rfl) (R.r ?_);refine ln λn=>?_;replace n:=yz n;refine zb rfl (zX rfl gg rfl rfl) ss ?_;refine zb rfl (zq rfl gg (za rfl)) ss ?_;refine ze (zj ?_);refine r_join (λ(g:Bool×zi×(List GE)×(List GA))=>zK 0 5 (zK 10 56 [(7,.any),(9,.bool g.1)])) (λg=>h.ext [.cells [.int .u8 kind2],.cells lit0x,.cells [.str g.2.1,.sl 9 (g.2.2.1.map GE.row),.sl 3 (g.2.2.2.map GA.row)]] []) a (λ_=>by simp only [zK,vi,ug,uh];try rfl) (λI a x=>?_) (λg a=>?_)
 ·apply R.r;refine ln λe=>?_;replace e:=yz e;apply R.r;refine zU (λ(C:Nat) (s2:(List GA)×Bool×zi×(List GE)×(List GA))=>zK 1 4 (zK 10 7 (zK 20 46 [(7,.any),(0,.sl 3 (s2.1.map GA.row)),(9,.bool s2.2.1),(19,.int .i64 (C:Int))]))) (λs2=>h.ext [.cells [.int .u8 kind2],.cells lit0x,.cells [.str s2.2.2.1,.sl 9 (s2.2.2.2.1.map GE.row),.sl 3 (s2.2.2.2.2.map GA.row)]] []) a (λ_ _=>by simp only [zK,vi,ug,uh];try rfl) (wk.trans (wk_leB (j:=2) rfl (by exact (.eq (.cons (leV.osl _ _ _) (.cons (leV.osl _ _ _) leL.nil)))) rfl rfl) (wk.le LEL.o)) ?_;intro C s2 E a;apply R.r;refine zZ gg a (λJ H B z a q=>?_) (λa=>?_)
  ·apply R.r;refine ix (yd z) (R.r ?_);refine zo a (λb u a=>cp (ok95 u) (R.r ?_));refine zt gg a (λw a=>?_) (λw a=>?_)
   ·apply R.r;refine q_block_miss (by decide) (R.r ?_);cases a;replace a:=q;apply R.r;refine q_join ?_;cases a;exact ⟨(b.2,b.1.name,b.1.leaves,b.1.subs),x,wk.le LEL.o⟩
   ·apply R.r;cases a;exact ⟨(b.1.subs,b.2,b.1.name,b.1.leaves,b.1.subs),B,q,wk.le (by exact (.cons (leV.of_eq rfl) (.d4 (.eq (.eq (.drop (.eq (.cons (leV.of_eq rfl) (.d4 (.drop (.drop (.drop (.eq (.eq (.cons (leV.of_eq (xw (by omega) (by omega))) (.d16 (.d16 (.d4 (.d4 (.d4 (.drop (.drop leL.nil))))))))))))))))))))))⟩
  ·apply R.r;refine q_join ?_;cases a;exact ⟨(s2.2.1,s2.2.2.1,s2.2.2.2.1,s2.2.2.2.2),x,wk.le LEL.o⟩
 ·apply R.r;refine zb rfl (q8 rfl rfl rfl) ss ?_;refine zo a (λG t a=>cp (ok96 (λ_ v L M F=>ok97 (blk_ext2 (j:=0) rfl) F) t) (R.r ?_));refine yw a (λv50 k a=>ya rfl sc (λA=>ok98 (k A)) ss ?_);refine yE rfl (λA=>s_field rfl fo72x0 ty5 (yi gg A) rfl (za rfl)) ss (R.r ?_);refine zt gg a (λi a=>?_) (λi a=>?_)
  ·apply R.r;refine zo a (λD y a=>cp (ok98 y) (R.r ?_));cases a;exact fz rfl rfl
  ·apply R.r;refine zo a (λf p a=>ix p (R.r ?_));refine wC (by kernel_rfl) (R.r ?_);refine zo a (λd s a=>xh rfl FOk.nil (by rfl) rfl (sc rfl) (x5 (T':=[d.length]) (ok99 s) (m:=0) rfl rfl) ss (R.r ?_));refine zo a (λv55 l a=>xh rfl FOk.nil (by rfl) rfl (sc rfl) (x5 (T':=[d.length,v55.length]) (ok100 l) (m:=1) rfl rfl) ss (R.r ?_));refine yo rfl FOk.nil (by kernel_rfl) rfl (yc (cs':=(GLeafRw f (osA h 0 5 (d.map GI.row)) (.sl 3 (f.tombs.map GF.row)))) rfl ty69 gg gg (za rfl) rfl rfl rfl rfl rfl) rfl (R.r ?_);refine yo rfl FOk.nil (by kernel_rfl) rfl (yc (cs':=(GLeafRw f (osA h 0 5 (d.map GI.row)) (osA h 1 3 (v55.map GF.row)))) rfl ty70 gg gg (za rfl) rfl rfl rfl rfl rfl) rfl (R.r ?_);cases a;exact fe rfl rfl (leV.tup (.cons (leV.agg (.eq (.eq (.eq (.eq (.eq (.eq (.eq (.cons (leV.osl _ _ _) (.cons (leV.osl _ _ _) leL.nil))))))))) rfl) (.eq leL.nil)))
theorem ok103 {x0:(List GA)} {c:zi} {j:(GA->zi->Option Int)} {i:FuncId} {e d:List AV} {res:(Int×Bool)} (g:∀x0 C v (L:List Blk) (M:List Nat),j x0 C=some v->Sp i (e++[.agg [.str x0.name,.sl 9 (x0.leaves.map GE.row),.sl 3 (x0.subs.map GA.row)],.str C]++d) (h.ext L M) (y5 (.int .i64 v) (h.ext L M))) (a:zQ x0 c j=some res):Sp 103 [.sl 3 (x0.map GA.row),.str c,.fn (.func i) e d] h (y5 (.tup [.int .i64 res.1,.bool res.2]) h):=by
 unfold zQ at a;refine yg Tryz.func103 rfl (by kernel_rfl) (xH 49 rfl) (λf F=>?_);simp only [zP,AV.low,ud,uX,tT] at f;have w:∀n m,h.blks.length<=n->h.toks.length<=m->zP n m e=true:=λn m z y=>yx z y _ (by simp [f]);have s:∀n m,h.blks.length<=n->h.toks.length<=m->zP n m d=true:=λn m z y=>yx z y _ (by simp [f]);apply R.r;refine ln λp=>?_;replace p:=yz p;apply R.r;refine r_loopWF (λ(b:Int×Int)=>zK 3 5 (zK 11 38 [(9,.int .i64 b.1),(10,.int .i64 b.2)])) (λb=>h.ext [] []) a (λ_=>by simp only [zK,vi,ug,uh];try rfl) (wk.le LEL.o) ?_;intro I b G a k;apply R.r;refine zt gg a (λB a=>?_) (λB a=>?_)
 ·apply R.r;refine zb rfl (s_convert rfl ty3 ty126 gg rfl) ss (R.r ?_);refine zb rfl (s_convert rfl ty126 ty3 gg rfl) ss (R.r ?_);refine zo a (λH A a=>zb rfl (wb rfl el23 gg gg isl A (GA.row_eq _)) ss (R.r ?_));refine zo a (λD u a=>zT rfl (scC rfl) (g _ _ _ _ _ u) ss (R.r ?_));refine zt gg a (λx a=>?_) (λx a=>?_)
  ·apply R.r;cases a;exact ⟨((IntKind.wrap .i64 ((IntKind.wrap .i64 ((Int.fdiv (IntKind.wrap .u64 ((IntKind.wrap .i64 (b.1+b.2)))) (2 ^ (min (1:Int).toNat (IntKind.bits .u64))))))+(1:Int))),b.2),k,wk.le LEL.o⟩
  ·apply R.r;cases a;exact ⟨(b.1,(IntKind.wrap .i64 ((Int.fdiv (IntKind.wrap .u64 ((IntKind.wrap .i64 (b.1+b.2)))) (2 ^ (min (1:Int).toNat (IntKind.bits .u64))))))),k,wk.le LEL.o⟩
 ·apply R.r;cases a;replace a:=k;apply R.r;refine xu a (λl a=>yE rfl (λq=>s_gidxRowE default rfl el23 (yi gg q) (yi gg q) isl (l q) (GA.row_eq _)) ss (R.r ?_));refine yw a (λE t a=>ya rfl scC (λq=>g _ _ _ _ _ (t q)) ss (R.r ?_));cases a;exact fz rfl rfl
def scmpTryzRen:Go.Shelf.Ren :=
  { f:=λx=>match x with
      | 106=>105
      | 213=>160
      | 265=>187
      | n=>n
    t:=λx=>match x with
      | 3=>3
      | 9=>9
      | n=>n
    g:=λn=>n }
theorem scmpTryzLays:Go.Proofs.Lays.n106 Tryz.prog scmpTryzRen where
  mixed:=mixed
  f106:=Tryz.func105.trans (by kernel_rfl)
  f213:=Tryz.func160.trans (by kernel_rfl)
  f265:=Tryz.func187.trans (by kernel_rfl)
  t3:=Tryz.underlying3
  a3:=Tryz.isAgg3
  z3:=Tryz.sizeOf3
  v3:=Tryz.zeroValue3
  t9:=Tryz.underlying9
  a9:=Tryz.isAgg9
  z9:=Tryz.sizeOf9
  v9:=Tryz.zeroValue9
theorem ok105 {b:zi} {a:zi} {res:Int} (c:stringsCompare b a=some res):Sp 105 [.str b,.str a] h (y5 (.int .i64 res) h):=by
 cases c;exact spec_scompare scmpTryzLays
theorem ok104 {b:GA} {a:zi} {res:Int}  (c:vw b a=some res):Sp 104 [.agg [.str b.name,.sl 9 (b.leaves.map GE.row),.sl 3 (b.subs.map GA.row)],.str a] h (y5 (.int .i64 res) h):=by
 unfold vw at c;refine zd Tryz.func104 rfl (by kernel_rfl) (xH 9 rfl) (R.r ?_);refine zo c (λe d c=>cp (ok105 d) (R.r ?_));cases c;exact fz rfl rfl
theorem okR106 {K F:Nat} {x:(GE->Option Bool)} {t:FuncId} {f g:List AV} {res:(List GE)} (G:h.blks.length=K) (J:h.toks.length=F) (p:∀x0 v (L:List Blk) (M:List Nat),x x0=some v->Sp t (f++[.agg (GE.row x0)]++g) (h.ext L M) (y5 (.bool v) (h.ext L M))) (b:∀n m,h.blks.length<=n->h.toks.length<=m->zP n m f=true) (a:∀n m,h.blks.length<=n->h.toks.length<=m->zP n m g=true) (c:yX s0 x=some res):Sp 106 [.rsl K F 9 s0.length,.fn (.func t) f g] (h.ext [.row F 9 (s0.map GE.row)] [s0.length]) (TurnK h K F 9 res.length (res.map GE.row)):=by
 unfold yX at c;subst G J;refine zM Tryz.func106 rfl (by kernel_rfl) (xH 42 rfl) (R.r ?_);refine zo c (λU I c=>cp (row_read (B1:=[]) (T1:=[]) (okR96 (by simp [AH.ext]) (by simp [AH.ext]) (λx0 v L M T=>by rw [xE];exact p x0 v _ _ T) (λn m N H=>b n m (by simp [AH.ext] at N;omega) (by simp [AH.ext] at H;omega)) (λn m N H=>a n m (by simp [AH.ext] at N;omega) (by simp [AH.ext] at H;omega)) I) rfl rfl) (R.r ?_));refine zt gg c (λO c=>?_) (λO c=>?_)
 ·apply R.r;cases c;refine fr rfl (fin_turn0 (row:=GE.row) ?_);exact ⟨rfl,_,rfl⟩
 ·apply R.r;refine r_loopWF (λ(e:Int×Int×(List GE))=>zK 2 3 (zK 7 35 [(5,.int .i64 e.1),(6,.int .i64 e.2.1)])) (λe=>h.ext [rwA h 0 9 (e.2.2.map GE.row)] [s0.length]) c (λ_=>by simp only [zK,vi,ug,uh];try rfl) (wk.le LEL.o) ?_;intro W e V c y;refine xu c (λl c=>R.r ?_);refine ln λP=>R.r ?_;refine zt gg c (λC c=>?_) (λC c=>?_)
  ·apply R.r;refine zo c (λk u c=>zb rfl (e_idxR rfl el95 gg gg (idxRn u l)) ss ?_);refine zb rfl (e_ldR (off:=0) (i:=0) (q:=h.toks.length+0) (z:=e.2.1.toNat) (row:=GE.row) (λ_=>rfl) rfl ty72.choose_spec.1 (by decide) gg rfl l (idxR u).2.2 (z7 (cs':=(GE.row k)) ty72.choose_spec.2 rfl rfl) (za rfl)) ss (R.r ?_);refine zo c (λQ B c=>zT rfl (scC rfl) (p _ _ _ _ B) ss (R.r ?_));refine zt gg c (λD c=>?_) (λD c=>?_)
   ·apply R.r;refine zo c (λS w c=>zb rfl (e_idxR rfl el95 gg gg (idxRn w l)) ss ?_);refine zb rfl (e_stR (off:=0) (i:=0) (q:=h.toks.length+0) (z:=e.1.toNat) (row:=GE.row) (y':=k) (us:=(GE.row k)) (B':=[rwA h 0 9 ((e.2.2.set e.1.toNat k).map GE.row),.cells (GE.row k)]) (λ_=>rfl) rfl ty72.choose_spec.1 gg gg (za rfl) rfl rfl rfl rfl l (idxR w).2.2 (by decide) rfl rfl) rfl (R.r ?_);cases c;exact ⟨((IntKind.wrap .i64 (e.1+(1:Int))),(IntKind.wrap .i64 (e.2.1+(1:Int))),(e.2.2.set e.1.toNat k)),y,wk.trans (wk.le LEL.o) (yb (by simp [zP,AV.low,b,a]) rfl rfl (by simp [Blk.low,zP,AV.low,b,a]))⟩
   ·apply R.r;cases c;exact ⟨(e.1,(IntKind.wrap .i64 (e.2.1+(1:Int))),e.2.2),y,wk.trans (wk.le LEL.o) (yb (by simp [zP,AV.low,b,a]) rfl rfl (by simp [Blk.low,zP,AV.low,b,a]))⟩
  ·apply R.r;cases c;replace c:=y;apply R.r;refine xu c (λs c=>ops_b rfl (e_sufR rfl el95 gg gg s) ss ?_);refine ops_b rfl (e_clrR (i:=0) (q:=h.toks.length+0) (L:=e.2.2) (row:=GE.row) (d:=yv) (B':=[rwA h 0 9 ((e.2.2.take e.1.toNat++List.replicate (s0.length - e.1.toNat) yv).map GE.row)]) (λ_=>rfl) rfl rfl rfl rfl el95 ze72 rfl gg rfl l (Int.toNat_le.2 s.2) rfl) rfl (R.r ?_);refine zo c (λA E c=>ops_b rfl (e_cutR (i:=0) (j:=0) (L:=(e.2.2.take e.1.toNat++List.replicate (s0.length - e.1.toNat) yv)) (row:=GE.row) (B':=[.dead,rwA h 1 9 (A.map GE.row)]) (T':=[s0.length+1,A.length]) rfl el95 gg gg rfl (clr_len l (Int.toNat_le.2 s.2)) E rfl rfl rfl rfl) ss (R.r ?_));cases c;refine fr rfl (vt ?_);exact ⟨rfl,_,rfl⟩
theorem okR107 {res:(List GE)}  (a:wX s0=some res):Sp 107 [.sl 9 (s0.map GE.row)] h (NewK h 9 res.length (res.map GE.row)):=by
 unfold wX at a;refine zd Tryz.func107 rfl (by kernel_rfl) (xH 8 rfl) (R.r ?_);refine ops_nilqE rfl rfl el95 gg isl rfl (λ_=>ss) a (λe d a=>R.r ?_);refine zt gg a (λb a=>?_) (λb a=>?_)
 ·apply R.r;cases a;refine fr rfl (fin_row0 ?_);exact ⟨rfl,rfl⟩
 ·apply R.r;refine zb rfl (zI (es:=([]:List GE).map GE.row) rfl el95 ze72 rfl rfl zA .nil rfl rfl rfl) ss (R.r ?_);refine ops_swk (vU gt5 rfl rfl st5 rfl rfl) ?_;refine xu a (λc a=>zb rfl (e_appR (i:=0) (j:=0) (B':=[rwA h 0 9 ((([]:List GE)++s0).map GE.row)]) (T':=[((([]:List GE)++s0)).length]) rfl rfl rfl rfl el95 el95 gg gg rfl (za rfl) news_sl c rfl rfl rfl rfl rfl) ss (R.r ?_));cases a;refine fr rfl (vt ?_);exact ⟨rfl,rfl⟩
theorem ok108 {c:Int} {b:Nat} (a:h.blk b=some (.cells [.int .u8 c])) (d:diffXlayC2 x0 c=some res):Sp 108 [.agg (GE.row x0),.ptr b 0] h (y5 (.bool res) h):=by
 unfold diffXlayC2 at d;refine zd Tryz.func108 rfl (by kernel_rfl) (xH 8 rfl) (R.r ?_);refine zb rfl (b_load rfl ty5 gg a (zD rfl) (za rfl)) ss (R.r ?_);cases d;exact fz rfl rfl
theorem ok109 {res:GE}  (a:diffXown l0=some res):Sp 109 [.agg (GE.row l0)] h (y5 (.agg (GE.row res)) h):=by
 unfold diffXown at a;refine zd Tryz.func109 rfl (by kernel_rfl) (xH 12 rfl) (R.r ?_);refine wC (by kernel_rfl) (R.r ?_);refine zo a (λb d a=>xh rfl FOk.nil (by rfl) rfl (sc rfl) (x5 (T':=[b.length]) (ok99 d) (m:=0) rfl rfl) ss (R.r ?_));refine zo a (λe c a=>xh rfl FOk.nil (by rfl) rfl (sc rfl) (x5 (T':=[b.length,e.length]) (ok100 c) (m:=1) rfl rfl) ss (R.r ?_));refine yo rfl FOk.nil (by kernel_rfl) rfl (yc (cs':=(GLeafRw l0 (osA h 0 5 (b.map GI.row)) (.sl 3 (l0.tombs.map GF.row)))) rfl ty69 gg gg (za rfl) rfl rfl rfl rfl rfl) rfl (R.r ?_);refine yo rfl FOk.nil (by kernel_rfl) rfl (yc (cs':=(GLeafRw l0 (osA h 0 5 (b.map GI.row)) (osA h 1 3 (e.map GF.row)))) rfl ty70 gg gg (za rfl) rfl rfl rfl rfl rfl) rfl (R.r ?_);cases a;exact fe rfl rfl (leV.agg (.eq (.eq (.eq (.eq (.eq (.eq (.eq (.cons (leV.osl _ _ _) (.cons (leV.osl _ _ _) leL.nil))))))))) rfl)
def sort110TryzRen:Go.Shelf.Ren :=
  { f:=λx=>match x with
      | 6=>110
      | 15=>79
      | 14=>161
      | 28=>138
      | 29=>139
      | 20=>188
      | 21=>189
      | 22=>190
      | 23=>191
      | 24=>192
      | 25=>193
      | 26=>194
      | 27=>195
      | 46=>209
      | 47=>174
      | 48=>175
      | 49=>210
      | 50=>211
      | 57=>216
      | n=>n
    t:=λx=>match x with
      | 22=>95
      | 24=>72
      | 25=>157
      | 3=>3
      | 39=>126
      | 0=>0
      | 53=>64
      | 55=>63
      | 4=>4
      | 46=>179
      | 45=>178
      | 50=>151
      | 5=>5
      | 9=>9
      | 66=>206
      | 70=>210
      | 76=>228
      | 77=>43
      | n=>n
    g:=λn=>n }
theorem sort110TryzLays:Go.Proofs.SlLaysF0.n6 Tryz.prog sort110TryzRen where
  mixed:=mixed
  f6:=⟨Tryz.f110.name,by kernel_rfl,Tryz.func110.trans (by kernel_rfl)⟩
  f15:=Tryz.func79.trans (by kernel_rfl)
  f14:=⟨Tryz.f161.name,by kernel_rfl,Tryz.func161.trans (by kernel_rfl)⟩
  f28:=Tryz.func138.trans (by kernel_rfl)
  f29:=Tryz.func139.trans (by kernel_rfl)
  f20:=⟨Tryz.f188.name,by kernel_rfl,Tryz.func188.trans (by kernel_rfl)⟩
  f21:=⟨Tryz.f189.name,by kernel_rfl,Tryz.func189.trans (by kernel_rfl)⟩
  f22:=⟨Tryz.f190.name,by kernel_rfl,Tryz.func190.trans (by kernel_rfl)⟩
  f23:=⟨Tryz.f191.name,by kernel_rfl,Tryz.func191.trans (by kernel_rfl)⟩
  f24:=⟨Tryz.f192.name,by kernel_rfl,Tryz.func192.trans (by kernel_rfl)⟩
  f25:=⟨Tryz.f193.name,by kernel_rfl,Tryz.func193.trans (by kernel_rfl)⟩
  f26:=⟨Tryz.f194.name,by kernel_rfl,Tryz.func194.trans (by kernel_rfl)⟩
  f27:=⟨Tryz.f195.name,by kernel_rfl,Tryz.func195.trans (by kernel_rfl)⟩
  f46:=⟨Tryz.f209.name,by kernel_rfl,Tryz.func209.trans (by kernel_rfl)⟩
  f47:=Tryz.func174.trans (by kernel_rfl)
  f48:=Tryz.func175.trans (by kernel_rfl)
  f49:=⟨Tryz.f210.name,by kernel_rfl,Tryz.func210.trans (by kernel_rfl)⟩
  f50:=⟨Tryz.f211.name,by kernel_rfl,Tryz.func211.trans (by kernel_rfl)⟩
  f57:=⟨Tryz.f216.name,by kernel_rfl,Tryz.func216.trans (by kernel_rfl)⟩
  t0:=Tryz.underlying0
  a0:=Tryz.isAgg0
  z0:=Tryz.sizeOf0
  v0:=Tryz.zeroValue0
  t3:=Tryz.underlying3
  a3:=Tryz.isAgg3
  z3:=Tryz.sizeOf3
  v3:=Tryz.zeroValue3
  t4:=Tryz.underlying4
  a4:=Tryz.isAgg4
  z4:=Tryz.sizeOf4
  v4:=Tryz.zeroValue4
  t5:=Tryz.underlying5
  a5:=Tryz.isAgg5
  z5:=Tryz.sizeOf5
  v5:=Tryz.zeroValue5
  t9:=Tryz.underlying9
  a9:=Tryz.isAgg9
  z9:=Tryz.sizeOf9
  v9:=Tryz.zeroValue9
  t22:=Tryz.underlying95
  a22:=Tryz.isAgg95
  z22:=Tryz.sizeOf95
  v22:=Tryz.zeroValue95
  t25:=Tryz.underlying157
  a25:=Tryz.isAgg157
  z25:=Tryz.sizeOf157
  v25:=Tryz.zeroValue157
  t39:=Tryz.underlying126
  a39:=Tryz.isAgg126
  z39:=Tryz.sizeOf126
  v39:=Tryz.zeroValue126
  t45:=Tryz.underlying178
  a45:=Tryz.isAgg178
  z45:=Tryz.sizeOf178
  v45:=Tryz.zeroValue178
  t46:=Tryz.underlying179
  a46:=Tryz.isAgg179
  z46:=Tryz.sizeOf179
  v46:=Tryz.zeroValue179
  t50:=Tryz.underlying151
  a50:=Tryz.isAgg151
  z50:=Tryz.sizeOf151
  v50:=Tryz.zeroValue151
  t53:=Tryz.underlying64
  a53:=Tryz.isAgg64
  z53:=Tryz.sizeOf64
  v53:=Tryz.zeroValue64
  t55:=Tryz.underlying63
  a55:=Tryz.isAgg63
  z55:=Tryz.sizeOf63
  v55:=Tryz.zeroValue63
  t66:=Tryz.underlying206
  a66:=Tryz.isAgg206
  z66:=Tryz.sizeOf206
  v66:=Tryz.zeroValue206
  t70:=Tryz.underlying210
  a70:=Tryz.isAgg210
  z70:=Tryz.sizeOf210
  v70:=Tryz.zeroValue210
  t76:=Tryz.underlying228
  a76:=Tryz.isAgg228
  z76:=Tryz.sizeOf228
  v76:=Tryz.zeroValue228
  t77:=Tryz.underlying43
  a77:=Tryz.isAgg43
  z77:=Tryz.sizeOf43
  v77:=Tryz.zeroValue43
theorem ok111 {c:GE} {res:Int}  (a:diffXlayC3 x0 c=some res):Sp 111 [.agg (GE.row x0),.agg (GE.row c)] h (y5 (.int .i64 res) h):=by
 unfold diffXlayC3 at a;refine zd Tryz.func111 rfl (by kernel_rfl) (xH 10 rfl) (R.r ?_);refine zo a (λd b a=>cp (ok48 b) (R.r ?_));cases a;exact fz rfl rfl
theorem ok112 {s0:(List GA)} {res:(List GA)}  (a:xK s0=some res):Sp 112 [.sl 3 (s0.map GA.row)] h (OwnK h 3 res.length (res.map GA.row)):=by
 unfold xK at a;refine zd Tryz.func112 rfl (by kernel_rfl) (xH 8 rfl) (R.r ?_);refine ops_nilqE rfl rfl el23 gg isl rfl (λ_=>ss) a (λe d a=>R.r ?_);refine zt gg a (λb a=>?_) (λb a=>?_)
 ·apply R.r;cases a;refine fr rfl (fin_own0 (row:=GA.row) (L:=([]:List GA)) ?_);exact ⟨rfl,rfl⟩
 ·apply R.r;refine zb rfl (zI (es:=([]:List GA).map GA.row) rfl el23 ze97 rfl rfl zA .nil rfl rfl (by simp only [uw,tR,GA.row_eq];rfl)) ss (R.r ?_);refine xu a (λc a=>zb rfl (e_appN (m:=0) (T':=[((([]:List GA)++s0)).length]) rfl rfl rfl rfl el23 el23 gg gg (za rfl) (za rfl) news_sl c rfl rfl) ss (R.r ?_));cases a;refine fr rfl (fin_own ?_);exact ⟨rfl,rfl⟩
theorem ok66N (n:Nat):∀{t0:(List GA)} {d:(List zi)} {kind2:Int} {g:GE} {c:Bool} {res:(List GA)} {h:AH} , vL n t0 d kind2 g c=some res->Sp 66 [.sl 3 (t0.map GA.row),.sl 1 (d.map zr),.int .u8 kind2,.agg (GE.row g),.bool c] h (y5 (.sl 3 (res.map GA.row)) h):=by
 induction n with
 | zero=>intro t0 d kind2 g c res h  a;simp [vL] at a
 | succ n ih =>
  intro t0 d kind2 g c res h  a;unfold vL at a;refine zd Tryz.func66 rfl (by kernel_rfl) (xH 85 rfl) (R.r ?_);refine zo a (λy1 hy1 a=>ix hy1 (R.r ?_));refine zo a (λv2 hv2 a=>cp (ok103 (λ_ _ v L M hv=>ok104  hv) hv2) (R.r ?_));refine zo a (λy3 hy3 a=>ix hy3 (R.r ?_));refine zb rfl (yB (cs':=[.str y3,.osl none 9 (([]:List GE).map GE.row),.osl none 3 (([]:List GA).map GA.row)]) rfl su97 ze97 pl97 (zn gg zA) (.cons (za rfl) .nil) rfl rfl) ss ?_;refine zb rfl (wS (n:=2) rfl ze97 rfl) ss ?_;refine zb rfl (yc (cs':=[.str y3,.osl none 9 (([]:List GE).map GE.row),.osl none 3 (([]:List GA).map GA.row)]) rfl ty97.choose_spec.1 gg gg (za rfl) rfl rfl rfl rfl rfl) rfl ?_;refine ze (zj ?_);refine r_join (λ(b:zi×(List GE)×(List GA))=>zK 2 2 (zK 5 2 (zK 9 2 (zK 14 71 [])))) (λb=>h.ext [.cells [.int .u8 kind2],.cells (GE.row g),.cells [.str b.1,.sl 9 (b.2.1.map GE.row),.sl 3 (b.2.2.map GA.row)]] []) a (λ_=>by simp only [zK,vi,ug,uh];try rfl) (λo1 a P=>?_) (λb a=>?_)
  ·apply R.r;refine zt gg a (λhc6 a=>?_) (λhc6 a=>?_)
   ·apply R.r;refine zo a (λY X a=>zb rfl (wb rfl el23 gg gg isl X (GA.row_eq _)) ss (R.r ?_));refine q_join ?_;cases a;exact ⟨(Y.name,Y.leaves,Y.subs),P,wk.le LEL.o⟩
   ·apply R.r;refine q_join ?_;cases a;exact ⟨(y3,([]:List GE),([]:List GA)),P,wk.trans (wk_leB (j:=2) rfl LEL.o rfl rfl) (wk.le LEL.o)⟩
  ·refine r_join (λ(s2:(List GE)×(List GA))=>zK 1 10 (zK 14 71 [])) (λs2=>h.ext [.cells [.int .u8 kind2],.cells (GE.row g),.cells [.str b.1,.sl 9 (s2.1.map GE.row),.sl 3 (s2.2.map GA.row)]] []) a (λ_=>by simp only [zK,vi,ug,uh];try rfl) (λo2 a u=>?_) (λs2 a=>?_)
   ·apply R.r;refine ln λp=>?_;replace p:=yz p;apply R.r;refine zt gg a (λA a=>?_) (λA a=>?_)
    ·refine yu [7] [] trivial mixed (by kernel_rfl) (R.r ?_);refine zo a (λm20 C a=>zu rfl rfl (s_slcSl rfl el45 gg (.inl rfl) (.some rfl) .none C) ss (R.r ?_));refine zo a (λw H a=>zR rfl rfl (λ_=>sc rfl) (by rintro _ ⟨B2,T2,rfl,hk2⟩;exact ih H) ss (R.r ?_));refine yo rfl (FOk.cons (.inr (yR trivial)) FOk.nil) (by kernel_rfl) rfl (yc (cs':=[.str b.1,.sl 9 (b.2.1.map GE.row),.sl 3 (w.map GA.row)]) rfl ty23 gg gg (za rfl) rfl rfl rfl rfl rfl) rfl (R.r ?_);refine q_join ?_;cases a;exact ⟨(b.2.1,w),u,wk.le LEL.o⟩
    ·apply R.r;refine zo a (λv22 x a=>y8 rfl (sc rfl) (row_new (B':=[.cells [.int .u8 kind2],.cells (GE.row g),.cells [.str b.1,.sl 9 (b.2.1.map GE.row),.sl 3 (b.2.2.map GA.row)],rwA h 0 9 (v22.map GE.row)]) (T':=[v22.length]) (okR107 x) rfl rfl rfl rfl) ss ?_);refine zb rfl (q8 rfl rfl rfl) ss ?_;refine zo a (λv23 V a=>ops_turn (B1:=[.cells [.int .u8 kind2],.cells (GE.row g),.cells [.str b.1,.sl 9 (b.2.1.map GE.row),.sl 3 (b.2.2.map GA.row)]]) (T1:=[]) (j:=3) (i:=0) (B':=[.cells [.int .u8 kind2],.cells (GE.row g),.cells [.str b.1,.sl 9 (b.2.1.map GE.row),.sl 3 (b.2.2.map GA.row)],.dead,rwA h 1 9 (v23.map GE.row)]) rfl (zC rfl rfl rfl (zg gg (zg gg zw)) (.cons (za rfl) (.cons (za rfl) .nil))) (okR106 (by simp [AH.ext]) (by simp [AH.ext]) (λ_ v L M hv=>ok108 (blk_ext2 (j:=0) rfl) hv) (λ_ _ _ _=>rfl) (λn m h1 h2=>by simp [AH.ext] at h1;simp [zP,AV.low];omega) V) rfl rfl ss rfl (λe=>?_));apply R.r;refine zt gg a (λB a=>?_) (λB a=>?_)
     ·apply R.r;refine yu [3] [] trivial mixed (by kernel_rfl) (R.r ?_);refine zo a (λv25 G a=>zR rfl rfl (λ_=>sc rfl) (by rintro _ ⟨B2,T2,rfl,hk2⟩;exact ok109 G) ss ?_);refine zu rfl rfl (zI (es:=([v25]:List GE).map GE.row) rfl el95 ze72 rfl rfl (zn gg zA) (.cons (za rfl) .nil) rfl rfl rfl) ss ?_;refine xu a (λy a=>yo rfl (FOk.cons (.inr (yR trivial)) FOk.nil) (by kernel_rfl) rfl (e_appR (i:=4) (j:=1) (B':=[.cells [.int .u8 kind2],.cells (GE.row g),.cells [.str b.1,rsA h 4 1 9 (v23.length),.sl 3 (b.2.2.map GA.row)],.dead,rwA h 1 9 ((v23++([v25]:List GE)).map GE.row)]) (T':=[e,((v23++([v25]:List GE))).length]) rfl rfl rfl rfl el95 el95 gg gg rfl (za rfl) xL y rfl rfl rfl rfl rfl) ss (R.r ?_));refine yo rfl (FOk.cons (.inr (yR trivial)) FOk.nil) (by kernel_rfl) rfl (yc (cs':=[.str b.1,rsA h 4 1 9 (((v23++([v25]:List GE))).length),.sl 3 (b.2.2.map GA.row)]) rfl ty95 gg gg (za rfl) rfl rfl rfl rfl rfl) rfl (R.r ?_);refine zo a (λl f a=>y8 rfl (sc rfl) (qZ sort110TryzLays Tryz.isAgg72 Tryz.sizeOf72 (λ_=>rfl) (λ_=>rfl) (λ_=>by simp [plL,AV.pl,plE_map,zr,intRow,vN,boolRow,GK.row,GF.row,GI.row,GE.row,GJ.row,GC.row]) (enters_fn Tryz.func111 rfl (by kernel_rfl)) (λ_ _ _ h=>ok111 h) f (i:=4) (B':=[.cells [.int .u8 kind2],.cells (GE.row g),.cells [.str b.1,rsA h 4 1 9 (((v23++([v25]:List GE))).length),.sl 3 (b.2.2.map GA.row)],.dead,rwA h 1 9 (l.map GE.row)]) rfl rfl) ss (R.r ?_));refine q_join ?_;cases a;exact ⟨(l,b.2.2),u,wk.trans (wk.trans ((swk_freezeB (j:=4) (jb:=2) (m:=1) (B':=[.cells [.int .u8 kind2],.cells (GE.row g),.cells [.str b.1,.sl 9 (l.map GE.row),.sl 3 (b.2.2.map GA.row)],.dead,.dead]) (T':=[e,(l.map GE.row).length+1]) rfl (by exact (.s16 (.s16 (.s16 (.s4 (.s4 (.cons (FzA.hit2 _ _ (by rw [ut];exact pn (vE f))) (.s (.s (.cons (FzA.hit2 _ _ (by rw [ut];exact pn (vE f))) (FzL.refl _))))))))))) rfl (by exact (.s (.cons (FzA.hit2 _ _ (by rw [ut];exact pn (vE f))) (FzL.refl _)))) rfl rfl).wk) (wk.le LEL.o)) (yb (by simp [zP,AV.low]) rfl rfl (by simp [Blk.low,zP,AV.low]))⟩
     ·apply R.r;refine q_join ?_;cases a;exact ⟨(v23,b.2.2),u,wk.trans (wk.trans ((swk_freezeB (j:=4) (jb:=2) (m:=1) (B':=[.cells [.int .u8 kind2],.cells (GE.row g),.cells [.str b.1,.sl 9 (v23.map GE.row),.sl 3 (b.2.2.map GA.row)],.dead,.dead]) (T':=[e,(v23.map GE.row).length+1]) rfl (by exact (.s16 (.s16 (.s16 (.cons (FzA.hit2 _ _ (by simp)) (FzL.refl _)))))) rfl (by exact (.s (.cons (FzA.hit2 _ _ (by simp)) (FzL.refl _)))) rfl rfl).wk) (wk.le LEL.o)) (yb (by simp [zP,AV.low]) rfl rfl (by simp [Blk.low,zP,AV.low]))⟩
   ·apply R.r;refine zo a (λm28 N a=>zb rfl (s_slcSl rfl el23 gg (.inl rfl) .none (.some gg) N) ss ?_);refine zo a (λk E a=>y8 rfl (sc rfl) (x5 (T':=[k.length]) (ok112 E) (m:=0) rfl rfl) ss (R.r ?_));refine ln λq=>?_;replace q:=yz q;apply R.r;refine ln λt=>?_;replace t:=yz t;apply R.r;refine zt gg a (λD a=>?_) (λD a=>?_)
    ·apply R.r;refine zb rfl (zI (es:=([(GA.mk b.1 s2.1 s2.2)]:List GA).map GA.row) rfl el23 ze97 rfl rfl (zn gg zA) (.cons (za rfl) .nil) rfl rfl (by simp only [uw,tR,GA.row_eq];rfl)) ss ?_;refine xu a (λI a=>zb rfl (e_appT (j:=0) (T':=[((k++([(GA.mk b.1 s2.1 s2.2)]:List GA))).length]) rfl rfl rfl rfl el23 el23 gg gg (za rfl) (za rfl) xL I rfl rfl) ss (R.r ?_));refine zt gg a (λQ a=>?_) (λQ a=>?_)
     ·apply R.r;refine zo a (λm35 F a=>zb rfl (s_slcSl rfl el23 gg (.inl rfl) (.some gg) .none F) ss ?_);refine xu a (λT a=>zb rfl (e_appT (j:=0) (T':=[(((k++([(GA.mk b.1 s2.1 s2.2)]:List GA))++m35)).length]) rfl rfl rfl rfl el23 el23 gg gg (za rfl) (za rfl) news_sl T rfl rfl) ss (R.r ?_));cases a;exact fe rfl rfl (leV.osl _ _ _)
     ·apply R.r;refine zo a (λm37 K a=>zb rfl (s_slcSl rfl el23 gg (.inl rfl) (.some gg) .none K) ss ?_);refine xu a (λO a=>zb rfl (e_appT (j:=0) (T':=[(((k++([(GA.mk b.1 s2.1 s2.2)]:List GA))++m37)).length]) rfl rfl rfl rfl el23 el23 gg gg (za rfl) (za rfl) news_sl O rfl rfl) ss (R.r ?_));cases a;exact fe rfl rfl (leV.osl _ _ _)
    ·apply R.r;refine zt gg a (λU a=>?_) (λU a=>?_)
     ·apply R.r;refine zo a (λZ S a=>zb rfl (s_slcSl rfl el23 gg (.inl rfl) (.some gg) .none S) ss ?_);refine xu a (λW a=>zb rfl (e_appT (j:=0) (T':=[((k++Z)).length]) rfl rfl rfl rfl el23 el23 gg gg (za rfl) (za rfl) news_sl W rfl rfl) ss (R.r ?_));cases a;exact fe rfl rfl (leV.osl _ _ _)
     ·apply R.r;refine zo a (λm42 z a=>zb rfl (s_slcSl rfl el23 gg (.inl rfl) (.some gg) .none z) ss ?_);refine xu a (λJ a=>zb rfl (e_appT (j:=0) (T':=[((k++m42)).length]) rfl rfl rfl rfl el23 el23 gg gg (za rfl) (za rfl) news_sl J rfl rfl) ss (R.r ?_));cases a;exact fe rfl rfl (leV.osl _ _ _)
theorem ok66 {b:(List zi)} {c:GE} {a:Bool} {res:(List GA)}  (e:diffXlay t0 b kind2 c a=some res):Sp 66 [.sl 3 (t0.map GA.row),.sl 1 (b.map zr),.int .u8 kind2,.agg (GE.row c),.bool a] h (y5 (.sl 3 (res.map GA.row)) h):=by
 obtain ⟨n,d⟩:=anyN_is e;exact ok66N n d
theorem ok76 {a0:GH} {f:GH} {res:Int}  (a:vu a0 f=some res):Sp 76 [.agg (GH.row a0),.agg (GH.row f)] h (y5 (.int .i64 res) h):=by
 unfold vu at a;refine zd Tryz.func76 rfl (by kernel_rfl) (xH 17 rfl) (R.r ?_);refine yu [4,9,11] [] trivial mixed (by kernel_rfl) (R.r ?_);refine zo a (λi e a=>zR rfl rfl (λ_=>sc rfl) (by rintro _ ⟨B2,T2,rfl,b⟩;exact ok47 e) ss (R.r ?_));refine zo a (λg c a=>zR rfl rfl (λ_=>sc rfl) (by rintro _ ⟨B2,T2,rfl,b⟩;exact ok48 c) ss ?_);refine zu rfl rfl (zI (es:=([i,g]:List Int).map (intRow .i64)) rfl el128 ze3 rfl rfl (zn gg (zn gg zA)) (.cons (za rfl) (.cons (za rfl) .nil)) rfl rfl rfl) ss ?_;refine zo a (λv3 d a=>zR rfl rfl (λ_=>sc rfl) (by rintro _ ⟨B2,T2,rfl,b⟩;exact (ok46 d).le (.cons (leV.osl _ _ _) leL.nil)) ss (R.r ?_));cases a;exact fz rfl rfl
theorem ok94 {a:Bool} {f:GE}  (b:wD a f kind2=some res):Sp 94 [.bool a,.agg (GE.row f),.int .u8 kind2] h (y5 (.bool res) h):=by
 unfold wD at b;refine zd Tryz.func94 rfl (by kernel_rfl) (xH 20 rfl) (R.r ?_);refine zt gg b (λe b=>?_) (λe b=>?_)
 ·apply R.r;refine zb rfl (yB (cs':=lit0x) rfl su72 ze72 pl72 zA .nil rfl rfl) ss ?_;refine zo b (λi c b=>cp ((ok65 c).le (.eq (.cons (leV.agg (.eq (.eq (.eq (.eq (.eq (.eq (.eq (.cons (leV.osl _ _ _) (.cons (leV.osl _ _ _) leL.nil))))))))) rfl) leL.nil))) (R.r ?_));cases b;exact fz rfl rfl
 ·apply R.r;refine yw b (λv3 d b=>ya rfl sc (λg=>ok84 (d g)) ss (R.r ?_));cases b;exact fz rfl rfl
theorem ok63 {l0:(List GH)}  (a:diffMay l0=some res):Sp 63 [.sl 22 (l0.map GH.row)] h (y5 (.bool res) h):=by
 unfold diffMay at a;refine zd Tryz.func63 rfl (by kernel_rfl) (xH 89 rfl) (R.r ?_);refine ln λd=>?_;replace d:=yz d;apply R.r;refine zU (λ(s:Nat) (q:Unit)=>zK 1 6 (zK 10 79 [(9,.int .i64 (s:Int))])) (λq=>h.ext [] []) a (λ_ _=>by simp only [zK,vi,ug,uh];try rfl) (wk.le LEL.o) ?_;intro s q t a;apply R.r;refine zZ gg a (λA z p n a c=>?_) (λa=>?_)
 ·apply R.r;refine ix (yd n) (R.r ?_);refine yw a (λu m a=>ya rfl sc (λb=>ok65 (m b)) ss (R.r ?_));refine zo a (λy e a=>cp (ok89 e) (R.r ?_));refine yw a (λv i a=>ya rfl sc (λb=>ok94 (i b)) ss (R.r ?_));refine yw a (λx f a=>ya rfl sc (λb=>ok94 (f b)) ss (R.r ?_));refine zt gg a (λg a=>?_) (λg a=>?_)
  ·apply R.r;cases a;replace a:=c;apply R.r;cases a;exact fz rfl rfl
  ·apply R.r;refine wC (by kernel_rfl) (R.r ?_);refine xu a (λl a=>dgix l (R.r ?_));refine yw a (λw k a=>wr rfl rfl sc (λb=>ok76 (k b)) ss (R.r ?_));refine zt gg a (λj a=>?_) (λj a=>?_)
   ·apply R.r;cases a;replace a:=c;apply R.r;cases a;exact fz rfl rfl
   ·apply R.r;cases a;exact ⟨(),p,c,wk.trans (wk.le (by exact (.eq (.d4 (.drop (.drop (.eq (.eq (.cons (leV.of_eq (xw (by omega) (by omega))) (.d16 (.d16 (.d16 (.d16 (.d4 (.d4 (.d4 (.drop (.drop (.drop leL.nil))))))))))))))))))) (yb (by simp [zP,AV.low]) rfl rfl (by simp [Blk.low,zP,AV.low]))⟩
 ·apply R.r;cases a;exact fz rfl rfl
theorem ok33 {t:(List GH)} {res:((List GA)×Int)}  (a:diffPatch t0 t=some res):Sp 33 [.sl 3 (t0.map GA.row),.sl 22 (t.map GH.row)] h (y5 (.tup [.sl 3 (res.1.map GA.row),.int .i64 res.2]) h):=by
 unfold diffPatch at a;refine zd Tryz.func33 rfl (by kernel_rfl) (xH 67 rfl) (R.r ?_);refine zo a (λy i a=>cp (ok24 i) (R.r ?_));refine yw a (λA l a=>ya rfl sc (λj=>ok63 (l j)) ss (R.r ?_));refine zt gg a (λs a=>?_) (λs a=>?_)
 ·apply R.r;cases a;exact fe rfl rfl (leV.tup (.cons (leV.osl _ _ _) (.eq leL.nil)))
 ·apply R.r;refine zb rfl (zI (es:=([([42,42]:zi)]:List zi).map zr) rfl el45 ze9 rfl rfl (zn rfl zA) (.cons (za rfl) .nil) rfl rfl rfl) ss ?_;refine zo a (λv4 k a=>cp ((ok25 k).le (.eq (.cons (leV.osl _ _ _) leL.nil))) (R.r ?_));refine ln λb=>?_;replace b:=yz b;apply R.r;refine zU (λ(u:Nat) (n:(List GA))=>zK 1 5 (zK 7 19 (zK 29 38 [(6,.sl 3 (n.map GA.row)),(28,.int .i64 (u:Int))]))) (λn=>h.ext [] []) a (λ_ _=>by simp only [zK,vi,ug,uh];try rfl) (wk.le LEL.o) ?_;intro u n v a;apply R.r;refine zZ gg a (λB z q m a g=>?_) (λa=>?_)
  ·apply R.r;refine ix (yd m) (R.r ?_);refine zo a (λx c a=>cp (ok64 c) (R.r ?_));refine zb rfl (zX rfl gg gg (bin_boolN ty4)) ss (R.r ?_);refine yw a (λw d a=>ya (aG_gv rfl rfl rfl) sc (λj=>ok65 (d j)) ss (R.r ?_));refine zt gg a (λf a=>?_) (λf a=>?_)
   ·apply R.r;cases a;replace a:=g;apply R.r;cases a;exact fe rfl rfl (leV.tup (.cons (leV.osl _ _ _) (.eq leL.nil)))
   ·apply R.r;refine zo a (λp e a=>cp (ok66 e) (R.r ?_));cases a;exact ⟨p,q,g,wk.trans (wk.le (by exact (.eq (.d4 (.drop (.cons (leV.of_eq rfl) (.d16 (.drop (.drop (.drop (.eq (.eq (.cons (leV.of_eq (xw (by omega) (by omega))) (.d16 (.d16 (.d4 (.drop (.drop leL.nil)))))))))))))))))) (yb (by simp [zP,AV.low]) rfl rfl (by simp [Blk.low,zP,AV.low]))⟩
  ·apply R.r;cases a;exact fz rfl rfl
theorem ok162 {a0:GK}  (a:vX a0=some res):Sp 162 [.agg (GK.row a0)] h (y5 (.bool res) h):=by
 unfold vX at a;refine zd Tryz.func162 rfl (by kernel_rfl) (xH 16 rfl) (R.r ?_);cases a;exact fz rfl rfl
theorem ok120 {c:GF}  (a:ref03May c=some res):Sp 120 [.agg (GF.row c)] h (y5 (.bool res) h):=by
 unfold ref03May at a;refine zd Tryz.func120 rfl (by kernel_rfl) (xH 16 rfl) (R.r ?_);refine zo a (λd b a=>cp (ok162 b) (R.r ?_));cases a;exact fz rfl rfl
theorem ok121 {l0:(List GI)} {res:Int}  (a:ref05Item l0 d1=some res):Sp 121 [.sl 5 (l0.map GI.row),.agg (GF.row d1)] h (y5 (.int .i64 res) h):=by
 unfold ref05Item at a;refine zd Tryz.func121 rfl (by kernel_rfl) (xH 20 rfl) (R.r ?_);refine zU (λ(g:Nat) (i:Unit)=>zK 1 2 (zK 6 14 [(4,.any),(5,.int .i64 (g:Int))])) (λi=>h.ext [.cells (GF.row d1)] []) a (λ_ _=>by simp only [zK,vi,ug,uh];try rfl) (wk.le LEL.o) ?_;intro g i j a;apply R.r;refine ln λb=>?_;replace b:=yz b;apply R.r;refine zZ gg a (λk l e f a d=>?_) (λa=>?_)
 ·apply R.r;refine wC (by kernel_rfl) (R.r ?_);refine dix (yd f) (R.r ?_);refine zu rfl rfl (zX rfl gg gg (bin_eq pk68 rfl)) ss (R.r ?_);refine zt gg a (λc a=>?_) (λc a=>?_)
  ·apply R.r;cases a;replace a:=d;apply R.r;cases a;exact fz rfl rfl
  ·apply R.r;cases a;exact ⟨(),e,d,wk.le (by exact (.eq (.drop (.drop (.eq (.drop (.cons (leV.of_eq (xw (by omega) (by omega))) (.d4 (.d4 (.d4 (.drop (.drop leL.nil))))))))))))⟩
 ·apply R.r;cases a;exact fz rfl rfl
theorem ok122 {l0:(List GF)}  (a:ref05Tomb l0 d1=some res):Sp 122 [.sl 3 (l0.map GF.row),.agg (GF.row d1)] h (y5 (.bool res) h):=by
 unfold ref05Tomb at a;refine zd Tryz.func122 rfl (by kernel_rfl) (xH 18 rfl) (R.r ?_);refine zU (λ(g:Nat) (i:Unit)=>zK 1 2 (zK 6 12 [(4,.any),(5,.int .i64 (g:Int))])) (λi=>h.ext [.cells (GF.row d1)] []) a (λ_ _=>by simp only [zK,vi,ug,uh];try rfl) (wk.le LEL.o) ?_;intro g i j a;apply R.r;refine ln λb=>?_;replace b:=yz b;apply R.r;refine zZ gg a (λk l e f a d=>?_) (λa=>?_)
 ·apply R.r;refine wC (by kernel_rfl) (R.r ?_);refine dix (yd f) (R.r ?_);refine zu rfl rfl (zX rfl gg gg (bin_eq pk68 rfl)) ss (R.r ?_);refine zt gg a (λc a=>?_) (λc a=>?_)
  ·apply R.r;cases a;replace a:=d;apply R.r;cases a;exact fz rfl rfl
  ·apply R.r;cases a;exact ⟨(),e,d,wk.le (by exact (.eq (.drop (.drop (.eq (.drop (.cons (leV.of_eq (xw (by omega) (by omega))) (.d4 (.d4 (.d4 leL.nil))))))))))⟩
 ·apply R.r;cases a;exact fz rfl rfl
theorem ok124 {a0:GF} {d:GF}  (a:ref03Less a0 d=some res):Sp 124 [.agg (GF.row a0),.agg (GF.row d)] h (y5 (.bool res) h):=by
 unfold ref03Less at a;refine zd Tryz.func124 rfl (by kernel_rfl) (xH 38 rfl) (R.r ?_);refine zt gg a (λc a=>?_) (λc a=>?_)
 ·apply R.r;cases a;exact fz rfl rfl
 ·apply R.r;refine zt gg a (λb a=>?_) (λb a=>?_)
  ·apply R.r;cases a;exact fz rfl rfl
  ·apply R.r;cases a;exact fz rfl rfl
theorem ok123 {b:Int} {a:Int} {f:GF}  (c:ref05Ahead b d1 a f=some res):Sp 123 [.int .u64 b,.agg (GF.row d1),.int .u64 a,.agg (GF.row f)] h (y5 (.bool res) h):=by
 unfold ref05Ahead at c;refine zd Tryz.func123 rfl (by kernel_rfl) (xH 18 rfl) (R.r ?_);refine zt gg c (λe c=>?_) (λe c=>?_)
 ·apply R.r;cases c;exact fz rfl rfl
 ·apply R.r;refine zo c (λg d c=>cp (ok124 d) (R.r ?_));cases c;exact fz rfl rfl
theorem ok72  (a:ref05May l0=some res):Sp 72 [.agg (GE.row l0)] h (y5 (.bool res) h):=by
 unfold ref05May at a;refine zd Tryz.func72 rfl (by kernel_rfl) (xH 205 rfl) (R.r ?_);refine lng λP=>R.r ?_;refine lng λU=>R.r ?_;refine zt gg a (λG a=>?_) (λG a=>?_)
 ·apply R.r;cases a;exact fz rfl rfl
 ·apply R.r;refine zb rfl (yB (cs':=lit2x) rfl su68 ze68 pl68 zA .nil rfl rfl) ss ?_;refine zb rfl (wS (n:=1) rfl ze68 rfl) ss ?_;refine zb rfl (yc (cs':=lit2x) rfl ty68.choose_spec.1 gg gg (za rfl) rfl rfl rfl rfl rfl) rfl ?_;refine ze (zj ?_);refine r_join (λ(J:Unit)=>zK 2 203 [(0,.any)]) (λJ=>h.ext [.cells (GE.row l0),.cells lit2x] []) a (λ_=>by simp only [zK,vi,ug,uh];try rfl) (λo1 a c=>?_) (λJ a=>?_)
  ·apply R.r;refine zt gg a (λE a=>?_) (λE a=>?_)
   ·apply R.r;refine yE rfl (λb=>zX rfl (yi gg b) (yi gg b) (bin_ne pk68 rfl)) ss (R.r ?_);refine zt gg a (λy a=>?_) (λy a=>?_)
    ·apply R.r;refine q_join_ret ?_;cases a;replace a:=c;cases a;exact fz rfl rfl
    ·apply R.r;refine q_join ?_;cases a;exact ⟨(),c,wk.le LEL.o⟩
   ·apply R.r;refine yw a (λV z a=>ya rfl sc (λb=>ok120 (z b)) ss (R.r ?_));refine lng λI=>R.r ?_;refine zt gg a (λw a=>?_) (λw a=>?_)
    ·apply R.r;refine q_join_ret ?_;cases a;replace a:=c;cases a;exact fz rfl rfl
    ·apply R.r;refine q_join ?_;cases a;exact ⟨(),c,wk.le LEL.o⟩
  ·apply R.r;refine zU (λ(M:Nat) (s2:Unit)=>zK 2 2 (zK 5 200 [(0,.any),(4,.int .i64 (M:Int))])) (λs2=>h.ext [.cells (GE.row l0),.cells lit2x] []) a (λ_ _=>by simp only [zK,vi,ug,uh];try rfl) (wk.le LEL.o) ?_;intro M s2 Q a;apply R.r;refine ln λd=>?_;replace d:=yz d;apply R.r;refine zZ gg a (λx2 Z D C a f=>?_) (λa=>?_)
   ·apply R.r;refine ix (yd C) (R.r ?_);refine zo a (λN s a=>cp (ok120 s) (R.r ?_));refine lng λK=>R.r ?_;refine yw a (λT k a=>ya rfl sc (λb=>ok121 (k b)) ss (R.r ?_));refine yw a (λv44 g a=>ya rfl sc (λb=>ok122 (g b)) ss (R.r ?_));refine zt gg a (λv a=>?_) (λv a=>?_)
    ·apply R.r;cases a;replace a:=f;apply R.r;cases a;exact fz rfl rfl
    ·apply R.r;refine wC (by kernel_rfl) (R.r ?_);refine xu a (λq a=>dgix q (R.r ?_));refine xu a (λp a=>dgix p (R.r ?_));refine yw a (λS i a=>wr rfl rfl sc (λb=>ok123 (i b)) ss (R.r ?_));refine zt gg a (λm a=>?_) (λm a=>?_)
     ·apply R.r;cases a;replace a:=f;apply R.r;cases a;exact fz rfl rfl
     ·apply R.r;cases a;exact ⟨(),D,f,wk.trans (wk.le (by exact (.drop (.eq (.drop (.drop (.cons (leV.of_eq (xw (by omega) (by omega))) (.d16 (.d16 (.d16 (.d16 (.d16 (.d16 (.d16 (.d16 (.d16 (.d16 (.d16 (.d16 (.d4 (.d4 leL.nil))))))))))))))))))))) (yb (by simp [zP,AV.low]) rfl rfl (by simp [Blk.low,zP,AV.low]))⟩
   ·apply R.r;refine zU (λ(H:Nat) (L:Unit)=>zK 2 4 (zK 7 198 [(0,.any),(6,.int .i64 (H:Int))])) (λL=>h.ext [.cells (GE.row l0),.cells lit2x] []) a (λ_ _=>by simp only [zK,vi,ug,uh];try rfl) (wk.le LEL.o) ?_;intro H L W a;apply R.r;refine ln λe=>?_;replace e:=yz e;apply R.r;refine zZ gg a (λY o3 F B a j=>?_) (λa=>?_)
    ·apply R.r;refine yu [5] [] trivial mixed (by kernel_rfl) (R.r ?_);refine dix (yd B) (R.r ?_);refine zo a (λX u a=>zR rfl rfl (λ_=>sc rfl) (by rintro _ ⟨B2,T2,rfl,O⟩;exact ok120 u) ss (R.r ?_));refine xu a (λt a=>dgix t (R.r ?_));refine xu a (λA a=>dgix A (R.r ?_));refine yw a (λv76 l a=>wr rfl (aG_gv rfl rfl rfl) sc (λb=>ok124 (l b)) ss (R.r ?_));refine zt gg a (λx a=>?_) (λx a=>?_)
     ·apply R.r;cases a;replace a:=j;apply R.r;cases a;exact fz rfl rfl
     ·apply R.r;cases a;exact ⟨(),F,j,wk.le (by exact (.drop (.eq (.d4 (.cons (leV.of_eq (xw (by omega) (by omega))) (.d16 (.d16 (.d16 (.d16 (.d16 (.d16 (.d16 (.d16 (.d16 (.d16 (.d16 (.d16 (.d4 (.drop (.drop leL.nil))))))))))))))))))))⟩
    ·apply R.r;cases a;exact fz rfl rfl
theorem ok71 {s0:zi}  (a:ref04IsName s0=some res):Sp 71 [.str s0] h (y5 (.bool res) h):=by
 unfold ref04IsName at a;refine zd Tryz.func71 rfl (by kernel_rfl) (xH 45 rfl) (R.r ?_);refine ln λd=>?_;replace d:=yz d;apply R.r;refine lng λm=>R.r ?_;refine zt gg a (λg a=>?_) (λg a=>?_)
 ·apply R.r;cases a;exact fz rfl rfl
 ·apply R.r;refine zU (λ(j:Nat) (k:Unit)=>zK 1 2 (zK 4 41 [(3,.int .i64 (j:Int))])) (λk=>h.ext [] []) a (λ_ _=>by simp only [zK,vi,ug,uh];try rfl) (wk.le LEL.o) ?_;intro j k l a;apply R.r;refine ln λb=>?_;replace b:=yz b;apply R.r;refine zZ gg a (λn p f i a e=>?_) (λa=>?_)
  ·apply R.r;refine zb rfl (s_idxStr rfl ty9 gg gg (yd i)) ss (R.r ?_);refine zt gg a (λc a=>?_) (λc a=>?_)
   ·apply R.r;cases a;replace a:=e;apply R.r;cases a;exact fz rfl rfl
   ·apply R.r;cases a;exact ⟨(),f,e,wk.le (by exact (.eq (.drop (.drop (.cons (leV.of_eq (xw (by omega) (by omega))) (.d16 (.d16 (.d4 (.d4 (.drop leL.nil))))))))))⟩
  ·apply R.r;cases a;exact fz rfl rfl
end Go.Vv
