/- Each function that the law reaches computes what its reading says; printed by a program. -/
import Derived.Test.YthnmdghfecoafaaGreatW1
set_option linter.all false
namespace Go.Vv
open Go Go.Proofs
set_option maxRecDepth 100000
set_option synthInstance.maxSize 100000
set_option synthInstance.maxHeartbeats 1000000
set_option maxHeartbeats 1000000
variable {l0:GE} {res:Bool} {h:AH} {t0:(List GA)} {i0:Nat} {s0:(List GE)} {f1:(GE->Option Bool)} {ff1:FuncId} {af1 kf1:List AV}
theorem ok88 {res:GE}  (a:pathsXown l0=some res):Sp 88 [.agg (GE.row l0)] h (y5 (.agg (GE.row res)) h):=by
 unfold pathsXown at a;refine zd Tryz.func88 rfl (by kernel_rfl) (xH 12 rfl) (R.r ?_);refine wC (by kernel_rfl) (R.r ?_);refine zo a (λb d a=>xh rfl FOk.nil (by rfl) rfl (sc rfl) (x5 (T':=[b.length]) (ok99 d) (m:=0) rfl rfl) ss (R.r ?_));refine zo a (λe c a=>xh rfl FOk.nil (by rfl) rfl (sc rfl) (x5 (T':=[b.length,e.length]) (ok100 c) (m:=1) rfl rfl) ss (R.r ?_));refine yo rfl FOk.nil (by kernel_rfl) rfl (yc (cs':=(GLeafRw l0 (osA h 0 5 (b.map GI.row)) (.sl 3 (l0.tombs.map GF.row)))) rfl ty69 gg gg (za rfl) rfl rfl rfl rfl rfl) rfl (R.r ?_);refine yo rfl FOk.nil (by kernel_rfl) rfl (yc (cs':=(GLeafRw l0 (osA h 0 5 (b.map GI.row)) (osA h 1 3 (e.map GF.row)))) rfl ty70 gg gg (za rfl) rfl rfl rfl rfl rfl) rfl (R.r ?_);cases a;exact fe rfl rfl (leV.agg (.eq (.eq (.eq (.eq (.eq (.eq (.eq (.cons (leV.osl _ _ _) (.cons (leV.osl _ _ _) leL.nil))))))))) rfl)
theorem ok43 {s0:(List zi)} {res:(List zi)}  (a:zV s0=some res):Sp 43 [.sl 1 (s0.map zr)] h (OwnK h 1 res.length (res.map zr)):=by
 unfold zV at a;refine zd Tryz.func43 rfl (by kernel_rfl) (xH 8 rfl) (R.r ?_);refine ops_nilqE rfl rfl el45 gg isl rfl (λ_=>ss) a (λe d a=>R.r ?_);refine zt gg a (λb a=>?_) (λb a=>?_)
 ·apply R.r;cases a;refine fr rfl (fin_own0 (row:=zr) (L:=([]:List zi)) ?_);exact ⟨rfl,rfl⟩
 ·apply R.r;refine zb rfl (zI (es:=([]:List zi).map zr) rfl el45 ze9 rfl rfl zA .nil rfl rfl rfl) ss (R.r ?_);refine xu a (λc a=>zb rfl (e_appN (m:=0) (T':=[((([]:List zi)++s0)).length]) rfl rfl rfl rfl el45 el45 gg gg (za rfl) (za rfl) news_sl c rfl rfl) ss (R.r ?_));cases a;refine fr rfl (fin_own ?_);exact ⟨rfl,rfl⟩
theorem ok52N (n:Nat):∀{t0:(List GA)} {d:(List zi)} {t:((List zi)->Option Bool)} {k:FuncId} {f g:List AV} {res:(List GA)} {h:AH} (l:∀O v (L:List Blk) (M:List Nat),t O=some v->Sp k (f++[.sl 1 (O.map zr)]++g) (h.ext L M) (y5 (.bool v) (h.ext L M))),vp n t0 d t=some res->Sp 52 [.sl 3 (t0.map GA.row),.sl 1 (d.map zr),.fn (.func k) f g] h (y5 (.sl 3 (res.map GA.row)) h):=by
 induction n with
 | zero=>intro t0 d t k f g res h l c;simp [vp] at c
 | succ n ih =>
  intro t0 d t k f g res h l c;unfold vp at c;refine yg Tryz.func52 rfl (by kernel_rfl) (xH 65 rfl) (λp hC=>?_);simp only [zP,AV.low,ud,uX,tT] at p;have a:∀n m,h.blks.length<=n->h.toks.length<=m->zP n m f=true:=λn m S Q=>yx S Q _ (by simp [p]);have b:∀n m,h.blks.length<=n->h.toks.length<=m->zP n m g=true:=λn m S Q=>yx S Q _ (by simp [p]);apply R.r;refine ln λz=>?_;replace z:=yz z;apply R.r;refine zU (λ(U:Nat) (s:(List GA))=>zK 3 3 (zK 7 6 (zK 16 49 [(0,.any),(6,osA h 0 3 (s.map GA.row)),(15,.int .i64 (U:Int))]))) (λs=>h.ext [] [s.length]) c (λ_ _=>by simp only [zK,vi,ug,uh];try rfl) (wk.trans (wk_tok vh rfl st6 rfl) (wk.le (by exact (.drop (.eq (.eq (.drop (.drop (.drop (.cons (leV.of_eq rfl) (.d4 (.drop (.drop (.eq (.eq (.cons (leV.of_eq rfl) (.d16 (.d16 (.d16 (.drop leL.nil)))))))))))))))))))) ?_;intro U s W c;apply R.r;refine zZ gg c (λe o1 K T c N=>?_) (λc=>?_)
  ·apply R.r;refine zb rfl (wb rfl el23 gg gg isl (yd T) (GA.row_eq _)) ss (R.r ?_);refine wC (by kernel_rfl) (R.r ?_);refine zo c (λo D c=>xh rfl FOk.nil (by rfl) rfl (sc rfl) (x5 (T':=[s.length,o.length]) (ok43 D) (m:=1) rfl rfl) ss (R.r ?_));refine zu rfl rfl (zI (es:=([e.name]:List zi).map zr) rfl el45 ze9 rfl rfl (zn gg zA) (.cons (za rfl) .nil) rfl rfl rfl) ss ?_;refine xu c (λJ c=>draw_okH rfl FOk.nil (by rfl) rfl (e_appT (j:=1) (T':=[s.length,((o++([e.name]:List zi))).length]) rfl rfl rfl rfl el45 el45 gg gg (za rfl) (za rfl) xL J rfl rfl) ss (R.r ?_));refine yu [1,3,6] [(1,[(0,.cells [.str e.name,.sl 9 (e.leaves.map GE.row),.sl 3 (e.subs.map GA.row)])]),(3,[(0,.cells [.str e.name,.sl 9 (e.leaves.map GE.row),.sl 3 (e.subs.map GA.row)])])] ⟨⟨rfl,trivial⟩,⟨rfl,trivial⟩,trivial⟩ mixed (by kernel_rfl) (R.r ?_);refine draw_okN rfl rfl (by rintro _ ⟨B2,T2,rfl,q⟩;exact zH rfl ty9 gg (keeps1 q) (zD rfl) (za rfl)) ss (R.r ?_);refine draw_okN rfl rfl (by rintro _ ⟨B2,T2,rfl,q⟩;exact zH rfl ty23 gg (keeps1 q) (zD rfl) (za rfl)) ss (R.r ?_);refine zo c (λi H c=>zR rfl rfl (λ_=>sc rfl) (by rintro _ ⟨B2,T2,rfl,q⟩;exact (ih (λO v L M Y=>by rw [xE];exact l O v _ _ Y) H).le (.eq (.cons (leV.osl _ _ _) (.eq leL.nil)))) ss ?_);refine zu rfl rfl (yB (cs':=[.str e.name,.osl none 9 (([]:List GE).map GE.row),.sl 3 (i.map GA.row)]) rfl su97 ze97 pl97 (zn gg (zn gg zA)) (.cons (za rfl) (.cons (za rfl) .nil)) rfl rfl) ss ?_;refine yo rfl (FOk.cons (.inr (yR ⟨rfl,trivial⟩)) (FOk.cons (.inr (yR ⟨rfl,trivial⟩)) (FOk.cons (.inr (yR trivial)) FOk.nil))) (by kernel_rfl) rfl (wS (n:=1) rfl ze97 rfl) ss ?_;refine yo rfl (FOk.cons (.inr (yR ⟨rfl,trivial⟩)) (FOk.cons (.inr (yR ⟨rfl,trivial⟩)) (FOk.cons (.inr (yR trivial)) FOk.nil))) (by kernel_rfl) rfl (yc (cs':=[.str e.name,.osl none 9 (([]:List GE).map GE.row),.sl 3 (i.map GA.row)]) rfl ty97.choose_spec.1 gg gg (za rfl) rfl rfl rfl rfl rfl) rfl (R.r ?_);refine ln λu=>?_;replace u:=yz u;apply R.r;refine zU (λ(V:Nat) (s2:(List GE))=>zK 3 3 (zK 7 2 (zK 11 2 (zK 16 18 (zK 37 28 [(0,.any),(36,.int .i64 (V:Int))]))))) (λs2=>h.ext [.cells [.str e.name,.sl 9 (e.leaves.map GE.row),.sl 3 (e.subs.map GA.row)],.cells [.str e.name,osA h 2 9 (s2.map GE.row),.sl 3 (i.map GA.row)]] [s.length,((o++([e.name]:List zi))).length,s2.length]) c (λ_ _=>by simp only [zK,vi,ug,uh];try rfl) (wk.trans (wk_tokB (j:=1) rfl gt1 rfl st1 rfl rfl) (wk.le (by exact (.drop (.eq (.eq (.drop (.drop (.drop (.eq (.drop (.drop (.eq (.eq (.drop (.drop (.eq (.eq (.eq (.d16 (.drop (.drop (.eq (.eq (.cons (leV.of_eq rfl) (.d16 (.d4 (.d4 (.d4 leL.nil))))))))))))))))))))))))))))) ?_;intro V s2 X c;apply R.r;refine zZ gg c (λx2 o2 C P c F=>?_) (λc=>?_)
   ·apply R.r;refine ix (yd P) (R.r ?_);refine zo c (λZ I c=>zT rfl (scC rfl) ((l _ _ _ _ I).le (leL.app (leL.pre (.cons (leV.osl _ _ _) leL.nil)))) ss (R.r ?_));refine zt gg c (λy c=>?_) (λy c=>?_)
    ·refine yu [3] [] trivial mixed (by kernel_rfl) (R.r ?_);refine zo c (λv51 B c=>zR rfl rfl (λ_=>sc rfl) (by rintro _ ⟨B2,T2,rfl,q⟩;exact ok88 B) ss ?_);refine zu rfl rfl (zI (es:=([v51]:List GE).map GE.row) rfl el95 ze72 rfl rfl (zn gg zA) (.cons (za rfl) .nil) rfl rfl rfl) ss ?_;refine xu c (λA c=>draw_okH rfl (FOk.cons (.inr (yR trivial)) FOk.nil) (by rfl) rfl (e_appT (j:=2) (T':=[s.length,((o++([e.name]:List zi))).length,((s2++([v51]:List GE))).length]) rfl rfl rfl rfl el95 el95 gg gg (za rfl) (za rfl) xL A rfl rfl) ss (R.r ?_));refine yo rfl (FOk.cons (.inr (yR trivial)) FOk.nil) (by kernel_rfl) rfl (yc (cs':=[.str e.name,osA h 2 9 ((s2++([v51]:List GE)).map GE.row),.sl 3 (i.map GA.row)]) rfl ty95 gg gg (za rfl) rfl rfl rfl rfl rfl) rfl (R.r ?_);cases c;exact ⟨(s2++([v51]:List GE)),C,F,wk.trans (wk.le (by exact (.drop (.eq (.eq (.drop (.drop (.drop (.eq (.drop (.drop (.eq (.eq (.drop (.drop (.eq (.eq (.eq (.d16 (.drop (.drop (.eq (.eq (.cons (leV.of_eq (xw (by omega) (by omega))) (.d16 (.d4 (.d4 (.d4 leL.nil)))))))))))))))))))))))))))) (yb (by simp [zP,AV.low,a,b]) rfl rfl (by simp [Blk.low,zP,AV.low,a,b]))⟩
    ·apply R.r;cases c;exact ⟨s2,C,F,wk.trans (wk.le (by exact (.drop (.eq (.eq (.drop (.drop (.drop (.eq (.drop (.drop (.eq (.eq (.drop (.drop (.eq (.eq (.eq (.d16 (.drop (.drop (.eq (.eq (.cons (leV.of_eq (xw (by omega) (by omega))) (.d16 (.d4 (.d4 (.d4 leL.nil)))))))))))))))))))))))))))) (yb (by simp [zP,AV.low,a,b]) rfl rfl (by simp [Blk.low,zP,AV.low,a,b]))⟩
   ·apply R.r;refine ln λx=>?_;replace x:=yz x;apply R.r;refine ln λw=>?_;replace w:=yz w;apply R.r;refine zt gg c (λE c=>?_) (λE c=>?_)
    ·apply R.r;refine zb rfl (zI (es:=([(GA.mk e.name s2 i)]:List GA).map GA.row) rfl el23 ze97 rfl rfl (zn gg zA) (.cons (za rfl) .nil) rfl rfl (by simp only [uw,tR,GA.row_eq];rfl)) ss ?_;refine xu c (λG c=>zb rfl (e_appT (j:=0) (T':=[((s++([(GA.mk e.name s2 i)]:List GA))).length,((o++([e.name]:List zi))).length,s2.length]) rfl rfl rfl rfl el23 el23 gg gg (za rfl) (za rfl) xL G rfl rfl) ss (R.r ?_));cases c;exact ⟨(s++([(GA.mk e.name s2 i)]:List GA)),K,N,wk.trans (wk.le (by exact (.drop (.eq (.eq (.drop (.drop (.drop (.cons (leV.of_eq rfl) (.d4 (.drop (.drop (.eq (.eq (.cons (leV.of_eq (xw (by omega) (by omega))) (.d16 (.d16 (.d16 (.drop leL.nil))))))))))))))))))) (yb (by simp [zP,AV.low,a,b]) rfl rfl (by simp [Blk.low,zP,AV.low,a,b]))⟩
    ·apply R.r;cases c;exact ⟨s,K,N,wk.trans (wk.le (by exact (.drop (.eq (.eq (.drop (.drop (.drop (.cons (leV.of_eq rfl) (.d4 (.drop (.drop (.eq (.eq (.cons (leV.of_eq (xw (by omega) (by omega))) (.d16 (.d16 (.d16 (.drop leL.nil))))))))))))))))))) (yb (by simp [zP,AV.low,a,b]) rfl rfl (by simp [Blk.low,zP,AV.low,a,b]))⟩
  ·apply R.r;cases c;exact fe rfl rfl (leV.osl _ _ _)
theorem ok52 {a:(List zi)} {e:((List zi)->Option Bool)} {c:FuncId} {b d:List AV} {res:(List GA)} (f:∀g v (L:List Blk) (M:List Nat),e g=some v->Sp c (b++[.sl 1 (g.map zr)]++d) (h.ext L M) (y5 (.bool v) (h.ext L M))) (j:pathsXkept t0 a e=some res):Sp 52 [.sl 3 (t0.map GA.row),.sl 1 (a.map zr),.fn (.func c) b d] h (y5 (.sl 3 (res.map GA.row)) h):=by
 obtain ⟨n,i⟩:=anyN_is j;exact ok52N n f i
theorem ok157 {s0:zi}  (a:opMayPathC1 s0=some res):Sp 157 [.str s0] h (y5 (.bool res) h):=by
 unfold opMayPathC1 at a;refine zd Tryz.func157 rfl (by kernel_rfl) (xH 6 rfl) (R.r ?_);refine zo a (λc b a=>cp (ok83 b) (R.r ?_));cases a;exact fz rfl rfl
theorem ok89 {d:(List zi)}  (b:opMayPath d=some res):Sp 89 [.sl 1 (d.map zr)] h (y5 (.bool res) h):=by
 unfold opMayPath at b;refine zd Tryz.func89 rfl (by kernel_rfl) (xH 16 rfl) (R.r ?_);refine ln λa=>?_;replace a:=yz a;apply R.r;refine lng λg=>R.r ?_;refine yw b (λv3 c b=>ya rfl sc (λf=>ok87 (λ_ v L M e=>ok157  e) (c f)) ss (R.r ?_));cases b;exact fz rfl rfl
theorem ok54 {p:(List zi)} {b:(List zi)}  (a:pathsMatch p b=some res):Sp 54 [.sl 1 (p.map zr),.sl 1 (b.map zr)] h (y5 (.bool res) h):=by
 unfold pathsMatch at a;refine zd Tryz.func54 rfl (by kernel_rfl) (xH 58 rfl) (R.r ?_);refine zo a (λy g a=>cp (ok85 g) (R.r ?_));refine zo a (λA i a=>cp (ok51 i) (R.r ?_));refine yw a (λv3 k a=>ya rfl sc (λv=>ok89 (k v)) ss (R.r ?_));refine lng λs=>R.r ?_;refine lng λu=>R.r ?_;refine lng λw=>R.r ?_;refine lng λx=>R.r ?_;refine zt gg a (λl a=>?_) (λl a=>?_)
 ·apply R.r;cases a;exact fz rfl rfl
 ·apply R.r;refine ln λf=>?_;replace f:=yz f;apply R.r;refine zU (λ(q:Nat) (n:Unit)=>zK 2 38 (zK 43 15 [(0,.any),(42,.int .i64 (q:Int))])) (λn=>h.ext [] []) a (λ_ _=>by simp only [zK,vi,ug,uh];try rfl) (wk.le LEL.o) ?_;intro q n t a;apply R.r;refine zZ gg a (λB z m j a e=>?_) (λa=>?_)
  ·apply R.r;refine ix (yd j) (R.r ?_);refine xu a (λd a=>gix d (R.r ?_));refine zt gg a (λc a=>?_) (λc a=>?_)
   ·apply R.r;cases a;replace a:=e;apply R.r;cases a;exact fz rfl rfl
   ·apply R.r;cases a;exact ⟨(),m,e,wk.le (by exact (.drop (.eq (.d16 (.d16 (.d4 (.drop (.drop (.eq (.eq (.cons (leV.of_eq (xw (by omega) (by omega))) (.d4 (.d4 (.d4 (.drop (.drop (.drop leL.nil)))))))))))))))))⟩
  ·apply R.r;cases a;exact fz rfl rfl
theorem ok53 {a:(List zi)} {e:(List zi)} (c:h.blk i0=some (.cells [.sl 1 (e.map zr)])) (b:pathsSelectC1 a e=some res):Sp 53 [.sl 1 (a.map zr),.ptr i0 0] h (y5 (.bool res) h):=by
 unfold pathsSelectC1 at b;refine zd Tryz.func53 rfl (by kernel_rfl) (xH 7 rfl) (R.r ?_);refine zb rfl (b_load rfl ty45 gg c (zD rfl) (za rfl)) ss (R.r ?_);refine zo b (λf d b=>cp (ok54 d) (R.r ?_));cases b;exact fz rfl rfl
theorem ok25 {f:(List zi)} {res:((List GA)×Int)}  (a:xz t0 f=some res):Sp 25 [.sl 3 (t0.map GA.row),.sl 1 (f.map zr)] h (y5 (.tup [.sl 3 (res.1.map GA.row),.int .i64 res.2]) h):=by
 unfold xz at a;refine zd Tryz.func25 rfl (by kernel_rfl) (xH 17 rfl) (R.r ?_);refine zo a (λl c a=>cp (ok24 c) (R.r ?_));refine yw a (λk b a=>ya rfl sc (λi=>ok51 (b i)) ss (R.r ?_));refine zt gg a (λd a=>?_) (λd a=>?_)
 ·apply R.r;cases a;exact fe rfl rfl (leV.tup (.cons (leV.osl _ _ _) (.eq leL.nil)))
 ·apply R.r;refine zb rfl (q8 rfl rfl rfl) ss ?_;refine zo a (λv4 e a=>cp ((ok52 (λ_ v L M g=>ok53 (blk_ext2 (j:=0) rfl) g) e).le (.eq (.cons (leV.osl _ _ _) (.eq leL.nil)))) (R.r ?_));cases a;exact fz rfl rfl
theorem ok56 {a:(List zi)} {res:((List GA)×(List zi))}  (b:pathsXrows t0 a=some res):Sp 56 [.sl 3 (t0.map GA.row),.sl 1 (a.map zr)] h (CloK h 91 [.cells [.sl 3 (res.1.map GA.row)],.cells [.sl 1 (res.2.map zr)]]):=by
 unfold pathsXrows at b;refine zd Tryz.func56 rfl (by kernel_rfl) (xH 6 rfl) (R.r ?_);refine zb rfl (q8 rfl rfl rfl) ss (R.r ?_);cases b;refine fr rfl (fin_clo (bs:=[.cells [.sl 3 (t0.map GA.row)],.cells [.sl 1 (a.map zr)]]) (by simp [AV.low,zP]) rfl (by simp [Blk.low,zP,AV.low]) ?_);exact ⟨rfl,rfl⟩
theorem ok91N (n:Nat):∀{S:Type} {Hy:S->AH} {nb nt:Nat} {t:S->GJ->Option (Bool×S)} {i:Nat} {c0:(List GA)} {i0:Nat} {c1:(List zi)} {P:Nat} {s0:S} {res:S} (d:∀s,(Hy s).blks.length=nb) (c:∀s,(Hy s).toks.length=nt) (z:∀s,(Hy s).closed nb nt) (v:i < nb) (hy:∀s x b s' L M,t s x=some (b,s')->SpecY Tryz.prog i [.agg (GJ.row x)] ((Hy s).ext L M) (y5 (.bool b) ((Hy s').ext L M))) (C:∀s,(Hy s).blk i0=some (.cells [.sl 3 (c0.map GA.row)])) (D:∀s,(Hy s).blk P=some (.cells [.sl 1 (c1.map zr)])),wo n S t c0 c1 s0=some res->Sp 91 [.yld i,.ptr i0 0,.ptr P 0] (Hy s0) (y5 (.tup []) (Hy res)):=by
 induction n with
 | zero=>intro S Hy nb nt t i c0 i0 c1 P s0 res d c z v hy C D a;simp [wo] at a
 | succ n ih =>
  intro S Hy nb nt t i c0 i0 c1 P s0 res d c z v hy C D a;unfold wo at a;refine zd Tryz.func91 rfl (by kernel_rfl) (xH 48 rfl) ?_;have q:∀k,i < nb+k:=λk=>th v (tV _ _);have l:=blk_lt (C s0) (d s0);have f:∀k,i0 < nb+k:=λk=>th l (tV _ _);have p:=blk_lt (D s0) (d s0);have g:∀k,P < nb+k:=λk=>th p (tV _ _);refine zk (zc ?_);refine zb rfl (n_box (d _) (n:=0) rfl gg (za rfl) rfl rfl) ss (R.r ?_);refine zb rfl (b_load rfl ty23 gg (C _) (zD rfl) (za rfl)) ss ?_;refine ln λJ=>?_;replace J:=yz J;apply R.r;refine zU (λ(n1:Nat) (s1:S)=>zK 0 2 (zK 4 6 (zK 13 35 [(12,.int .i64 (n1:Int))]))) (λs1=>(Hy s1).ext [.cells [.yld i]] []) a (λ_ _=>by simp only [zK,vi,ug,uh];try rfl) (wk.le LEL.o) ?_;intro n1 s1 hi1 a;apply R.r;refine zZ gg a (λe o1 hl1 hx1 a H=>?_) (λa=>?_)
  ·apply R.r;refine zb rfl (wb rfl el23 gg gg isl (yd hx1) (GA.row_eq _)) ss ?_;refine zb rfl (qK rfl ty97.choose_spec.1 gg (z7 (cs':=[.str e.name,.sl 9 (e.leaves.map GE.row),.sl 3 (e.subs.map GA.row)]) ty97.choose_spec.2 rfl rfl) (za rfl)) ss ?_;refine zb rfl (n_alloc (d _) (n:=1) rfl ze97 rfl) ss ?_;refine zb rfl (n_store (d _) (cs':=[.str e.name,.sl 9 (e.leaves.map GE.row),.sl 3 (e.subs.map GA.row)]) rfl ty97.choose_spec.1 gg gg (za rfl) rfl rfl rfl rfl rfl) rfl (R.r ?_);refine wC (by kernel_rfl) ?_;refine zu rfl rfl (b_load rfl ty45 gg (D _) (zD rfl) (za rfl)) ss ?_;refine zo a (λv37 Q a=>xh rfl FOk.nil (by rfl) rfl (sc rfl) (n_own (c _) (T':=[v37.length]) (ok43 Q) (m:=0) rfl rfl) ss (R.r ?_));refine zu rfl rfl (n_load (d _) rfl ty9 gg rfl (zD rfl) (za rfl)) ss ?_;refine zu rfl rfl (zI (es:=([e.name]:List zi).map zr) rfl el45 ze9 rfl rfl (zn gg zA) (.cons (za rfl) .nil) rfl rfl rfl) ss ?_;refine xu a (λZ a=>draw_okH rfl FOk.nil (by rfl) rfl (n_appT (c _) (j:=0) (T':=[((v37++([e.name]:List zi))).length]) rfl rfl rfl rfl el45 el45 gg gg (za rfl) (za rfl) xL Z rfl rfl) ss (R.r ?_));refine zb rfl (n_load (d _) rfl ty95 gg rfl (zD rfl) (za rfl)) ss ?_;refine ln λE=>?_;replace E:=yz E;apply R.r;refine zU (λ(n2:Nat) (s2:S)=>zK 0 2 (zK 7 3 (zK 13 10 (zK 26 22 [(4,.any),(25,.int .i64 (n2:Int))])))) (λs2=>(Hy s2).ext [.cells [.yld i],.cells [.str e.name,.sl 9 (e.leaves.map GE.row),.sl 3 (e.subs.map GA.row)]] [((v37++([e.name]:List zi))).length]) a (λ_ _=>by simp only [zK,vi,ug,uh];try rfl) (wk.le LEL.o) ?_;intro n2 s2 hi2 a;apply R.r;refine zZ gg a (λx2 o2 hl2 hx2 a W=>?_) (λa=>?_)
   ·apply R.r;refine ix (yd hx2) ?_;refine zb rfl (qK rfl ty72.choose_spec.1 gg (z7 (cs':=(GE.row x2)) ty72.choose_spec.2 rfl rfl) (za rfl)) ss ?_;refine zb rfl (n_alloc (d _) (n:=2) rfl ze72 rfl) ss ?_;refine zb rfl (n_store (d _) (cs':=(GE.row x2)) rfl ty72.choose_spec.1 gg gg (za rfl) rfl rfl rfl rfl rfl) rfl (R.r ?_);refine yu [4] [] trivial mixed (by kernel_rfl) ?_;refine zu rfl rfl (n_load (d _) rfl ty136 gg rfl (zD rfl) (za rfl)) ss (R.r ?_);refine zo a (λv51 O a=>xh rfl (FOk.cons (.inr (yR trivial)) FOk.nil) (by rfl) rfl (sc rfl) (n_own (c _) (T':=[((v37++([e.name]:List zi))).length,v51.length]) ((ok43 O).le (.cons (leV.osl _ _ _) leL.nil)) (m:=1) rfl rfl) ss ?_);refine zu rfl rfl (n_load (d _) rfl ty72.choose_spec.1 gg rfl (z7 (cs':=(GE.row x2)) ty72.choose_spec.2 rfl rfl) (za rfl)) ss ?_;refine zo a (λw hv52 a=>zR rfl rfl (λ_=>sc rfl) (by rintro _ ⟨B2,T2,rfl,hk2⟩;exact ok88 hv52) ss ?_);refine zu rfl rfl (yB (cs':=[.osl (some (nt+1)) 1 (v51.map zr),.int .u8 w.typ,.int .i64 w.n,.int .u64 w.time,.int .u8 w.dot.actor.rep,.int .u32 w.dot.actor.inc,.int .u64 w.dot.seq,.str w.text,.sl 5 (w.items.map GI.row),.sl 3 (w.tombs.map GF.row)]) rfl su74 ze74 pl74 (zn gg (zn gg zA)) (.cons (za rfl) (.cons (za rfl) .nil)) rfl rfl) ss ?_;refine zo a (λv53 K a=>draw_round rfl (FOk.cons (.inl (by kernel_rfl)) FOk.nil) (by kernel_rfl) rfl (s_yield rfl rfl gg (zg gg zw) (.cons (za rfl) .nil)) ((hy _ _ _ _ _ _ K).le (.cons (leV.agg (.cons (leV.osl _ _ _) (.eq (.eq (.eq (.eq (.eq (.eq (.eq (.eq (.eq leL.nil)))))))))) rfl) leL.nil)) ss (R.r ?_));refine zt gg a (λX a=>?_) (λX a=>?_)
    ·apply R.r;cases a;replace a:=W;apply R.r;cases a;replace a:=H;apply R.r;cases a;refine fr rfl (fin_exts (d _) (c _) (d _) (c _) (z _) (leV.refl _) rfl ?_);exact ⟨rfl,rfl⟩
    ·apply R.r;cases a;exact ⟨v53.2,hl2,W,wk.trans (wk.le (by exact (.drop (.drop (.eq (.eq (.drop (.eq (.eq (.drop (.drop (.drop (.eq (.eq (.eq (.d4 (.d4 (.drop (.drop (.eq (.eq (.cons (leV.of_eq (xw (by omega) (by omega))) (.d16 (.d4 (.drop (.drop leL.nil)))))))))))))))))))))))))) (wk_ext3s (d _) (c _) (d _) (c _) (z _) (by simp [zP,AV.low,v,q,l,f,p,g]) rfl rfl (by simp [Blk.low,zP,AV.low,v,q,l,f,p,g]))⟩
   ·apply R.r;refine zb rfl (n_load (d _) rfl ty23 gg rfl (zD rfl) (za rfl)) ss (R.r ?_);refine zo a (λv55 U a=>y8 rfl (sc rfl) (clo_ext (d _) (n:=2) (B':=[.cells [.yld i],.cells [.str e.name,.sl 9 (e.leaves.map GE.row),.sl 3 (e.subs.map GA.row)],.cells [.sl 3 (v55.1.map GA.row)],.cells [.sl 1 (v55.2.map zr)]]) (caps:=[.ptr (nb+2) 0,.ptr (nb+3) 0]) ((ok56 U).le (.eq (.cons (leV.osl _ _ _) leL.nil))) rfl rfl rfl) ss (R.r ?_));refine r_range (λ(y:S)=>(Hy y)) (λ(y:S)=>[.cells [.yld i],.cells [.str e.name,.sl 9 (e.leaves.map GE.row),.sl 3 (e.subs.map GA.row)],.cells [.sl 3 (v55.1.map GA.row)],.cells [.sl 1 (v55.2.map zr)]]) (λ(y:S)=>[((v37++([e.name]:List zi))).length]) s2 a (wk.le (by exact (.drop (.drop (.eq (.eq (.d4 (.drop (.drop (.eq (.eq (.eq (.d16 (.d4 (.d4 (.d4 (.eq (.d4 (.drop (.drop leL.nil)))))))))))))))))))) (λ_=>(d _)) rfl rfl rfl (λ_=>rfl) rfl gg rfl (λI F r3 V=>?_) (λy H1 N a=>?_) (λj3 y H1 N a=>?_)
    ·have u:∀q1 q2,(I q1 q2).low (nb+5) (nt+1)=true:=by intro q1 q2;rw [F];simp [Blk.low,zP,AV.low,v,q,l,f,p,g]
     refine Spec.mono (ih (Hy:=(fam (λ(y:S)=>(Hy y)) (λ(y:S)=>[.cells [.yld i],.cells [.str e.name,.sl 9 (e.leaves.map GE.row),.sl 3 (e.subs.map GA.row)],.cells [.sl 3 (v55.1.map GA.row)],.cells [.sl 1 (v55.2.map zr)]]) (λ(y:S)=>[((v37++([e.name]:List zi))).length]) I)) (nb:=nb+5) (nt:=nt+1) (λ_=>by simp only [fam];rw [ext_len (d _)];rfl) (λ_=>by simp only [fam];rw [ext_tlen (c _)];rfl) (λ_=>closed_ext (z _) (tV _ _) (tV _ _) (by simp only [t6,uZ,rY,tQ,ul,uE,Nat.reduceAdd,u5,u] <;> simp [Blk.low,zP,AV.low,v,q,l,f,p,g])) (sJ _) (y_body F (xs:=λ(x:GJ)=>[.agg (GJ.row x)]) (λ_=>(d _)) (λ_=>rfl) rfl (λ_=>rfl) (λ_=>by simp only [setL,ug,uh];try rfl) (λy x3 o3 L3 M3 H1 N a=>?_)) (λ_=>by simp only [fam];exact n_blk (j:=2) (d _) rfl) (λ_=>by simp only [fam];exact n_blk (j:=3) (d _) rfl) V) (λ_ _ h=>h.2);obtain rfl:H1=(((Hy y).ext ([.cells [.yld i],.cells [.str e.name,.sl 9 (e.leaves.map GE.row),.sl 3 (e.subs.map GA.row)],.cells [.sl 3 (v55.1.map GA.row)],.cells [.sl 1 (v55.2.map zr)]]++[I .ready none]) [((v37++([e.name]:List zi))).length]).ext L3 M3).ext [] []:=N;refine zc ?_;refine zb rfl (n_alloc (deep_len (d _) rfl) (n:=0) rfl ze74 rfl) ss ?_;refine zb rfl (n_store (deep_len (d _) rfl) (cs':=(GJ.row x3)) rfl ty74.choose_spec.1 gg gg (za rfl) rfl rfl rfl rfl rfl) rfl (R.r ?_);refine q_assign (d _) rfl (R.r ?_);refine zb rfl (d_load (d _) rfl ty136 gg rfl (zD rfl) (za rfl)) ss ?_;refine zb rfl (n_load (deep_len (d _) rfl) rfl ty74.choose_spec.1 gg rfl (z7 (cs':=(GJ.row x3)) ty74.choose_spec.2 rfl rfl) (za rfl)) ss ?_;refine zo a (λv64 T a=>ops_round rfl (s_yield rfl rfl gg (zg gg zw) (.cons (za rfl) .nil)) (SpecY.deep λA B=>hy _ _ _ _ A B T) ss (R.r ?_));refine zt gg a (λY a=>?_) (λY a=>?_)
     ·apply R.r;cases a;exact q_roundR (z _) (d _) (c _) (d _) (c _) rfl rfl rfl rfl rfl rfl rfl (by simp only [t6,uZ,rY,tQ,ul,uE,Nat.reduceAdd,u5,u] <;> simp [Blk.low,zP,AV.low,v,q,l,f,p,g])
     ·apply R.r;cases a;exact q_roundN (z _) (d _) (c _) (d _) (c _) rfl rfl rfl rfl rfl rfl rfl (by simp only [t6,uZ,rY,tQ,ul,uE,Nat.reduceAdd,u5,u] <;> simp [Blk.low,zP,AV.low,v,q,l,f,p,g])
    ·obtain rfl:H1=(Hy y).ext [.cells [.yld i],.cells [.str e.name,.sl 9 (e.leaves.map GE.row),.sl 3 (e.subs.map GA.row)],.cells [.sl 3 (v55.1.map GA.row)],.cells [.sl 1 (v55.2.map zr)],.dead] [((v37++([e.name]:List zi))).length]:=N;apply R.r;cases a;exact ⟨y,hl1,H,wk.trans (wk.le (by exact (.drop (.drop (.eq (.eq (.d4 (.drop (.drop (.eq (.eq (.cons (leV.of_eq (xw (by omega) (by omega))) (.d16 (.d16 (.drop (.drop (.drop leL.nil))))))))))))))))) (wk_ext3s (d _) (c _) (d _) (c _) (z _) (by simp [zP,AV.low,v,q,l,f,p,g]) rfl rfl (by simp [Blk.low,zP,AV.low,v,q,l,f,p,g]))⟩
    ·obtain rfl:H1=(Hy y).ext [.cells [.yld i],.cells [.str e.name,.sl 9 (e.leaves.map GE.row),.sl 3 (e.subs.map GA.row)],.cells [.sl 3 (v55.1.map GA.row)],.cells [.sl 1 (v55.2.map zr)],.dead] [((v37++([e.name]:List zi))).length]:=N;refine jmp1 (G:=λj=>jumpQ _ j _ _) a (λa=>jmp_ret ?_);apply R.r;cases a;replace a:=H;apply R.r;cases a;refine fr rfl (fin_exts (d _) (c _) (d _) (c _) (z _) (leV.refl _) rfl ?_);exact ⟨rfl,rfl⟩
  ·apply R.r;cases a;refine fr rfl (fin_exts (d _) (c _) (d _) (c _) (z _) (leV.refl _) rfl ?_);exact ⟨rfl,rfl⟩
theorem ok91 {S:Type} {Hy:S->AH} {nb nt:Nat} {a:S->GJ->Option (Bool×S)} {c:Nat} {j:(List GA)} {k:(List zi)} {l:Nat} {s0:S} {res:S} (r:∀s,(Hy s).blks.length=nb) (d:∀s,(Hy s).toks.length=nt) (m:∀s,(Hy s).closed nb nt) (e:c < nb) (p:∀s x b i L M,a s x=some (b,i)->SpecY Tryz.prog c [.agg (GJ.row x)] ((Hy s).ext L M) (y5 (.bool b) ((Hy i).ext L M))) (f:∀s,(Hy s).blk i0=some (.cells [.sl 3 (j.map GA.row)])) (g:∀s,(Hy s).blk l=some (.cells [.sl 1 (k.map zr)])) (o:pathsXrowsC1 S a j k s0=some res):Sp 91 [.yld c,.ptr i0 0,.ptr l 0] (Hy s0) (y5 (.tup []) (Hy res)):=by
 obtain ⟨n,q⟩:=anyN_is o;exact ok91N n r d m e p f g q
theorem ok90 {s0:(List GJ)} {q:(S:Type)->(S->GJ->Option (Bool×S))->S->Option S} {i:FuncId} {g f:List AV} {res:(List GJ)} (u:∀(S:Type) (Hy:S->AH) (nb nt:Nat),(∀s,(Hy s).blks.length=nb)->(∀s,(Hy s).toks.length=nt)->(∀s,(Hy s).closed nb nt)->(∀s,∃L M,Hy s=h.ext L M)->∀(y:S->GJ->Option (Bool×S)) (t:Nat),t < nb->(∀s x b w L M,y s x=some (b,w)->SpecY Tryz.prog t [.agg (GJ.row x)] ((Hy s).ext L M) (y5 (.bool b) ((Hy w).ext L M)))->∀s w,q S y s=some w->Sp i (g++[.yld t]++f) (Hy s) (y5 (.tup []) (Hy w))) (l:wI s0 q=some res):Sp 90 [.osl none 10 (s0.map GJ.row),.fn (.func i) g f] h (y5 (.sl 10 (res.map GJ.row)) h):=by
 unfold wI at l;refine yg Tryz.func90 rfl (by kernel_rfl) (xH 13 rfl) (λk E=>?_);simp only [zP,AV.low,ud,uX,tT] at k;have c:∀n m,h.blks.length<=n->h.toks.length<=m->zP n m g=true:=λn m C B=>yx C B _ (by simp [k]);have a:∀n m,h.blks.length<=n->h.toks.length<=m->zP n m f=true:=λn m C B=>yx C B _ (by simp [k]);apply R.r;refine r_range (λ(d:(List GJ))=>h) (λ(d:(List GJ))=>[.cells [osA h 0 10 (d.map GJ.row)]]) (λ(d:(List GJ))=>[d.length]) s0 l (wk.trans (wk_tokB (j:=0) rfl xW rfl st0 rfl rfl) (wk.le (by exact (.drop (.drop (.eq (.drop (.drop (.drop (.eq (.d4 (.drop (.drop leL.nil))))))))))))) (λ_=>rfl) rfl rfl rfl (λ_=>rfl) rfl vh rfl (λo p I A=>?_) (λd H1 z l=>?_) (λH d H1 z l=>?_)
 ·have e:∀F G,(o F G).low (h.blks.length+2) (h.toks.length+1)=true:=by intro F G;rw [p];simp [Blk.low,zP,AV.low,c,a]
  refine Spec.mono (u _ (fam (λ(d:(List GJ))=>h) (λ(d:(List GJ))=>[.cells [osA h 0 10 (d.map GJ.row)]]) (λ(d:(List GJ))=>[d.length]) o) (h.blks.length+2) (h.toks.length+1) (λ_=>by simp only [fam];rw [ext_len rfl];rfl) (λ_=>by simp only [fam];rw [ext_tlen rfl];rfl) (λ_=>closed_ext E (tV _ _) (tV _ _) (by simp only [t6,uZ,rY,tQ,ul,uE,Nat.reduceAdd,u5,e] <;> simp [Blk.low,zP,AV.low,c,a])) (λ_=>⟨_,_,rfl⟩) _ _ (sJ _) (y_body p (xs:=λ(x:GJ)=>[.agg (GJ.row x)]) (λ_=>rfl) (λ_=>rfl) rfl (λ_=>rfl) (λ_=>by simp only [setL,ug,uh];try rfl) (λd v J L1 M1 H1 z l=>?_)) _ _ A) (λ_ _ h=>h.2);obtain rfl:H1=((h.ext ([.cells [osA h 0 10 (d.map GJ.row)]]++[o .ready none]) [d.length]).ext L1 M1).ext [] []:=z;refine zc ?_;refine zb rfl (n_alloc (deep_len rfl rfl) (n:=0) rfl ze74 rfl) ss ?_;refine zb rfl (n_store (deep_len rfl rfl) (cs':=(GJ.row v)) rfl ty74.choose_spec.1 gg gg (za rfl) rfl rfl rfl rfl rfl) rfl (R.r ?_);refine q_assign rfl rfl (R.r ?_);refine zb rfl (d_load rfl rfl ty61 gg rfl (zD rfl) (za rfl)) ss ?_;refine zb rfl (n_load (deep_len rfl rfl) rfl ty74.choose_spec.1 gg rfl (z7 (cs':=(GJ.row v)) ty74.choose_spec.2 rfl rfl) (za rfl)) ss ?_;refine zb rfl (zI (es:=([v]:List GJ).map GJ.row) rfl el61 ze74 rfl rfl (zn gg zA) (.cons (za rfl) .nil) rfl rfl rfl) ss ?_;refine xu l (λD l=>zb rfl (d_appT (j:=0) (T':=[((d++([v]:List GJ))).length]) rfl rfl rfl rfl rfl el61 el61 gg gg (za rfl) (za rfl) xL D rfl rfl) ss ?_);refine zb rfl (d_store (A':=[.cells [osA h 0 10 ((d++([v]:List GJ)).map GJ.row)]]++[o .busy none]) (cs':=[osA h 0 10 ((d++([v]:List GJ)).map GJ.row)]) rfl rfl ty61 gg gg (za rfl) rfl rfl rfl rfl rfl rfl) rfl (R.r ?_);cases l;exact q_roundN E rfl rfl rfl rfl rfl rfl rfl rfl rfl rfl rfl (by simp only [t6,uZ,rY,tQ,ul,uE,Nat.reduceAdd,u5,e] <;> simp [Blk.low,zP,AV.low,c,a])
 ·obtain rfl:H1=h.ext [.cells [osA h 0 10 (d.map GJ.row)],.dead] [d.length]:=z;apply R.r;cases l;exact fe rfl rfl (leV.osl _ _ _)
 ·obtain rfl:H1=h.ext [.cells [osA h 0 10 (d.map GJ.row)],.dead] [d.length]:=z;cases l
theorem ok55 {i:(S:Type)->(S->GJ->Option (Bool×S))->S->Option S} {g:FuncId} {c a:List AV} {res:(List GJ)} (k:∀(S:Type) (Hy:S->AH) (nb nt:Nat),(∀s,(Hy s).blks.length=nb)->(∀s,(Hy s).toks.length=nt)->(∀s,(Hy s).closed nb nt)->(∀s,∃L M,Hy s=h.ext L M)->∀(y:S->GJ->Option (Bool×S)) (f:Nat),f < nb->(∀s x b j L M,y s x=some (b,j)->SpecY Tryz.prog f [.agg (GJ.row x)] ((Hy s).ext L M) (y5 (.bool b) ((Hy j).ext L M)))->∀s j,i S y s=some j->Sp g (c++[.yld f]++a) (Hy s) (y5 (.tup []) (Hy j))) (l:vF i=some res):Sp 55 [.fn (.func g) c a] h (y5 (.sl 10 (res.map GJ.row)) h):=by
 unfold vF at l;refine yg Tryz.func55 rfl (by kernel_rfl) (xH 5 rfl) (λd z=>?_);simp only [zP,AV.low,ud,uX,tT] at d;have p:∀n m,h.blks.length<=n->h.toks.length<=m->zP n m c=true:=λn m v t=>yx v t _ (by simp [d]);have o:∀n m,h.blks.length<=n->h.toks.length<=m->zP n m a=true:=λn m v t=>yx v t _ (by simp [d]);apply R.r;refine zo l (λD u l=>cp (ok90 (λS Hy nb nt C q z A y f w B s j l=>k S Hy nb nt C q z (λs=>by obtain ⟨L,M,e⟩:=A s;exact ⟨_,_,by rw [e,xE]⟩) y f w B s j l) u) (R.r ?_));cases l;exact fz rfl rfl
theorem ok26 {res:(List GJ)}  (a:wc t0=some res):Sp 26 [.sl 3 (t0.map GA.row)] h (y5 (.sl 10 (res.map GJ.row)) h):=by
 unfold wc at a;refine zd Tryz.func26 rfl (by kernel_rfl) (xH 9 rfl) (R.r ?_);refine zo a (λt c a=>cp (ok24 c) (R.r ?_));refine zt gg a (λi a=>?_) (λi a=>?_)
 ·apply R.r;cases a;exact fe rfl rfl (leV.osl _ _ _)
 ·apply R.r;refine zo a (λv3 f a=>y8 rfl (sc rfl) (clo_ext rfl (n:=0) (B':=[.cells [.sl 3 (v3.1.map GA.row)],.cells [.sl 1 (v3.2.map zr)]]) (caps:=[.ptr (h.blks.length+0) 0,.ptr (h.blks.length+1) 0]) ((ok56 f).le (.eq (.cons (leV.osl _ _ _) leL.nil))) rfl rfl rfl) ss ?_);refine zo a (λv4 d a=>cp (ok55 (λS Hy nb nt p b l k y m g o s q a=>ok91 p b l g o (λs=>by obtain ⟨L,M,e⟩:=k s;rw [e];exact n_blk2 (j:=0) rfl rfl) (λs=>by obtain ⟨L,M,e⟩:=k s;rw [e];exact n_blk2 (j:=1) rfl rfl) a) d) (R.r ?_));cases a;exact fz rfl rfl
theorem ok57 {res:(List zi)}  (a:xB l0=some res):Sp 57 [.agg (GE.row l0)] h (y5 (.sl 1 (res.map zr)) h):=by
 unfold xB at a;refine zd Tryz.func57 rfl (by kernel_rfl) (xH 30 rfl) (R.r ?_);refine zt gg a (λk a=>?_) (λk a=>?_)
 ·apply R.r;refine zb rfl (zI (es:=([l0.text]:List zi).map zr) rfl el45 ze9 rfl rfl (zn gg zA) (.cons (za rfl) .nil) rfl rfl rfl) ss (R.r ?_);cases a;exact fe rfl rfl (leV.osl _ _ _)
 ·apply R.r;refine ln λd=>?_;replace d:=yz d;apply R.r;refine zU (λ(l:Nat) (b:(List zi))=>zK 0 2 (zK 3 14 (zK 20 10 [(2,osA h 0 1 (b.map zr)),(19,.int .i64 (l:Int))]))) (λb=>h.ext [.cells (GE.row l0)] [b.length]) a (λ_ _=>by simp only [zK,vi,ug,uh];try rfl) (wk.trans (wk_tok gt2 rfl st2 rfl) (wk.le (by exact (.drop (.drop (.cons (leV.of_eq rfl) (.d4 (.d4 (.d4 (.drop (.drop (.eq (.eq (.cons (leV.of_eq rfl) (.d4 (.d4 (.drop (.drop leL.nil)))))))))))))))))) ?_;intro l b m a;apply R.r;refine zZ gg a (λf n e i a g=>?_) (λa=>?_)
  ·apply R.r;refine ix (yd i) (R.r ?_);refine zb rfl (zI (es:=([f.text]:List zi).map zr) rfl el45 ze9 rfl rfl (zn gg zA) (.cons (za rfl) .nil) rfl rfl rfl) ss ?_;refine xu a (λc a=>zb rfl (e_appT (j:=0) (T':=[((b++([f.text]:List zi))).length]) rfl rfl rfl rfl el45 el45 gg gg (za rfl) (za rfl) xL c rfl rfl) ss (R.r ?_));cases a;exact ⟨(b++([f.text]:List zi)),e,g,wk.trans (wk.le (by exact (.drop (.drop (.cons (leV.of_eq rfl) (.d4 (.d4 (.d4 (.drop (.drop (.eq (.eq (.cons (leV.of_eq (xw (by omega) (by omega))) (.d4 (.d4 (.drop (.drop leL.nil))))))))))))))))) (yb (by simp [zP,AV.low]) rfl rfl (by simp [Blk.low,zP,AV.low]))⟩
  ·apply R.r;cases a;exact fe rfl rfl (leV.osl _ _ _)
def joinTryzRen:Go.Shelf.Ren :=
  { f:=λx=>match x with
      | 156=>73
      | 165=>125
      | 166=>126
      | 169=>127
      | 240=>163
      | 241=>164
      | 276=>196
      | 277=>197
      | n=>n
    t:=λx=>match x with
      | 0=>0
      | 3=>3
      | 4=>4
      | 9=>9
      | 20=>20
      | 31=>45
      | 37=>120
      | 70=>167
      | 72=>169
      | 75=>172
      | 76=>173
      | 127=>200
      | 164=>223
      | 5=>5
      | 80=>175
      | n=>n
    g:=λn=>n }
theorem joinTryzLays:Go.Proofs.Lays.n156 Tryz.prog joinTryzRen where
  mixed:=mixed
  f156:=Tryz.func73.trans (by kernel_rfl)
  f165:=Tryz.func125.trans (by kernel_rfl)
  f166:=Tryz.func126.trans (by kernel_rfl)
  f169:=Tryz.func127.trans (by kernel_rfl)
  f240:=Tryz.func163.trans (by kernel_rfl)
  f241:=Tryz.func164.trans (by kernel_rfl)
  f276:=Tryz.func196.trans (by kernel_rfl)
  f277:=Tryz.func197.trans (by kernel_rfl)
  t0:=Tryz.underlying0
  a0:=Tryz.isAgg0
  z0:=Tryz.sizeOf0
  v0:=Tryz.zeroValue0
  t3:=Tryz.underlying3
  a3:=Tryz.isAgg3
  z3:=Tryz.sizeOf3
  v3:=Tryz.zeroValue3
  t4:=Tryz.underlying4
  a4:=Tryz.isAgg4
  z4:=Tryz.sizeOf4
  v4:=Tryz.zeroValue4
  t9:=Tryz.underlying9
  a9:=Tryz.isAgg9
  z9:=Tryz.sizeOf9
  v9:=Tryz.zeroValue9
  t20:=Tryz.underlying20
  a20:=Tryz.isAgg20
  z20:=Tryz.sizeOf20
  v20:=Tryz.zeroValue20
  t31:=Tryz.underlying45
  a31:=Tryz.isAgg45
  z31:=Tryz.sizeOf45
  v31:=Tryz.zeroValue45
  t37:=Tryz.underlying120
  a37:=Tryz.isAgg120
  z37:=Tryz.sizeOf120
  v37:=Tryz.zeroValue120
  t70:=Tryz.underlying167
  a70:=Tryz.isAgg167
  z70:=Tryz.sizeOf167
  v70:=Tryz.zeroValue167
  t72:=Tryz.underlying169
  a72:=Tryz.isAgg169
  z72:=Tryz.sizeOf169
  v72:=Tryz.zeroValue169
  t75:=Tryz.underlying172
  a75:=Tryz.isAgg172
  z75:=Tryz.sizeOf172
  v75:=Tryz.zeroValue172
  t76:=Tryz.underlying173
  a76:=Tryz.isAgg173
  z76:=Tryz.sizeOf173
  v76:=Tryz.zeroValue173
  t127:=Tryz.underlying200
  a127:=Tryz.isAgg200
  z127:=Tryz.sizeOf200
  v127:=Tryz.zeroValue200
  t164:=Tryz.underlying223
  a164:=Tryz.isAgg223
  z164:=Tryz.sizeOf223
  v164:=Tryz.zeroValue223
theorem joinTryzExtra:Go.Proofs.Builder.Extra Tryz.prog joinTryzRen where
  sizeBuilder:=by kernel_rfl
  liesBuilder:=by kernel_rfl
  t5:=Tryz.underlying5
  a5:=Tryz.isAgg5
  z5:=Tryz.sizeOf5
  v5:=Tryz.zeroValue5
  infoByte:=by kernel_rfl
  cellsByte:=by kernel_rfl
  sizeByte:=by kernel_rfl
  neB5:=by decide
theorem ok73 {b:List zi} {a:zi} {res:zi} (c:stringsJoin b a=some res):Sp 73 [.sl 1 (b.map zr),.str a] h (y5 (.str res) h) :=
 spec_join joinTryzLays joinTryzExtra c
theorem ok58 {b:GC} {res:zi}  (a:yY b=some res):Sp 58 [.agg [.sl 1 (b.path.map zr),.int .u8 b.typ]] h (y5 (.str res) h):=by
 unfold yY at a;refine zd Tryz.func58 rfl (by kernel_rfl) (xH 12 rfl) (R.r ?_);refine yu [2] [] trivial mixed (by kernel_rfl) (R.r ?_);refine zo a (λj c a=>zR rfl rfl (λ_=>sc rfl) (by rintro _ ⟨B2,T2,rfl,i⟩;exact ok73 c) ss ?_);refine xu a (λf a=>zu rfl rfl (zX rfl gg rfl (uG f)) ss (R.r ?_));refine xu a (λd a=>zu rfl rfl (zI (es:=([(UInt8.ofNat b.typ.toNat)]:List UInt8).map vN) rfl el120 ze5 rfl rfl (zn gg zA) (.cons (za rfl) .nil) rfl rfl (by simp only [uw,tR,vN,byte_of d];rfl)) ss ?_);refine xu a (λg a=>draw_b rfl rfl rfl (convB rfl el120.u ty5.u ty9.u gg (.inr ⟨_,za rfl⟩) g) ss ?_);refine xu a (λe a=>zu rfl rfl (zX rfl gg gg (uG e)) ss (R.r ?_));cases a;exact fz rfl rfl
def sortS40TryzRen:Go.Shelf.Ren :=
  { f:=λx=>match x with
      | 54=>40
      | 61=>135
      | 64=>79
      | 65=>78
      | 69=>148
      | 78=>138
      | 79=>139
      | 80=>129
      | 81=>130
      | 82=>131
      | 83=>132
      | 84=>133
      | 85=>134
      | 86=>136
      | 87=>137
      | 89=>174
      | 90=>175
      | 93=>173
      | 94=>176
      | 95=>177
      | 97=>201
      | n=>n
    t:=λx=>match x with
      | 0=>0
      | 3=>3
      | 4=>4
      | 5=>5
      | 9=>9
      | 25=>45
      | 26=>9
      | 44=>151
      | 51=>126
      | 60=>178
      | 61=>179
      | 67=>64
      | 69=>63
      | 75=>206
      | 79=>210
      | 83=>228
      | 84=>43
      | n=>n
    g:=λn=>n }
theorem sortS40TryzLays:Go.Proofs.SlLaysN.n54 Tryz.prog sortS40TryzRen where
  mixed:=mixed
  f54:=⟨Tryz.f40.name,by kernel_rfl,Tryz.func40.trans (by kernel_rfl)⟩
  f61:=⟨Tryz.f135.name,by kernel_rfl,Tryz.func135.trans (by kernel_rfl)⟩
  f64:=Tryz.func79.trans (by kernel_rfl)
  f65:=⟨Tryz.f78.name,by kernel_rfl,Tryz.func78.trans (by kernel_rfl)⟩
  f69:=⟨Tryz.f148.name,by kernel_rfl,Tryz.func148.trans (by kernel_rfl)⟩
  f78:=Tryz.func138.trans (by kernel_rfl)
  f79:=Tryz.func139.trans (by kernel_rfl)
  f80:=⟨Tryz.f129.name,by kernel_rfl,Tryz.func129.trans (by kernel_rfl)⟩
  f81:=⟨Tryz.f130.name,by kernel_rfl,Tryz.func130.trans (by kernel_rfl)⟩
  f82:=⟨Tryz.f131.name,by kernel_rfl,Tryz.func131.trans (by kernel_rfl)⟩
  f83:=⟨Tryz.f132.name,by kernel_rfl,Tryz.func132.trans (by kernel_rfl)⟩
  f84:=⟨Tryz.f133.name,by kernel_rfl,Tryz.func133.trans (by kernel_rfl)⟩
  f85:=⟨Tryz.f134.name,by kernel_rfl,Tryz.func134.trans (by kernel_rfl)⟩
  f86:=⟨Tryz.f136.name,by kernel_rfl,Tryz.func136.trans (by kernel_rfl)⟩
  f87:=⟨Tryz.f137.name,by kernel_rfl,Tryz.func137.trans (by kernel_rfl)⟩
  f89:=Tryz.func174.trans (by kernel_rfl)
  f90:=Tryz.func175.trans (by kernel_rfl)
  f93:=⟨Tryz.f173.name,by kernel_rfl,Tryz.func173.trans (by kernel_rfl)⟩
  f94:=⟨Tryz.f176.name,by kernel_rfl,Tryz.func176.trans (by kernel_rfl)⟩
  f95:=⟨Tryz.f177.name,by kernel_rfl,Tryz.func177.trans (by kernel_rfl)⟩
  f97:=⟨Tryz.f201.name,by kernel_rfl,Tryz.func201.trans (by kernel_rfl)⟩
  t0:=Tryz.underlying0
  a0:=Tryz.isAgg0
  z0:=Tryz.sizeOf0
  v0:=Tryz.zeroValue0
  t3:=Tryz.underlying3
  a3:=Tryz.isAgg3
  z3:=Tryz.sizeOf3
  v3:=Tryz.zeroValue3
  t4:=Tryz.underlying4
  a4:=Tryz.isAgg4
  z4:=Tryz.sizeOf4
  v4:=Tryz.zeroValue4
  t5:=Tryz.underlying5
  a5:=Tryz.isAgg5
  z5:=Tryz.sizeOf5
  v5:=Tryz.zeroValue5
  t9:=Tryz.underlying9
  a9:=Tryz.isAgg9
  z9:=Tryz.sizeOf9
  v9:=Tryz.zeroValue9
  t25:=Tryz.underlying45
  a25:=Tryz.isAgg45
  z25:=Tryz.sizeOf45
  v25:=Tryz.zeroValue45
  t26:=Tryz.underlying9
  a26:=Tryz.isAgg9
  z26:=Tryz.sizeOf9
  v26:=Tryz.zeroValue9
  t44:=Tryz.underlying151
  a44:=Tryz.isAgg151
  z44:=Tryz.sizeOf151
  v44:=Tryz.zeroValue151
  t51:=Tryz.underlying126
  a51:=Tryz.isAgg126
  z51:=Tryz.sizeOf126
  v51:=Tryz.zeroValue126
  t60:=Tryz.underlying178
  a60:=Tryz.isAgg178
  z60:=Tryz.sizeOf178
  v60:=Tryz.zeroValue178
  t61:=Tryz.underlying179
  a61:=Tryz.isAgg179
  z61:=Tryz.sizeOf179
  v61:=Tryz.zeroValue179
  t67:=Tryz.underlying64
  a67:=Tryz.isAgg64
  z67:=Tryz.sizeOf64
  v67:=Tryz.zeroValue64
  t69:=Tryz.underlying63
  a69:=Tryz.isAgg63
  z69:=Tryz.sizeOf63
  v69:=Tryz.zeroValue63
  t75:=Tryz.underlying206
  a75:=Tryz.isAgg206
  z75:=Tryz.sizeOf206
  v75:=Tryz.zeroValue206
  t79:=Tryz.underlying210
  a79:=Tryz.isAgg210
  z79:=Tryz.sizeOf210
  v79:=Tryz.zeroValue210
  t83:=Tryz.underlying228
  a83:=Tryz.isAgg228
  z83:=Tryz.sizeOf228
  v83:=Tryz.zeroValue228
  t84:=Tryz.underlying43
  a84:=Tryz.isAgg43
  z84:=Tryz.sizeOf43
  v84:=Tryz.zeroValue43
theorem ok41 {s0:(List zi)} {res:(List zi)}  (c:xn s0=some res):Sp 41 [.sl 1 (s0.map zr)] h (y5 (.sl 1 (res.map zr)) h):=by
 unfold xn at c;refine zd Tryz.func41 rfl (by kernel_rfl) (xH 9 rfl) (R.r ?_);refine ln λa=>?_;replace a:=yz a;apply R.r;refine ln λb=>?_;replace b:=yz b;refine zo c (λe d c=>zb rfl (s_slcMax rfl el45 gg isl .none gg gg d) ss (R.r ?_));cases c;exact fe rfl rfl (leV.osl _ _ _)
theorem ok77 {s0:zi} {a:zi}  (d:yW s0 a=some res):Sp 77 [.str s0,.str a] h (y5 (.bool res) h):=by
 unfold yW at d;refine zd Tryz.func77 rfl (by kernel_rfl) (xH 18 rfl) (R.r ?_);refine ln λb=>?_;replace b:=yz b;apply R.r;refine ln λc=>?_;replace c:=yz c;apply R.r;refine lng λg=>xu d (λe d=>yE rfl (λf=>s_slcStr rfl ty9 (yi gg f) .none (.some (yi gg f)) (slc_of (e f))) ss ?_);apply R.r;cases d;exact fz rfl rfl
theorem ok39 {s0:zi} {a:zi}  (b:y6 s0 a=some res):Sp 39 [.str s0,.str a] h (y5 (.bool res) h):=by
 unfold y6 at b;refine zd Tryz.func39 rfl (by kernel_rfl) (xH 8 rfl) (R.r ?_);refine zo b (λd c b=>cp (ok77 c) (R.r ?_));cases b;exact fz rfl rfl
theorem ok19 {f:(List zi)} {i:(List zi)}  (a:yV f i=some res):Sp 19 [.sl 1 (f.map zr),.sl 1 (i.map zr)] h (y5 (.bool res) h):=by
 unfold yV at a;refine zd Tryz.func19 rfl (by kernel_rfl) (xH 26 rfl) (R.r ?_);refine ln λd=>?_;replace d:=yz d;apply R.r;refine ln λg=>?_;replace g:=yz g;apply R.r;refine zt gg a (λm a=>?_) (λm a=>?_)
 ·apply R.r;cases a;exact fz rfl rfl
 ·apply R.r;refine ln λb=>?_;replace b:=yz b;apply R.r;refine zU (λ(p:Nat) (n:Unit)=>zK 2 10 (zK 14 12 [(13,.int .i64 (p:Int))])) (λn=>h.ext [] []) a (λ_ _=>by simp only [zK,vi,ug,uh];try rfl) (wk.le LEL.o) ?_;intro p n q a;apply R.r;refine zZ gg a (λu t l k a j=>?_) (λa=>?_)
  ·apply R.r;refine wC (by kernel_rfl) (R.r ?_);refine dix (yd k) (R.r ?_);refine zo a (λs c a=>dix c (R.r ?_));refine zt gg a (λe a=>?_) (λe a=>?_)
   ·apply R.r;cases a;replace a:=j;apply R.r;cases a;exact fz rfl rfl
   ·apply R.r;cases a;exact ⟨(),l,j,wk.le (by exact (.eq (.eq (.d4 (.d4 (.drop (.drop (.eq (.cons (leV.of_eq (xw (by omega) (by omega))) (.d4 (.d4 (.d4 leL.nil))))))))))))⟩
  ·apply R.r;cases a;exact fz rfl rfl
theorem ok42 {a0:(List zi)} {l:(List zi)}  (a:vV a0 l=some res):Sp 42 [.sl 1 (a0.map zr),.sl 1 (l.map zr)] h (y5 (.bool res) h):=by
 unfold vV at a;refine zd Tryz.func42 rfl (by kernel_rfl) (xH 26 rfl) (R.r ?_);refine ln λc=>?_;replace c:=yz c;apply R.r;refine ln λf=>?_;replace f:=yz f;apply R.r;refine zt gg a (λk a=>?_) (λk a=>?_)
 ·apply R.r;cases a;exact fz rfl rfl
 ·apply R.r;refine zU (λ(n:Nat) (m:Unit)=>zK 2 3 (zK 6 20 [(5,.int .i64 (n:Int))])) (λm=>h.ext [] []) a (λ_ _=>by simp only [zK,vi,ug,uh];try rfl) (wk.le LEL.o) ?_;intro n m p a;apply R.r;refine ln λb=>?_;replace b:=yz b;apply R.r;refine zZ gg a (λt s j i a g=>?_) (λa=>?_)
  ·apply R.r;refine wC (by kernel_rfl) (R.r ?_);refine dix (yd i) (R.r ?_);refine zo a (λq e a=>dix e (R.r ?_));refine zt gg a (λd a=>?_) (λd a=>?_)
   ·apply R.r;cases a;replace a:=g;apply R.r;cases a;exact fz rfl rfl
   ·apply R.r;cases a;exact ⟨(),j,g,wk.le (by exact (.eq (.eq (.drop (.drop (.drop (.cons (leV.of_eq (xw (by omega) (by omega))) (.d16 (.d4 leL.nil)))))))))⟩
  ·apply R.r;cases a;exact fz rfl rfl
theorem ok20 {a0:(List GC)} {p:(List GC)}  (a:ql a0 p=some res):Sp 20 [.sl 2 (a0.map GC.row),.sl 2 (p.map GC.row)] h (y5 (.bool res) h):=by
 unfold ql at a;refine zd Tryz.func20 rfl (by kernel_rfl) (xH 42 rfl) (R.r ?_);refine ln λc=>?_;replace c:=yz c;apply R.r;refine ln λg=>?_;replace g:=yz g;apply R.r;refine zt gg a (λn a=>?_) (λn a=>?_)
 ·apply R.r;cases a;exact fz rfl rfl
 ·apply R.r;refine zU (λ(s:Nat) (q:Unit)=>zK 2 3 (zK 6 36 [(5,.int .i64 (s:Int))])) (λq=>h.ext [] []) a (λ_ _=>by simp only [zK,vi,ug,uh];try rfl) (wk.le LEL.o) ?_;intro s q t a;apply R.r;refine ln λb=>?_;replace b:=yz b;apply R.r;refine zZ gg a (λy x m l a j=>?_) (λa=>?_)
  ·apply R.r;refine wC (by kernel_rfl) (R.r ?_);refine dix (yd l) (R.r ?_);refine zo a (λv f a=>dix f (R.r ?_));refine xu a (λk a=>dgix k (R.r ?_));refine xu a (λi a=>dgix i (R.r ?_));refine yw a (λw e a=>wr rfl rfl sc (λu=>ok42 (e u)) ss (R.r ?_));refine zt gg a (λd a=>?_) (λd a=>?_)
   ·apply R.r;cases a;replace a:=j;apply R.r;cases a;exact fz rfl rfl
   ·apply R.r;cases a;exact ⟨(),m,j,wk.le (by exact (.eq (.eq (.drop (.drop (.drop (.cons (leV.of_eq (xw (by omega) (by omega))) (.d16 (.d16 (.d4 leL.nil))))))))))⟩
  ·apply R.r;cases a;exact fz rfl rfl
def sort44TryzRen:Go.Shelf.Ren :=
  { f:=λx=>match x with
      | 6=>44
      | 15=>79
      | 14=>80
      | 28=>138
      | 29=>139
      | 20=>140
      | 21=>141
      | 22=>142
      | 23=>143
      | 24=>144
      | 25=>145
      | 26=>146
      | 27=>147
      | 46=>178
      | 47=>174
      | 48=>175
      | 49=>179
      | 50=>180
      | 57=>202
      | n=>n
    t:=λx=>match x with
      | 22=>49
      | 24=>55
      | 25=>94
      | 3=>3
      | 39=>126
      | 0=>0
      | 53=>64
      | 55=>63
      | 4=>4
      | 46=>179
      | 45=>178
      | 50=>151
      | 5=>5
      | 9=>9
      | 66=>206
      | 70=>210
      | 76=>228
      | 77=>43
      | n=>n
    g:=λn=>n }
theorem qw:Go.Proofs.SlLaysF0.n6 Tryz.prog sort44TryzRen where
  mixed:=mixed
  f6:=⟨Tryz.f44.name,by kernel_rfl,Tryz.func44.trans (by kernel_rfl)⟩
  f15:=Tryz.func79.trans (by kernel_rfl)
  f14:=⟨Tryz.f80.name,by kernel_rfl,Tryz.func80.trans (by kernel_rfl)⟩
  f28:=Tryz.func138.trans (by kernel_rfl)
  f29:=Tryz.func139.trans (by kernel_rfl)
  f20:=⟨Tryz.f140.name,by kernel_rfl,Tryz.func140.trans (by kernel_rfl)⟩
  f21:=⟨Tryz.f141.name,by kernel_rfl,Tryz.func141.trans (by kernel_rfl)⟩
  f22:=⟨Tryz.f142.name,by kernel_rfl,Tryz.func142.trans (by kernel_rfl)⟩
  f23:=⟨Tryz.f143.name,by kernel_rfl,Tryz.func143.trans (by kernel_rfl)⟩
  f24:=⟨Tryz.f144.name,by kernel_rfl,Tryz.func144.trans (by kernel_rfl)⟩
  f25:=⟨Tryz.f145.name,by kernel_rfl,Tryz.func145.trans (by kernel_rfl)⟩
  f26:=⟨Tryz.f146.name,by kernel_rfl,Tryz.func146.trans (by kernel_rfl)⟩
  f27:=⟨Tryz.f147.name,by kernel_rfl,Tryz.func147.trans (by kernel_rfl)⟩
  f46:=⟨Tryz.f178.name,by kernel_rfl,Tryz.func178.trans (by kernel_rfl)⟩
  f47:=Tryz.func174.trans (by kernel_rfl)
  f48:=Tryz.func175.trans (by kernel_rfl)
  f49:=⟨Tryz.f179.name,by kernel_rfl,Tryz.func179.trans (by kernel_rfl)⟩
  f50:=⟨Tryz.f180.name,by kernel_rfl,Tryz.func180.trans (by kernel_rfl)⟩
  f57:=⟨Tryz.f202.name,by kernel_rfl,Tryz.func202.trans (by kernel_rfl)⟩
  t0:=Tryz.underlying0
  a0:=Tryz.isAgg0
  z0:=Tryz.sizeOf0
  v0:=Tryz.zeroValue0
  t3:=Tryz.underlying3
  a3:=Tryz.isAgg3
  z3:=Tryz.sizeOf3
  v3:=Tryz.zeroValue3
  t4:=Tryz.underlying4
  a4:=Tryz.isAgg4
  z4:=Tryz.sizeOf4
  v4:=Tryz.zeroValue4
  t5:=Tryz.underlying5
  a5:=Tryz.isAgg5
  z5:=Tryz.sizeOf5
  v5:=Tryz.zeroValue5
  t9:=Tryz.underlying9
  a9:=Tryz.isAgg9
  z9:=Tryz.sizeOf9
  v9:=Tryz.zeroValue9
  t22:=Tryz.underlying49
  a22:=Tryz.isAgg49
  z22:=Tryz.sizeOf49
  v22:=Tryz.zeroValue49
  t25:=Tryz.underlying94
  a25:=Tryz.isAgg94
  z25:=Tryz.sizeOf94
  v25:=Tryz.zeroValue94
  t39:=Tryz.underlying126
  a39:=Tryz.isAgg126
  z39:=Tryz.sizeOf126
  v39:=Tryz.zeroValue126
  t45:=Tryz.underlying178
  a45:=Tryz.isAgg178
  z45:=Tryz.sizeOf178
  v45:=Tryz.zeroValue178
  t46:=Tryz.underlying179
  a46:=Tryz.isAgg179
  z46:=Tryz.sizeOf179
  v46:=Tryz.zeroValue179
  t50:=Tryz.underlying151
  a50:=Tryz.isAgg151
  z50:=Tryz.sizeOf151
  v50:=Tryz.zeroValue151
  t53:=Tryz.underlying64
  a53:=Tryz.isAgg64
  z53:=Tryz.sizeOf64
  v53:=Tryz.zeroValue64
  t55:=Tryz.underlying63
  a55:=Tryz.isAgg63
  z55:=Tryz.sizeOf63
  v55:=Tryz.zeroValue63
  t66:=Tryz.underlying206
  a66:=Tryz.isAgg206
  z66:=Tryz.sizeOf206
  v66:=Tryz.zeroValue206
  t70:=Tryz.underlying210
  a70:=Tryz.isAgg210
  z70:=Tryz.sizeOf210
  v70:=Tryz.zeroValue210
  t76:=Tryz.underlying228
  a76:=Tryz.isAgg228
  z76:=Tryz.sizeOf228
  v76:=Tryz.zeroValue228
  t77:=Tryz.underlying43
  a77:=Tryz.isAgg43
  z77:=Tryz.sizeOf43
  v77:=Tryz.zeroValue43
theorem ok148 {a:zi}  (b:xI a=some res):Sp 148 [.str a] h (y5 (.bool res) h):=by
 unfold xI at b;refine zd Tryz.func148 rfl (by kernel_rfl) (xH 6 rfl) (R.r ?_);cases b;exact fz rfl rfl
theorem ok81 {j:zi} {k:zi} {res:Int}  (a:yM j k=some res):Sp 81 [.str j,.str k] h (y5 (.int .i64 res) h):=by
 unfold yM at a;refine zd Tryz.func81 rfl (by kernel_rfl) (xH 20 rfl) (R.r ?_);refine zo a (λm f a=>cp (ok148 f) (R.r ?_));refine zo a (λl b a=>cp (ok148 b) (R.r ?_));refine zt gg a (λi a=>?_) (λi a=>?_)
 ·apply R.r;refine zt gg a (λd a=>?_) (λd a=>?_)
  ·apply R.r;cases a;exact fz rfl rfl
  ·apply R.r;cases a;exact fz rfl rfl
 ·apply R.r;refine zt gg a (λc a=>?_) (λc a=>?_)
  ·apply R.r;cases a;exact fz rfl rfl
  ·apply R.r;refine zt gg a (λe a=>?_) (λe a=>?_)
   ·apply R.r;cases a;exact fz rfl rfl
   ·apply R.r;refine zt gg a (λg a=>?_) (λg a=>?_)
    ·apply R.r;cases a;exact fz rfl rfl
    ·apply R.r;cases a;exact fz rfl rfl
theorem ok47 {l:(List zi)} {m:(List zi)} {res:Int}  (a:yO l m=some res):Sp 47 [.sl 1 (l.map zr),.sl 1 (m.map zr)] h (y5 (.int .i64 res) h):=by
 unfold yO at a;refine zd Tryz.func47 rfl (by kernel_rfl) (xH 36 rfl) (R.r ?_);refine ln λf=>?_;replace f:=yz f;apply R.r;refine zU (λ(t:Nat) (s:Unit)=>zK 2 7 (zK 12 24 [(11,.int .i64 (t:Int))])) (λs=>h.ext [] []) a (λ_ _=>by simp only [zK,vi,ug,uh];try rfl) (wk.le LEL.o) ?_;intro t s u a;apply R.r;refine zZ gg a (λy x q p a e=>?_) (λa=>?_)
 ·apply R.r;refine ix (yd p) (R.r ?_);refine ln λc=>?_;replace c:=yz c;apply R.r;refine zt gg a (λk a=>?_) (λk a=>?_)
  ·apply R.r;cases a;replace a:=e;apply R.r;cases a;exact fz rfl rfl
  ·apply R.r;refine zo a (λw j a=>ix j (R.r ?_));refine zo a (λv n a=>cp (ok81 n) (R.r ?_));refine zt gg a (λg a=>?_) (λg a=>?_)
   ·apply R.r;cases a;replace a:=e;apply R.r;cases a;exact fz rfl rfl
   ·apply R.r;cases a;exact ⟨(),q,e,wk.le (by exact (.eq (.eq (.d4 (.drop (.drop (.drop (.eq (.eq (.cons (leV.of_eq (xw (by omega) (by omega))) (.d16 (.d4 (.d4 leL.nil)))))))))))))⟩
 ·apply R.r;refine ln λd=>?_;replace d:=yz d;apply R.r;refine ln λb=>?_;replace b:=yz b;apply R.r;refine zt gg a (λi a=>?_) (λi a=>?_)
  ·apply R.r;cases a;exact fz rfl rfl
  ·apply R.r;cases a;exact fz rfl rfl
theorem ok45 {a0:GC} {e:GC} {res:Int}  (a:yU a0 e=some res):Sp 45 [.agg [.sl 1 (a0.path.map zr),.int .u8 a0.typ],.agg [.sl 1 (e.path.map zr),.int .u8 e.typ]] h (y5 (.int .i64 res) h):=by
 unfold yU at a;refine zd Tryz.func45 rfl (by kernel_rfl) (xH 17 rfl) (R.r ?_);refine yu [4,9,11] [] trivial mixed (by kernel_rfl) (R.r ?_);refine zo a (λi f a=>zR rfl rfl (λ_=>sc rfl) (by rintro _ ⟨B2,T2,rfl,b⟩;exact ok47 f) ss (R.r ?_));refine zo a (λg c a=>zR rfl rfl (λ_=>sc rfl) (by rintro _ ⟨B2,T2,rfl,b⟩;exact ok48 c) ss ?_);refine zu rfl rfl (zI (es:=([i,g]:List Int).map (intRow .i64)) rfl el128 ze3 rfl rfl (zn gg (zn gg zA)) (.cons (za rfl) (.cons (za rfl) .nil)) rfl rfl rfl) ss ?_;refine zo a (λv3 d a=>zR rfl rfl (λ_=>sc rfl) (by rintro _ ⟨B2,T2,rfl,b⟩;exact (ok46 d).le (.cons (leV.osl _ _ _) leL.nil)) ss (R.r ?_));cases a;exact fz rfl rfl
theorem ok49 {a:Int} {res:GF}  (b:qG a=some res):Sp 49 [.int .u64 a] h (y5 (.agg (GF.row res)) h):=by
 unfold qG at b;refine zd Tryz.func49 rfl (by kernel_rfl) (xH 6 rfl) (R.r ?_);refine zb rfl (yB (cs':=[.int .u8 (0:Int),.int .u32 (1:Int)]) rfl su66 ze66 pl66 (zn rfl zA) (.cons (za rfl) .nil) rfl rfl) ss (R.r ?_);refine zb rfl (yB (cs':=[.int .u8 (0:Int),.int .u32 (1:Int),.int .u64 a]) rfl su68 ze68 pl68 (zn gg (zn gg zA)) (.cons (za rfl) (.cons (za rfl) .nil)) rfl rfl) ss (R.r ?_);cases b;exact fz rfl rfl
theorem ok23  {res:(List GA)} {h:AH}  (b:law41Xtied  = some res):Sp 23 [] h (y5 (.sl 3 (res.map GA.row)) h):=by
 unfold law41Xtied at b;refine zd Tryz.func23 rfl (by kernel_rfl) (xH 22 rfl) (R.r ?_);refine zo b (λc f b=>zT rfl (zC rfl rfl gg (zg rfl zw) (.cons (za rfl) .nil)) (ok49 f) ss ?_);refine zb rfl (yB (cs':=[.int .u8 (2:Int),.int .i64 (0:Int),.int .u64 (1:Int),.int .u8 c.actor.rep,.int .u32 c.actor.inc,.int .u64 c.seq,.str ([117]:zi),.osl none 5 (([]:List GI).map GI.row),.osl none 3 (([]:List GF).map GF.row)]) rfl su72 ze72 pl72 (zn rfl (zn rfl (zn gg (zn rfl zA)))) (.cons (za rfl) (.cons (za rfl) (.cons (za rfl) (.cons (za rfl) .nil)))) rfl rfl) ss (R.r ?_);refine zo b (λa d b=>zT rfl (zC rfl rfl gg (zg rfl zw) (.cons (za rfl) .nil)) (ok49 d) ss ?_);refine zb rfl (yB (cs':=[.int .u64 (0:Int),.int .u8 a.actor.rep,.int .u32 a.actor.inc,.int .u64 a.seq,.str ([117]:zi)]) rfl su99 ze99 pl99 (zn gg (zn rfl zA)) (.cons (za rfl) (.cons (za rfl) .nil)) rfl rfl) ss (R.r ?_);refine zo b (λv3 e b=>zT rfl (zC rfl rfl gg (zg rfl zw) (.cons (za rfl) .nil)) (ok49 e) ss ?_);refine zb rfl (yB (cs':=[.int .u64 (0:Int),.int .u8 v3.actor.rep,.int .u32 v3.actor.inc,.int .u64 v3.seq,.str ([118]:zi)]) rfl su99 ze99 pl99 (zn gg (zn rfl zA)) (.cons (za rfl) (.cons (za rfl) .nil)) rfl rfl) ss ?_;refine zb rfl (zI (es:=([(GI.mk (0:Int) a ([117]:zi)),(GI.mk (0:Int) v3 ([118]:zi))]:List GI).map GI.row) rfl el69 ze99 rfl rfl (zn gg (zn gg zA)) (.cons (za rfl) (.cons (za rfl) .nil)) rfl rfl rfl) ss ?_;refine zb rfl (yB (cs':=[.int .u8 (3:Int),.int .i64 (0:Int),.int .u64 (0:Int),.int .u8 (0:Int),.int .u32 (0:Int),.int .u64 (0:Int),.str ([]:zi),.osl none 5 (([(GI.mk (0:Int) a ([117]:zi)),(GI.mk (0:Int) v3 ([118]:zi))]:List GI).map GI.row),.osl none 3 (([]:List GF).map GF.row)]) rfl su72 ze72 pl72 (zn rfl (zn gg zA)) (.cons (za rfl) (.cons (za rfl) .nil)) rfl rfl) ss (R.r ?_);refine zb rfl (zI (es:=([(GE.mk (2:Int) (0:Int) (1:Int) c ([117]:zi) ([]:List GI) ([]:List GF))]:List GE).map GE.row) rfl el95 ze72 rfl rfl (zn gg zA) (.cons (za rfl) .nil) rfl rfl rfl) ss ?_;refine zb rfl (yB (cs':=[.str ([97]:zi),.osl none 9 (([(GE.mk (2:Int) (0:Int) (1:Int) c ([117]:zi) ([]:List GI) ([]:List GF))]:List GE).map GE.row),.osl none 3 (([]:List GA).map GA.row)]) rfl su97 ze97 pl97 (zn rfl (zn gg zA)) (.cons (za rfl) (.cons (za rfl) .nil)) rfl rfl) ss (R.r ?_);refine zb rfl (zI (es:=([(GE.mk (3:Int) (0:Int) (0:Int) (GF.mk (GK.mk (0:Int) (0:Int)) (0:Int)) ([]:zi) ([(GI.mk (0:Int) a ([117]:zi)),(GI.mk (0:Int) v3 ([118]:zi))]:List GI) ([]:List GF))]:List GE).map GE.row) rfl el95 ze72 rfl rfl (zn gg zA) (.cons (za rfl) .nil) rfl rfl rfl) ss ?_;refine zb rfl (yB (cs':=[.str ([98]:zi),.osl none 9 (([(GE.mk (3:Int) (0:Int) (0:Int) (GF.mk (GK.mk (0:Int) (0:Int)) (0:Int)) ([]:zi) ([(GI.mk (0:Int) a ([117]:zi)),(GI.mk (0:Int) v3 ([118]:zi))]:List GI) ([]:List GF))]:List GE).map GE.row),.osl none 3 (([]:List GA).map GA.row)]) rfl su97 ze97 pl97 (zn rfl (zn gg zA)) (.cons (za rfl) (.cons (za rfl) .nil)) rfl rfl) ss ?_;refine zb rfl (zI (es:=([(GA.mk ([97]:zi) ([(GE.mk (2:Int) (0:Int) (1:Int) c ([117]:zi) ([]:List GI) ([]:List GF))]:List GE) ([]:List GA)),(GA.mk ([98]:zi) ([(GE.mk (3:Int) (0:Int) (0:Int) (GF.mk (GK.mk (0:Int) (0:Int)) (0:Int)) ([]:zi) ([(GI.mk (0:Int) a ([117]:zi)),(GI.mk (0:Int) v3 ([118]:zi))]:List GI) ([]:List GF))]:List GE) ([]:List GA))]:List GA).map GA.row) rfl el23 ze97 rfl rfl (zn gg (zn gg zA)) (.cons (za rfl) (.cons (za rfl) .nil)) rfl rfl (by simp only [uw,tR,GA.row_eq];rfl)) ss (R.r ?_);cases b;exact fe rfl rfl (leV.osl _ _ _)
theorem ok6  {res:Bool} {h:AH}  (c:wH  = some res):Sp 6 [] h (y5 (.bool res) h):=by
 unfold wH at c;refine zd Tryz.func6 rfl (by kernel_rfl) (env:=[aundef,aundef,aundef,aundef,aundef,aundef,aundef,aundef,aundef,aundef,aundef,aundef,aundef,aundef,aundef,aundef,aundef,aundef,aundef,aundef,aundef,aundef,aundef,aundef,aundef,aundef,aundef,aundef]) (by rfl) ?_;refine zk (zc ?_);refine zb rfl (zq rfl rfl (za rfl)) st0 ?_;refine ze (zj (zk (zc ?_)));refine zo c (λv1 hv1 c=>zT rfl (zC rfl rfl rfl zw .nil) (ok23 hv1) st4 ?_);refine zo c (λe hv2 c=>xc (X:=Unit) (v:=.tup [.ptr (h.blks.length+2) 0,.int .i64 (0:Int)]) (H':=λ_=>h.ext [zy AV.str (zO (h.blks.length+1)) [e.1],zy AV.str (λx=>AV.agg (GC.row x)) e.2.1,.cells [.sl 3 (e.2.2.map GA.row),.imap (h.blks.length+0) 0]] []) rfl (zC rfl rfl rfl (zg w5 zw) (.cons (za rfl) .nil)) ?_ st5 (λ_=>?_))
 ·replace c:=hv2;refine zM Tryz.func7 rfl (by kernel_rfl) (env:=[.sl 3 (v1.map GA.row),aundef,aundef,aundef,aundef,aundef,aundef,aundef,aundef,aundef,aundef,aundef,aundef,aundef,aundef,aundef,aundef,aundef,aundef,aundef,aundef,aundef,aundef,aundef,aundef,aundef,aundef,aundef,aundef,aundef,aundef,aundef,aundef,aundef,aundef,aundef,aundef,aundef,aundef,aundef,aundef]) (by rfl) ?_;refine zk (zc ?_);refine zb rfl (zq rfl rfl (za rfl)) st2 ?_;refine zb rfl (zq rfl rfl (za rfl)) st3 ?_;refine ze (zj (zk (zk (zc ?_))));refine zb rfl (zf rfl xW (za rfl)) st7 ?_;refine zo c (λv181 hv181 c=>zT rfl (zC rfl rfl rfl (zg qI zw) (.cons (za rfl) .nil)) (ok24 hv181) st8 ?_);refine zb rfl (s_un rfl gt8 rfl) st9 ?_;refine ze (zj ?_);refine zt gt9 c (λhc182 c=>?_) (λhc182 c=>?_)
  ·cases c
  ·refine yl (zj (zk (zc ?_)));refine ops_swk (swk_pool (kv:=AV.str) (vv:=(zO (h.blks.length+1))) rfl) ?_;refine ops_swk (swk_pool (kv:=AV.str) (vv:=(λx=>AV.agg (GC.row x))) rfl) ?_;refine wt (n:=h.blks.length+0) rfl (p_make (j:=0) (ms:=[]) (kv:=AV.str) (vv:=(zO (h.blks.length+1))) rfl rfl rfl rfl) vD ?_;refine zb rfl (yB (cs':=[.osl none 3 (([]:List GA).map GA.row),.imap (h.blks.length+0) 0]) rfl su58 ze58 pl58 (zn vJ zA) (.cons (za rfl) .nil) rfl rfl) vg ?_;refine zb rfl (e_box (n:=2) rfl vd (za rfl) rfl rfl) st12 ?_;refine zb rfl (zq rfl qS (za rfl)) st4 ?_;refine ze (zj (zk (zc ?_)));refine zb rfl (zf rfl w5 (za rfl)) st14 ?_;refine zb rfl (zf rfl xW (za rfl)) qe ?_;refine zb rfl (zI (es:=([([42,42]:zi)]:List zi).map zr) rfl el45 ze9 rfl rfl (zn rfl zA) (.cons (za rfl) .nil) rfl rfl rfl) qY ?_;refine zo c (λw W c=>zT rfl (zC rfl rfl rfl (zg wR (zg gt16 zw)) (.cons (za rfl) (.cons (za rfl) .nil))) ((ok25 W).le (.eq (.cons (leV.osl _ _ _) leL.nil))) qX ?_);refine zb rfl (zf rfl qR (za rfl)) st13 ?_;refine zb rfl (zN rfl vR rfl (za rfl)) st18 ?_;refine zb rfl (zN rfl vR rfl (za rfl)) st19 ?_;refine zb rfl (zL rfl gt14 rfl) st20 ?_;refine zb rfl (zp rfl fo58x0 gt20 rfl) st21 ?_;refine zb rfl (yc (cs':=[.sl 3 (w.1.map GA.row),.imap (h.blks.length+0) 0]) rfl ty23 gt21 gt18 (za rfl) rfl rfl rfl rfl rfl) rfl ?_;refine ze (zj (zk (zk (zc ?_))));refine zb rfl (zf rfl xW (za rfl)) st22 ?_;refine zo c (λv184 hv184 c=>zT rfl (zC rfl rfl rfl (zg gt22 zw) (.cons (za rfl) .nil)) (ok26 hv184) st23 ?_);refine wO rfl (xM rfl rfl rfl rfl el61 gt23 vQ) st24 λD=>?_;replace D:=yz D;refine zb rfl (zf rfl rfl (za rfl)) st25 ?_;refine ze (zj (yh ?_));refine zU (λ(n1:Nat) (s1:List (Option (zi×Option Nat))×List (List (Option (zi×GC))))=>zK 0 4 (zK 5 18 (zK 26 15 [(25,.int .i64 (n1:Int))]))) (λs1=>h.ext [zy AV.str (zO (h.blks.length+1)) [s1.1],zy AV.str (λx=>AV.agg (GC.row x)) s1.2,.cells [.sl 3 (w.1.map GA.row),.imap (h.blks.length+0) 0]] []) c (λ_ _=>by simp only [zK,vi,ug,uh];try rfl) (wk.le (by exact (.d4 (.eq (.d16 (.drop (.drop (.eq (.eq (.cons (leV.of_eq rfl) (.d4 (.d4 (.d4 (.drop (.drop (.drop leL.nil)))))))))))))))) ?_;intro n1 s1 hi1 c;refine zk (zc ?_);refine zb rfl (zX rfl qJ gt24 rfl) st26 ?_;refine ze (zj (zk ?_));refine zZ gt26 c (λl o1 hl1 E c y=>?_) (λc=>?_)
   ·refine yl (zj (zk (yh (zk (zc ?_)))));refine zb rfl (we rfl el61 gt23 qJ isl (yd E)) st27 ?_;refine zb rfl (qK rfl ty74.choose_spec.1 gt27 (z7 (cs':=(GJ.row l)) ty74.choose_spec.2 rfl rfl) (za rfl)) st28 ?_;refine zb rfl (wS (n:=3) rfl ze74 rfl) st6 ?_;refine zb rfl (yc (cs':=(GJ.row l)) rfl ty74.choose_spec.1 vh gt28 (za rfl) rfl rfl rfl rfl rfl) rfl ?_;refine ze (zj (zc ?_));refine zb rfl (zf rfl w5 (za rfl)) st29 ?_;refine zb rfl (zp rfl fo74x0 vh rfl) st30 ?_;refine zb rfl (zH rfl ty45 gt30 rfl (zD rfl) (za rfl)) st31 ?_;refine zb rfl (zp rfl fo74x1 vh rfl) st32 ?_;refine zb rfl (zp rfl fo72x0 gt32 rfl) st33 ?_;refine zb rfl (zH rfl ty5 gt33 rfl (zD rfl) (za rfl)) st34 ?_;refine zb rfl (yB (cs':=[.sl 1 (l.path.map zr),.int .u8 l.leaf.typ]) rfl su55 ze55 pl55 (zn gt31 (zn gt34 zA)) (.cons (za rfl) (.cons (za rfl) .nil)) rfl rfl) st35 ?_;refine zb rfl (zp rfl fo74x1 vh rfl) st36 ?_;refine zb rfl (zH rfl ty72.choose_spec.1 gt36 rfl (z7 (cs':=(GE.row l.leaf)) ty72.choose_spec.2 rfl rfl) (za rfl)) st37 ?_;refine zo c (λu P c=>xc (X:=Unit) (v:=.tup []) (H':=λ_=>h.ext [zy AV.str (zO (h.blks.length+1)) [u.1],zy AV.str (λx=>AV.agg (GC.row x)) u.2,.cells [.sl 3 (w.1.map GA.row),.imap (h.blks.length+0) 0],.cells (GJ.row l)] []) rfl (zC rfl rfl rfl (zg gt29 (zg gt35 (zg gt37 zw))) (.cons (za rfl) (.cons (za rfl) (.cons (za rfl) .nil)))) ?_ st38 (λ_=>?_))
    ·replace c:=P;refine zM Tryz.func27 rfl (by kernel_rfl) (env:=[.ptr (h.blks.length+2) 0,.agg [.sl 1 (l.path.map zr),.int .u8 l.leaf.typ],.agg (GE.row l.leaf),aundef,aundef,aundef,aundef,aundef,aundef,aundef,aundef,aundef,aundef,aundef,aundef,aundef,aundef,aundef,aundef,aundef,aundef,aundef,aundef,aundef,aundef,aundef,aundef,aundef,aundef,aundef,aundef,aundef,aundef,aundef,aundef,aundef,aundef,aundef,aundef,aundef,aundef,aundef]) (by rfl) ?_;refine zk (zc ?_);refine zb rfl (e_box (n:=4) rfl gt1 (za rfl) rfl rfl) st4 ?_;refine zb rfl (e_box (n:=5) rfl gt2 (za rfl) rfl rfl) st5 ?_;refine ze (zj (zk (zc ?_)));refine zb rfl (zp rfl fo55x0 w5 rfl) st8 ?_;refine zb rfl (zH rfl ty45 gt8 rfl (zD rfl) (za rfl)) st9 ?_;refine zo c (λo hv317 c=>y8 rfl (zC rfl rfl rfl (zg gt9 zw) (.cons (za rfl) .nil)) (x5 (T':=[o.length]) (ok43 hv317) (m:=0) rfl rfl) vD ?_);refine zb rfl (zp rfl fo55x0 w5 rfl) vg ?_;refine zb rfl (yc (cs':=[osA h 0 1 (o.map zr),.int .u8 l.leaf.typ]) rfl ty45 vd vJ (za rfl) rfl rfl rfl rfl rfl) rfl ?_;refine ze (zj (zk (zc ?_)));refine zb rfl (zH rfl ty72.choose_spec.1 gt5 rfl (z7 (cs':=(GE.row l.leaf)) ty72.choose_spec.2 rfl rfl) (za rfl)) st12 ?_;refine zo c (λv318 U c=>zT rfl (zC rfl rfl rfl (zg qS zw) (.cons (za rfl) .nil)) (ok57 U) st13 ?_);refine wO rfl (xM rfl rfl rfl rfl el45 vR vQ) st14 λA=>?_;replace A:=yz A;refine zb rfl (zf rfl rfl (za rfl)) qe ?_;refine ze (zj (yh ?_));refine zU (λ(n2:Nat) (s2:List (Option (zi×Option Nat))×List (List (Option (zi×GC))))=>zK 1 3 (zK 5 8 (zK 16 26 [(15,.int .i64 (n2:Int))]))) (λs2=>h.ext [zy AV.str (zO (h.blks.length+1)) [s2.1],zy AV.str (λx=>AV.agg (GC.row x)) s2.2,.cells [.sl 3 (w.1.map GA.row),.imap (h.blks.length+0) 0],.cells (GJ.row l),.cells [osA h 0 1 (o.map zr),.int .u8 l.leaf.typ],.cells (GE.row l.leaf)] [o.length]) c (λ_ _=>by simp only [zK,vi,ug,uh];try rfl) (wk.le (by exact (.eq (.drop (.drop (.drop (.eq (.d4 (.d4 (.eq (.eq (.cons (leV.of_eq rfl) (.d16 (.d4 (.d4 (.drop (.drop leL.nil))))))))))))))))) ?_;intro n2 s2 hi2 c;refine zk (zc ?_);refine zb rfl (zX rfl wR gt14 rfl) qY ?_;refine ze (zj (zk ?_));refine zZ gt16 c (λG o2 hl2 hx2 c hK2=>?_) (λc=>?_)
     ·refine yl (zj (zk (yh (zk (zc ?_)))));refine zb rfl (we rfl el45 vR wR isl (yd hx2)) qX ?_;refine zb rfl (qK rfl ty9 qR (zD rfl) (za rfl)) st18 ?_;refine zb rfl (zq rfl gt18 (za rfl)) st7 ?_;refine ze (zj (zk (zk (zc ?_))));refine zb rfl (zf rfl xW (za rfl)) st19 ?_;refine zb rfl (zL rfl gt19 rfl) st20 ?_;refine zb rfl (zp rfl fo58x1 gt20 rfl) st21 ?_;refine zb rfl (zH rfl ty56 gt21 rfl (zD rfl) (za rfl)) st22 ?_;refine zb rfl (zf rfl qI (za rfl)) st23 ?_;refine wt (n:=0) rfl (xl (m:=s2.1) (k:=G) (d:=none) (j:=0) (q:=0) (kv:=AV.str) (vv:=(zO (h.blks.length+1))) rfl Tryz.underlying56 kq9 az80 gt22 rfl rfl gt23) st24 ?_;refine zb rfl (zX rfl gt24 rfl (yA ty80 nil_optm)) st25 ?_;refine ze (zj ?_);refine zt qJ c (λhc352 c=>?_) (λhc352 c=>?_)
      ·refine zc ?_;refine zb rfl (zf rfl xW (za rfl)) st26 ?_;refine zb rfl (zL rfl gt26 rfl) st27 ?_;refine zb rfl (zp rfl fo58x1 gt27 rfl) st28 ?_;refine zb rfl (zH rfl ty56 gt28 rfl (zD rfl) (za rfl)) st29 ?_;refine zb rfl (zf rfl qI (za rfl)) st30 ?_;refine wt (n:=h.blks.length+1) rfl (p_make (j:=1) (ms:=s2.2) (kv:=AV.str) (vv:=(λx=>AV.agg (GC.row x))) rfl rfl rfl rfl) st31 ?_;refine wt (n:=0) rfl (p_put (m:=s2.1) (k:=G) (v:=(some ((s2.2).length))) (j:=0) (q:=0) (kv:=AV.str) (vv:=(zO (h.blks.length+1))) rfl Tryz.underlying56 kq9 gt29 rfl rfl gt30 gt31 rfl rfl) rfl ?_;refine ze (zj ?_);refine yu [7] [] trivial mixed (by kernel_rfl) ?_;refine zu rfl rfl (zf rfl xW (za rfl)) st32 ?_;refine zu rfl rfl (zL rfl gt32 rfl) st33 ?_;refine zu rfl rfl (zp rfl fo58x1 gt33 rfl) st34 ?_;refine zu rfl rfl (zH rfl ty56 gt34 rfl (zD rfl) (za rfl)) st35 ?_;refine zu rfl rfl (zf rfl qI (za rfl)) st36 ?_;refine qL rfl rfl (by rfl) (by rfl) (xl (m:=(x7 (λa b=>a==b) s2.1 G (some ((s2.2).length)))) (k:=G) (d:=none) (j:=0) (q:=0) (kv:=AV.str) (vv:=(zO (h.blks.length+1))) rfl Tryz.underlying56 kq9 az80 gt35 rfl rfl gt36) st37 ?_;refine zu rfl rfl (zH rfl ty55.choose_spec.1 w5 rfl (z7 (cs':=[osA h 0 1 (o.map zr),.int .u8 l.leaf.typ]) ty55.choose_spec.2 rfl rfl) (za rfl)) st38 ?_;refine zo c (λv353 V c=>zR rfl rfl (λ_=>zC rfl rfl rfl (zg gt38 zw) (.cons (za rfl) .nil)) (by rintro _ ⟨B2,T2,rfl,hk2⟩;exact (ok58 V).le (.cons (leV.agg (.cons (leV.osl _ _ _) (.eq leL.nil)) rfl) leL.nil)) st39 ?_);refine zu rfl rfl (zH rfl ty55.choose_spec.1 w5 rfl (z7 (cs':=[osA h 0 1 (o.map zr),.int .u8 l.leaf.typ]) ty55.choose_spec.2 rfl rfl) (za rfl)) (sk st0) ?_;refine zo c (λO I c=>vK rfl (FOk.cons (.inr (yR trivial)) FOk.nil) (by kernel_rfl) rfl (by rfl) (by rfl) (p_putO (tt:=(zz (λa b=>a==b) none (zG (x7 (λa b=>a==b) s2.1 G (some ((s2.2).length)))) G)) (ms:=(s2.2++[[]])) (k:=v353) (v:=(GC.mk o l.leaf.typ)) (j:=1) (kv:=AV.str) (vv:=(λx=>AV.agg (GC.row x))) rfl Tryz.underlying80 kq9 gt37 rfl gt39 (gk xW) rfl I rfl) rfl ?_);refine wl ?_;refine yK (zj (zc ?_));refine zb rfl (zX rfl wR rfl rfl) (sk st1) ?_;refine zb rfl (zf rfl (gk gt1) (za rfl)) qe ?_;refine ze (xd ?_);obtain rfl:=uj c;exact ⟨((x7 (λa b=>a==b) s2.1 G (some ((s2.2).length))),O),hl2,hK2,wk.le (by exact (.eq (.drop (.drop (.drop (.eq (.d4 (.d4 (.eq (.eq (.cons (leV.of_eq (xw (by omega) (by omega))) (.d16 (.d4 (.d4 (.drop (.drop leL.nil))))))))))))))))⟩
      ·refine yl (zj ?_);refine yu [7] [] trivial mixed (by kernel_rfl) ?_;refine zu rfl rfl (zf rfl xW (za rfl)) st32 ?_;refine zu rfl rfl (zL rfl gt32 rfl) st33 ?_;refine zu rfl rfl (zp rfl fo58x1 gt33 rfl) st34 ?_;refine zu rfl rfl (zH rfl ty56 gt34 rfl (zD rfl) (za rfl)) st35 ?_;refine zu rfl rfl (zf rfl qI (za rfl)) st36 ?_;refine qL rfl rfl (by rfl) (by rfl) (xl (m:=s2.1) (k:=G) (d:=none) (j:=0) (q:=0) (kv:=AV.str) (vv:=(zO (h.blks.length+1))) rfl Tryz.underlying56 kq9 az80 gt35 rfl rfl gt36) st37 ?_;refine zu rfl rfl (zH rfl ty55.choose_spec.1 w5 rfl (z7 (cs':=[osA h 0 1 (o.map zr),.int .u8 l.leaf.typ]) ty55.choose_spec.2 rfl rfl) (za rfl)) st38 ?_;refine zo c (λv355 T c=>zR rfl rfl (λ_=>zC rfl rfl rfl (zg gt38 zw) (.cons (za rfl) .nil)) (by rintro _ ⟨B2,T2,rfl,hk2⟩;exact (ok58 T).le (.cons (leV.agg (.cons (leV.osl _ _ _) (.eq leL.nil)) rfl) leL.nil)) st39 ?_);refine zu rfl rfl (zH rfl ty55.choose_spec.1 w5 rfl (z7 (cs':=[osA h 0 1 (o.map zr),.int .u8 l.leaf.typ]) ty55.choose_spec.2 rfl rfl) (za rfl)) (sk st0) ?_;refine zo c (λms356 H c=>vK rfl (FOk.cons (.inr (yR trivial)) FOk.nil) (by kernel_rfl) rfl (by rfl) (by rfl) (p_putO (tt:=(zz (λa b=>a==b) none (zG s2.1) G)) (ms:=s2.2) (k:=v355) (v:=(GC.mk o l.leaf.typ)) (j:=1) (kv:=AV.str) (vv:=(λx=>AV.agg (GC.row x))) rfl Tryz.underlying80 kq9 gt37 rfl gt39 (gk xW) rfl H rfl) rfl ?_);refine wl ?_;refine yK (zj (zc ?_));refine zb rfl (zX rfl wR rfl rfl) (sk st1) ?_;refine zb rfl (zf rfl (gk gt1) (za rfl)) qe ?_;refine ze (xd ?_);obtain rfl:=uj c;exact ⟨(s2.1,ms356),hl2,hK2,wk.le (by exact (.eq (.drop (.drop (.drop (.eq (.d4 (.d4 (.eq (.eq (.cons (leV.of_eq (xw (by omega) (by omega))) (.d16 (.d4 (.d4 (.drop (.drop leL.nil))))))))))))))))⟩
     ·refine wn ?_;refine yr ?_;refine ym ?_;refine yn ?_;refine q_end ?_;obtain rfl:=uj c;refine q_retL0 rfl yD (wa (yb (by simp [zP,AV.low]) rfl rfl (by simp [bl_c,bl_r,bl_d,zP,AV.low,yI,yH (vv:=(λx=>AV.agg (GC.row x))) (λ_ _ _=>rfl)])) ?_);exact ⟨rfl,(),rfl⟩
    ·refine ze (yK (zj (zc ?_)));refine zb rfl (zX rfl qJ rfl rfl) st39 ?_;refine zb rfl (zf rfl gt39 (za rfl)) st25 ?_;refine ze (xd ?_);obtain rfl:=uj c;exact ⟨(u.1,u.2),hl1,y,wk.trans (wk.le (by exact (.d4 (.eq (.d16 (.drop (.drop (.eq (.eq (.cons (leV.of_eq (xw (by omega) (by omega))) (.d4 (.d4 (.d4 (.drop (.drop (.drop leL.nil)))))))))))))))) (yb (by simp [zP,AV.low]) rfl rfl (by simp [bl_c,bl_r,bl_d,zP,AV.low,yI,yH (vv:=(λx=>AV.agg (GC.row x))) (λ_ _ _=>rfl)]))⟩
   ·refine wn ?_;refine yr ?_;refine ym ?_;refine yn ?_;refine zj (zk (zc ?_));refine zb rfl (zf rfl w5 (za rfl)) (sk st0) ?_;refine zb rfl (zq rfl (gk xW) (za rfl)) st2 ?_;refine zb rfl (zq rfl rfl (za rfl)) st3 ?_;refine ze (zj (xr ?_));obtain rfl:=uj c;refine q_retL rfl (yy gt2 (yy gt3 yD)) (vt ?_);exact ⟨rfl,(),rfl⟩
 ·refine zb rfl (zf rfl gt5 (za rfl)) st3 ?_;refine zb rfl (zN rfl gt3 rfl (za rfl)) st6 ?_;refine zb rfl (zN rfl gt3 rfl (za rfl)) st7 ?_;refine zb rfl (zq rfl vh (za rfl)) st1 ?_;refine zb rfl (zq rfl qI (za rfl)) st2 ?_;refine ze (zj (zk (zk (zc ?_))));refine zb rfl (zf rfl gt1 (za rfl)) st8 ?_;refine zb rfl (zX rfl gt8 rfl (yA ty27 rfl)) st9 ?_;refine zb rfl (zf rfl gt9 (za rfl)) vD ?_;refine zb rfl (zf rfl gt2 (za rfl)) vg ?_;refine zb rfl (zX rfl vd rfl rfl) st12 ?_;refine zb rfl (wy rfl vJ rfl qS) st13 ?_;refine ze (zj ?_);refine zt vR c (λQ c=>?_) (λQ c=>?_)
  ·refine zk (zc ?_);refine zb rfl (zq rfl rfl (za rfl)) st0 ?_;refine ze (zj (xr (wA ?_)));obtain rfl:=uj c;refine yJ rfl (yy xW yD) (fin_ext (leV.refl _) rfl ?_);exact ⟨rfl,rfl⟩
  ·refine yl (zj (zk (zc ?_)));refine zb rfl (zf rfl gt1 (za rfl)) st14 ?_;refine zo c (λv358 hv358 c=>xc (X:=Unit) (v:=.sl 2 (v358.map GC.row)) (H':=λ_=>h.ext [zy AV.str (zO (h.blks.length+1)) [e.1],zy AV.str (λx=>AV.agg (GC.row x)) e.2.1,.cells [.sl 3 (e.2.2.map GA.row),.imap (h.blks.length+0) 0]] []) rfl (zC rfl rfl rfl (zg gt14 (zg rfl zw)) (.cons (za rfl) (.cons (za rfl) .nil))) ?_ qe (λ_=>?_))
   ·replace c:=hv358;refine zM Tryz.func21 rfl (by kernel_rfl) (env:=[.ptr (h.blks.length+2) 0,.str ([117]:zi),aundef,aundef,aundef,aundef,aundef,aundef,aundef,aundef,aundef,aundef,aundef,aundef,aundef,aundef,aundef,aundef,aundef,aundef,aundef,aundef,aundef,aundef,aundef,aundef,aundef,aundef,aundef,aundef,aundef,aundef]) (by rfl) ?_;refine zk (zc ?_);refine zb rfl (zq rfl rfl (ty_nil el49)) st4 ?_;refine ze (zj (zk (zk (zc ?_))));refine zb rfl (zf rfl xW (za rfl)) st7 ?_;refine zo c (λv372 hv372 c=>xc (X:=Unit) (v:=.bool false) (H':=λ_=>h.ext [zy AV.str (zO (h.blks.length+1)) [e.1],zy AV.str (λx=>AV.agg (GC.row x)) e.2.1,.cells [.sl 3 (e.2.2.map GA.row),.imap (h.blks.length+0) 0]] []) rfl (zC rfl rfl rfl (zg qI zw) (.cons (za rfl) .nil)) ?_ st8 (λ_=>?_))
    ·replace c:=hv372;refine zM Tryz.func31 rfl (by kernel_rfl) (env:=[.ptr (h.blks.length+2) 0,aundef,aundef,aundef,aundef,aundef,aundef,aundef,aundef,aundef,aundef,aundef]) (by rfl) ?_;refine zk (zc ?_);refine zb rfl (zq rfl rfl (za rfl)) st2 ?_;refine ze (zj (zk (zc ?_)));refine zb rfl (zf rfl xW (za rfl)) st3 ?_;refine zb rfl (zX rfl gt3 rfl (yA ty27 rfl)) st4 ?_;refine zb rfl (zf rfl w5 (za rfl)) st5 ?_;refine zb rfl (zf rfl xW (za rfl)) st6 ?_;refine zb rfl (zL rfl vh rfl) st7 ?_;refine zb rfl (zp rfl fo58x1 qI rfl) st8 ?_;refine zb rfl (zH rfl ty56 gt8 rfl (zD rfl) (za rfl)) st9 ?_;refine zb rfl (zX rfl gt9 rfl (yA ty56 rfl)) vD ?_;refine zb rfl (wy rfl gt5 rfl vJ) vg ?_;refine zb rfl (zq rfl vd (za rfl)) st2 ?_;refine ze (zj (xr ?_));obtain rfl:=uj c;refine yJ rfl (yy gt2 yD) (vt ?_);exact ⟨rfl,(),rfl⟩
    ·refine ze (zj ?_);refine y4 gt8 (λhh=>by cases hh) (λ_=>yl (zj (zk (zk (zc ?_)))));refine zb rfl (zf rfl xW (za rfl)) st9 ?_;refine zb rfl (zL rfl gt9 rfl) vD ?_;refine zb rfl (zp rfl fo58x1 vJ rfl) vg ?_;refine zb rfl (zH rfl ty56 vd rfl (zD rfl) (za rfl)) st12 ?_;refine zb rfl (zf rfl gt1 (za rfl)) st13 ?_;refine wt (n:=0) rfl (xl (m:=e.1) (k:=([117]:zi)) (d:=none) (j:=0) (q:=0) (kv:=AV.str) (vv:=(zO (h.blks.length+1))) rfl Tryz.underlying56 kq9 az80 qS rfl rfl vR) st14 ?_;refine zo c (λr t c=>wM (tt:=(zz (λa b=>a==b) none (zG e.1) ([117]:zi))) (ms:=e.2.1) (m:=r) (j:=1) (kv:=AV.str) (vv:=(λx=>AV.agg (GC.row x))) rfl rfl Tryz.underlying80 gt14 rfl t rfl qe rfl ?_);refine ze (zj (yh ?_));refine qA (λ(g:(List GC))=>[(0,.any),(1,.any),(2,.any),(3,.any),(4,rsA h 4 0 2 (g.length)),(5,.any),(6,.any),(7,.any),(8,.any),(9,.any),(10,.any),(11,.any),(12,.any),(13,.any),(14,.any),(16,.any),(17,.any),(18,.any),(19,.any),(20,.any),(21,.any),(22,.any),(23,.any),(24,.any),(25,.any),(26,.any),(27,.any),(28,.any),(29,.any),(30,.any),(31,.any)]) (λf g=>h.ext [zy AV.str (zO (h.blks.length+1)) [e.1],zy AV.str (λx=>AV.agg (GC.row x)) e.2.1,.cells [.sl 3 (e.2.2.map GA.row),.imap (h.blks.length+0) 0],xb (h.blks.length+1) (zz (λa b=>a==b) none (zG e.1) ([117]:zi)) r.length f,rwA h 0 2 (g.map GC.row)] [g.length]) c (λ_=>by simp only [vi,ug,uh];try rfl) (wk.trans ((vU w5 rfl rfl st4 rfl rfl).wk) (wk.le (by exact (.d4 (.cons (leV.of_eq rfl) (.d4 (.d4 (.drop (.drop (.eq (.d16 leL.nil))))))))))) ?_;intro f g c;refine zk (zc ?_);refine wN (tt:=(zz (λa b=>a==b) none (zG e.1) ([117]:zi))) (m:=r) (ms:=e.2.1) (jp:=1) (kv:=AV.str) (vv:=(λx=>AV.agg (GC.row x))) rfl rfl wR rfl rfl t qY c (λi1 l o1 E J c y=>⟨_,qY,?_⟩) (λc=>?_)
     ·refine zb rfl (zN rfl gt16 rfl (za rfl)) qX ?_;refine ze (zj (zk ?_));refine y4 qR (λ_=>?_) (λhh=>by cases hh);refine yl (zj (yh (zk (zc ?_))));refine wP (tt:=(zz (λa b=>a==b) none (zG e.1) ([117]:zi))) (m:=r) (ms:=e.2.1) (jp:=1) (kv:=AV.str) (vv:=(λx=>AV.agg (GC.row x))) rfl rfl wR rfl rfl t E st18 ?_;refine zb rfl (zN rfl gt18 rfl (za rfl)) st19 ?_;refine zb rfl (wS (n:=5) rfl ze55 rfl) st6 ?_;refine zb rfl (yc (cs':=[.sl 1 (l.2.path.map zr),.int .u8 l.2.typ]) rfl ty55.choose_spec.1 vh gt19 (za rfl) rfl rfl rfl rfl rfl) rfl ?_;refine ze (zj ?_);refine wC (by kernel_rfl) ?_;refine zu rfl rfl (zf rfl w5 (za rfl)) st20 ?_;refine zu rfl rfl (zp rfl fo55x0 vh rfl) st21 ?_;refine zu rfl rfl (zH rfl ty45 gt21 rfl (zD rfl) (za rfl)) st22 ?_;refine zo c (λp S c=>xh rfl FOk.nil (by rfl) rfl (zC rfl rfl rfl (zg gt22 zw) (.cons (za rfl) .nil)) (x5 (T':=[g.length,p.length]) (ok43 S) (m:=1) rfl rfl) st23 ?_);refine zu rfl rfl (zp rfl fo55x1 vh rfl) st24 ?_;refine zu rfl rfl (zH rfl ty5 gt24 rfl (zD rfl) (za rfl)) st25 ?_;refine zu rfl rfl (yB (cs':=[osA h 1 1 (p.map zr),.int .u8 l.2.typ]) rfl su55 ze55 pl55 (zn gt23 (zn qJ zA)) (.cons (za rfl) (.cons (za rfl) .nil)) rfl rfl) st26 ?_;refine zu rfl rfl (zI (es:=([(GC.mk p l.2.typ)]:List GC).map GC.row) rfl el49 ze55 rfl rfl (zn gt26 zA) (.cons (za rfl) .nil) rfl rfl rfl) st27 ?_;refine xu c (λZ c=>yo rfl FOk.nil (by kernel_rfl) rfl (e_appR (i:=4) (j:=0) (B':=[zy AV.str (zO (h.blks.length+1)) [e.1],zy AV.str (λx=>AV.agg (GC.row x)) e.2.1,.cells [.sl 3 (e.2.2.map GA.row),.imap (h.blks.length+0) 0],xb (h.blks.length+1) (zz (λa b=>a==b) none (zG e.1) ([117]:zi)) r.length (f++[i1]),rwA h 0 2 ((g++([(GC.mk p l.2.typ)]:List GC)).map GC.row),.cells [.sl 1 (l.2.path.map zr),.int .u8 l.2.typ]]) (T':=[((g++([(GC.mk p l.2.typ)]:List GC))).length,p.length]) rfl rfl rfl rfl el49 el49 gt20 gt27 rfl (za rfl) xL Z rfl rfl rfl rfl rfl) st28 ?_);refine zu rfl rfl (zq rfl gt28 (za rfl)) st4 ?_;refine wl ?_;refine yK (xd ?_);obtain rfl:=uj c;exact ⟨i1,(g++([(GC.mk p l.2.typ)]:List GC)),J,y,wk.trans (wk.le (by exact (.d4 (.cons (leV.of_eq rfl) (.d4 (.d4 (.drop (.drop (.eq (.d16 leL.nil)))))))))) (yb (by simp [zP,AV.low]) rfl rfl (by simp [bl_c,bl_r,bl_d,zP,AV.low,yI,yH (vv:=(λx=>AV.agg (GC.row x))) (λ_ _ _=>rfl),xU]))⟩
     ·refine zb rfl (zN rfl gt16 rfl (za rfl)) qX ?_;refine ze (zj (zk ?_));refine y4 qR (λhh=>by cases hh) (λ_=>wn ?_);refine yr ?_;refine ym ?_;refine yn ?_;refine zj (zk (zc ?_));refine zb rfl (zf rfl w5 (za rfl)) st29 ?_;refine zo c (λM C c=>y8 rfl (zC rfl rfl rfl (zg gt29 (zg rfl zw)) (.cons (za rfl) (.cons (za rfl) .nil))) (qZ qw Tryz.isAgg55 Tryz.sizeOf55 (λ_=>rfl) (λ_=>rfl) (λ_=>by simp [plL,AV.pl,plE_map,zr,intRow,vN,boolRow,GK.row,GF.row,GI.row,GE.row,GJ.row,GC.row]) (enters_fn Tryz.func45 rfl (by kernel_rfl)) (λ_ _ _ h=>ok45 h) C (i:=4) (B':=[zy AV.str (zO (h.blks.length+1)) [e.1],zy AV.str (λx=>AV.agg (GC.row x)) e.2.1,.cells [.sl 3 (e.2.2.map GA.row),.imap (h.blks.length+0) 0],xb (h.blks.length+1) (zz (λa b=>a==b) none (zG e.1) ([117]:zi)) r.length f,rwA h 0 2 (M.map GC.row)]) rfl rfl) st30 ?_);refine ze (zj (zk (zc ?_)));refine zb rfl (zf rfl w5 (za rfl)) st31 ?_;refine zb rfl (zq rfl gt31 (za rfl)) st4 ?_;refine ze (zj (xr ?_));obtain rfl:=uj c;refine yJ rfl (yy w5 yD) (wa (wk.trans (((vl (j:=4) (m:=0) (B':=[zy AV.str (zO (h.blks.length+1)) [e.1],zy AV.str (λx=>AV.agg (GC.row x)) e.2.1,.cells [.sl 3 (e.2.2.map GA.row),.imap (h.blks.length+0) 0],xb (h.blks.length+1) (zz (λa b=>a==b) none (zG e.1) ([117]:zi)) r.length f,.dead]) (T':=[(M.map GC.row).length+1]) rfl (by exact (FzL.cons (FzA.hit2 _ _ (by rw [ut];exact pn (vE C))) (FzL.refl _))) rfl rfl)).wk) (yb (by simp [zP,AV.low]) rfl rfl (by simp [bl_c,bl_r,bl_d,zP,AV.low,yI,yH (vv:=(λx=>AV.agg (GC.row x))) (λ_ _ _=>rfl),xU]))) ?_);exact ⟨rfl,(),rfl⟩
   ·refine zb rfl (zI (es:=([([97]:zi)]:List zi).map zr) rfl el45 ze9 rfl rfl (zn rfl zA) (.cons (za rfl) .nil) rfl rfl rfl) qY ?_;refine zb rfl (yB (cs':=[.osl none 1 (([([97]:zi)]:List zi).map zr),.int .u8 (2:Int)]) rfl su55 ze55 pl55 (zn gt16 (zn rfl zA)) (.cons (za rfl) (.cons (za rfl) .nil)) rfl rfl) qX ?_;refine zb rfl (zI (es:=([([98]:zi)]:List zi).map zr) rfl el45 ze9 rfl rfl (zn rfl zA) (.cons (za rfl) .nil) rfl rfl rfl) st18 ?_;refine zb rfl (yB (cs':=[.osl none 1 (([([98]:zi)]:List zi).map zr),.int .u8 (3:Int)]) rfl su55 ze55 pl55 (zn gt18 (zn rfl zA)) (.cons (za rfl) (.cons (za rfl) .nil)) rfl rfl) st19 ?_;refine zb rfl (zI (es:=([(GC.mk ([([97]:zi)]:List zi) (2:Int)),(GC.mk ([([98]:zi)]:List zi) (3:Int))]:List GC).map GC.row) rfl el49 ze55 rfl rfl (zn qR (zn gt19 zA)) (.cons (za rfl) (.cons (za rfl) .nil)) rfl rfl rfl) st20 ?_;refine zo c (λv384 N c=>zT rfl (zC rfl rfl rfl (zg wR (zg gt20 zw)) (.cons (za rfl) (.cons (za rfl) .nil))) ((ok20 N).le (.eq (.cons (leV.osl _ _ _) leL.nil))) st21 ?_);refine zb rfl (zf rfl gt21 (za rfl)) st22 ?_;refine yE rfl (λz=>zf rfl gt1 (za rfl)) st23 ?_;refine zo c (λv385 s c=>ops_ginl (Y:=Unit) (b:=(v384==true)) (v:=.sl 1 (v385.map zr)) (Ky:=λ_=>h.ext [zy AV.str (zO (h.blks.length+1)) [e.1],zy AV.str (λx=>AV.agg (GC.row x)) e.2.1,.cells [.sl 3 (e.2.2.map GA.row),.imap (h.blks.length+0) 0]] []) rfl (λz=>zC rfl rfl rfl (zg (yi gt23 z) (zg rfl (zg rfl zw))) (.cons (za rfl) (.cons (za rfl) (.cons (za rfl) .nil)))) (λz=>?_) (λz=>?_) st24 (λ_=>?_))
    ·rw [uG z] at s;replace c:=s;refine zM Tryz.func18 rfl (by kernel_rfl) (env:=[.ptr (h.blks.length+2) 0,.str ([]:zi),.int .i64 (5:Int),aundef,aundef,aundef,aundef,aundef,aundef,aundef,aundef,aundef,aundef,aundef,aundef,aundef,aundef,aundef,aundef,aundef,aundef,aundef,aundef,aundef,aundef,aundef,aundef,aundef,aundef,aundef,aundef,aundef,aundef,aundef,aundef,aundef,aundef,aundef,aundef]) (by rfl) ?_;refine zk (zc ?_);refine zb rfl (zq rfl rfl (ty_nil el45)) st6 ?_;refine ze (zj (zk (zk (zc ?_))));refine zb rfl (zf rfl xW (za rfl)) st8 ?_;refine zo c (λv404 hv404 c=>xc (X:=Unit) (v:=.bool false) (H':=λ_=>h.ext [zy AV.str (zO (h.blks.length+1)) [e.1],zy AV.str (λx=>AV.agg (GC.row x)) e.2.1,.cells [.sl 3 (e.2.2.map GA.row),.imap (h.blks.length+0) 0]] []) rfl (zC rfl rfl rfl (zg gt8 zw) (.cons (za rfl) .nil)) ?_ st9 (λ_=>?_))
     ·replace c:=hv404;refine zM Tryz.func31 rfl (by kernel_rfl) (env:=[.ptr (h.blks.length+2) 0,aundef,aundef,aundef,aundef,aundef,aundef,aundef,aundef,aundef,aundef,aundef]) (by rfl) ?_;refine zk (zc ?_);refine zb rfl (zq rfl rfl (za rfl)) st2 ?_;refine ze (zj (zk (zc ?_)));refine zb rfl (zf rfl xW (za rfl)) st3 ?_;refine zb rfl (zX rfl gt3 rfl (yA ty27 rfl)) st4 ?_;refine zb rfl (zf rfl w5 (za rfl)) st5 ?_;refine zb rfl (zf rfl xW (za rfl)) st6 ?_;refine zb rfl (zL rfl vh rfl) st7 ?_;refine zb rfl (zp rfl fo58x1 qI rfl) st8 ?_;refine zb rfl (zH rfl ty56 gt8 rfl (zD rfl) (za rfl)) st9 ?_;refine zb rfl (zX rfl gt9 rfl (yA ty56 rfl)) vD ?_;refine zb rfl (wy rfl gt5 rfl vJ) vg ?_;refine zb rfl (zq rfl vd (za rfl)) st2 ?_;refine ze (zj (xr ?_));obtain rfl:=uj c;refine yJ rfl (yy gt2 yD) (vt ?_);exact ⟨rfl,(),rfl⟩
     ·refine zb rfl (zf rfl gt9 (za rfl)) vD ?_;refine zb rfl (zf rfl gt2 (za rfl)) vg ?_;refine zb rfl (zX rfl vd rfl rfl) st12 ?_;refine zb rfl (wy rfl vJ rfl qS) st13 ?_;refine ze (zj ?_);refine zt vR c (λhc405 c=>?_) (λhc405 c=>?_)
      ·refine zk (zc ?_);refine zb rfl (zq rfl rfl (ty_nil el45)) st6 ?_;refine ze (zj (xr (wA ?_)));obtain rfl:=uj c;refine yJ rfl (yy vh yD) (wa (wk.le (leL.cons (leV.osl _ _ _) leL.nil)) ?_);exact ⟨rfl,(),rfl⟩
      ·refine yl (zj (zk (zk (zc ?_))));refine zb rfl (zf rfl xW (za rfl)) st14 ?_;refine zb rfl (zL rfl gt14 rfl) qe ?_;refine zb rfl (zp rfl fo58x1 wR rfl) qY ?_;refine zb rfl (zH rfl ty56 gt16 rfl (zD rfl) (za rfl)) qX ?_;refine wM (tt:=(some 0)) (ms:=[e.1]) (m:=e.1) (j:=0) (kv:=AV.str) (vv:=(zO (h.blks.length+1))) rfl rfl Tryz.underlying56 qR rfl rfl rfl st18 rfl ?_;refine ze (zj (yh ?_));refine qA (λ(g:(List zi))=>[(0,.any),(3,.any),(4,.any),(5,.any),(6,rsA h 4 0 1 (g.length)),(7,.any),(8,.any),(9,.any),(10,.any),(11,.any),(12,.any),(13,.any),(14,.any),(15,.any),(16,.any),(17,.any),(19,.any),(20,.any),(21,.any),(22,.any),(23,.any),(24,.any),(25,.any),(26,.any),(27,.any),(28,.any),(29,.any),(30,.any),(31,.any),(32,.any),(33,.any),(34,.any),(35,.any),(36,.any),(37,.any),(38,.any)]) (λf g=>h.ext [zy AV.str (zO (h.blks.length+1)) [e.1],zy AV.str (λx=>AV.agg (GC.row x)) e.2.1,.cells [.sl 3 (e.2.2.map GA.row),.imap (h.blks.length+0) 0],xb (h.blks.length+0) (some 0) e.1.length f,rwA h 0 1 (g.map zr)] [g.length]) c (λ_=>by simp only [vi,ug,uh];try rfl) (wk.trans ((vU vh rfl rfl st6 rfl rfl).wk) (wk.le (by exact (.drop (.eq (.eq (.drop (.drop (.drop (.cons (leV.of_eq rfl) (.d4 (.d4 (.drop (.drop (.drop (.eq (.d16 (.d4 leL.nil)))))))))))))))))) ?_;intro f g c;refine zk (zc ?_);refine wN (tt:=(some 0)) (m:=e.1) (ms:=[e.1]) (jp:=0) (kv:=AV.str) (vv:=(zO (h.blks.length+1))) rfl rfl gt18 rfl rfl rfl st19 c (λi1 l o1 E J c y=>⟨_,st19,?_⟩) (λc=>?_)
       ·refine zb rfl (zN rfl gt19 rfl (za rfl)) st20 ?_;refine ze (zj (zk ?_));refine y4 gt20 (λ_=>?_) (λhh=>by cases hh);refine yl (zj (yh (zk (zc ?_))));refine wP (tt:=(some 0)) (m:=e.1) (ms:=[e.1]) (jp:=0) (kv:=AV.str) (vv:=(zO (h.blks.length+1))) rfl rfl gt18 rfl rfl rfl E st21 ?_;refine zb rfl (zN rfl gt21 rfl (za rfl)) st22 ?_;refine zb rfl (zq rfl gt22 (za rfl)) st7 ?_;refine ze (zj (zk (zc ?_)));refine zb rfl (zf rfl qI (za rfl)) st23 ?_;refine zb rfl (zf rfl gt1 (za rfl)) st24 ?_;refine zo c (λv414 hv414 c=>zT rfl (zC rfl rfl rfl (zg gt23 (zg gt24 zw)) (.cons (za rfl) (.cons (za rfl) .nil))) (ok39 hv414) st25 ?_);refine ze (zj ?_);refine zt qJ c (λR c=>?_) (λR c=>?_)
        ·refine zc ?_;refine zb rfl (zf rfl vh (za rfl)) st26 ?_;refine zb rfl (zf rfl qI (za rfl)) st27 ?_;refine zb rfl (zI (es:=([l.1]:List zi).map zr) rfl el45 ze9 rfl rfl (zn gt27 zA) (.cons (za rfl) .nil) rfl rfl rfl) st28 ?_;refine xu c (λhm416 c=>zb rfl (e_appR (i:=4) (j:=0) (B':=[zy AV.str (zO (h.blks.length+1)) [e.1],zy AV.str (λx=>AV.agg (GC.row x)) e.2.1,.cells [.sl 3 (e.2.2.map GA.row),.imap (h.blks.length+0) 0],xb (h.blks.length+0) (some 0) e.1.length (f++[i1]),rwA h 0 1 ((g++([l.1]:List zi)).map zr)]) (T':=[((g++([l.1]:List zi))).length]) rfl rfl rfl rfl el45 el45 gt26 gt28 rfl (za rfl) xL hm416 rfl rfl rfl rfl rfl) st29 ?_);refine zb rfl (zq rfl gt29 (za rfl)) st6 ?_;refine ze (yK (xd ?_));obtain rfl:=uj c;exact ⟨i1,(g++([l.1]:List zi)),J,y,wk.le (by exact (.drop (.eq (.eq (.drop (.drop (.drop (.cons (leV.of_eq rfl) (.d4 (.d4 (.drop (.drop (.drop (.eq (.d16 (.d4 leL.nil))))))))))))))))⟩
        ·refine yl (yK (xd ?_));obtain rfl:=uj c;exact ⟨i1,g,J,y,wk.le (by exact (.drop (.eq (.eq (.drop (.drop (.drop (.cons (leV.of_eq rfl) (.d4 (.d4 (.drop (.drop (.drop (.eq (.d16 (.d4 leL.nil))))))))))))))))⟩
       ·refine zb rfl (zN rfl gt19 rfl (za rfl)) st20 ?_;refine ze (zj (zk ?_));refine y4 gt20 (λhh=>by cases hh) (λ_=>wn ?_);refine yr ?_;refine ym ?_;refine yn ?_;refine zj (zk (zc ?_));refine zb rfl (zf rfl vh (za rfl)) st30 ?_;refine zo c (λK B c=>y8 rfl (zC rfl rfl rfl (zg gt30 zw) (.cons (za rfl) .nil)) (spec_sortS sortS40TryzLays B (i:=4) (B':=[zy AV.str (zO (h.blks.length+1)) [e.1],zy AV.str (λx=>AV.agg (GC.row x)) e.2.1,.cells [.sl 3 (e.2.2.map GA.row),.imap (h.blks.length+0) 0],xb (h.blks.length+0) (some 0) e.1.length f,rwA h 0 1 (K.map zr)]) rfl rfl) st31 ?_);refine ze (zj (zk (zc ?_)));refine zb rfl (zf rfl vh (za rfl)) st32 ?_;refine zb rfl (zf rfl gt2 (za rfl)) st33 ?_;refine zb rfl (zf rfl vh (za rfl)) st34 ?_;refine wO rfl (xM rfl rfl rfl rfl el45 gt34 rfl) st35 λhn418=>zb rfl (s_mm false rfl rfl (zg gt33 (zg gt35 zw)) rfl rfl) st36 ?_;refine zo c (λF hm419 c=>ops_b rfl (e_cutR (i:=4) (j:=0) (L:=K) (row:=zr) (B':=[zy AV.str (zO (h.blks.length+1)) [e.1],zy AV.str (λx=>AV.agg (GC.row x)) e.2.1,.cells [.sl 3 (e.2.2.map GA.row),.imap (h.blks.length+0) 0],xb (h.blks.length+0) (some 0) e.1.length f,.dead,rwA h 1 1 (F.map zr)]) (T':=[(g.length)+1,F.length]) rfl el45 gt32 gt36 rfl (sortS_len B) hm419 rfl rfl rfl rfl) st37 ?_);refine ops_swk (vl (j:=5) (m:=1) (B':=[zy AV.str (zO (h.blks.length+1)) [e.1],zy AV.str (λx=>AV.agg (GC.row x)) e.2.1,.cells [.sl 3 (e.2.2.map GA.row),.imap (h.blks.length+0) 0],xb (h.blks.length+0) (some 0) e.1.length f,.dead,.dead]) (T':=[(g.length)+1,(F.map zr).length+1]) rfl (by exact (FzL.cons (FzA.same _) (FzL.cons (FzA.same _) (FzL.cons (FzA.same _) (FzL.cons (FzA.same _) (FzL.cons (FzA.same _) (FzL.cons (FzA.same _) (FzL.cons (FzA.same _) (FzL.cons (FzA.same _) (FzL.cons (FzA.same _) (FzL.cons (FzA.same _) (FzL.cons (FzA.same _) (FzL.cons (FzA.same _) (FzL.cons (FzA.same _) (FzL.cons (FzA.same _) (FzL.cons (FzA.same _) (FzL.cons (FzA.same _) (FzL.cons (FzA.same _) (FzL.cons (FzA.same _) (FzL.cons (FzA.same _) (FzL.cons (FzA.same _) (FzL.cons (FzA.same _) (FzL.cons (FzA.same _) (FzL.cons (FzA.same _) (FzL.cons (FzA.same _) (FzL.cons (FzA.same _) (FzL.cons (FzA.same _) (FzL.cons (FzA.same _) (FzL.cons (FzA.same _) (FzL.cons (FzA.same _) (FzL.cons (FzA.same _) (FzL.cons (FzA.same _) (FzL.cons (FzA.same _) (FzL.cons (FzA.same _) (FzL.cons (FzA.same _) (FzL.cons (FzA.same _) (FzL.cons (FzA.same _) (FzL.cons (FzA.same _) (FzL.cons (FzA.hit2 _ _ (by simp)) (FzL.refl _)))))))))))))))))))))))))))))))))))))))) rfl rfl) ?_;refine zo c (λv420 hv420 c=>zT rfl (zC rfl rfl rfl (zg gt37 zw) (.cons (za rfl) .nil)) (ok41 hv420) st38 ?_);refine zb rfl (zq rfl gt38 (za rfl)) st6 ?_;refine ze (zj (xr ?_));obtain rfl:=uj c;refine yJ rfl (yy vh yD) (wa (yb (by simp [zP,AV.low]) rfl rfl (by simp [bl_c,bl_r,bl_d,zP,AV.low,yI,yH (vv:=(λx=>AV.agg (GC.row x))) (λ_ _ _=>rfl),xU])) ?_);exact ⟨rfl,(),rfl⟩
    ·rw [te (rj z)] at s;obtain rfl:=uj s;exact ⟨(),rfl⟩
    ·refine yE rfl (λz=>zI (es:=([([117]:zi),([118]:zi)]:List zi).map zr) rfl el45 ze9 rfl rfl (zn rfl (zn rfl zA)) (.cons (za rfl) (.cons (za rfl) .nil)) rfl rfl rfl) st25 ?_;refine yw c (λv421 hv421 c=>ya rfl (λz=>zC rfl rfl rfl (zg (yi gt24 z) (zg (yi qJ z) zw)) (.cons (za rfl) (.cons (za rfl) .nil))) (λz=>(ok19 (hv421 z)).le (.eq (.cons (leV.osl _ _ _) leL.nil))) st26 ?_);refine zb rfl (qx rfl gt22 gt26 rfl (pick_and (λht=>gT ht))) st27 ?_;refine zb rfl (zq rfl gt27 (za rfl)) st0 ?_;refine ze (zj (xr ?_));obtain rfl:=uj c;refine yJ rfl (yy xW yD) (fin_ext (leV.refl _) rfl ?_);exact ⟨rfl,rfl⟩
theorem ok96 {res:Int} (q:∀s v (L:List Blk) (M:List Nat),f1 s=some v->Sp ff1 (af1++[.agg (GE.row s)]++kf1) (h.ext L M) (y5 (.bool v) (h.ext L M))) (a:yj s0 f1=some res):Sp 96 [.sl 9 (s0.map GE.row),.fn (.func ff1) af1 kf1] h (y5 (.int .i64 res) h):=by
 unfold yj at a;refine yg Tryz.func96 rfl (by kernel_rfl) (xH 19 rfl) (λb x=>?_);simp only [zP,AV.low,ud,uX,tT] at b;have j:∀n m,h.blks.length<=n->h.toks.length<=m->zP n m af1=true:=λn m g e=>yx g e _ (by simp [b]);have f:∀n m,h.blks.length<=n->h.toks.length<=m->zP n m kf1=true:=λn m g e=>yx g e _ (by simp [b]);apply R.r;refine ln λc=>?_;replace c:=yz c;apply R.r;refine zU (λ(u:Nat) (t:Unit)=>zK 2 5 (zK 9 10 [(8,.int .i64 (u:Int))])) (λt=>h.ext [] []) a (λ_ _=>by simp only [zK,vi,ug,uh];try rfl) (wk.le LEL.o) ?_;intro u t w a;apply R.r;refine zZ gg a (λA z p i a d=>?_) (λa=>?_)
 ·apply R.r;refine ix (yd i) (R.r ?_);refine zo a (λy l a=>zT rfl (scC rfl) (q _ _ _ _ l) ss (R.r ?_));refine zt gg a (λk a=>?_) (λk a=>?_)
  ·apply R.r;cases a;replace a:=d;apply R.r;cases a;exact fz rfl rfl
  ·apply R.r;cases a;exact ⟨(),p,d,wk.le (by exact (.eq (.eq (.d4 (.drop (.eq (.cons (leV.of_eq (xw (by omega) (by omega))) (.d4 (.d4 (.drop (.drop leL.nil)))))))))))⟩
 ·apply R.r;cases a;exact fz rfl rfl
theorem okR96 {x e:Nat} {res:Int} (f:h.blks.length=x) (j:h.toks.length=e) (t:∀w v (L:List Blk) (M:List Nat),f1 w=some v->Sp ff1 (af1++[.agg (GE.row w)]++kf1) (h.ext L M) (y5 (.bool v) (h.ext L M))) (l:∀n m,h.blks.length<=n->h.toks.length<=m->zP n m af1=true) (g:∀n m,h.blks.length<=n->h.toks.length<=m->zP n m kf1=true) (a:yj s0 f1=some res):Sp 96 [.rsl x e 9 s0.length,.fn (.func ff1) af1 kf1] (h.ext [.row e 9 (s0.map GE.row)] [s0.length]) (y5 (.int .i64 res) (h.ext [.row e 9 (s0.map GE.row)] [s0.length])):=by
 unfold yj at a;subst f j;refine zM Tryz.func96 rfl (by kernel_rfl) (xH 19 rfl) (R.r ?_);refine ln λb=>?_;replace b:=yz b;apply R.r;refine zU (λ(u:Nat) (y:Unit)=>zK 2 5 (zK 9 10 [(8,.int .i64 (u:Int))])) (λy=>h.ext [rwA h 0 9 (s0.map GE.row)] [s0.length]) a (λ_ _=>by simp only [zK,vi,ug,uh];try rfl) (wk.le LEL.o) ?_;intro u y A a;apply R.r;refine zZ gg a (λB C s c a d=>?_) (λa=>?_)
 ·apply R.r;refine zb rfl (e_idxR rfl el95 gg gg (idxRn (yd c) rfl)) ss ?_;refine zb rfl (e_ldR (off:=0) (i:=0) (q:=h.toks.length+0) (z:=(u:Int).toNat) (row:=GE.row) (λ_=>rfl) rfl ty72.choose_spec.1 (by decide) gg rfl rfl (idxR (yd c)).2.2 (z7 (cs':=(GE.row B)) ty72.choose_spec.2 rfl rfl) (za rfl)) ss ?_;refine zo a (λD k a=>zT rfl (scC rfl) (t _ _ _ _ k) ss (R.r ?_));refine zt gg a (λp a=>?_) (λp a=>?_)
  ·apply R.r;cases a;replace a:=d;apply R.r;cases a;refine fr rfl (fin_extR (L:=[]) (M:=[]) rfl rfl (leV.refl _) rfl ?_);exact ⟨rfl,rfl⟩
  ·apply R.r;cases a;exact ⟨(),s,d,wk.le (by exact (.eq (.eq (.d4 (.drop (.eq (.cons (leV.of_eq (xw (by omega) (by omega))) (.d4 (.d4 (.drop (.drop leL.nil)))))))))))⟩
 ·apply R.r;cases a;refine fr rfl (fin_extR (L:=[]) (M:=[]) rfl rfl (leV.refl _) rfl ?_);exact ⟨rfl,rfl⟩
theorem ok97 {b:Int} (a:h.blk i0=some (.cells [.int .u8 b])) (c:treeLeafC1 l0 b=some res):Sp 97 [.agg (GE.row l0),.ptr i0 0] h (y5 (.bool res) h):=by
 unfold treeLeafC1 at c;refine zd Tryz.func97 rfl (by kernel_rfl) (xH 8 rfl) (R.r ?_);refine zb rfl (b_load rfl ty5 gg a (zD rfl) (za rfl)) ss (R.r ?_);cases c;exact fz rfl rfl
theorem ok98 {a:Int} {res:GE}  (b:leafNew a=some res):Sp 98 [.int .u8 a] h (y5 (.agg (GE.row res)) h):=by
 unfold leafNew at b;refine zd Tryz.func98 rfl (by kernel_rfl) (xH 12 rfl) (R.r ?_);refine zt gg b (λc b=>?_) (λc b=>?_)
 ·apply R.r;refine zb rfl (yB (cs':=lit0x) rfl su72 ze72 pl72 zA .nil rfl rfl) ss (R.r ?_);cases b;exact fe rfl rfl (leV.agg (.eq (.eq (.eq (.eq (.eq (.eq (.eq (.cons (leV.osl _ _ _) (.cons (leV.osl _ _ _) leL.nil))))))))) rfl)
 ·apply R.r;refine zb rfl (yB (cs':=[.int .u8 a,.int .i64 (0:Int),.int .u64 (0:Int),.int .u8 (0:Int),.int .u32 (0:Int),.int .u64 (0:Int),.str ([]:zi),.osl none 5 (([]:List GI).map GI.row),.osl none 3 (([]:List GF).map GF.row)]) rfl su72 ze72 pl72 (zn gg zA) (.cons (za rfl) .nil) rfl rfl) ss (R.r ?_);cases b;exact fe rfl rfl (leV.agg (.eq (.eq (.eq (.eq (.eq (.eq (.eq (.cons (leV.osl _ _ _) (.cons (leV.osl _ _ _) leL.nil))))))))) rfl)
theorem ok158 {s0:(List GA)} {f1:(GA->Option Bool)} {res:Int} (s:∀e v (L:List Blk) (M:List Nat),f1 e=some v->Sp ff1 (af1++[.agg [.str e.name,.sl 9 (e.leaves.map GE.row),.sl 3 (e.subs.map GA.row)]]++kf1) (h.ext L M) (y5 (.bool v) (h.ext L M))) (a:xC s0 f1=some res):Sp 158 [.sl 3 (s0.map GA.row),.fn (.func ff1) af1 kf1] h (y5 (.int .i64 res) h):=by
 unfold xC at a;refine yg Tryz.func158 rfl (by kernel_rfl) (xH 19 rfl) (λb x=>?_);simp only [zP,AV.low,ud,uX,tT] at b;have k:∀n m,h.blks.length<=n->h.toks.length<=m->zP n m af1=true:=λn m i f=>yx i f _ (by simp [b]);have g:∀n m,h.blks.length<=n->h.toks.length<=m->zP n m kf1=true:=λn m i f=>yx i f _ (by simp [b]);apply R.r;refine ln λc=>?_;replace c:=yz c;apply R.r;refine zU (λ(u:Nat) (t:Unit)=>zK 2 5 (zK 9 10 [(8,.int .i64 (u:Int))])) (λt=>h.ext [] []) a (λ_ _=>by simp only [zK,vi,ug,uh];try rfl) (wk.le LEL.o) ?_;intro u t w a;apply R.r;refine zZ gg a (λA z q j a d=>?_) (λa=>?_)
 ·apply R.r;refine zb rfl (wb rfl el23 gg gg isl (yd j) (GA.row_eq _)) ss (R.r ?_);refine zo a (λy p a=>zT rfl (scC rfl) (s _ _ _ _ p) ss (R.r ?_));refine zt gg a (λl a=>?_) (λl a=>?_)
  ·apply R.r;cases a;replace a:=d;apply R.r;cases a;exact fz rfl rfl
  ·apply R.r;cases a;exact ⟨(),q,d,wk.le (by exact (.eq (.eq (.d4 (.drop (.eq (.cons (leV.of_eq (xw (by omega) (by omega))) (.d4 (.d4 (.drop (.drop leL.nil)))))))))))⟩
 ·apply R.r;cases a;exact fz rfl rfl
theorem ok159 {a:GA} {c:zi} (b:h.blk i0=some (.cells [.str c])) (d:treeXlinearC1 a c=some res):Sp 159 [.agg [.str a.name,.sl 9 (a.leaves.map GE.row),.sl 3 (a.subs.map GA.row)],.ptr i0 0] h (y5 (.bool res) h):=by
 unfold treeXlinearC1 at d;refine zd Tryz.func159 rfl (by kernel_rfl) (xH 8 rfl) (R.r ?_);refine zb rfl (b_load rfl ty9 gg b (zD rfl) (za rfl)) ss (R.r ?_);cases d;exact fz rfl rfl
theorem ok95 {a:zi} {res:(GA×Bool)}  (b:qk t0 a=some res):Sp 95 [.sl 3 (t0.map GA.row),.str a] h (y5 (.tup [.agg [.str res.1.name,.sl 9 (res.1.leaves.map GE.row),.sl 3 (res.1.subs.map GA.row)],.bool res.2]) h):=by
 unfold qk at b;refine zd Tryz.func95 rfl (by kernel_rfl) (xH 17 rfl) (R.r ?_);refine zb rfl (q8 rfl rfl rfl) ss ?_;refine zo b (λi d b=>cp (ok158 (λ_ v L M f=>ok159 (blk_ext2 (j:=0) rfl) f) d) (R.r ?_));refine zt gg b (λe b=>?_) (λe b=>?_)
 ·apply R.r;refine zb rfl (yB (cs':=[.str ([]:zi),.osl none 9 (([]:List GE).map GE.row),.osl none 3 (([]:List GA).map GA.row)]) rfl su97 ze97 pl97 zA .nil rfl rfl) ss (R.r ?_);cases b;exact fe rfl rfl (leV.tup (.cons (leV.agg (.eq (.cons (leV.osl _ _ _) (.cons (leV.osl _ _ _) leL.nil))) rfl) (.eq leL.nil)))
 ·apply R.r;refine zo b (λg c b=>zb rfl (wb rfl el23 gg gg isl c (GA.row_eq _)) ss (R.r ?_));cases b;exact fz rfl rfl
end Go.Vv
