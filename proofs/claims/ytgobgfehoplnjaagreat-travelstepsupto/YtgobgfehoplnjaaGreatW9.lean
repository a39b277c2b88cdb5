/- Each function that the law reaches computes what its reading says; printed by a program. -/
import Derived.Test.YtgobgfehoplnjaaGreatW8
set_option linter.all false
namespace Go.Vv
open Go Go.Proofs
set_option maxRecDepth 100000
set_option synthInstance.maxSize 100000
set_option synthInstance.maxHeartbeats 1000000
set_option maxHeartbeats 1000000
variable {l0 res:(List GF)} {h:AH} {e1:GJ} {t0:(List GC)}
theorem zvH {b:GF}  (a:oC l0 b=some res):Sp 86 [yy l0,wP b] h (z7 (yy res) h):=by
 unfold oC at a;refine y8 Tryz.func86 53 ?_;refine cB a (λ_=>zrV) λt a=>cF a (λo a=>?_) (λo a=>?_)
 ·refine zO (bs (([]:List GF).map GF.row)) ?_;refine zM a (λm a=>zO (eN m) ?_);exact Z
 ·refine xd (λ(g:(List GF)×Int)=>zk 1 2 (zk 7 46 [(4,.any),(5,dM h 0 5 (g.1.map GF.row)),(6,.int .i64 g.2)])) (λg=>h.ext [.cells (GF.row b)] [(g.1).length]) a (λ_=>UE) (wk.trans (t8 rfl rfl (sx 5) rfl) (wk.le (by exact (.eq (.drop (.drop (.eq (.drop (.cons (g6.of_eq rfl) (.cons (g6.of_eq rfl) (.d16 (.d16 (.d4 (.d4 (.d4 (.drop (.drop fd.nil))))))))))))))))) ?_;intro v g u a p;apply R.r;refine dr [] ?_;refine qm rfl rfl (x9 rfl rfl rfl rfl bf gg vC) ss (R.r ?_);refine zM a (λi a=>vE i (R.r ?_));refine zM a (λl a=>vE l (R.r ?_));refine cH a (λ_=>ztN) λq a=>cF a (λe a=>?_) (λe a=>?_)
  ·refine zd a (λn k a=>ix k (R.r ?_));refine zO (bs (([n]:List GF).map GF.row)) ?_;refine zM a (λd a=>zO (eT d) ?_);exact ZL
  ·cases a;replace a:=p;apply R.r;refine dr [] ?_;refine wo (bs (([b]:List GF).map GF.row)) ?_;refine zM a (λj a=>dH (eT j) ?_);refine zd a (λs c a=>wo (qB rfl bf gg (.inl rfl) (.some gg) .none c) ?_);refine zM a (λf a=>dH (eT f) ?_);exact Z
theorem zxa {l0:(List GA)} {k:GA} {res:(List GA)}  (a:rM l0 k=some res):Sp 87 [za l0,zn k] h (z7 (za res) h):=by
 unfold rM at a;refine y8 Tryz.func87 40 ?_;refine cB a (λ_=>zsY) λq a=>cF a (λm a=>?_) (λm a=>?_)
 ·exact Z
 ·refine xd (λ(e:(List GA)×Int)=>zk 1 2 (zk 7 33 [(4,.any),(5,dM h 0 3 (e.1.map GA.row)),(6,.int .i64 e.2)])) (λe=>h.ext [.cells (GA.row k)] [(e.1).length]) a (λ_=>UE) (wk.trans (t8 rfl rfl (sx 5) rfl) (wk.le (by exact (.eq (.drop (.drop (.eq (.drop (.cons (g6.of_eq rfl) (.cons (g6.of_eq rfl) (.d16 (.d16 (.drop fd.nil))))))))))))) ?_;intro t e s a n;apply R.r;refine dr [] ?_;refine qm rfl rfl (x9 rfl rfl rfl rfl p6 gg vC) ss (R.r ?_);refine zM a (λi a=>vE i (R.r ?_));refine cH a (λ_=>zoF) λo a=>cF a (λd a=>?_) (λd a=>?_)
  ·refine zd a (λl g a=>ix g (R.r ?_));refine zO (bs (([l]:List GA).map GA.row)) ?_;refine zM a (λj a=>zO (eT j) ?_);exact ZL
  ·cases a;replace a:=n;apply R.r;refine dr [] ?_;refine wo (bs (([k]:List GA).map GA.row)) ?_;refine zM a (λb a=>dH (eT b) ?_);refine zd a (λp c a=>wo (qB rfl p6 gg (.inl rfl) (.some gg) .none c) ?_);refine zM a (λf a=>dH (eT f) ?_);exact Z
theorem zw9 {b:(List GA)}  (a:oz l0 b=some res):Sp 88 [yy l0,za b] h (z7 (yy res) h):=by
 unfold oz at a;refine y8 Tryz.func88 29 ?_;refine qe (h0:=wk.trans (t8 rfl rfl (sx 5) rfl) (wk.le (by exact (.eq (.eq (.drop (.drop (.drop (.cons (g6.of_eq rfl) (.cons (g6.of_eq rfl) (.d16 (.d4 (.drop (.drop fd.nil)))))))))))))) (λ(g:Nat) (f:(List GF))=>zk 2 3 (zk 7 22 [(5,dM h 0 5 (f.map GF.row)),(6,.int .i64 (g:Int))])) (λf=>h.ext [] [f.length]) a (λg f j a=>xU λi=>cL a (λm o k e a n=>?_) (λa=>?_))
 ·refine ix (zt e) (R.r ?_);refine cB a (λ_=>zsY) λl a=>cF a (λc a=>?_) (λc a=>?_)
  ·refine ix (zt e) (R.r ?_);refine zO (bs (([m]:List GF).map GF.row)) ?_;refine zM a (λd a=>zO (eT d) ?_);exact ZL
  ·exact ZL
 ·exact Z
theorem zxs {l0:GE} {res:(GE×Int)}  (a:pi l0 e1=some res):Sp 35 [zF l0,wI e1] h (z7 (.fk [zF res.1,.int .i64 res.2]) h):=by
 unfold pi at a;refine y8 Tryz.func35 121 ?_;refine cB a (λ_=>zvI) λy a=>cG a (λ_=>zt0) λA a=>cF a (λn a=>?_) (λn a=>?_)
 ·refine zO sb ?_;exact Z
 ·refine dr [3] ?_;refine cM a (λ_ e _=>ztZ e) λv4 a=>cF a (λg a=>?_) (λg a=>?_)
  ·refine zO sb ?_;exact Z
  ·refine cF a (λm a=>?_) (λm a=>?_)
   ·exact Z
   ·refine cF a (λk a=>?_) (λk a=>?_)
    ·refine cG a (λ_=>ztN) λC a=>cF a (λj a=>?_) (λj a=>?_)
     ·exact Z
     ·exact Z
    ·refine cF a (λd a=>?_) (λd a=>?_)
     ·refine cB a (λ_=>zsY) λv a=>cF a (λf a=>?_) (λf a=>?_)
      ·refine zO sb ?_;refine cB a (λ_=>zvH) λt a=>?_;exact Z
      ·exact Z
     ·refine cF a (λc a=>?_) (λc a=>?_)
      ·refine qe (λ(o:Nat) (l:(List GA))=>zk 0 2 (zk 7 114 [(5,.any),(6,.int .i64 (o:Int))])) (λl=>h.ext [.cells (zC l0 (yy l0.y4) (za l)),.cells (GJ.row e1),.cells wD] []) a (λo l s a=>xU λp=>cL a (λB z u i a x=>?_) (λa=>?_))
       ·refine dr [8] ?_;refine eU (zt i) (R.r ?_);refine cM a (λ_ e _=>zxa e) λw a=>ur fS.out ?_;exact ZL
       ·refine cB a (λ_=>zw9) λv50 a=>?_;exact Z
      ·refine cF a (λb a=>?_) (λb a=>?_)
       ·refine zO sb ?_;refine cB a (λ_=>zvH) λq a=>?_;exact Z
       ·exact Z
theorem ztY (n:Nat):∀{t0:(List GC)} {b:(List zq)} {c:GE} {res:(List GC)} {h:AH} , wZ n t0 b c=some res->Sp 36 [zb t0,yR b,zF c] h (z7 (zb res) h):=by
 induction n with
 | zero=>intro t0 b c res h  a;simp [wZ] at a
 | succ n ih =>
  intro t0 b c res h  a;unfold wZ at a;refine y8 Tryz.func36 133 ?_;refine xd (λ(d:(List GC)×Int)=>zk 2 3 (zk 9 124 [(6,.any),(7,dM h 0 3 (d.1.map GC.row)),(8,.int .i64 d.2)])) (λd=>h.ext [.cells (GE.row c)] [(d.1).length]) a (λ_=>UE) (wk.trans (t8 rfl rfl (sx 7) rfl) (wk.le (by exact (.eq (.eq (.drop (.drop (.drop (.eq (.drop (.cons (g6.of_eq rfl) (.cons (g6.of_eq rfl) (.d16 (.d16 (.d16 (.d16 (.d16 (.d16 (.d16 (.d4 (.d4 (.d4 fd.nil)))))))))))))))))))))) ?_;intro n1 d o1 a hK1;apply R.r;refine dr [] ?_;refine qm rfl rfl (x9 rfl rfl rfl rfl wp gg vC) ss (R.r ?_);refine zM a (λY a=>?_);refine wV rfl rfl (λt=>vX default rfl wp (zN gg t) (zN gg t) oL (Y t) (GC.q8 _)) ss (R.r ?_);refine zM a (λhg20 a=>vE hg20 (R.r ?_));refine cF a (λhc21 a=>?_) (λhc21 a=>?_)
  ·refine zd a (λy22 hy22 a=>zO (yN rfl wp gg gg oL hy22 (GC.q8 _)) ?_);refine zy rfl (xh (es:=([y22]:List GC).map GC.row) rfl wp br rfl rfl cw.o ct.o rfl rfl (by simp only [ld,kb,GC.q8];rfl)) ss ?_;refine zM a (λU a=>zO (eT U) ?_);cases a;exact ⟨((d.1++([y22]:List GC)),(IntKind.wrap .i64 (d.2+(1:Int)))),hK1,wk.le f9.o⟩
  ·cases a;replace a:=hK1;apply R.r;refine zd a (λW V a=>ix V (R.r ?_));refine zy rfl sb ss ?_;refine zy rfl (nG (n:=1) rfl br rfl) ss ?_;refine zy rfl (uE (cs':=[.str W,.gW none 9 (([]:List GE).map GE.row),.gW none 3 (([]:List GC).map GC.row)]) rfl eZ.choose_spec.1 gg gg (zc rfl) rfl rfl rfl rfl rfl) rfl ?_;refine yG (ww ?_);refine zdq (λ(s2:Int×zq×(List GE)×(List GC))=>zk 2 3 (zk 10 123 [(6,.any),(8,.int .i64 s2.1)])) (λs2=>h.ext [.cells (GE.row c),.cells [.str s2.2.1,zH s2.2.2.1,zb s2.2.2.2]] [(d.1).length]) a (λ_=>UE) (λo2 a X=>?_) (λs2 a=>?_)
   ·apply R.r;refine dr [] ?_;refine qm rfl rfl (x9 rfl rfl rfl rfl wp gg vC) ss (R.r ?_);refine zM a (λM a=>?_);refine wV rfl rfl (λt=>vX default rfl wp (zN gg t) (zN gg t) oL (M t) (GC.q8 _)) ss (R.r ?_);refine zM a (λG a=>vE G (R.r ?_));refine cF a (λN a=>?_) (λN a=>?_)
    ·refine zd a (λe D a=>zO (yN rfl wp gg gg oL D (GC.q8 _)) ?_);refine tC ?_;cases a;exact ⟨((IntKind.wrap .i64 (d.2+(1:Int))),e.name,e.leaves,e.w5),X,wk.le f9.o⟩
    ·refine tC ?_;cases a;exact ⟨(d.2,W,([]:List GE),([]:List GC)),X,wk.trans (zfw (j:=1) rfl (by exact (.eq (.cons (g6.gW _ _ _) (.cons (g6.gW _ _ _) fd.nil)))) rfl rfl) (wk.le (by exact (.eq (.eq (.drop (.drop (.drop (.eq (.drop (.eq (.cons (g6.of_eq rfl) (.eq (.d16 (.d16 (.d16 (.d16 (.d16 (.d16 (.d16 (.d4 (.d4 (.drop (.drop (.drop fd.nil))))))))))))))))))))))))⟩
   ·apply R.r;refine xU λhn107=>tB gg a (λA a=>?_) (λA a=>?_)
    ·refine dr [5] ?_;refine zd a (λm109 H a=>wo (qB rfl bI gg (.inl rfl) (.some rfl) .none H) ?_);refine zd a (λi v a=>aP (by rintro _ ⟨B2,T2,rfl,hk2⟩;exact ih v) ?_);refine ur (uE (cs':=[.str s2.2.1,zH s2.2.2.1,zb i]) rfl zq5 gg gg (zc rfl) rfl rfl rfl rfl rfl) ?_;refine dr [] ?_;refine yn rfl rfl (xh (es:=([(GC.mk s2.2.1 s2.2.2.1 i)]:List GC).map GC.row) rfl wp br rfl rfl cw.o ct.o rfl rfl (by simp only [ld,kb,GC.q8];rfl)) ss ?_;refine zM a (λB a=>dH (eT B) ?_);refine zd a (λm112 u a=>yn rfl rfl (qB rfl wp gg (.inl rfl) (.some gg) .none u) ss ?_);refine zM a (λP a=>dH (eT P) ?_);exact Z
    ·apply R.r;refine xd (λ(f:(List GE)×Int)=>zk 1 4 (zk 12 121 [(6,.any),(10,dM h 1 9 (f.1.map GE.row)),(11,.int .i64 f.2)])) (λf=>h.ext [.cells (GE.row c),.cells [.str s2.2.1,zH s2.2.2.1,zb s2.2.2.2]] [(d.1).length,(f.1).length]) a (λ_=>UE) (wk.trans (t8 rfl rfl (sx 10) rfl) (wk.le (by exact (.eq (.d4 (.eq (.drop (.eq (.eq (.eq (.cons (g6.of_eq rfl) (.cons (g6.of_eq rfl) (.d16 (.d16 (.d16 (.d16 (.d16 (.d16 (.d16 (.d4 (.d4 (.drop fd.nil)))))))))))))))))))))) ?_;intro n3 f o3 a T;apply R.r;refine dr [] ?_;refine qm rfl rfl (x9 rfl rfl rfl rfl bJ gg vC) ss (R.r ?_);refine zM a (λs a=>vE s (R.r ?_));refine cF a (λw a=>?_) (λw a=>?_)
     ·refine zd a (λg z a=>ix z (R.r ?_));refine zy rfl (bs (([g]:List GE).map GE.row)) ss ?_;refine zM a (λO a=>zO (eT O) ?_);cases a;exact ⟨((f.1++([g]:List GE)),(IntKind.wrap .i64 (f.2+(1:Int)))),T,wk.le f9.o⟩
     ·cases a;replace a:=T;apply R.r;refine dr [] ?_;refine qm rfl rfl (x9 rfl rfl rfl rfl bJ gg vC) ss (R.r ?_);refine zM a (λL a=>vE L (R.r ?_));refine cF a (λy a=>?_) (λy a=>?_)
      ·refine dr [] ?_;refine yn rfl rfl (bs (([c]:List GE).map GE.row)) ss ?_;refine zM a (λQ a=>dH (eT Q) ?_);refine zd a (λk C a=>yn rfl rfl (qB rfl bJ gg (.inl rfl) (.some gg) .none C) ss ?_);refine zM a (λI a=>dH (eT I) ?_);refine ur (uE (cs':=[.str s2.2.1,dM h 1 9 (((f.1++([c]:List GE))++k).map GE.row),zb s2.2.2.2]) rfl ztj gg gg (zc rfl) rfl rfl rfl rfl rfl) ?_;refine dr [] ?_;refine yn rfl rfl (xh (es:=([(GC.mk s2.2.1 ((f.1++([c]:List GE))++k) s2.2.2.2)]:List GC).map GC.row) rfl wp br rfl rfl cw.o ct.o rfl rfl (by simp only [ld,kb,GC.q8];rfl)) ss ?_;refine zM a (λE a=>dH (eT E) ?_);refine zd a (λm160 x a=>yn rfl rfl (qB rfl wp gg (.inl rfl) (.some gg) .none x) ss ?_);refine zM a (λJ a=>dH (eT J) ?_);exact Z
      ·refine dr [] ?_;refine yn rfl rfl (bs (([c]:List GE).map GE.row)) ss ?_;refine zM a (λp a=>dH (eT p) ?_);refine zd a (λl K a=>yn rfl rfl (qB rfl bJ gg (.inl rfl) (.some gg) .none K) ss ?_);refine zM a (λm a=>dH (eT m) ?_);refine ur (uE (cs':=[.str s2.2.1,dM h 1 9 (((f.1++([c]:List GE))++l).map GE.row),zb s2.2.2.2]) rfl ztj gg gg (zc rfl) rfl rfl rfl rfl rfl) ?_;refine dr [] ?_;refine yn rfl rfl (xh (es:=([(GC.mk s2.2.1 ((f.1++([c]:List GE))++l) s2.2.2.2)]:List GC).map GC.row) rfl wp br rfl rfl cw.o ct.o rfl rfl (by simp only [ld,kb,GC.q8];rfl)) ss ?_;refine zM a (λS a=>dH (eT S) ?_);refine zd a (λm166 F a=>yn rfl rfl (qB rfl wp gg (.inl rfl) (.some gg) .none F) ss ?_);refine zM a (λq a=>dH (eT q) ?_);exact Z
theorem zxr {b:(List zq)} {c:GE} {res:(List GC)}  (a:zez t0 b c=some res):Sp 36 [zb t0,yR b,zF c] h (z7 (zb res) h):=by
 obtain ⟨n,d⟩:=rG a;exact ztY n d
theorem zxx {res:((List GC)×Int)}  (a:vY t0 e1=some res):Sp 10 [zb t0,wI e1] h (z7 (.fk [zb res.1,.int .i64 res.2]) h):=by
 unfold vY at a;refine y8 Tryz.func10 45 ?_;refine cB a (λ_=>zvN) λk a=>cG a (λ_=>zt0) λi a=>cF a (λf a=>?_) (λf a=>?_)
 ·exact Z
 ·refine dk [3,6,7,8] [(3,[(0,.cells (GJ.row e1))]),(6,[(0,.cells (GJ.row e1))])] ?_;refine yM rfl rfl (by rintro _ ⟨B2,T2,rfl,b⟩;exact xM rfl zvw gg (qx b) (zB rfl) (zc rfl)) ss (R.r ?_);refine yM rfl rfl (by rintro _ ⟨B2,T2,rfl,b⟩;exact xM rfl ty5 gg (qx b) (zB rfl) (zc rfl)) ss ?_;refine zd a (λv4 d a=>yH rfl rfl (λ_=>sc rfl) (by rintro _ ⟨B2,T2,rfl,b⟩;exact ztZ d) ss ?_);refine cM a (λ_ e _=>zvR e) λv5 a=>ur fS.out ?_;refine ur fS.out ?_;refine cB a (λ_=>zxs) λj a=>cF a (λc a=>?_) (λc a=>?_)
  ·exact Z
  ·refine cB a (λ_=>zxr) λg a=>?_;exact Z
theorem zxq {a0:GE} {f:GE} {res:Bool}  (a:ov a0 f=some res):Sp 37 [zF a0,zF f] h (z7 (.bool res) h):=by
 unfold ov at a;refine y8 Tryz.func37 94 ?_;refine vN rfl (λm=>wv rfl (zN gg m) (zN gg m) (pG p5 rfl)) ss (R.r ?_);refine dm λu=>R.r ?_;refine dm λz=>R.r ?_;refine dm λy=>R.r ?_;refine dm λs=>R.r ?_;refine cF a (λi a=>?_) (λi a=>?_)
 ·exact Z
 ·refine qe (λ(q:Nat) (o:Unit)=>zk 0 2 (zk 6 88 [(4,.any),(5,.int .i64 (q:Int))])) (λo=>h.ext [.cells (GE.row a0),.cells (GE.row f)] []) a (λq o t a=>xU λp=>cL a (λF D A k a l=>?_) (λa=>?_))
  ·refine dr [] ?_;refine eU (zt k) (R.r ?_);refine zd a (λv b a=>eU b (R.r ?_));refine wo (wv rfl gg gg (pG zrc rfl)) ?_;refine cF a (λd a=>?_) (λd a=>?_)
   ·cases a;replace a:=l;apply R.r;exact Z
   ·exact ZL
  ·refine qe (λ(n2:Nat) (s2:Unit)=>zk 0 2 (zk 4 2 (zk 7 87 [(6,.int .i64 (n2:Int))]))) (λs2=>h.ext [.cells (GE.row a0),.cells (GE.row f)] []) a (λn2 s2 x a=>xU λn=>cL a (λE C w g a j=>?_) (λa=>?_))
   ·refine dr [] ?_;refine eU (zt g) (R.r ?_);refine zd a (λB e a=>eU e (R.r ?_));refine wo (wv rfl gg gg (pG p5 rfl)) ?_;refine cF a (λc a=>?_) (λc a=>?_)
    ·cases a;replace a:=j;apply R.r;exact Z
    ·exact ZL
   ·exact Z
theorem zuI (n:Nat):∀{a0:(List GC)} {s:(List GC)} {res:Bool} {h:AH} , uI n a0 s=some res->Sp 12 [zb a0,zb s] h (z7 (.bool res) h):=by
 induction n with
 | zero=>intro a0 s res h  a;simp [uI] at a
 | succ n ih =>
  intro a0 s res h  a;unfold uI at a;refine y8 Tryz.func12 86 ?_;refine xU λB=>xU λG=>cF a (λv a=>?_) (λv a=>?_)
  ·exact Z
  ·refine qe (λ(z:Nat) (y:Unit)=>zk 2 3 (zk 6 80 [(5,.int .i64 (z:Int))])) (λy=>h.ext [] []) a (λz y A a=>xU λw=>cL a (λO M I c a q=>?_) (λa=>?_))
   ·refine dr [] ?_;refine wo (yN rfl wp gg gg oL (zt c) (GC.q8 _)) ?_;refine zd a (λJ o a=>wo (yN rfl wp gg gg oL o (GC.q8 _)) ?_);refine zM a (λk a=>?_);refine wV rfl rfl (λb=>vX default rfl wp (zN gg b) (zN gg b) oL (k b) (GC.q8 _)) ss (R.r ?_);refine qv rfl rfl (λb=>x9 rfl rfl rfl rfl bJ (zN gg b) vC) ss (R.r ?_);refine zM a (λp a=>?_);refine wV rfl rfl (λb=>vX default rfl wp (zN gg b) (zN gg b) oL (p b) (GC.q8 _)) ss (R.r ?_);refine qv rfl rfl (λb=>x9 rfl rfl rfl rfl bJ (zN gg b) vC) ss (R.r ?_);refine zM a (λm a=>?_);refine wV rfl rfl (λb=>vX default rfl wp (zN gg b) (zN gg b) oL (m b) (GC.q8 _)) ss (R.r ?_);refine zM a (λl a=>?_);refine wV rfl rfl (λb=>vX default rfl wp (zN gg b) (zN gg b) oL (l b) (GC.q8 _)) ss (R.r ?_);refine qc a (λE d a=>?_);refine uK rfl rfl sc (λb=>ih (d b)) ss (R.r ?_);refine cF a (λj a=>?_) (λj a=>?_)
    ·cases a;replace a:=q;apply R.r;exact Z
    ·refine qe (λ(n2:Nat) (s2:Unit)=>zk 2 3 (zk 7 79 [(6,.int .i64 (n2:Int))])) (λs2=>h.ext [] []) a (λn2 s2 D a=>zO (yN rfl wp gg gg oL (zt c) (GC.q8 _)) ?_);refine xU λx=>cL a (λN L C t a u=>?_) (λa=>?_)
     ·refine dr [16] ?_;refine wo (yN rfl wp gg gg oL (zt c) (GC.q8 _)) ?_;refine eU (zt t) (R.r ?_);refine zd a (λK i a=>wo (yN rfl wp gg gg oL i (GC.q8 _)) ?_);refine zd a (λH f a=>eU f (R.r ?_));refine cM a (λ_ e _=>zxq e) λF a=>cF a (λg a=>?_) (λg a=>?_)
      ·cases a;replace a:=u;apply R.r;cases a;replace a:=q;apply R.r;exact Z
      ·exact ZL
     ·exact ZL
   ·exact Z
theorem zvS {a0:(List GC)} {b:(List GC)} {res:Bool}  (a:uc a0 b=some res):Sp 12 [zb a0,zb b] h (z7 (.bool res) h):=by
 obtain ⟨n,c⟩:=rG a;exact zuI n c
end Go.Vv
