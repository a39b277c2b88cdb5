/- Each function that the law reaches computes what its reading says; printed by a program. -/
import Derived.Test.YtehifcdoglcidaaGreatW2
namespace Go.Vv
open Go Go.Proofs
set_option maxRecDepth 100000
set_option synthInstance.maxSize 100000
set_option synthInstance.maxHeartbeats 1000000
set_option maxHeartbeats 1000000
set_option linter.unusedSimpArgs false
set_option linter.unusedVariables false
theorem ok7  {res:Bool} {h:AH}  (a:wT  = some res):Spec Tryz.prog 7 [] h (yr (.bool res) h):=by
 unfold wT at a;refine za Tryz.func7 rfl (by kernel_rfl) (yE 68 rfl) (R.r ?_);refine zd a (λb g a=>xw rfl (wG rfl rfl gg (zC rfl yD) (.cons (zb rfl) .nil)) (ok16 g) ss ?_);refine zc rfl (zU (cs':=[.int .u64 (0:Int),.int .u8 b.actor.rep,.int .u32 b.actor.inc,.int .u64 b.seq,.str ([]:zn)]) rfl su58 ze58 pl58 (zf gg zj) (.cons (zb rfl) .nil) rfl rfl) ss (R.r ?_);refine zd a (λc i a=>xw rfl (wG rfl rfl gg (zC rfl yD) (.cons (zb rfl) .nil)) (ok16 i) ss ?_);refine zc rfl (zU (cs':=[.int .u64 (0:Int),.int .u8 c.actor.rep,.int .u32 c.actor.inc,.int .u64 c.seq,.str ([]:zn)]) rfl su58 ze58 pl58 (zf gg zj) (.cons (zb rfl) .nil) rfl rfl) ss ?_;refine zc rfl (zt (es:=([(GItem.mk (0:Int) b ([]:zn)),(GItem.mk (0:Int) c ([]:zn))]:List GItem).map GItem.row) rfl el59 ze58 rfl rfl (zf gg (zf gg zj)) (.cons (zb rfl) (.cons (zb rfl) .nil)) rfl rfl rfl) ss (R.r ?_);refine zd a (λv3 e a=>xw rfl (wG rfl rfl gg (zC rfl yD) (.cons (zb rfl) .nil)) (ok16 e) ss ?_);refine zc rfl (zt (es:=([v3]:List GDot).map GDot.row) rfl el32 ze30 rfl rfl (zf gg zj) (.cons (zb rfl) .nil) rfl rfl rfl) ss ?_;refine zc rfl (zU (cs':=[.int .u8 (3:Int),.int .i64 (0:Int),.int .u64 (0:Int),.int .u8 (0:Int),.int .u32 (0:Int),.int .u64 (0:Int),.str ([]:zn),.osl none 5 (([(GItem.mk (0:Int) b ([]:zn)),(GItem.mk (0:Int) c ([]:zn))]:List GItem).map GItem.row),.osl none 3 (([v3]:List GDot).map GDot.row)]) rfl su61 ze61 pl61 (zf rfl (zf gg (zf gg zj))) (.cons (zb rfl) (.cons (zb rfl) (.cons (zb rfl) .nil))) rfl rfl) ss (R.r ?_);refine zc rfl (zt (es:=([(GLeaf.mk (3:Int) (0:Int) (0:Int) (GDot.mk (GActor.mk (0:Int) (0:Int)) (0:Int)) ([]:zn) ([(GItem.mk (0:Int) b ([]:zn)),(GItem.mk (0:Int) c ([]:zn))]:List GItem) ([v3]:List GDot))]:List GLeaf).map GLeaf.row) rfl el63 ze61 rfl rfl (zf gg zj) (.cons (zb rfl) .nil) rfl rfl rfl) ss ?_;refine zc rfl (zU (cs':=[.str ([98]:zn),.osl none 9 (([(GLeaf.mk (3:Int) (0:Int) (0:Int) (GDot.mk (GActor.mk (0:Int) (0:Int)) (0:Int)) ([]:zn) ([(GItem.mk (0:Int) b ([]:zn)),(GItem.mk (0:Int) c ([]:zn))]:List GItem) ([v3]:List GDot))]:List GLeaf).map GLeaf.row),.osl none 3 (([]:List GNode).map GNode.row)]) rfl su65 ze65 pl65 (zf rfl (zf gg zj)) (.cons (zb rfl) (.cons (zb rfl) .nil)) rfl rfl) ss ?_;refine zc rfl (zt (es:=([(GNode.mk ([98]:zn) ([(GLeaf.mk (3:Int) (0:Int) (0:Int) (GDot.mk (GActor.mk (0:Int) (0:Int)) (0:Int)) ([]:zn) ([(GItem.mk (0:Int) b ([]:zn)),(GItem.mk (0:Int) c ([]:zn))]:List GItem) ([v3]:List GDot))]:List GLeaf) ([]:List GNode))]:List GNode).map GNode.row) rfl el24 ze65 rfl rfl (zf gg zj) (.cons (zb rfl) .nil) rfl rfl (by simp only [List.map_cons,List.map_nil,GNode.row_eq];rfl)) ss ?_;refine zc rfl (zU (cs':=[.str ([97]:zn),.osl none 9 (([]:List GLeaf).map GLeaf.row),.osl none 3 (([(GNode.mk ([98]:zn) ([(GLeaf.mk (3:Int) (0:Int) (0:Int) (GDot.mk (GActor.mk (0:Int) (0:Int)) (0:Int)) ([]:zn) ([(GItem.mk (0:Int) b ([]:zn)),(GItem.mk (0:Int) c ([]:zn))]:List GItem) ([v3]:List GDot))]:List GLeaf) ([]:List GNode))]:List GNode).map GNode.row)]) rfl su65 ze65 pl65 (zf rfl (zf gg zj)) (.cons (zb rfl) (.cons (zb rfl) .nil)) rfl rfl) ss ?_;refine zc rfl (zt (es:=([(GNode.mk ([97]:zn) ([]:List GLeaf) ([(GNode.mk ([98]:zn) ([(GLeaf.mk (3:Int) (0:Int) (0:Int) (GDot.mk (GActor.mk (0:Int) (0:Int)) (0:Int)) ([]:zn) ([(GItem.mk (0:Int) b ([]:zn)),(GItem.mk (0:Int) c ([]:zn))]:List GItem) ([v3]:List GDot))]:List GLeaf) ([]:List GNode))]:List GNode))]:List GNode).map GNode.row) rfl el24 ze65 rfl rfl (zf gg zj) (.cons (zb rfl) .nil) rfl rfl (by simp only [List.map_cons,List.map_nil,GNode.row_eq];rfl)) ss ?_;refine zd a (λv4 j a=>cp ((ok17 j).le (.cons (leV.osl _ _ _) leL.nil)) ?_);refine R.r ?_;refine lng λn=>R.r ?_;refine yn a (λk a=>gix k ?_);refine R.r ?_;refine yn a (λm a=>gix m ?_);refine R.r ?_;refine yn a (λl a=>gix l ?_);refine R.r ?_;refine yn a (λf a=>gix f ?_);refine R.r ?_;refine yn a (λd a=>gix d ?_);refine R.r ?_;cases a;exact fz rfl rfl
theorem ok98 {b:GOp} {res:Bool} {h:AH}  (a:opXadds b=some res):Spec Tryz.prog 98 [.agg (GOp.row b)] h (yr (.bool res) h):=by
 unfold opXadds at a;refine za Tryz.func98 rfl (by kernel_rfl) (yE 22 rfl) (R.r ?_);refine lng λc=>R.r ?_;cases a;exact fz rfl rfl
theorem ok99 {b:GOp} {res:Bool} {h:AH}  (a:opXplain b=some res):Spec Tryz.prog 99 [.agg (GOp.row b)] h (yr (.bool res) h):=by
 unfold opXplain at a;refine za Tryz.func99 rfl (by kernel_rfl) (yE 18 rfl) (R.r ?_);refine lng λd=>R.r ?_;refine lng λc=>R.r ?_;cases a;exact fz rfl rfl
theorem ok100 {l:GOp} {res:Bool} {h:AH}  (a:opXdrops l=some res):Spec Tryz.prog 100 [.agg (GOp.row l)] h (yr (.bool res) h):=by
 unfold opXdrops at a;refine za Tryz.func100 rfl (by kernel_rfl) (yE 47 rfl) (R.r ?_);refine lng λt=>R.r ?_;refine lng λs=>R.r ?_;refine ze gg a (λi a=>?_) (λi a=>?_)
 ·refine R.r ?_;cases a;exact fz rfl rfl
 ·refine R.r ?_;refine ln λd=>?_;replace d:=yl d;refine R.r ?_;refine zz (λ(m:Nat) (n:Unit)=>zG [0,2,3,4,5,6,7,8,9,10,11,12,13,14,15,16,17,18,19,20,24,25,26,27,28,29,30,31,32,33,34,35,36,37,38,39,40,41,42,43,44,45,46] [(23,.int .i64 (m:Int))]) (λn=>h.ext [.cells (GOp.row l)] []) a (λ_ _=>by simp only [zG,wJ,List.set_cons_succ,List.set_cons_zero];try rfl) (wk.le LEL.o) ?_;intro m n q a;refine R.r ?_;refine zP gg a (λy x k j a e=>?_) (λa=>?_)
  ·refine R.r ?_;refine ix (zI j) (R.r ?_);refine zu [1] [] trivial mixed (by kernel_rfl) (R.r ?_);refine zd a (λw c a=>zO rfl rfl (λ_=>sc rfl) (by rintro _ ⟨B2,T2,rfl,u⟩;exact ok37 c) ss ?_);refine R.r ?_;refine yn a (λg a=>dgix g ?_);refine R.r ?_;refine zX a (λp f a=>yW rfl (aG_gv rfl rfl rfl) sc (λv=>ok109 (f v)) ss ?_);refine R.r ?_;refine ze gg a (λb a=>?_) (λb a=>?_)
   ·refine R.r ?_;cases a;replace a:=e;refine R.r ?_;cases a;exact fz rfl rfl
   ·refine R.r ?_;cases a;exact ⟨(),k,e,wk.trans (wk.le (by exact (.drop (.eq (.d16 (.drop (.drop (.drop (.eq (.eq (.cons (leV.of_eq (y8 (by omega) (by omega))) (.d16 (.d4 (.drop (.drop (.drop leL.nil)))))))))))))))) (yj (by simp [zw,AV.low]) rfl rfl (by simp [Blk.low,zw,AV.low]))⟩
  ·refine R.r ?_;cases a;exact fz rfl rfl
theorem ok61 {k0:Int} {res:(GOpKind×Bool)} {h:AH}  (a:opXof k0=some res):Spec Tryz.prog 61 [.int .u8 k0] h (yr (.tup [.agg (GOpKind.row res.1),.bool res.2]) h):=by
 unfold opXof at a;refine za Tryz.func61 rfl (by kernel_rfl) (yE 21 rfl) (R.r ?_);refine zc rfl (zU (cs':=[.int .u8 (1:Int),.fn (.func 98) [] []]) rfl su108 ze108 pl108 (zf rfl (zf rfl zj)) (.cons (zb rfl) (.cons (zb rfl) .nil)) rfl rfl) ss ?_;refine zc rfl (zU (cs':=[.int .u8 (2:Int),.fn (.func 99) [] []]) rfl su108 ze108 pl108 (zf rfl (zf rfl zj)) (.cons (zb rfl) (.cons (zb rfl) .nil)) rfl rfl) ss ?_;refine zc rfl (zU (cs':=[.int .u8 (3:Int),.fn (.func 99) [] []]) rfl su108 ze108 pl108 (zf rfl (zf rfl zj)) (.cons (zb rfl) (.cons (zb rfl) .nil)) rfl rfl) ss ?_;refine zc rfl (zU (cs':=[.int .u8 (3:Int),.fn (.func 100) [] []]) rfl su108 ze108 pl108 (zf rfl (zf rfl zj)) (.cons (zb rfl) (.cons (zb rfl) .nil)) rfl rfl) ss ?_;refine zc rfl (zU (cs':=[.int .u8 (4:Int),.fn (.func 99) [] []]) rfl su108 ze108 pl108 (zf rfl (zf rfl zj)) (.cons (zb rfl) (.cons (zb rfl) .nil)) rfl rfl) ss ?_;refine zc rfl (s_buildArr (cs':=[.int .u8 (0:Int),.nilf,.int .u8 (1:Int),.fn (.func 98) [] [],.int .u8 (2:Int),.fn (.func 99) [] [],.int .u8 (3:Int),.fn (.func 99) [] [],.int .u8 (3:Int),.fn (.func 100) [] [],.int .u8 (4:Int),.fn (.func 99) [] []]) rfl ty144.u ze144 ty108.choose_spec.1 (zf gg (zf gg (zf gg (zf gg (zf gg zj))))) (.cons (zb rfl) (.cons (zb rfl) (.cons (zb rfl) (.cons (zb rfl) (.cons (zb rfl) .nil))))) rfl rfl) ss (R.r ?_);refine ze gg a (λd a=>?_) (λd a=>?_)
 ·refine R.r ?_;refine zc rfl (zU (cs':=[.int .u8 (0:Int),.nilf]) rfl su108 ze108 pl108 zj .nil rfl rfl) ss (R.r ?_);cases a;exact fz rfl rfl
 ·refine R.r ?_;refine zd a (λe c a=>zc rfl (s_idxArr rfl ty144 ty108.choose_spec.1 gg gg rfl c) ss ?_);refine zc rfl (xn rfl ty108.choose_spec.1 gg rfl ((congrArg (λb=>ldC b _ _ _) ty108.choose_spec.2).trans (ldC_arr (row:=GOpKind.row) (L:=([(GOpKind.mk (0:Int) 0),(GOpKind.mk (1:Int) 1),(GOpKind.mk (2:Int) 2),(GOpKind.mk (3:Int) 2),(GOpKind.mk (3:Int) 3),(GOpKind.mk (4:Int) 2)]:List GOpKind)) (λ_=>rfl) c rfl)) (zb rfl)) ss (R.r ?_);cases a;refine fr rfl (xQ (leV.refl _) (by simp [AV.low,zw,fvlOp]) ?_);exact ⟨rfl,rfl⟩
theorem ok131 {A:(List zn)} {x:(zn->Option Bool)} {e:FuncId} {d c:List AV} {res:Int} {h:AH} (q:∀w v (L:List Blk) (M:List Nat),x w=some v->Spec Tryz.prog e (d++[.str w]++c) (h.ext L M) (yr (.bool v) (h.ext L M))) (a:xN A x=some res):Spec Tryz.prog 131 [.sl 1 (A.map yG),.fn (.func e) d c] h (yr (.int .i64 res) h):=by
 unfold xN at a;refine zF Tryz.func131 rfl (by kernel_rfl) (yE 19 rfl) (λb C=>?_);simp only [zw,AV.low,Bool.and_eq_true,Bool.true_and,and_true] at b;have s:∀n m,h.blks.length<=n->h.toks.length<=m->zw n m d=true:=λn m u t=>zT u t _ (by simp [b]);have i:∀n m,h.blks.length<=n->h.toks.length<=m->zw n m c=true:=λn m u t=>zT u t _ (by simp [b]);refine R.r ?_;refine ln λf=>?_;replace f:=yl f;refine R.r ?_;refine zz (λ(y:Nat) (z:Unit)=>zG [2,3,4,5,6,9,10,11,12,13,14,15,16,17,18] [(8,.int .i64 (y:Int))]) (λz=>h.ext [] []) a (λ_ _=>by simp only [zG,wJ,List.set_cons_succ,List.set_cons_zero];try rfl) (wk.le LEL.o) ?_;intro y z B a;refine R.r ?_;refine zP gg a (λE D l j a g=>?_) (λa=>?_)
 ·refine R.r ?_;refine ix (zI j) (R.r ?_);refine zd a (λF p a=>xw rfl (scC rfl) (q _ _ _ _ p) ss ?_);refine R.r ?_;refine ze gg a (λk a=>?_) (λk a=>?_)
  ·refine R.r ?_;cases a;replace a:=g;refine R.r ?_;cases a;exact fz rfl rfl
  ·refine R.r ?_;cases a;exact ⟨(),l,g,wk.le (by exact (.eq (.eq (.d4 (.drop (.eq (.cons (leV.of_eq (y8 (by omega) (by omega))) (.d4 (.d4 (.drop (.drop leL.nil)))))))))))⟩
 ·refine R.r ?_;cases a;exact fz rfl rfl
theorem ok101 {q:(List zn)} {p:(zn->Option Bool)} {d:FuncId} {c b:List AV} {res:Bool} {h:AH} (j:∀e v (L:List Blk) (M:List Nat),p e=some v->Spec Tryz.prog d (c++[.str e]++b) (h.ext L M) (yr (.bool v) (h.ext L M))) (f:yv q p=some res):Spec Tryz.prog 101 [.sl 1 (q.map yG),.fn (.func d) c b] h (yr (.bool res) h):=by
 unfold yv at f;refine zF Tryz.func101 rfl (by kernel_rfl) (yE 9 rfl) (λa t=>?_);simp only [zw,AV.low,Bool.and_eq_true,Bool.true_and,and_true] at a;have k:∀n m,h.blks.length<=n->h.toks.length<=m->zw n m c=true:=λn m o l=>zT o l _ (by simp [a]);have g:∀n m,h.blks.length<=n->h.toks.length<=m->zw n m b=true:=λn m o l=>zT o l _ (by simp [a]);refine R.r ?_;refine zd f (λu i f=>cp (ok131 (λe v L M s=>by rw [yM];exact j e v _ _ s) i) ?_);refine R.r ?_;cases f;exact fz rfl rfl
theorem ok102 {c:zn} {res:Bool} {h:AH}  (a:opMayPathC1 c=some res):Spec Tryz.prog 102 [.str c] h (yr (.bool res) h):=by
 unfold opMayPathC1 at a;refine za Tryz.func102 rfl (by kernel_rfl) (yE 6 rfl) (R.r ?_);refine zd a (λd b a=>cp (ok14 b) ?_);refine R.r ?_;cases a;exact fz rfl rfl
theorem ok62 {d:(List zn)} {res:Bool} {h:AH}  (b:qA d=some res):Spec Tryz.prog 62 [.sl 1 (d.map yG)] h (yr (.bool res) h):=by
 unfold qA at b;refine za Tryz.func62 rfl (by kernel_rfl) (yE 16 rfl) (R.r ?_);refine ln λa=>?_;replace a:=yl a;refine R.r ?_;refine lng λg=>R.r ?_;refine zX b (λv3 c b=>zM rfl sc (λe=>ok101 (λ_ v L M f=>ok102  f) (c e)) ss ?_);refine R.r ?_;cases b;exact fz rfl rfl
theorem fnOpok {c:Nat} {a:GOp} {v:Bool} (h:callOp c a=some v):fvOp c=.fn (.func (fnOp c)) [] []:=by
  unfold callOp at h;split at h <;> first | rfl | cases h
theorem okfvOp {c:Nat} {b:GOp} {res:Bool} {h:AH} (a:callOp c b=some res):Spec Tryz.prog (fnOp c) [.agg (GOp.row b)] h (yr (.bool res) h):=by
 unfold callOp at a;split at a
 ·exact ok98 a
 ·exact ok99 a
 ·exact ok100 a
 ·cases a
theorem ok38 {f:GOp} {res:Bool} {h:AH}  (b:opMay f=some res):Spec Tryz.prog 38 [.agg (GOp.row f)] h (yr (.bool res) h):=by
 unfold opMay at b;refine za Tryz.func38 rfl (by kernel_rfl) (yE 23 rfl) (R.r ?_);refine zd b (λg d b=>cp (ok61 d) ?_);refine R.r ?_;refine zX b (λi e b=>zM rfl sc (λa=>ok62 (e a)) ss ?_);refine R.r ?_;refine ops_gv rfl (λa=>xn rfl ty85 (yq gg a) rfl (yh rfl) (fvtOp _ _ _)) ss (R.r ?_);refine zX b (λv3 c b=>zM rfl (λa=>wG rfl rfl (evo_eq (yq gg a) (fnOpok (c a))) (zC (yq gg a) yD) (.cons (zb rfl) .nil)) (λa=>okfvOp (c a)) ss ?_);refine R.r ?_;cases b;exact fz rfl rfl
theorem ok19 {d:GEvent} {res:Bool} {h:AH}  (a:wP d=some res):Spec Tryz.prog 19 [.agg (GEvent.row d)] h (yr (.bool res) h):=by
 unfold wP at a;refine za Tryz.func19 rfl (by kernel_rfl) (yE 21 rfl) (R.r ?_);refine zd a (λf b a=>cp (ok37 b) ?_);refine R.r ?_;refine zX a (λg c a=>zM rfl sc (λe=>ok38 (c e)) ss ?_);refine R.r ?_;cases a;exact fz rfl rfl
theorem ok64 {A:(List GLeaf)} {x:(GLeaf->Option Bool)} {e:FuncId} {d c:List AV} {res:Int} {h:AH} (q:∀w v (L:List Blk) (M:List Nat),x w=some v->Spec Tryz.prog e (d++[.agg (GLeaf.row w)]++c) (h.ext L M) (yr (.bool v) (h.ext L M))) (a:yf A x=some res):Spec Tryz.prog 64 [.sl 9 (A.map GLeaf.row),.fn (.func e) d c] h (yr (.int .i64 res) h):=by
 unfold yf at a;refine zF Tryz.func64 rfl (by kernel_rfl) (yE 19 rfl) (λb C=>?_);simp only [zw,AV.low,Bool.and_eq_true,Bool.true_and,and_true] at b;have s:∀n m,h.blks.length<=n->h.toks.length<=m->zw n m d=true:=λn m u t=>zT u t _ (by simp [b]);have i:∀n m,h.blks.length<=n->h.toks.length<=m->zw n m c=true:=λn m u t=>zT u t _ (by simp [b]);refine R.r ?_;refine ln λf=>?_;replace f:=yl f;refine R.r ?_;refine zz (λ(y:Nat) (z:Unit)=>zG [2,3,4,5,6,9,10,11,12,13,14,15,16,17,18] [(8,.int .i64 (y:Int))]) (λz=>h.ext [] []) a (λ_ _=>by simp only [zG,wJ,List.set_cons_succ,List.set_cons_zero];try rfl) (wk.le LEL.o) ?_;intro y z B a;refine R.r ?_;refine zP gg a (λE D l j a g=>?_) (λa=>?_)
 ·refine R.r ?_;refine ix (zI j) (R.r ?_);refine zd a (λF p a=>xw rfl (scC rfl) (q _ _ _ _ p) ss ?_);refine R.r ?_;refine ze gg a (λk a=>?_) (λk a=>?_)
  ·refine R.r ?_;cases a;replace a:=g;refine R.r ?_;cases a;exact fz rfl rfl
  ·refine R.r ?_;cases a;exact ⟨(),l,g,wk.le (by exact (.eq (.eq (.d4 (.drop (.eq (.cons (leV.of_eq (y8 (by omega) (by omega))) (.d4 (.d4 (.drop (.drop leL.nil)))))))))))⟩
 ·refine R.r ?_;cases a;exact fz rfl rfl
theorem ok65 {e:GLeaf} {b:Int} {c:Nat} {res:Bool} {h:AH} (a:h.blk c=some (.cells [.int .u8 b])) (d:treeLeafC1 e b=some res):Spec Tryz.prog 65 [.agg (GLeaf.row e),.ptr c 0] h (yr (.bool res) h):=by
 unfold treeLeafC1 at d;refine za Tryz.func65 rfl (by kernel_rfl) (yE 8 rfl) (R.r ?_);refine zc rfl (b_load rfl ty5 gg a (yh rfl) (zb rfl)) ss (R.r ?_);cases d;exact fz rfl rfl
theorem ok66 {a:Int} {res:GLeaf} {h:AH}  (b:vw a=some res):Spec Tryz.prog 66 [.int .u8 a] h (yr (.agg (GLeaf.row res)) h):=by
 unfold vw at b;refine za Tryz.func66 rfl (by kernel_rfl) (yE 12 rfl) (R.r ?_);refine ze gg b (λc b=>?_) (λc b=>?_)
 ·refine R.r ?_;refine zc rfl (zU (cs':=xj) rfl su61 ze61 pl61 zj .nil rfl rfl) ss (R.r ?_);cases b;exact fe rfl rfl (leV.agg (.eq (.eq (.eq (.eq (.eq (.eq (.eq (.cons (leV.osl _ _ _) (.cons (leV.osl _ _ _) leL.nil))))))))) rfl)
 ·refine R.r ?_;refine zc rfl (zU (cs':=[.int .u8 a,.int .i64 (0:Int),.int .u64 (0:Int),.int .u8 (0:Int),.int .u32 (0:Int),.int .u64 (0:Int),.str ([]:zn),.osl none 5 (([]:List GItem).map GItem.row),.osl none 3 (([]:List GDot).map GDot.row)]) rfl su61 ze61 pl61 (zf gg zj) (.cons (zb rfl) .nil) rfl rfl) ss (R.r ?_);cases b;exact fe rfl rfl (leV.agg (.eq (.eq (.eq (.eq (.eq (.eq (.eq (.cons (leV.osl _ _ _) (.cons (leV.osl _ _ _) leL.nil))))))))) rfl)
theorem ok104 {a:GNode} {c:zn} {d:Nat} {res:Bool} {h:AH} (b:h.blk d=some (.cells [.str c])) (e:qK a c=some res):Spec Tryz.prog 104 [.agg [.str a.name,.sl 9 (a.leaves.map GLeaf.row),.sl 3 (a.subs.map GNode.row)],.ptr d 0] h (yr (.bool res) h):=by
 unfold qK at e;refine za Tryz.func104 rfl (by kernel_rfl) (yE 8 rfl) (R.r ?_);refine zc rfl (b_load rfl ty9 gg b (yh rfl) (zb rfl)) ss (R.r ?_);cases e;exact fz rfl rfl
theorem ok103 {A:(List GNode)} {x:(GNode->Option Bool)} {e:FuncId} {d c:List AV} {res:Int} {h:AH} (s:∀i v (L:List Blk) (M:List Nat),x i=some v->Spec Tryz.prog e (d++[.agg [.str i.name,.sl 9 (i.leaves.map GLeaf.row),.sl 3 (i.subs.map GNode.row)]]++c) (h.ext L M) (yr (.bool v) (h.ext L M))) (a:xq A x=some res):Spec Tryz.prog 103 [.sl 3 (A.map GNode.row),.fn (.func e) d c] h (yr (.int .i64 res) h):=by
 unfold xq at a;refine zF Tryz.func103 rfl (by kernel_rfl) (yE 19 rfl) (λb C=>?_);simp only [zw,AV.low,Bool.and_eq_true,Bool.true_and,and_true] at b;have t:∀n m,h.blks.length<=n->h.toks.length<=m->zw n m d=true:=λn m w u=>zT w u _ (by simp [b]);have j:∀n m,h.blks.length<=n->h.toks.length<=m->zw n m c=true:=λn m w u=>zT w u _ (by simp [b]);refine R.r ?_;refine ln λf=>?_;replace f:=yl f;refine R.r ?_;refine zz (λ(y:Nat) (z:Unit)=>zG [2,3,4,5,6,9,10,11,12,13,14,15,16,17,18] [(8,.int .i64 (y:Int))]) (λz=>h.ext [] []) a (λ_ _=>by simp only [zG,wJ,List.set_cons_succ,List.set_cons_zero];try rfl) (wk.le LEL.o) ?_;intro y z B a;refine R.r ?_;refine zP gg a (λE D p k a g=>?_) (λa=>?_)
 ·refine R.r ?_;refine zc rfl (yJ rfl el24 gg gg isl (zI k) (GNode.row_eq _)) ss (R.r ?_);refine zd a (λF q a=>xw rfl (scC rfl) (s _ _ _ _ q) ss ?_);refine R.r ?_;refine ze gg a (λl a=>?_) (λl a=>?_)
  ·refine R.r ?_;cases a;replace a:=g;refine R.r ?_;cases a;exact fz rfl rfl
  ·refine R.r ?_;cases a;exact ⟨(),p,g,wk.le (by exact (.eq (.eq (.d4 (.drop (.eq (.cons (leV.of_eq (y8 (by omega) (by omega))) (.d4 (.d4 (.drop (.drop leL.nil)))))))))))⟩
 ·refine R.r ?_;cases a;exact fz rfl rfl
theorem ok63 {t0:(List GNode)} {a:zn} {res:(GNode×Bool)} {h:AH}  (b:vI t0 a=some res):Spec Tryz.prog 63 [.sl 3 (t0.map GNode.row),.str a] h (yr (.tup [.agg [.str res.1.name,.sl 9 (res.1.leaves.map GLeaf.row),.sl 3 (res.1.subs.map GNode.row)],.bool res.2]) h):=by
 unfold vI at b;refine za Tryz.func63 rfl (by kernel_rfl) (yE 17 rfl) (R.r ?_);refine zc rfl (wg rfl rfl rfl) ss ?_;refine zd b (λg d b=>cp (ok103 (λ_ v L M f=>ok104 (blk_ext2 (j:=0) rfl) f) d) ?_);refine R.r ?_;refine ze gg b (λe b=>?_) (λe b=>?_)
 ·refine R.r ?_;refine zc rfl (zU (cs':=lit3x) rfl su65 ze65 pl65 zj .nil rfl rfl) ss (R.r ?_);cases b;exact fe rfl rfl (leV.tup (.cons (leV.agg (.eq (.cons (leV.osl _ _ _) (.cons (leV.osl _ _ _) leL.nil))) rfl) (.eq leL.nil)))
 ·refine R.r ?_;refine zd b (λi c b=>zc rfl (yJ rfl el24 gg gg isl c (GNode.row_eq _)) ss ?_);refine R.r ?_;cases b;exact fz rfl rfl
theorem ok39 {t0:(List GNode)} {d:(List zn)} {b:Int} {res:(GLeaf×Bool)} {h:AH}  (a:wr t0 d b=some res):Spec Tryz.prog 39 [.sl 3 (t0.map GNode.row),.sl 1 (d.map yG),.int .u8 b] h (yr (.tup [.agg (GLeaf.row res.1),.bool res.2]) h):=by
 unfold wr at a;refine za Tryz.func39 rfl (by kernel_rfl) (yE 66 rfl) (R.r ?_);refine ln λt=>?_;replace t:=yl t;refine zc rfl (s_bin rfl gg rfl rfl) ss ?_;refine zc rfl (s_assign rfl gg (zb rfl)) ss ?_;refine ops_nil (q_seq ?_);refine r_join (λ(k:Bool×zn×(List GLeaf)×(List GNode))=>zG [0,1,2,3,4,7,10,11,12,13,14,15,16,17,18,19,20,21,22,23,24,25,26,27,28,29,30,31,32,33,34,35,36,37,38,39,40,41,42,43,44,45,46,47,48,49,50,51,52,53,54,55,56,57,58,59,60,61,62,63,64,65] [(9,.bool k.1)]) (λk=>h.ext [.cells [.int .u8 b],.cells xj,.cells [.str k.2.1,.sl 9 (k.2.2.1.map GLeaf.row),.sl 3 (k.2.2.2.map GNode.row)]] []) a (λ_=>by simp only [zG,wJ,List.set_cons_succ,List.set_cons_zero];try rfl) (λJ a A=>?_) (λk a=>?_)
 ·refine R.r ?_;refine ln λg=>?_;replace g:=yl g;refine R.r ?_;refine zz (λ(n2:Nat) (e:(List GNode)×Bool×zn×(List GLeaf)×(List GNode))=>zG [1,2,3,4,7,10,11,12,13,14,15,16,20,21,22,23,24,25,26,27,28,29,30,31,32,33,34,35,36,37,38,39,40,41,42,43,44,45,46,47,48,49,50,51,52,53,54,55,56,57,58,59,60,61,62,63,64,65] [(0,.sl 3 (e.1.map GNode.row)),(9,.bool e.2.1),(19,.int .i64 (n2:Int))]) (λe=>h.ext [.cells [.int .u8 b],.cells xj,.cells [.str e.2.2.1,.sl 9 (e.2.2.2.1.map GLeaf.row),.sl 3 (e.2.2.2.2.map GNode.row)]] []) a (λ_ _=>by simp only [zG,wJ,List.set_cons_succ,List.set_cons_zero];try rfl) (wk.trans (wk_leB (j:=2) rfl (by exact (.eq (.cons (leV.osl _ _ _) (.cons (leV.osl _ _ _) leL.nil)))) rfl rfl) (wk.le LEL.o)) ?_;intro n2 e G a;refine R.r ?_;refine zP gg a (λI K D B a z=>?_) (λa=>?_)
  ·refine R.r ?_;refine ix (zI B) (R.r ?_);refine zd a (λc n a=>cp (ok63 n) ?_);refine R.r ?_;refine ze gg a (λu a=>?_) (λu a=>?_)
   ·refine R.r ?_;refine q_block_miss (by decide) (R.r ?_);cases a;replace a:=z;refine R.r ?_;refine q_join ?_;cases a;exact ⟨(c.2,c.1.name,c.1.leaves,c.1.subs),A,wk.le LEL.o⟩
   ·refine R.r ?_;cases a;exact ⟨(c.1.subs,c.2,c.1.name,c.1.leaves,c.1.subs),D,z,wk.le (by exact (.cons (leV.of_eq rfl) (.d4 (.eq (.eq (.drop (.eq (.cons (leV.of_eq rfl) (.d4 (.drop (.drop (.drop (.eq (.eq (.cons (leV.of_eq (y8 (by omega) (by omega))) (.d16 (.d16 (.d4 (.d4 (.d4 (.drop (.drop leL.nil))))))))))))))))))))))⟩
  ·refine R.r ?_;refine q_join ?_;cases a;exact ⟨(e.2.1,e.2.2.1,e.2.2.2.1,e.2.2.2.2),A,wk.le LEL.o⟩
 ·refine R.r ?_;refine zc rfl (wg rfl rfl rfl) ss ?_;refine zd a (λH p a=>cp (ok64 (λ_ v L M E=>ok65 (blk_ext2 (j:=0) rfl) E) p) ?_);refine R.r ?_;refine zX a (λv50 w a=>zM rfl sc (λC=>ok66 (w C)) ss ?_);refine ops_gv rfl (λC=>s_field rfl fo61x0 ty5 (yq gg C) rfl (zb rfl)) ss (R.r ?_);refine ze gg a (λx a=>?_) (λx a=>?_)
  ·refine R.r ?_;refine zd a (λF l a=>cp (ok66 l) ?_);refine R.r ?_;cases a;exact fz rfl rfl
  ·refine R.r ?_;refine zd a (λi s a=>ix s ?_);refine R.r ?_;refine zu [] [] trivial mixed (by kernel_rfl) (R.r ?_);refine zd a (λf y a=>ym rfl FOk.nil (by rfl) rfl (sc rfl) (own_ext (T':=[(f).length]) (ok67 y) (m:=0) rfl rfl) ss ?_);refine R.r ?_;refine zd a (λv55 q a=>ym rfl FOk.nil (by rfl) rfl (sc rfl) (own_ext (T':=[(f).length,(v55).length]) (ok68 q) (m:=1) rfl rfl) ss ?_);refine R.r ?_;refine zQ rfl FOk.nil (by kernel_rfl) rfl (yb (cs':=(zr i (.osl (some (h.toks.length+0)) 5 (f.map GItem.row)) (.sl 3 (i.tombs.map GDot.row)))) rfl ty59 gg gg (zb rfl) rfl rfl rfl rfl rfl) rfl (R.r ?_);refine zQ rfl FOk.nil (by kernel_rfl) rfl (yb (cs':=(zr i (.osl (some (h.toks.length+0)) 5 (f.map GItem.row)) (.osl (some (h.toks.length+1)) 3 (v55.map GDot.row)))) rfl ty32 gg gg (zb rfl) rfl rfl rfl rfl rfl) rfl (R.r ?_);cases a;exact fe rfl rfl (leV.tup (.cons (leV.agg (.eq (.eq (.eq (.eq (.eq (.eq (.eq (.cons (leV.osl _ _ _) (.cons (leV.osl _ _ _) leL.nil))))))))) rfl) (.eq leL.nil)))
theorem ok40 {k0:Int} {res:Int} {h:AH}  (a:opType k0=some res):Spec Tryz.prog 40 [.int .u8 k0] h (yr (.int .u8 res) h):=by
 unfold opType at a;refine za Tryz.func40 rfl (by kernel_rfl) (yE 12 rfl) (R.r ?_);refine zd a (λc b a=>cp (ok61 b) ?_);refine R.r ?_;cases a;exact fz rfl rfl
theorem ok133 {k:(List GDot)} {e:GDot} {res:Int} {h:AH}  (a:vX k e=some res):Spec Tryz.prog 133 [.sl 3 (k.map GDot.row),.agg (GDot.row e)] h (yr (.int .i64 res) h):=by
 unfold vX at a;refine za Tryz.func133 rfl (by kernel_rfl) (yE 19 rfl) (R.r ?_);refine ln λc=>?_;replace c:=yl c;refine R.r ?_;refine zz (λ(j:Nat) (i:Unit)=>zG [1,2,4,5,6,9,10,11,12,13,14,15,16,17,18] [(8,.int .i64 (j:Int))]) (λi=>h.ext [.cells (GDot.row e)] []) a (λ_ _=>by simp only [zG,wJ,List.set_cons_succ,List.set_cons_zero];try rfl) (wk.le LEL.o) ?_;intro j i l a;refine R.r ?_;refine zP gg a (λm n d f a b=>?_) (λa=>?_)
 ·refine R.r ?_;refine zu [] [] trivial mixed (by kernel_rfl) (R.r ?_);refine dix (zI f) (R.r ?_);refine zB rfl rfl (s_bin rfl gg gg (bin_eq pk30 rfl)) ss (R.r ?_);refine ze gg a (λg a=>?_) (λg a=>?_)
  ·refine R.r ?_;cases a;replace a:=b;refine R.r ?_;cases a;exact fz rfl rfl
  ·refine R.r ?_;cases a;exact ⟨(),d,b,wk.le (by exact (.eq (.drop (.drop (.eq (.drop (.drop (.drop (.eq (.cons (leV.of_eq (y8 (by omega) (by omega))) (.d4 (.d4 (.drop (.drop leL.nil))))))))))))))⟩
 ·refine R.r ?_;cases a;exact fz rfl rfl
theorem ok106 {d:(List GDot)} {c:GDot} {res:Bool} {h:AH}  (a:xr d c=some res):Spec Tryz.prog 106 [.sl 3 (d.map GDot.row),.agg (GDot.row c)] h (yr (.bool res) h):=by
 unfold xr at a;refine za Tryz.func106 rfl (by kernel_rfl) (yE 9 rfl) (R.r ?_);refine zd a (λc b a=>cp (ok133 b) ?_);refine R.r ?_;cases a;exact fz rfl rfl
def ins136TryzRen:Go.Shelf.Ren :=
  { f:=λx=>match x with
      | 22=>136
      | 29=>149
      | 30=>150
      | n=>n
    t:=λx=>match x with
      | 0=>0
      | 3=>3
      | 4=>4
      | 9=>58
      | 24=>59
      | n=>n
    g:=λn=>n }
theorem ins136TryzLays:InsLays Tryz.prog ins136TryzRen 59 5 where
  mixed:=by kernel_rfl
  f22:=⟨Tryz.f136.name,Tryz.f136.targs,Tryz.func136.trans (by kernel_rfl),by kernel_rfl⟩
  f29:=λargs w=>run_callFunc_extern Tryz.func149 (by kernel_rfl) (by kernel_rfl) (by kernel_rfl) (e:=Extern.SlicesOverlaps.overlaps #[59,59] #[4]) (by kernel_rfl) args w
  t0:=Tryz.underlying0
  a0:=Tryz.isAgg0
  z0:=Tryz.sizeOf0
  v0:=Tryz.zeroValue0
  t3:=Tryz.underlying3
  a3:=Tryz.isAgg3
  z3:=Tryz.sizeOf3
  v3:=Tryz.zeroValue3
  t4:=Tryz.underlying4
  a4:=Tryz.isAgg4
  z4:=Tryz.sizeOf4
  v4:=Tryz.zeroValue4
  t24:=Tryz.underlying59
  a24:=Tryz.isAgg59
  z24:=Tryz.sizeOf59
  v24:=Tryz.zeroValue59
  t23:=Tryz.underlying59
  a23:=Tryz.isAgg59
  z23:=Tryz.sizeOf59
  v23:=Tryz.zeroValue59
  i9:=⟨_,_,rfl,rfl,rfl,rfl,by decide⟩
  k0:=by decide
theorem ok134 {l:(List GItem)} {a:GItem} {j:(GItem->GItem->Option Int)} {g:FuncId} {d c:List AV} {res:(Int×Bool)} {h:AH} (e:∀l C v (L:List Blk) (M:List Nat),j l C=some v->Spec Tryz.prog g (d++[.agg (GItem.row l),.agg (GItem.row C)]++c) (h.ext L M) (yr (.int .i64 v) (h.ext L M))) (b:zH l a j=some res):Spec Tryz.prog 134 [.sl 5 (l.map GItem.row),.agg (GItem.row a),.fn (.func g) d c] h (yr (.tup [.int .i64 res.1,.bool res.2]) h):=by
 unfold zH at b;refine zF Tryz.func134 rfl (by kernel_rfl) (yE 49 rfl) (λf H=>?_);simp only [zw,AV.low,Bool.and_eq_true,Bool.true_and,and_true] at f;have z:∀n m,h.blks.length<=n->h.toks.length<=m->zw n m d=true:=λn m B A=>zT B A _ (by simp [f]);have x:∀n m,h.blks.length<=n->h.toks.length<=m->zw n m c=true:=λn m B A=>zT B A _ (by simp [f]);refine R.r ?_;refine ln λw=>?_;replace w:=yl w;refine R.r ?_;refine xK (λ(i:Int×Int)=>zG [1,3,5,6,7,11,12,13,14,15,16,17,18,19,20,21,22,23,24,25,26,27,28,29,30,31,32,33,34,35,36,37,38,39,40,41,42,43,44,45,46,47,48] [(9,.int .i64 i.1),(10,.int .i64 i.2)]) (λi=>h.ext [.cells (GItem.row a)] []) b (λ_=>by simp only [zG,wJ,List.set_cons_succ,List.set_cons_zero];try rfl) (wk.le LEL.o) ?_;intro J i I b k;refine R.r ?_;refine ze gg b (λt b=>?_) (λt b=>?_)
 ·refine R.r ?_;refine zc rfl (yK rfl ty3 ty158 gg rfl) ss (R.r ?_);refine zc rfl (yK rfl ty158 ty3 gg rfl) ss (R.r ?_);refine zu [] [] trivial mixed (by kernel_rfl) (R.r ?_);refine zd b (λE p b=>dix p ?_);refine R.r ?_;refine zd b (λD u b=>wC rfl rfl (scC rfl) (e _ _ _ _ _ u) ss ?_);refine R.r ?_;refine ze gg b (λy b=>?_) (λy b=>?_)
  ·refine R.r ?_;cases b;exact ⟨((IntKind.wrap .i64 ((IntKind.wrap .i64 ((Int.fdiv (IntKind.wrap .u64 ((IntKind.wrap .i64 (i.1+i.2)))) (2 ^ (min (1:Int).toNat (IntKind.bits .u64))))))+(1:Int))),i.2),k,wk.le LEL.o⟩
  ·refine R.r ?_;cases b;exact ⟨(i.1,(IntKind.wrap .i64 ((Int.fdiv (IntKind.wrap .u64 ((IntKind.wrap .i64 (i.1+i.2)))) (2 ^ (min (1:Int).toNat (IntKind.bits .u64))))))),k,wk.le LEL.o⟩
 ·refine R.r ?_;cases b;replace b:=k;refine R.r ?_;refine zu [] [] trivial mixed (by kernel_rfl) (R.r ?_);refine yn b (λq b=>dgix q ?_);refine R.r ?_;refine zX b (λF s b=>yW rfl rfl scC (λG=>e _ _ _ _ _ (s G)) ss ?_);refine R.r ?_;cases b;exact fz rfl rfl
theorem ok135 {a0:GItem} {c:GItem} {res:Int} {h:AH}  (a:yx a0 c=some res):Spec Tryz.prog 135 [.agg (GItem.row a0),.agg (GItem.row c)] h (yr (.int .i64 res) h):=by
 unfold yx at a;refine za Tryz.func135 rfl (by kernel_rfl) (yE 14 rfl) (R.r ?_);refine zd a (λd b a=>cp (ok132 b) ?_);refine R.r ?_;cases a;exact fz rfl rfl
def sort108TryzRen:Go.Shelf.Ren :=
  { f:=λx=>match x with
      | 6=>108
      | 15=>138
      | 14=>137
      | 28=>159
      | 29=>160
      | 20=>151
      | 21=>152
      | 22=>153
      | 23=>154
      | 24=>155
      | 25=>156
      | 26=>157
      | 27=>158
      | 46=>167
      | 47=>168
      | 48=>169
      | 49=>170
      | 50=>171
      | 57=>174
      | n=>n
    t:=λx=>match x with
      | 22=>32
      | 24=>30
      | 25=>150
      | 3=>3
      | 39=>158
      | 0=>0
      | 53=>25
      | 55=>28
      | 4=>4
      | 46=>189
      | 45=>188
      | 50=>124
      | 5=>5
      | 9=>9
      | 66=>200
      | 70=>204
      | 76=>208
      | 77=>209
      | n=>n
    g:=λn=>n }
theorem sort108TryzLays:Go.Proofs.SlLaysF0.n6 Tryz.prog sort108TryzRen where
  mixed:=mixed
  f6:=⟨Tryz.f108.name,by kernel_rfl,Tryz.func108.trans (by kernel_rfl)⟩
  f15:=Tryz.func138.trans (by kernel_rfl)
  f14:=⟨Tryz.f137.name,by kernel_rfl,Tryz.func137.trans (by kernel_rfl)⟩
  f28:=Tryz.func159.trans (by kernel_rfl)
  f29:=Tryz.func160.trans (by kernel_rfl)
  f20:=⟨Tryz.f151.name,by kernel_rfl,Tryz.func151.trans (by kernel_rfl)⟩
  f21:=⟨Tryz.f152.name,by kernel_rfl,Tryz.func152.trans (by kernel_rfl)⟩
  f22:=⟨Tryz.f153.name,by kernel_rfl,Tryz.func153.trans (by kernel_rfl)⟩
  f23:=⟨Tryz.f154.name,by kernel_rfl,Tryz.func154.trans (by kernel_rfl)⟩
  f24:=⟨Tryz.f155.name,by kernel_rfl,Tryz.func155.trans (by kernel_rfl)⟩
  f25:=⟨Tryz.f156.name,by kernel_rfl,Tryz.func156.trans (by kernel_rfl)⟩
  f26:=⟨Tryz.f157.name,by kernel_rfl,Tryz.func157.trans (by kernel_rfl)⟩
  f27:=⟨Tryz.f158.name,by kernel_rfl,Tryz.func158.trans (by kernel_rfl)⟩
  f46:=⟨Tryz.f167.name,by kernel_rfl,Tryz.func167.trans (by kernel_rfl)⟩
  f47:=Tryz.func168.trans (by kernel_rfl)
  f48:=Tryz.func169.trans (by kernel_rfl)
  f49:=⟨Tryz.f170.name,by kernel_rfl,Tryz.func170.trans (by kernel_rfl)⟩
  f50:=⟨Tryz.f171.name,by kernel_rfl,Tryz.func171.trans (by kernel_rfl)⟩
  f57:=⟨Tryz.f174.name,by kernel_rfl,Tryz.func174.trans (by kernel_rfl)⟩
  t0:=Tryz.underlying0
  a0:=Tryz.isAgg0
  z0:=Tryz.sizeOf0
  v0:=Tryz.zeroValue0
  t3:=Tryz.underlying3
  a3:=Tryz.isAgg3
  z3:=Tryz.sizeOf3
  v3:=Tryz.zeroValue3
  t4:=Tryz.underlying4
  a4:=Tryz.isAgg4
  z4:=Tryz.sizeOf4
  v4:=Tryz.zeroValue4
  t5:=Tryz.underlying5
  a5:=Tryz.isAgg5
  z5:=Tryz.sizeOf5
  v5:=Tryz.zeroValue5
  t9:=Tryz.underlying9
  a9:=Tryz.isAgg9
  z9:=Tryz.sizeOf9
  v9:=Tryz.zeroValue9
  t22:=Tryz.underlying32
  a22:=Tryz.isAgg32
  z22:=Tryz.sizeOf32
  v22:=Tryz.zeroValue32
  t25:=Tryz.underlying150
  a25:=Tryz.isAgg150
  z25:=Tryz.sizeOf150
  v25:=Tryz.zeroValue150
  t39:=Tryz.underlying158
  a39:=Tryz.isAgg158
  z39:=Tryz.sizeOf158
  v39:=Tryz.zeroValue158
  t45:=Tryz.underlying188
  a45:=Tryz.isAgg188
  z45:=Tryz.sizeOf188
  v45:=Tryz.zeroValue188
  t46:=Tryz.underlying189
  a46:=Tryz.isAgg189
  z46:=Tryz.sizeOf189
  v46:=Tryz.zeroValue189
  t50:=Tryz.underlying124
  a50:=Tryz.isAgg124
  z50:=Tryz.sizeOf124
  v50:=Tryz.zeroValue124
  t53:=Tryz.underlying25
  a53:=Tryz.isAgg25
  z53:=Tryz.sizeOf25
  v53:=Tryz.zeroValue25
  t55:=Tryz.underlying28
  a55:=Tryz.isAgg28
  z55:=Tryz.sizeOf28
  v55:=Tryz.zeroValue28
  t66:=Tryz.underlying200
  a66:=Tryz.isAgg200
  z66:=Tryz.sizeOf200
  v66:=Tryz.zeroValue200
  t70:=Tryz.underlying204
  a70:=Tryz.isAgg204
  z70:=Tryz.sizeOf204
  v70:=Tryz.zeroValue204
  t76:=Tryz.underlying208
  a76:=Tryz.isAgg208
  z76:=Tryz.sizeOf208
  v76:=Tryz.zeroValue208
  t77:=Tryz.underlying209
  a77:=Tryz.isAgg209
  z77:=Tryz.sizeOf209
  v77:=Tryz.zeroValue209
theorem okR110 {J G:Nat} {m:(List GDot)} {res:(List GDot)} {h:AH} (O:h.blks.length=J) (M:h.toks.length=G) (a:xV m=some res):Spec Tryz.prog 110 [.rsl J G 3 m.length] (h.ext [.row G 3 (m.map GDot.row)] [m.length]) (TurnK h J G 3 res.length (res.map GDot.row)):=by
 unfold xV at a;subst O M;refine zK Tryz.func110 rfl (by kernel_rfl) (yE 61 rfl) (R.r ?_);refine ln λA=>?_;replace A:=yl A;refine R.r ?_;refine ze gg a (λK a=>?_) (λK a=>?_)
 ·refine R.r ?_;cases a;refine fr rfl (fin_turn0 (row:=GDot.row) ?_);exact ⟨rfl,_,rfl⟩
 ·refine R.r ?_;refine xK (λ(n:Int)=>zG [1,2,4,5,6,7,8,9,10,11,12,13,14,15,16,17,18,19,20,21,22,23,24,25,26,27,28,29,30,31,32,33,34,35,36,37,38,39,40,41,42,43,44,45,46,47,48,49,50,51,52,53,54,55,56,57,58,59,60] [(3,.int .i64 n)]) (λn=>h.ext [.row (h.toks.length+0) 3 (m.map GDot.row)] [m.length]) a (λ_=>by simp only [zG,wJ,List.set_cons_succ,List.set_cons_zero];try rfl) (wk.le LEL.o) ?_;intro U n T a w;refine R.r ?_;refine ln λu=>?_;replace u:=yl u;refine R.r ?_;refine ze gg a (λE a=>?_) (λE a=>?_)
  ·refine R.r ?_;refine zu [] [] trivial mixed (by kernel_rfl) (R.r ?_);refine zd a (λH p a=>zB rfl rfl (wD rfl el32 gg gg (qp p rfl)) ss ?_);refine zB rfl rfl (e_ldR (off:=0) (i:=0) (q:=h.toks.length+0) (z:=n.toNat) (row:=GDot.row) (λ_=>rfl) rfl ty30.choose_spec.1 (by decide) gg rfl rfl (idxR p).2.2 (xP (cs':=(GDot.row H)) ty30.choose_spec.2 rfl rfl) (zb rfl)) ss (R.r ?_);refine zd a (λN s a=>zB rfl rfl (wD rfl el32 gg gg (qp s rfl)) ss ?_);refine zB rfl rfl (e_ldR (off:=0) (i:=0) (q:=h.toks.length+0) (z:=(IntKind.wrap .i64 (n - (1:Int))).toNat) (row:=GDot.row) (λ_=>rfl) rfl ty30.choose_spec.1 (by decide) gg rfl rfl (idxR s).2.2 (xP (cs':=(GDot.row N)) ty30.choose_spec.2 rfl rfl) (zb rfl)) ss ?_;refine zB rfl rfl (s_bin rfl gg gg (bin_eq pk30 rfl)) ss (R.r ?_);refine ze gg a (λF a=>?_) (λF a=>?_)
   ·refine R.r ?_;refine yn a (λy a=>ops_b rfl (e_sufR rfl el32 gg gg y) ss ?_);refine R.r ?_;refine xK (λ(b:Int×Int×(List GDot))=>zG [1,2,6,7,8,9,10,11,12,13,14,15,16,17,18,19,20,21,22,23,24,25,26,27,28,29,30,31,32,33,34,35,36,37,38,39,40,41,42,43,44,45,46,47,48,49,50,51,52,53,54,55,56,57,58,59,60] [(3,.int .i64 b.1),(5,.int .i64 b.2.1)]) (λb=>h.ext [.row (h.toks.length+0) 3 (b.2.2.map GDot.row)] [m.length]) a (λ_=>by simp only [zG,wJ,List.set_cons_succ,List.set_cons_zero];try rfl) (wk.le LEL.o) ?_;intro n2 b V a v;refine yn a (λc a=>R.r ?_);refine ln λQ=>R.r ?_;refine ze gg a (λC a=>?_) (λC a=>?_)
    ·refine R.r ?_;refine zu [] [] trivial mixed (by kernel_rfl) (R.r ?_);refine zd a (λI f a=>?_);replace f:=idxS f;refine zB rfl rfl (e_idxS rfl el32 gg gg ⟨f.1,by have:=f.2.1;have:=c;omega⟩) ss ?_;refine zB rfl rfl (e_ldR (off:=0) (i:=0) (q:=h.toks.length+0) (z:=(n.toNat+b.2.1.toNat)) (row:=GDot.row) (λ_=>rfl) rfl ty30.choose_spec.1 (by decide) gg rfl c f.2.2 (xP (cs':=(GDot.row I)) ty30.choose_spec.2 rfl rfl) (zb rfl)) ss (R.r ?_);refine zd a (λP g a=>?_);replace g:=idxS g;refine zB rfl rfl (e_idxS rfl el32 gg gg ⟨g.1,by have:=g.2.1;have:=c;omega⟩) ss ?_;refine zB rfl rfl (e_ldR (off:=0) (i:=0) (q:=h.toks.length+0) (z:=(n.toNat+(IntKind.wrap .i64 (b.2.1 - (1:Int))).toNat)) (row:=GDot.row) (λ_=>rfl) rfl ty30.choose_spec.1 (by decide) gg rfl c g.2.2 (xP (cs':=(GDot.row P)) ty30.choose_spec.2 rfl rfl) (zb rfl)) ss ?_;refine zB rfl rfl (s_bin rfl gg gg (bin_ne pk30 rfl)) ss (R.r ?_);refine ze gg a (λB a=>?_) (λB a=>?_)
     ·refine R.r ?_;refine zd a (λk e a=>?_);replace e:=idxS e;refine zc rfl (e_idxS rfl el32 gg gg ⟨e.1,by have:=e.2.1;have:=c;omega⟩) ss ?_;refine zc rfl (e_ldR (off:=0) (i:=0) (q:=h.toks.length+0) (z:=(n.toNat+b.2.1.toNat)) (row:=GDot.row) (λ_=>rfl) rfl ty30.choose_spec.1 (by decide) gg rfl c e.2.2 (xP (cs':=(GDot.row k)) ty30.choose_spec.2 rfl rfl) (zb rfl)) ss ?_;refine zd a (λS t a=>zc rfl (wD rfl el32 gg gg (qp t c)) ss ?_);refine zc rfl (e_stR (off:=0) (i:=0) (q:=h.toks.length+0) (z:=b.1.toNat) (row:=GDot.row) (y':=k) (us:=(GDot.row k)) (B':=[.row (h.toks.length+0) 3 ((b.2.2.set b.1.toNat k).map GDot.row)]) (λ_=>rfl) rfl ty30.choose_spec.1 gg gg (zb rfl) rfl rfl rfl rfl c (idxR t).2.2 (by decide) rfl rfl) rfl (R.r ?_);cases a;exact ⟨((IntKind.wrap .i64 (b.1+(1:Int))),(IntKind.wrap .i64 (b.2.1+(1:Int))),(b.2.2.set b.1.toNat k)),v,wk.le LEL.o⟩
     ·refine R.r ?_;cases a;exact ⟨(b.1,(IntKind.wrap .i64 (b.2.1+(1:Int))),b.2.2),v,wk.le LEL.o⟩
    ·refine R.r ?_;cases a;replace a:=v;refine R.r ?_;refine yn a (λl a=>ops_b rfl (e_sufR rfl el32 gg gg l) ss ?_);refine ops_b rfl (e_clrR (i:=0) (q:=h.toks.length+0) (L:=b.2.2) (row:=GDot.row) (d:=(GDot.mk (GActor.mk (0:Int) (0:Int)) (0:Int))) (B':=[.row (h.toks.length+0) 3 ((b.2.2.take b.1.toNat++List.replicate (m.length - b.1.toNat) (GDot.mk (GActor.mk (0:Int) (0:Int)) (0:Int))).map GDot.row)]) (λ_=>rfl) rfl rfl rfl rfl el32 ze30 rfl gg rfl c (Int.toNat_le.2 l.2) rfl) rfl (R.r ?_);refine zd a (λD x a=>ops_b rfl (e_cutR (i:=0) (j:=0) (L:=(b.2.2.take b.1.toNat++List.replicate (m.length - b.1.toNat) (GDot.mk (GActor.mk (0:Int) (0:Int)) (0:Int)))) (row:=GDot.row) (B':=[.dead,.row (h.toks.length+1) 3 (D.map GDot.row)]) (T':=[m.length+1,(D).length]) rfl el32 gg gg rfl (clr_len c (Int.toNat_le.2 l.2)) x rfl rfl rfl rfl) ss ?_);refine R.r ?_;cases a;replace a:=w;refine R.r ?_;cases a;refine fr rfl (fin_at ?_);exact ⟨rfl,_,rfl⟩
   ·refine R.r ?_;cases a;exact ⟨(IntKind.wrap .i64 (n+(1:Int))),w,wk.le LEL.o⟩
  ·refine R.r ?_;cases a;replace a:=w;refine R.r ?_;cases a;refine fr rfl (fin_turn0 (row:=GDot.row) ?_);exact ⟨rfl,_,rfl⟩
theorem okR111 {I H:Nat} {y:(List GItem)} {w:(GItem->Option Bool)} {p:FuncId} {g f:List AV} {res:(List GItem)} {h:AH} (P:h.blks.length=I) (N:h.toks.length=H) (t:∀G v (L:List Blk) (M:List Nat),w G=some v->Spec Tryz.prog p (g++[.agg (GItem.row G)]++f) (h.ext L M) (yr (.bool v) (h.ext L M))) (a:∀n m,h.blks.length<=n->h.toks.length<=m->zw n m g=true) (b:∀n m,h.blks.length<=n->h.toks.length<=m->zw n m f=true) (c:xe y w=some res):Spec Tryz.prog 111 [.rsl I H 5 y.length,.fn (.func p) g f] (h.ext [.row H 5 (y.map GItem.row)] [y.length]) (TurnK h I H 5 res.length (res.map GItem.row)):=by
 unfold xe at c;subst P N;refine zK Tryz.func111 rfl (by kernel_rfl) (yE 42 rfl) (R.r ?_);refine zd c (λX K c=>cp (row_read (B1:=[]) (T1:=[]) (okR142 (by simp [AH.ext]) (by simp [AH.ext]) (λG v L M T=>by rw [yM];exact t G v _ _ T) (λn m Q O=>a n m (by simp [AH.ext] at Q;omega) (by simp [AH.ext] at O;omega)) (λn m Q O=>b n m (by simp [AH.ext] at Q;omega) (by simp [AH.ext] at O;omega)) K) rfl rfl) ?_);refine R.r ?_;refine ze gg c (λJ c=>?_) (λJ c=>?_)
 ·refine R.r ?_;cases c;refine fr rfl (fin_turn0 (row:=GItem.row) ?_);exact ⟨rfl,_,rfl⟩
 ·refine R.r ?_;refine xK (λ(e:Int×Int×(List GItem))=>zG [2,3,4,7,8,9,10,11,12,13,14,15,16,17,18,19,20,21,22,23,24,25,26,27,28,29,30,31,32,33,34,35,36,37,38,39,40,41] [(5,.int .i64 e.1),(6,.int .i64 e.2.1)]) (λe=>h.ext [.row (h.toks.length+0) 5 (e.2.2.map GItem.row)] [y.length]) c (λ_=>by simp only [zG,wJ,List.set_cons_succ,List.set_cons_zero];try rfl) (wk.le LEL.o) ?_;intro Y e W c A;refine yn c (λk c=>R.r ?_);refine ln λS=>R.r ?_;refine ze gg c (λC c=>?_) (λC c=>?_)
  ·refine R.r ?_;refine zd c (λl u c=>zc rfl (wD rfl el59 gg gg (qp u k)) ss ?_);refine zc rfl (e_ldR (off:=0) (i:=0) (q:=h.toks.length+0) (z:=e.2.1.toNat) (row:=GItem.row) (λ_=>rfl) rfl ty58.choose_spec.1 (by decide) gg rfl k (idxR u).2.2 (xP (cs':=(GItem.row l)) ty58.choose_spec.2 rfl rfl) (zb rfl)) ss (R.r ?_);refine zd c (λU E c=>xw rfl (scC rfl) (t _ _ _ _ E) ss ?_);refine R.r ?_;refine ze gg c (λF c=>?_) (λF c=>?_)
   ·refine R.r ?_;refine zd c (λV x c=>zc rfl (wD rfl el59 gg gg (qp x k)) ss ?_);refine zc rfl (e_stR (off:=0) (i:=0) (q:=h.toks.length+0) (z:=e.1.toNat) (row:=GItem.row) (y':=l) (us:=(GItem.row l)) (B':=[.row (h.toks.length+0) 5 ((e.2.2.set e.1.toNat l).map GItem.row),.cells (GItem.row l)]) (λ_=>rfl) rfl ty58.choose_spec.1 gg gg (zb rfl) rfl rfl rfl rfl k (idxR x).2.2 (by decide) rfl rfl) rfl (R.r ?_);cases c;exact ⟨((IntKind.wrap .i64 (e.1+(1:Int))),(IntKind.wrap .i64 (e.2.1+(1:Int))),(e.2.2.set e.1.toNat l)),A,wk.trans (wk.le LEL.o) (yj (by simp [zw,AV.low,a,b]) rfl rfl (by simp [Blk.low,zw,AV.low,a,b]))⟩
   ·refine R.r ?_;cases c;exact ⟨(e.1,(IntKind.wrap .i64 (e.2.1+(1:Int))),e.2.2),A,wk.trans (wk.le LEL.o) (yj (by simp [zw,AV.low,a,b]) rfl rfl (by simp [Blk.low,zw,AV.low,a,b]))⟩
  ·refine R.r ?_;cases c;replace c:=A;refine R.r ?_;refine yn c (λs c=>ops_b rfl (e_sufR rfl el59 gg gg s) ss ?_);refine ops_b rfl (e_clrR (i:=0) (q:=h.toks.length+0) (L:=e.2.2) (row:=GItem.row) (d:=(GItem.mk (0:Int) (GDot.mk (GActor.mk (0:Int) (0:Int)) (0:Int)) ([]:zn))) (B':=[.row (h.toks.length+0) 5 ((e.2.2.take e.1.toNat++List.replicate (y.length - e.1.toNat) (GItem.mk (0:Int) (GDot.mk (GActor.mk (0:Int) (0:Int)) (0:Int)) ([]:zn))).map GItem.row)]) (λ_=>rfl) rfl rfl rfl rfl el59 ze58 rfl gg rfl k (Int.toNat_le.2 s.2) rfl) rfl (R.r ?_);refine zd c (λD B c=>ops_b rfl (e_cutR (i:=0) (j:=0) (L:=(e.2.2.take e.1.toNat++List.replicate (y.length - e.1.toNat) (GItem.mk (0:Int) (GDot.mk (GActor.mk (0:Int) (0:Int)) (0:Int)) ([]:zn)))) (row:=GItem.row) (B':=[.dead,.row (h.toks.length+1) 5 (D.map GItem.row)]) (T':=[y.length+1,(D).length]) rfl el59 gg gg rfl (clr_len k (Int.toNat_le.2 s.2)) B rfl rfl rfl rfl) ss ?_);refine R.r ?_;cases c;refine fr rfl (fin_at ?_);exact ⟨rfl,_,rfl⟩
theorem ok112 {f:GItem} {d:GEvent} {e:Nat} {res:Bool} {h:AH} (c:h.blk e=some (.cells (GEvent.row d))) (a:xL f d=some res):Spec Tryz.prog 112 [.agg (GItem.row f),.ptr e 0] h (yr (.bool res) h):=by
 unfold xL at a;refine za Tryz.func112 rfl (by kernel_rfl) (yE 10 rfl) (R.r ?_);refine zc rfl (b_load rfl ty32 gg c (yh rfl) (zb rfl)) ss (R.r ?_);refine zd a (λg b a=>cp (ok106 b) ?_);refine R.r ?_;cases a;exact fz rfl rfl
end Go.Vv
