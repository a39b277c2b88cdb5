/- Each function that the law reaches computes what its reading says; printed by a program. -/
import Derived.Test.YtgaelgcadcmfnaaGreatDoorW5
set_option linter.all false
namespace Go.Vv
open Go Go.Proofs
set_option maxRecDepth 100000
set_option synthInstance.maxSize 100000
set_option synthInstance.maxHeartbeats 1000000
set_option maxHeartbeats 1000000
variable {res:Bool} {h:AH}
theorem ok13 {s:zc} {res:((List GA)×Int×Int)}  (a:q8 s=some res):Sp 13 [.str s] h (yn (.tup [.sl 3 (res.1.map GA.row),.int .i64 res.2.1,.int .i64 res.2.2]) h):=by
 unfold q8 at a;refine za Tryz.func13 rfl (by kernel_rfl) (yw 71 rfl) (R.r ?_);refine ln λi=>?_;replace i:=ya i;apply R.r;refine zg gg a (λq a=>?_) (λq a=>?_)
 ·apply R.r;cases a;exact fe rfl rfl (leV.tup (.cons (leV.osl _ _ _) (.eq (.eq leL.nil))))
 ·apply R.r;refine vS (λ(b:zc×(List GJ)×Int×(List zc)×Int×Int×Int×Int×Int×Int×zc×(List GF)×(List GC))=>zx 1 4 (zx 8 63 [(0,.str b.1),(5,vm h 0 22 (b.2.1.map GJ.row)),(7,.int .i64 b.2.2.1)])) (λb=>h.ext [.cells [.sl 1 (b.2.2.2.1.map zi),.int .u8 b.2.2.2.2.1,.int .i64 b.2.2.2.2.2.1,.int .u64 b.2.2.2.2.2.2.1,.int .u8 b.2.2.2.2.2.2.2.1,.int .u32 b.2.2.2.2.2.2.2.2.1,.int .u64 b.2.2.2.2.2.2.2.2.2.1,.str b.2.2.2.2.2.2.2.2.2.2.1,.sl 5 (b.2.2.2.2.2.2.2.2.2.2.2.1.map GF.row),.sl 3 (b.2.2.2.2.2.2.2.2.2.2.2.2.map GC.row)]] [(b.2.1).length]) a (λ_=>by simp only [zx,wS,uk,ul];try rfl) (wk.trans (wk_tok gt5 rfl st5 rfl) (wk.trans (wk_leB (j:=0) rfl (by exact (.cons (leV.osl _ _ _) (.eq (.eq (.eq (.eq (.eq (.eq (.eq (.cons (leV.osl _ _ _) (.cons (leV.osl _ _ _) leL.nil))))))))))) rfl rfl) (wk.le (by exact (.cons (leV.of_eq rfl) (.d4 (.cons (leV.of_eq rfl) (.eq (.cons (leV.of_eq rfl) (.d16 (.d16 (.d16 (.d4 (.d4 (.d4 (.drop (.drop (.drop leL.nil)))))))))))))))))) ?_;intro w b v a c;apply R.r;refine zg gg a (λk a=>?_) (λk a=>?_)
  ·apply R.r;refine zf a (λv24 g a=>cp (ok36 g) (R.r ?_));refine zf a (λv25 l a=>cp (ok37 l) (R.r ?_));refine zg gg a (λf a=>?_) (λf a=>?_)
   ·apply R.r;cases a;replace a:=c;apply R.r;cases a;exact fe rfl rfl (leV.tup (.cons (leV.osl _ _ _) (.eq (.eq leL.nil))))
   ·apply R.r;refine yb a (λu p a=>zN rfl sc (λt=>ok38 (p t)) ss (R.r ?_));refine zg gg a (λm a=>?_) (λm a=>?_)
    ·apply R.r;cases a;replace a:=c;apply R.r;cases a;exact fe rfl rfl (leV.tup (.cons (leV.osl _ _ _) (.eq (.eq leL.nil))))
    ·apply R.r;refine yP (by kernel_rfl) (R.r ?_);refine zr rfl rfl (yf (cs':=[.sl 1 (v25.1.path.map zi),.int .u8 v25.1.leaf.typ,.bool false,.bool true,.int .u8 (0:Int),.int .i64 (0:Int),.int .u64 (0:Int),.int .u8 (0:Int),.int .u32 (0:Int),.int .u64 (0:Int),.str ([]:zc),.osl none 5 (([]:List GF).map GF.row),.osl none 3 (([]:List GC).map GC.row),.int .u8 v25.1.leaf.typ,.int .i64 v25.1.leaf.n,.int .u64 v25.1.leaf.time,.int .u8 v25.1.leaf.dot.actor.rep,.int .u32 v25.1.leaf.dot.actor.inc,.int .u64 v25.1.leaf.dot.seq,.str v25.1.leaf.text,.sl 5 (v25.1.leaf.items.map GF.row),.sl 3 (v25.1.leaf.tombs.map GC.row)]) rfl su89 ze89 pl89 (ze gg (ze gg (ze rfl (ze gg zk)))) (.cons (zb rfl) (.cons (zb rfl) (.cons (zb rfl) (.cons (zb rfl) .nil)))) rfl rfl) ss ?_;refine zr rfl rfl (zw (es:=([(GJ.mk v25.1.path v25.1.leaf.typ false true zLf v25.1.leaf)]:List GJ).map GJ.row) rfl el82 ze89 rfl rfl (ze gg zk) (.cons (zb rfl) .nil) rfl rfl rfl) ss ?_;refine zJ a (λe a=>ww rfl FOk.nil (by rfl) rfl (xI (j:=0) (T':=[((b.2.1++([(GJ.mk v25.1.path v25.1.leaf.typ false true zLf v25.1.leaf)]:List GJ))).length]) rfl rfl rfl rfl el82 el82 gg gg (zb rfl) (zb rfl) yL e rfl rfl) ss (R.r ?_));refine zZ rfl FOk.nil (by kernel_rfl) rfl (yu (cs':=(GH.row v25.1)) rfl ty36.choose_spec.1 gg gg (zb rfl) rfl rfl rfl rfl rfl) rfl (R.r ?_);cases a;exact ⟨(v24.2.1,(b.2.1++([(GJ.mk v25.1.path v25.1.leaf.typ false true zLf v25.1.leaf)]:List GJ)),(IntKind.wrap .i64 (b.2.2.1+(1:Int))),v25.1.path,v25.1.leaf.typ,v25.1.leaf.n,v25.1.leaf.time,v25.1.leaf.dot.actor.rep,v25.1.leaf.dot.actor.inc,v25.1.leaf.dot.seq,v25.1.leaf.text,v25.1.leaf.items,v25.1.leaf.tombs),c,wk.trans (wk.le LEL.o) (zP (by simp [zz,AV.low]) rfl rfl (by simp [Blk.low,zz,AV.low]))⟩
  ·apply R.r;cases a;replace a:=c;apply R.r;refine zf a (λv31 d a=>cp ((ok39 d).le (.cons (leV.osl _ _ _) (.cons (leV.osl _ _ _) leL.nil))) (R.r ?_));cases a;exact fz rfl rfl
theorem ok40 {a0:GE} {k:GE}  (a:wV a0 k=some res):Sp 40 [.agg (GE.row a0),.agg (GE.row k)] h (yn (.bool res) h):=by
 unfold wV at a;refine za Tryz.func40 rfl (by kernel_rfl) (yw 94 rfl) (R.r ?_);refine qn rfl (λs=>zY rfl (zH gg s) (zH gg s) (bin_ne pk30 rfl)) ss (R.r ?_);refine lng λy=>R.r ?_;refine lng λC=>R.r ?_;refine lng λB=>R.r ?_;refine lng λw=>R.r ?_;refine zg gg a (λm a=>?_) (λm a=>?_)
 ·apply R.r;cases a;exact fz rfl rfl
 ·apply R.r;refine zB (λ(u:Nat) (t:Unit)=>zx 0 2 (zx 6 88 [(4,.any),(5,.int .i64 (u:Int))])) (λt=>h.ext [.cells (GE.row a0),.cells (GE.row k)] []) a (λ_ _=>by simp only [zx,wS,uk,ul];try rfl) (wk.le LEL.o) ?_;intro u t x a;apply R.r;refine ln λc=>?_;replace c:=ya c;apply R.r;refine zI gg a (λH F q p a j=>?_) (λa=>?_)
  ·apply R.r;refine yP (by kernel_rfl) (R.r ?_);refine dix (zD p) (R.r ?_);refine zf a (λz d a=>dix d (R.r ?_));refine zr rfl rfl (zY rfl gg gg (bin_ne pk54 rfl)) ss (R.r ?_);refine zg gg a (λf a=>?_) (λf a=>?_)
   ·apply R.r;cases a;replace a:=j;apply R.r;cases a;exact fz rfl rfl
   ·apply R.r;cases a;exact ⟨(),q,j,wk.le (by exact (.drop (.drop (.eq (.eq (.drop (.cons (leV.of_eq (yS (by omega) (by omega))) (.d16 (.d16 (.d16 (.d16 (.d16 (.d4 (.d4 leL.nil))))))))))))))⟩
  ·apply R.r;refine zB (λ(v:Nat) (s2:Unit)=>zx 0 2 (zx 4 2 (zx 7 87 [(6,.int .i64 (v:Int))]))) (λs2=>h.ext [.cells (GE.row a0),.cells (GE.row k)] []) a (λ_ _=>by simp only [zx,wS,uk,ul];try rfl) (wk.le LEL.o) ?_;intro v s2 A a;apply R.r;refine ln λb=>?_;replace b:=ya b;apply R.r;refine zI gg a (λG E n l a i=>?_) (λa=>?_)
   ·apply R.r;refine yP (by kernel_rfl) (R.r ?_);refine dix (zD l) (R.r ?_);refine zf a (λD g a=>dix g (R.r ?_));refine zr rfl rfl (zY rfl gg gg (bin_ne pk30 rfl)) ss (R.r ?_);refine zg gg a (λe a=>?_) (λe a=>?_)
    ·apply R.r;cases a;replace a:=i;apply R.r;cases a;exact fz rfl rfl
    ·apply R.r;cases a;exact ⟨(),n,i,wk.le (by exact (.drop (.drop (.eq (.eq (.drop (.drop (.cons (leV.of_eq (yS (by omega) (by omega))) (.d16 (.d16 (.d16 (.d16 (.d16 (.d4 (.drop (.drop (.drop leL.nil)))))))))))))))))⟩
   ·apply R.r;cases a;exact fz rfl rfl
theorem ok14N (n:Nat):∀{a0:(List GA)} {y:(List GA)} {res:Bool} {h:AH} , xG n a0 y=some res->Sp 14 [.sl 3 (a0.map GA.row),.sl 3 (y.map GA.row)] h (yn (.bool res) h):=by
 induction n with
 | zero=>intro a0 y res h  a;simp [xG] at a
 | succ n ih =>
  intro a0 y res h  a;unfold xG at a;refine za Tryz.func14 rfl (by kernel_rfl) (yw 86 rfl) (R.r ?_);refine ln λj=>?_;replace j:=ya j;apply R.r;refine ln λu=>?_;replace u:=ya u;apply R.r;refine zg gg a (λC a=>?_) (λC a=>?_)
  ·apply R.r;cases a;exact fz rfl rfl
  ·apply R.r;refine zB (λ(E:Nat) (D:Unit)=>zx 2 3 (zx 6 80 [(5,.int .i64 (E:Int))])) (λD=>h.ext [] []) a (λ_ _=>by simp only [zx,wS,uk,ul];try rfl) (wk.le LEL.o) ?_;intro E D G a;apply R.r;refine ln λc=>?_;replace c:=ya c;apply R.r;refine zI gg a (λQ O B e a f=>?_) (λa=>?_)
   ·apply R.r;refine yP (by kernel_rfl) (R.r ?_);refine zr rfl rfl (ym rfl el23 gg gg isl (zD e) (GA.row_eq _)) ss (R.r ?_);refine zf a (λL v a=>zr rfl rfl (ym rfl el23 gg gg isl v (GA.row_eq _)) ss (R.r ?_));refine zJ a (λp a=>vX rfl rfl (λb=>vr default rfl el23 (zH gg b) (zH gg b) isl (p b) (GA.row_eq _)) ss (R.r ?_));refine draw_glen rfl rfl (λb=>vl rfl rfl rfl rfl el92 (zH gg b) lenMap) ss (R.r ?_);refine zJ a (λx a=>vX rfl rfl (λb=>vr default rfl el23 (zH gg b) (zH gg b) isl (x b) (GA.row_eq _)) ss (R.r ?_));refine draw_glen rfl rfl (λb=>vl rfl rfl rfl rfl el92 (zH gg b) lenMap) ss (R.r ?_);refine zJ a (λs a=>vX rfl rfl (λb=>vr default rfl el23 (zH gg b) (zH gg b) isl (s b) (GA.row_eq _)) ss (R.r ?_));refine zJ a (λq a=>vX rfl rfl (λb=>vr default rfl el23 (zH gg b) (zH gg b) isl (q b) (GA.row_eq _)) ss (R.r ?_));refine yb a (λv48 g a=>xn rfl rfl sc (λb=>ih (g b)) ss (R.r ?_));refine zg gg a (λm a=>?_) (λm a=>?_)
    ·apply R.r;cases a;replace a:=f;apply R.r;cases a;exact fz rfl rfl
    ·apply R.r;refine zB (λ(F:Nat) (s2:Unit)=>zx 2 3 (zx 7 79 [(6,.int .i64 (F:Int))])) (λs2=>h.ext [] []) a (λ_ _=>by simp only [zx,wS,uk,ul];try rfl) (wk.le LEL.o) ?_;intro F s2 I a;apply R.r;refine zd rfl (ym rfl el23 gg gg isl (zD e) (GA.row_eq _)) ss (R.r ?_);refine ln λd=>?_;replace d:=ya d;apply R.r;refine zI gg a (λP N A z a t=>?_) (λa=>?_)
     ·apply R.r;refine zX [16] [] trivial mixed (by kernel_rfl) (R.r ?_);refine zr rfl rfl (ym rfl el23 gg gg isl (zD e) (GA.row_eq _)) ss (R.r ?_);refine dix (zD z) (R.r ?_);refine zf a (λM l a=>zr rfl rfl (ym rfl el23 gg gg isl l (GA.row_eq _)) ss (R.r ?_));refine zf a (λK i a=>dix i (R.r ?_));refine zf a (λJ w a=>zq rfl rfl (λ_=>sc rfl) (by rintro _ ⟨B2,T2,rfl,H⟩;exact ok40 w) ss (R.r ?_));refine zg gg a (λk a=>?_) (λk a=>?_)
      ·apply R.r;cases a;replace a:=t;apply R.r;cases a;replace a:=f;apply R.r;cases a;exact fz rfl rfl
      ·apply R.r;cases a;exact ⟨(),A,t,wk.le (by exact (.eq (.eq (.drop (.drop (.drop (.eq (.cons (leV.of_eq (yS (by omega) (by omega))) (.d16 (.d16 (.d16 (.d16 (.d4 (.d4 (.d4 (.drop (.drop (.drop leL.nil))))))))))))))))))⟩
     ·apply R.r;cases a;exact ⟨(),B,f,wk.le (by exact (.eq (.eq (.drop (.drop (.drop (.cons (leV.of_eq (yS (by omega) (by omega))) (.d16 (.d16 (.d16 (.d16 (.d16 leL.nil))))))))))))⟩
   ·apply R.r;cases a;exact fz rfl rfl
theorem ok14 {a0:(List GA)} {a:(List GA)}  (c:ql a0 a=some res):Sp 14 [.sl 3 (a0.map GA.row),.sl 3 (a.map GA.row)] h (yn (.bool res) h):=by
 obtain ⟨n,b⟩:=anyN_is c;exact ok14N n b
theorem ok3 {t0:(List GA)} {s:GH}  (a:wY t0 s=some res):Sp 3 [.sl 3 (t0.map GA.row),.agg (GH.row s)] h (yn (.bool res) h):=by
 unfold wY at a;refine za Tryz.func3 rfl (by kernel_rfl) (yw 73 rfl) (R.r ?_);refine zf a (λE l a=>cp (ok6 l) (R.r ?_));refine lng λA=>R.r ?_;refine lng λy=>R.r ?_;refine lng λt=>R.r ?_;refine zg gg a (λm a=>?_) (λm a=>?_)
 ·apply R.r;refine zf a (λD p a=>cp (ok7 p) (R.r ?_));cases a;exact fz rfl rfl
 ·apply R.r;refine zf a (λF q a=>cp (ok8 q) (R.r ?_));refine zX [2] [] trivial mixed (by kernel_rfl) (R.r ?_);refine zf a (λG o a=>zq rfl rfl (λ_=>sc rfl) (by rintro _ ⟨B2,T2,rfl,u⟩;exact ok9 o) ss (R.r ?_));refine yb a (λv9 n a=>xn rfl rfl sc (λb=>ok10 (n b)) ss (R.r ?_));refine yb a (λv f a=>xn rfl rfl sc (λb=>ok11 (f b)) ss (R.r ?_));refine zg gg a (λj a=>?_) (λj a=>?_)
  ·apply R.r;cases a;exact fz rfl rfl
  ·apply R.r;refine zf a (λw k a=>cp (ok12 k) (R.r ?_));refine zg gg a (λi a=>?_) (λi a=>?_)
   ·apply R.r;refine yb a (λB c a=>zN rfl sc (λb=>ok7 (c b)) ss (R.r ?_));cases a;exact fz rfl rfl
   ·apply R.r;refine zf a (λx e a=>cp (ok13 e) (R.r ?_));refine yb a (λz d a=>zN rfl sc (λb=>ok14 (d b)) ss (R.r ?_));refine yb a (λC g a=>zN rfl sc (λb=>ok7 (g b)) ss (R.r ?_));cases a;exact fz rfl rfl
end Go.Vv
