/- Each function that the law reaches computes what its reading says; printed by a program. -/
import Derived.Test.YtandnkcefogjeaaGreatW5
namespace Go.Vv
open Go Go.Proofs
set_option maxRecDepth 100000
set_option synthInstance.maxSize 100000
set_option synthInstance.maxHeartbeats 1000000
set_option maxHeartbeats 1000000
set_option linter.unusedSimpArgs false
set_option linter.unusedVariables false
theorem ok86 {q:GLeaf} {res:Bool} {h:AH}  (a:ref05May q=some res):Spec Tryz.prog 86 [.agg (GLeaf.row q)] h (ya (.bool res) h):=by
 unfold ref05May at a;refine za Tryz.func86 rfl (by kernel_rfl) (yj 205 rfl) (R.r ?_);refine lng λV=>R.r ?_;refine lng λT=>R.r ?_;refine zc gg a (λD a=>?_) (λD a=>?_)
 ·refine R.r ?_;cases a;exact fz rfl rfl
 ·refine R.r ?_;refine zd rfl (zQ (cs':=lit6x) rfl su30 ze30 pl30 zg .nil rfl rfl) ss ?_;refine zd rfl (qW (n:=1) rfl ze30 rfl) ss ?_;refine zd rfl (zT (cs':=lit6x) rfl ty30.choose_spec.1 gg gg (zb rfl) rfl rfl rfl rfl rfl) rfl ?_;refine ops_nil (q_seq ?_);refine r_join (λ(K:Unit)=>zD [0,2,3,4,5,6,7,8,9,10,11,12,13,14,15,16,17,18,19,20,21,22,23,24,25,26,27,28,29,30,31,32,33,34,35,36,37,38,39,40,41,42,43,44,45,46,47,48,49,50,51,52,53,54,55,56,57,58,59,60,61,62,63,64,65,66,67,68,69,70,71,72,73,74,75,76,77,78,79,80,81,82,83,84,85,86,87,88,89,90,91,92,93,94,95,96,97,98,99,100,101,102,103,104,105,106,107,108,109,110,111,112,113,114,115,116,117,118,119,120,121,122,123,124,125,126,127,128,129,130,131,132,133,134,135,136,137,138,139,140,141,142,143,144,145,146,147,148,149,150,151,152,153,154,155,156,157,158,159,160,161,162,163,164,165,166,167,168,169,170,171,172,173,174,175,176,177,178,179,180,181,182,183,184,185,186,187,188,189,190,191,192,193,194,195,196,197,198,199,200,201,202,203,204] []) (λK=>h.ext [.cells (GLeaf.row q),.cells lit6x] []) a (λ_=>by simp only [zD,wg,List.set_cons_succ,List.set_cons_zero];try rfl) (λo1 a c=>?_) (λK a=>?_)
  ·refine R.r ?_;refine zc gg a (λF a=>?_) (λF a=>?_)
   ·refine R.r ?_;refine ops_gv rfl (λb=>vH rfl (yh gg b) (yh gg b) (bin_ne pk30 rfl)) ss (R.r ?_);refine zc gg a (λB a=>?_) (λB a=>?_)
    ·refine R.r ?_;refine q_join_ret ?_;cases a;replace a:=c;cases a;exact fz rfl rfl
    ·refine R.r ?_;refine q_join ?_;cases a;exact ⟨(),c,wk.le LEL.o⟩
   ·refine R.r ?_;refine zG a (λN z a=>zA rfl sc (λb=>ok73 (z b)) ss ?_);refine R.r ?_;refine lng λJ=>R.r ?_;refine zc gg a (λA a=>?_) (λA a=>?_)
    ·refine R.r ?_;refine q_join_ret ?_;cases a;replace a:=c;cases a;exact fz rfl rfl
    ·refine R.r ?_;refine q_join ?_;cases a;exact ⟨(),c,wk.le LEL.o⟩
  ·refine R.r ?_;refine zx (λ(n2:Nat) (s2:Unit)=>zD [0,2,3,5,6,7,8,9,10,11,12,13,14,15,16,17,18,19,20,21,22,23,24,25,26,27,28,29,30,31,32,33,34,35,36,37,38,39,40,41,42,43,44,45,46,47,48,49,50,51,52,53,54,55,56,57,58,59,60,61,62,63,64,65,66,67,68,69,70,71,72,73,74,75,76,77,78,79,80,81,82,83,84,85,86,87,88,89,90,91,92,93,94,95,96,97,98,99,100,101,102,103,104,105,106,107,108,109,110,111,112,113,114,115,116,117,118,119,120,121,122,123,124,125,126,127,128,129,130,131,132,133,134,135,136,137,138,139,140,141,142,143,144,145,146,147,148,149,150,151,152,153,154,155,156,157,158,159,160,161,162,163,164,165,166,167,168,169,170,171,172,173,174,175,176,177,178,179,180,181,182,183,184,185,186,187,188,189,190,191,192,193,194,195,196,197,198,199,200,201,202,203,204] [(4,.int .i64 (n2:Int))]) (λs2=>h.ext [.cells (GLeaf.row q),.cells lit6x] []) a (λ_ _=>by simp only [zD,wg,List.set_cons_succ,List.set_cons_zero];try rfl) (wk.le LEL.o) ?_;intro n2 s2 X a;refine R.r ?_;refine ln λe=>?_;replace e:=zU e;refine R.r ?_;refine zF gg a (λx2 Z G E a f=>?_) (λa=>?_)
   ·refine R.r ?_;refine ix (zw E) (R.r ?_);refine zf a (λW g a=>cp (ok73 g) ?_);refine R.r ?_;refine lng λL=>R.r ?_;refine zG a (λS t a=>zA rfl sc (λb=>ok141 (t b)) ss ?_);refine R.r ?_;refine zG a (λQ p a=>zA rfl sc (λb=>ok131 (p b)) ss ?_);refine R.r ?_;refine zc gg a (λu a=>?_) (λu a=>?_)
    ·refine R.r ?_;cases a;replace a:=f;refine R.r ?_;cases a;exact fz rfl rfl
    ·refine R.r ?_;refine zt [] [] trivial mixed (by kernel_rfl) (R.r ?_);refine zV a (λk a=>vP k ?_);refine R.r ?_;refine zV a (λl a=>vP l ?_);refine R.r ?_;refine zG a (λY v a=>yd rfl rfl sc (λb=>ok130 (v b)) ss ?_);refine R.r ?_;refine zc gg a (λw a=>?_) (λw a=>?_)
     ·refine R.r ?_;cases a;replace a:=f;refine R.r ?_;cases a;exact fz rfl rfl
     ·refine R.r ?_;cases a;exact ⟨(),G,f,wk.trans (wk.le (by exact (.drop (.eq (.drop (.drop (.cons (leV.of_eq (yL (by omega) (by omega))) (.d16 (.d16 (.d16 (.d16 (.d16 (.d16 (.d16 (.d16 (.d16 (.d16 (.d16 (.d16 (.d4 (.d4 leL.nil))))))))))))))))))))) (yl (by simp [zB,AV.low]) rfl rfl (by simp [Blk.low,zB,AV.low]))⟩
   ·refine R.r ?_;refine zx (λ(I:Nat) (M:Unit)=>zD [0,2,3,4,5,7,8,9,10,11,12,13,14,15,16,17,18,19,20,21,22,23,24,25,26,27,28,29,30,31,32,33,34,35,36,37,38,39,40,41,42,43,44,45,46,47,48,49,50,51,52,53,54,55,56,57,58,59,60,61,62,63,64,65,66,67,68,69,70,71,72,73,74,75,76,77,78,79,80,81,82,83,84,85,86,87,88,89,90,91,92,93,94,95,96,97,98,99,100,101,102,103,104,105,106,107,108,109,110,111,112,113,114,115,116,117,118,119,120,121,122,123,124,125,126,127,128,129,130,131,132,133,134,135,136,137,138,139,140,141,142,143,144,145,146,147,148,149,150,151,152,153,154,155,156,157,158,159,160,161,162,163,164,165,166,167,168,169,170,171,172,173,174,175,176,177,178,179,180,181,182,183,184,185,186,187,188,189,190,191,192,193,194,195,196,197,198,199,200,201,202,203,204] [(6,.int .i64 (I:Int))]) (λM=>h.ext [.cells (GLeaf.row q),.cells lit6x] []) a (λ_ _=>by simp only [zD,wg,List.set_cons_succ,List.set_cons_zero];try rfl) (wk.le LEL.o) ?_;intro I M U a;refine R.r ?_;refine ln λd=>?_;replace d:=zU d;refine R.r ?_;refine zF gg a (λx3 o3 H C a s=>?_) (λa=>?_)
    ·refine R.r ?_;refine zt [5] [] trivial mixed (by kernel_rfl) (R.r ?_);refine dix (zw C) (R.r ?_);refine zf a (λP m a=>zy rfl rfl (λ_=>sc rfl) (by rintro _ ⟨B2,T2,rfl,O⟩;exact ok73 m) ss ?_);refine R.r ?_;refine zV a (λj a=>vP j ?_);refine R.r ?_;refine zV a (λx a=>vP x ?_);refine R.r ?_;refine zG a (λv76 i a=>yd rfl (aG_gv rfl rfl rfl) sc (λb=>ok129 (i b)) ss ?_);refine R.r ?_;refine zc gg a (λy a=>?_) (λy a=>?_)
     ·refine R.r ?_;cases a;replace a:=s;refine R.r ?_;cases a;exact fz rfl rfl
     ·refine R.r ?_;cases a;exact ⟨(),H,s,wk.le (by exact (.drop (.eq (.d4 (.cons (leV.of_eq (yL (by omega) (by omega))) (.d16 (.d16 (.d16 (.d16 (.d16 (.d16 (.d16 (.d16 (.d16 (.d16 (.d16 (.d16 (.d4 (.drop (.drop leL.nil))))))))))))))))))))⟩
    ·refine R.r ?_;cases a;exact fz rfl rfl
theorem ok50N (n:Nat):∀{t0:(List GNode)} {b:Int} {res:Bool} {h:AH} , vd n t0 b=some res->Spec Tryz.prog 50 [.sl 3 (t0.map GNode.row),.int .i64 b] h (ya (.bool res) h):=by
 induction n with
 | zero=>intro t0 b res h  a;simp [vd] at a
 | succ n ih =>
  intro t0 b res h  a;unfold vd at a;refine za Tryz.func50 rfl (by kernel_rfl) (yj 95 rfl) (R.r ?_);refine zx (λ(z:Nat) (y:Unit)=>zD [2,3,4,6,7,8,9,10,11,12,13,14,15,16,17,18,19,20,21,22,23,24,25,26,27,28,29,30,31,32,33,34,35,36,37,38,39,40,41,42,43,44,45,46,47,48,49,50,51,52,53,54,55,56,57,58,59,60,61,62,63,64,65,66,67,68,69,70,71,72,73,74,75,76,77,78,79,80,81,82,83,84,85,86,87,88,89,90,91,92,93,94] [(5,.int .i64 (z:Int))]) (λy=>h.ext [] []) a (λ_ _=>by simp only [zD,wg,List.set_cons_succ,List.set_cons_zero];try rfl) (wk.le LEL.o) ?_;intro z y E a;refine R.r ?_;refine ln λd=>?_;replace d:=zU d;refine R.r ?_;refine zF gg a (λx H t v a f=>?_) (λa=>?_)
  ·refine R.r ?_;refine zd rfl (yc rfl el24 gg gg isl (zw v) (GNode.row_eq _)) ss (R.r ?_);refine zt [] [] trivial mixed (by kernel_rfl) (R.r ?_);refine zG a (λD j a=>yd rfl rfl sc (λc=>ok60 (j c)) ss ?_);refine R.r ?_;refine zV a (λi a=>vC rfl (aG_gv rfl rfl rfl) (λc=>wE default rfl el24 (yh gg c) (yh gg c) isl (i c) (GNode.row_eq _)) ss ?_);refine R.r ?_;refine draw_glen rfl rfl (λc=>wp rfl rfl rfl rfl el56 (yh gg c) vE) ss (R.r ?_);refine draw_glen rfl (aG_gv rfl rfl rfl) (λc=>wp rfl rfl rfl rfl el24 (yh gg c) vE) ss (R.r ?_);refine zG a (λB l a=>yd rfl rfl sc (λc=>ih (l c)) ss ?_);refine R.r ?_;refine zc gg a (λp a=>?_) (λp a=>?_)
   ·refine R.r ?_;cases a;replace a:=f;refine R.r ?_;cases a;exact fz rfl rfl
   ·refine R.r ?_;refine zx (λ(n2:Nat) (s2:Unit)=>zD [2,3,4,8,9,10,11,12,13,14,15,16,17,18,19,20,21,22,23,24,25,26,27,28,29,30,31,32,33,34,35,36,37,38,39,40,41,42,43,44,45,46,47,48,49,50,51,52,53,54,55,56,57,58,59,60,61,62,63,64,65,66,67,68,69,70,71,72,73,74,75,76,77,78,79,80,81,82,83,84,85,86,87,88,89,90,91,92,93,94] [(7,.int .i64 (n2:Int))]) (λs2=>h.ext [.cells [.str x.name,.sl 9 (x.leaves.map GLeaf.row),.sl 3 (x.subs.map GNode.row)]] []) a (λ_ _=>by simp only [zD,wg,List.set_cons_succ,List.set_cons_zero];try rfl) (wk.le LEL.o) ?_;intro n2 s2 C a;refine R.r ?_;refine ln λe=>?_;replace e:=zU e;refine R.r ?_;refine zF gg a (λG F w u a s=>?_) (λa=>?_)
    ·refine R.r ?_;refine zt [5] [] trivial mixed (by kernel_rfl) (R.r ?_);refine dix (zw u) (R.r ?_);refine zf a (λv50 k a=>zy rfl rfl (λ_=>sc rfl) (by rintro _ ⟨B2,T2,rfl,A⟩;exact ok86 k) ss ?_);refine R.r ?_;refine zV a (λm a=>vP m ?_);refine R.r ?_;refine zV a (λg a=>vP g ?_);refine R.r ?_;refine zc gg a (λq a=>?_) (λq a=>?_)
     ·refine R.r ?_;cases a;replace a:=s;refine R.r ?_;cases a;replace a:=f;refine R.r ?_;cases a;exact fz rfl rfl
     ·refine R.r ?_;cases a;exact ⟨(),w,s,wk.le (by exact (.eq (.eq (.drop (.drop (.drop (.eq (.eq (.cons (leV.of_eq (yL (by omega) (by omega))) (.d16 (.d16 (.d16 (.d16 (.d16 (.d4 (.drop (.drop (.drop leL.nil))))))))))))))))))⟩
    ·refine R.r ?_;cases a;exact ⟨(),t,f,wk.trans (wk.le (by exact (.eq (.eq (.drop (.drop (.drop (.cons (leV.of_eq (yL (by omega) (by omega))) (.d16 (.d16 (.d16 (.d16 (.d16 (.d4 (.d4 (.drop leL.nil)))))))))))))))) (yl (by simp [zB,AV.low]) rfl rfl (by simp [Blk.low,zB,AV.low]))⟩
  ·refine R.r ?_;cases a;exact fz rfl rfl
theorem ok50 {t0:(List GNode)} {a:Int} {res:Bool} {h:AH}  (b:ref07Xmay t0 a=some res):Spec Tryz.prog 50 [.sl 3 (t0.map GNode.row),.int .i64 a] h (ya (.bool res) h):=by
 obtain ⟨n,c⟩:=vY b;exact ok50N n c
theorem ok22 {t0:(List GNode)} {res:Bool} {h:AH}  (a:vJ t0=some res):Spec Tryz.prog 22 [.sl 3 (t0.map GNode.row)] h (ya (.bool res) h):=by
 unfold vJ at a;refine za Tryz.func22 rfl (by kernel_rfl) (yj 5 rfl) (R.r ?_);refine zf a (λc b a=>cp (ok50 b) ?_);refine R.r ?_;cases a;exact fz rfl rfl
theorem ok51N (n:Nat):∀{t0:(List GNode)} {a:(List zk)} {res:(List GVarveref07Row)} {h:AH} , wH n t0 a=some res->Spec Tryz.prog 51 [.sl 3 (t0.map GNode.row),.sl 1 (a.map zC)] h (ya (.sl 10 (res.map GVarveref07Row.row)) h):=by
 induction n with
 | zero=>intro t0 a res h  b;simp [wH] at b
 | succ n ih =>
  intro t0 a res h  b;unfold wH at b;refine za Tryz.func51 rfl (by kernel_rfl) (yj 58 rfl) (R.r ?_);refine zx (λ(z:Nat) (i:(List GVarveref07Row))=>zD [2,3,4,7,8,9,10,11,12,13,14,15,16,17,18,19,20,21,22,23,24,25,26,27,28,29,30,31,32,33,34,35,36,37,38,39,40,41,42,43,44,45,46,47,48,49,50,51,52,53,54,55,56,57] [(5,.osl (some (h.toks.length+0)) 10 (i.map GVarveref07Row.row)),(6,.int .i64 (z:Int))]) (λi=>h.ext [] [(i).length]) b (λ_ _=>by simp only [zD,wg,List.set_cons_succ,List.set_cons_zero];try rfl) (wk.trans (qF gt5 rfl st5 rfl) (wk.le (by exact (.eq (.eq (.drop (.drop (.drop (.cons (leV.of_eq rfl) (.cons (leV.of_eq rfl) (.d16 (.d16 (.d16 (.drop (.drop (.drop leL.nil)))))))))))))))) ?_;intro z i B b;refine R.r ?_;refine ln λg=>?_;replace g:=zU g;refine R.r ?_;refine zF gg b (λe D v d b u=>?_) (λb=>?_)
  ·refine R.r ?_;refine zt [] [] trivial mixed (by kernel_rfl) ?_;refine zz rfl rfl (zp (es:=([]:List zk).map zC) rfl el31 ze9 rfl rfl zg .nil rfl rfl rfl) ss (R.r ?_);refine zV b (λs b=>yO rfl FOk.nil (by rfl) rfl (e_appN (m:=1) (T':=[(i).length,((([]:List zk)++a)).length]) rfl rfl rfl rfl el31 el31 gg gg (zb rfl) (zb rfl) yZ s rfl rfl) ss ?_);refine R.r ?_;refine zz rfl rfl (yc rfl el24 gg gg isl (zw d) (GNode.row_eq _)) ss (R.r ?_);refine zz rfl rfl (zp (es:=([e.name]:List zk).map zC) rfl el31 ze9 rfl rfl (ze gg zg) (.cons (zb rfl) .nil) rfl rfl rfl) ss ?_;refine zV b (λq b=>yO rfl FOk.nil (by rfl) rfl (yu (j:=1) (T':=[(i).length,(((([]:List zk)++a)++([e.name]:List zk))).length]) rfl rfl rfl rfl el31 el31 gg gg (zb rfl) (zb rfl) yk q rfl rfl) ss ?_);refine R.r ?_;refine zx (λ(n2:Nat) (s2:(List GVarveref07Row))=>zD [2,3,4,9,10,11,12,13,14,15,16,17,18,19,20,21,22,23,24,25,26,27,28,29,30,31,32,33,34,35,36,37,38,39,40,41,42,43,44,45,46,47,48,49,50,51,52,53,54,55,56,57] [(5,.osl (some (h.toks.length+0)) 10 (s2.map GVarveref07Row.row)),(8,.int .i64 (n2:Int))]) (λs2=>h.ext [] [(s2).length,(((([]:List zk)++a)++([e.name]:List zk))).length]) b (λ_ _=>by simp only [zD,wg,List.set_cons_succ,List.set_cons_zero];try rfl) (wk.le LEL.o) ?_;intro n2 s2 A b;refine R.r ?_;refine zd rfl (yc rfl el24 gg gg isl (zw d) (GNode.row_eq _)) ss (R.r ?_);refine ln λf=>?_;replace f:=zU f;refine R.r ?_;refine zF gg b (λc C x w b y=>?_) (λb=>?_)
   ·refine R.r ?_;refine zd rfl (yc rfl el24 gg gg isl (zw d) (GNode.row_eq _)) ss (R.r ?_);refine ix (zw w) (R.r ?_);refine zd rfl (zQ (cs':=[.osl (some (h.toks.length+1)) 1 (((([]:List zk)++a)++([e.name]:List zk)).map zC),.int .u8 c.typ,.int .i64 c.n,.int .u64 c.time,.int .u8 c.dot.actor.rep,.int .u32 c.dot.actor.inc,.int .u64 c.dot.seq,.str c.text,.sl 5 (c.items.map GItem.row),.sl 3 (c.tombs.map GDot.row)]) rfl su95 ze95 pl95 (ze gg (ze gg zg)) (.cons (zb rfl) (.cons (zb rfl) .nil)) rfl rfl) ss ?_;refine zd rfl (zp (es:=([(GVarveref07Row.mk ((([]:List zk)++a)++([e.name]:List zk)) c)]:List GVarveref07Row).map GVarveref07Row.row) rfl el92 ze95 rfl rfl (ze gg zg) (.cons (zb rfl) .nil) rfl rfl rfl) ss ?_;refine zV b (λl b=>zd rfl (yu (j:=0) (T':=[((s2++([(GVarveref07Row.mk ((([]:List zk)++a)++([e.name]:List zk)) c)]:List GVarveref07Row))).length,(((([]:List zk)++a)++([e.name]:List zk))).length]) rfl rfl rfl rfl el92 el92 gg gg (zb rfl) (zb rfl) yk l rfl rfl) ss ?_);refine R.r ?_;cases b;exact ⟨(s2++([(GVarveref07Row.mk ((([]:List zk)++a)++([e.name]:List zk)) c)]:List GVarveref07Row)),x,y,wk.le (by exact (.eq (.eq (.drop (.drop (.drop (.cons (leV.of_eq rfl) (.eq (.eq (.cons (leV.of_eq (yL (by omega) (by omega))) (.d16 (.d16 (.d16 (.drop leL.nil))))))))))))))⟩
   ·refine R.r ?_;refine zd rfl (yc rfl el24 gg gg isl (zw d) (GNode.row_eq _)) ss (R.r ?_);refine zf b (λp k b=>cp ((ih k).le (.eq (.cons (leV.osl _ _ _) leL.nil))) ?_);refine zV b (λt b=>zd rfl (yu (j:=0) (T':=[((s2++p)).length,(((([]:List zk)++a)++([e.name]:List zk))).length]) rfl rfl rfl rfl el92 el92 gg gg (zb rfl) (zb rfl) yZ t rfl rfl) ss ?_);refine R.r ?_;cases b;exact ⟨(s2++p),v,u,wk.trans (wk.le (by exact (.eq (.eq (.drop (.drop (.drop (.cons (leV.of_eq rfl) (.cons (leV.of_eq (yL (by omega) (by omega))) (.d16 (.d16 (.d16 (.drop (.drop (.drop leL.nil))))))))))))))) (yl (by simp [zB,AV.low]) rfl rfl (by simp [Blk.low,zB,AV.low]))⟩
  ·refine R.r ?_;cases b;exact fe rfl rfl (leV.osl _ _ _)
theorem ok51 {t0:(List GNode)} {a:(List zk)} {res:(List GVarveref07Row)} {h:AH}  (b:ref07Rows t0 a=some res):Spec Tryz.prog 51 [.sl 3 (t0.map GNode.row),.sl 1 (a.map zC)] h (ya (.sl 10 (res.map GVarveref07Row.row)) h):=by
 obtain ⟨n,c⟩:=vY b;exact ok51N n c
theorem ok23 {t0:(List GNode)} {res:(List GRow)} {h:AH}  (a:ref30Rows t0=some res):Spec Tryz.prog 23 [.sl 3 (t0.map GNode.row)] h (ya (.sl 10 (res.map GRow.row)) h):=by
 unfold ref30Rows at a;refine za Tryz.func23 rfl (by kernel_rfl) (yj 33 rfl) (R.r ?_);refine zf a (λq n a=>cp (ok22 n) ?_);refine R.r ?_;refine zc gg a (λk a=>?_) (λk a=>?_)
 ·refine R.r ?_;cases a;exact fe rfl rfl (leV.osl _ _ _)
 ·refine R.r ?_;refine zf a (λv3 m a=>cp ((ok51 m).le (.eq (.cons (leV.osl _ _ _) leL.nil))) ?_);refine R.r ?_;refine zx (λ(o:Nat) (d:(List GRow))=>zD [0,1,2,6,7,8,9,10,11,12,13,14,15,16,17,18,19,20,21,22,23,24,25,26,27,28,29,30,31,32] [(3,.osl (some (h.toks.length+0)) 10 (d.map GRow.row)),(5,.int .i64 (o:Int))]) (λd=>h.ext [] [(d).length]) a (λ_ _=>by simp only [zD,wg,List.set_cons_succ,List.set_cons_zero];try rfl) (wk.trans (qF gt3 rfl st3 rfl) (wk.le (by exact (.drop (.drop (.drop (.cons (leV.of_eq rfl) (.eq (.cons (leV.of_eq rfl) (.d16 (.d4 (.d4 (.drop (.drop (.drop leL.nil))))))))))))))) ?_;intro o d p a;refine R.r ?_;refine ln λb=>?_;replace b:=zU b;refine R.r ?_;refine zF gg a (λc s i e a g=>?_) (λa=>?_)
  ·refine R.r ?_;refine zt [] [] trivial mixed (by kernel_rfl) (R.r ?_);refine dix (zw e) (R.r ?_);refine dix (zw e) (R.r ?_);refine zz rfl rfl (zQ (cs':=(GVarveref07Row.row c)) rfl su65 ze65 pl65 (ze gg (ze gg zg)) (.cons (zb rfl) (.cons (zb rfl) .nil)) rfl rfl) ss ?_;refine zz rfl rfl (zp (es:=([(GRow.mk c.path c.l)]:List GRow).map GRow.row) rfl el62 ze65 rfl rfl (ze gg zg) (.cons (zb rfl) .nil) rfl rfl rfl) ss ?_;refine zV a (λf a=>yO rfl FOk.nil (by rfl) rfl (yu (j:=0) (T':=[((d++([(GRow.mk c.path c.l)]:List GRow))).length]) rfl rfl rfl rfl el62 el62 gg gg (zb rfl) (zb rfl) yk f rfl rfl) ss ?_);refine R.r ?_;cases a;exact ⟨(d++([(GRow.mk c.path c.l)]:List GRow)),i,g,wk.le (by exact (.drop (.drop (.drop (.cons (leV.of_eq rfl) (.eq (.cons (leV.of_eq (yL (by omega) (by omega))) (.d16 (.d4 (.d4 (.drop (.drop (.drop leL.nil)))))))))))))⟩
  ·refine R.r ?_;cases a;exact fe rfl rfl (leV.osl _ _ _)
theorem ok7 {s:(List GField)} {u:(List GNode)} {res:((List GBreach)×Int)} {h:AH}  (a:wG s u=some res):Spec Tryz.prog 7 [.sl 5 (s.map GField.row),.sl 3 (u.map GNode.row)] h (ya (.tup [.sl 3 (res.1.map GBreach.row),.int .i64 res.2]) h):=by
 unfold wG at a;refine za Tryz.func7 rfl (by kernel_rfl) (yj 57 rfl) (R.r ?_);refine zf a (λy q a=>cp (ok11 q) ?_);refine R.r ?_;refine zG a (λz p a=>zA rfl sc (λv=>ok22 (p v)) ss ?_);refine R.r ?_;refine zc gg a (λo a=>?_) (λo a=>?_)
 ·refine R.r ?_;cases a;exact fe rfl rfl (leV.tup (.cons (leV.osl _ _ _) (.eq leL.nil)))
 ·refine R.r ?_;refine zf a (λv4 n a=>cp (ok23 n) ?_);refine R.r ?_;refine zx (λ(t:Nat) (f:(List GBreach))=>zD [1,2,3,4,5,9,10,11,12,13,14,15,16,17,18,19,20,21,22,23,24,25,26,27,28,29,30,31,32,33,34,35,36,37,38,39,40,41,42,43,44,45,46,47,48,49,50,51,52,53,54,55,56] [(7,.osl (some (h.toks.length+0)) 3 (f.map GBreach.row)),(8,.int .i64 (t:Int))]) (λf=>h.ext [] [(f).length]) a (λ_ _=>by simp only [zD,wg,List.set_cons_succ,List.set_cons_zero];try rfl) (wk.trans (qF gt7 rfl st7 rfl) (wk.le (by exact (.eq (.d4 (.drop (.eq (.cons (leV.of_eq rfl) (.cons (leV.of_eq rfl) (.d16 (.d16 (.d16 leL.nil)))))))))))) ?_;intro t f w a;refine R.r ?_;refine ln λe=>?_;replace e:=zU e;refine R.r ?_;refine zF gg a (λd A k b a g=>?_) (λa=>?_)
  ·refine R.r ?_;refine zt [11] [] trivial mixed (by kernel_rfl) (R.r ?_);refine dix (zw b) (R.r ?_);refine dix (zw b) (R.r ?_);refine zf a (λc m a=>zy rfl rfl (λ_=>sc rfl) (by rintro _ ⟨B2,T2,rfl,x⟩;exact ok24 m) ss ?_);refine R.r ?_;refine zc gg a (λl a=>?_) (λl a=>?_)
   ·refine zt [] [] trivial mixed (by kernel_rfl) (R.r ?_);refine dix (zw b) (R.r ?_);refine dix (zw b) (R.r ?_);refine zz rfl rfl (zQ (cs':=[.sl 1 (d.path.map zC),.int .u8 d.leaf.typ,.int .i64 c]) rfl su61 ze61 pl61 (ze gg (ze gg (ze gg zg))) (.cons (zb rfl) (.cons (zb rfl) (.cons (zb rfl) .nil))) rfl rfl) ss ?_;refine zz rfl rfl (zp (es:=([(GBreach.mk d.path d.leaf.typ c)]:List GBreach).map GBreach.row) rfl el39 ze61 rfl rfl (ze gg zg) (.cons (zb rfl) .nil) rfl rfl rfl) ss ?_;refine zV a (λi a=>yO rfl FOk.nil (by rfl) rfl (yu (j:=0) (T':=[((f++([(GBreach.mk d.path d.leaf.typ c)]:List GBreach))).length]) rfl rfl rfl rfl el39 el39 gg gg (zb rfl) (zb rfl) yk i rfl rfl) ss ?_);refine R.r ?_;cases a;exact ⟨(f++([(GBreach.mk d.path d.leaf.typ c)]:List GBreach)),k,g,wk.le (by exact (.eq (.d4 (.drop (.eq (.cons (leV.of_eq rfl) (.cons (leV.of_eq (yL (by omega) (by omega))) (.d16 (.d16 (.d16 leL.nil))))))))))⟩
   ·refine R.r ?_;cases a;exact ⟨f,k,g,wk.le (by exact (.eq (.d4 (.drop (.eq (.cons (leV.of_eq rfl) (.cons (leV.of_eq (yL (by omega) (by omega))) (.d16 (.d16 (.d16 leL.nil))))))))))⟩
  ·refine R.r ?_;cases a;exact fe rfl rfl (leV.tup (.cons (leV.osl _ _ _) (.eq leL.nil)))
theorem ok89 {a:Bool} {g:GLeaf} {b:Int} {res:Bool} {h:AH}  (c:wx a g b=some res):Spec Tryz.prog 89 [.bool a,.agg (GLeaf.row g),.int .u8 b] h (ya (.bool res) h):=by
 unfold wx at c;refine za Tryz.func89 rfl (by kernel_rfl) (yj 20 rfl) (R.r ?_);refine zc gg c (λd c=>?_) (λd c=>?_)
 ·refine R.r ?_;refine zd rfl (zQ (cs':=xk) rfl su55 qE pl55 zg .nil rfl rfl) ss ?_;refine zf c (λj e c=>cp ((ok55 e).le (.eq (.cons (leV.agg (.eq (.eq (.eq (.eq (.eq (.eq (.eq (.cons (leV.osl _ _ _) (.cons (leV.osl _ _ _) leL.nil))))))))) rfl) leL.nil))) ?_);refine R.r ?_;cases c;exact fz rfl rfl
 ·refine R.r ?_;refine zG c (λv3 f c=>zA rfl sc (λi=>ok79 (f i)) ss ?_);refine R.r ?_;cases c;exact fz rfl rfl
theorem ok193 {a:zk} {res:Bool} {h:AH}  (b:xD a=some res):Spec Tryz.prog 193 [.str a] h (ya (.bool res) h):=by
 unfold xD at b;refine za Tryz.func193 rfl (by kernel_rfl) (yj 6 rfl) (R.r ?_);cases b;exact fz rfl rfl
theorem ok167 {j:zk} {k:zk} {res:Int} {h:AH}  (a:yA j k=some res):Spec Tryz.prog 167 [.str j,.str k] h (ya (.int .i64 res) h):=by
 unfold yA at a;refine za Tryz.func167 rfl (by kernel_rfl) (yj 20 rfl) (R.r ?_);refine zf a (λl d a=>cp (ok193 d) ?_);refine R.r ?_;refine zf a (λm c a=>cp (ok193 c) ?_);refine R.r ?_;refine zc gg a (λf a=>?_) (λf a=>?_)
 ·refine R.r ?_;refine zc gg a (λg a=>?_) (λg a=>?_)
  ·refine R.r ?_;cases a;exact fz rfl rfl
  ·refine R.r ?_;cases a;exact fz rfl rfl
 ·refine R.r ?_;refine zc gg a (λb a=>?_) (λb a=>?_)
  ·refine R.r ?_;cases a;exact fz rfl rfl
  ·refine R.r ?_;refine zc gg a (λi a=>?_) (λi a=>?_)
   ·refine R.r ?_;cases a;exact fz rfl rfl
   ·refine R.r ?_;refine zc gg a (λe a=>?_) (λe a=>?_)
    ·refine R.r ?_;cases a;exact fz rfl rfl
    ·refine R.r ?_;cases a;exact fz rfl rfl
theorem ok145 {f:(List zk)} {k:(List zk)} {res:Int} {h:AH}  (a:yP f k=some res):Spec Tryz.prog 145 [.sl 1 (f.map zC),.sl 1 (k.map zC)] h (ya (.int .i64 res) h):=by
 unfold yP at a;refine za Tryz.func145 rfl (by kernel_rfl) (yj 36 rfl) (R.r ?_);refine ln λl=>?_;replace l:=zU l;refine R.r ?_;refine zx (λ(t:Nat) (s:Unit)=>zD [2,3,4,5,6,7,8,12,13,14,15,16,17,18,19,20,21,22,23,24,25,26,27,28,29,30,31,32,33,34,35] [(11,.int .i64 (t:Int))]) (λs=>h.ext [] []) a (λ_ _=>by simp only [zD,wg,List.set_cons_succ,List.set_cons_zero];try rfl) (wk.le LEL.o) ?_;intro t s w a;refine R.r ?_;refine zF gg a (λx y p q a e=>?_) (λa=>?_)
 ·refine R.r ?_;refine ix (zw q) (R.r ?_);refine ln λc=>?_;replace c:=zU c;refine R.r ?_;refine zc gg a (λn a=>?_) (λn a=>?_)
  ·refine R.r ?_;cases a;replace a:=e;refine R.r ?_;cases a;exact fz rfl rfl
  ·refine R.r ?_;refine zf a (λu g a=>ix g ?_);refine R.r ?_;refine zf a (λv j a=>cp (ok167 j) ?_);refine R.r ?_;refine zc gg a (λi a=>?_) (λi a=>?_)
   ·refine R.r ?_;cases a;replace a:=e;refine R.r ?_;cases a;exact fz rfl rfl
   ·refine R.r ?_;cases a;exact ⟨(),p,e,wk.le (by exact (.eq (.eq (.d4 (.drop (.drop (.drop (.eq (.eq (.cons (leV.of_eq (yL (by omega) (by omega))) (.d16 (.d4 (.d4 leL.nil)))))))))))))⟩
 ·refine R.r ?_;refine ln λb=>?_;replace b:=zU b;refine R.r ?_;refine ln λd=>?_;replace d:=zU d;refine R.r ?_;refine zc gg a (λm a=>?_) (λm a=>?_)
  ·refine R.r ?_;cases a;exact fz rfl rfl
  ·refine R.r ?_;cases a;exact fz rfl rfl
theorem ok90 {a0:GEdit} {f:GEdit} {res:Int} {h:AH}  (a:diffXorder a0 f=some res):Spec Tryz.prog 90 [.agg (GEdit.row a0),.agg (GEdit.row f)] h (ya (.int .i64 res) h):=by
 unfold diffXorder at a;refine za Tryz.func90 rfl (by kernel_rfl) (yj 17 rfl) (R.r ?_);refine zt [4,9,11] [] trivial mixed (by kernel_rfl) (R.r ?_);refine zf a (λg e a=>zy rfl rfl (λ_=>sc rfl) (by rintro _ ⟨B2,T2,rfl,b⟩;exact ok145 e) ss ?_);refine R.r ?_;refine zf a (λi c a=>zy rfl rfl (λ_=>sc rfl) (by rintro _ ⟨B2,T2,rfl,b⟩;exact ok104 c) ss ?_);refine zz rfl rfl (zp (es:=([g,i]:List Int).map (intRow .i64)) rfl el189 ze3 rfl rfl (ze gg (ze gg zg)) (.cons (zb rfl) (.cons (zb rfl) .nil)) rfl rfl rfl) ss ?_;refine zf a (λv3 d a=>zy rfl rfl (λ_=>sc rfl) (by rintro _ ⟨B2,T2,rfl,b⟩;exact (ok144 d).le (.cons (leV.osl _ _ _) leL.nil)) ss ?_);refine R.r ?_;cases a;exact fz rfl rfl
theorem ok53 {s:(List GEdit)} {res:Bool} {h:AH}  (a:diffMay s=some res):Spec Tryz.prog 53 [.sl 22 (s.map GEdit.row)] h (ya (.bool res) h):=by
 unfold diffMay at a;refine za Tryz.func53 rfl (by kernel_rfl) (yj 89 rfl) (R.r ?_);refine ln λg=>?_;replace g:=zU g;refine R.r ?_;refine zx (λ(t:Nat) (q:Unit)=>zD [1,2,3,4,5,6,10,11,12,13,14,15,16,17,18,19,20,21,22,23,24,25,26,27,28,29,30,31,32,33,34,35,36,37,38,39,40,41,42,43,44,45,46,47,48,49,50,51,52,53,54,55,56,57,58,59,60,61,62,63,64,65,66,67,68,69,70,71,72,73,74,75,76,77,78,79,80,81,82,83,84,85,86,87,88] [(9,.int .i64 (t:Int))]) (λq=>h.ext [] []) a (λ_ _=>by simp only [zD,wg,List.set_cons_succ,List.set_cons_zero];try rfl) (wk.le LEL.o) ?_;intro t q z a;refine R.r ?_;refine zF gg a (λA B n p a b=>?_) (λa=>?_)
 ·refine R.r ?_;refine ix (zw p) (R.r ?_);refine zG a (λv f a=>zA rfl sc (λc=>ok55 (f c)) ss ?_);refine R.r ?_;refine zf a (λu e a=>cp (ok88 e) ?_);refine R.r ?_;refine zG a (λx m a=>zA rfl sc (λc=>ok89 (m c)) ss ?_);refine R.r ?_;refine zG a (λy i a=>zA rfl sc (λc=>ok89 (i c)) ss ?_);refine R.r ?_;refine zc gg a (λj a=>?_) (λj a=>?_)
  ·refine R.r ?_;cases a;replace a:=b;refine R.r ?_;cases a;exact fz rfl rfl
  ·refine R.r ?_;refine zt [] [] trivial mixed (by kernel_rfl) (R.r ?_);refine zV a (λk a=>vP k ?_);refine R.r ?_;refine zG a (λw l a=>yd rfl rfl sc (λc=>ok90 (l c)) ss ?_);refine R.r ?_;refine zc gg a (λd a=>?_) (λd a=>?_)
   ·refine R.r ?_;cases a;replace a:=b;refine R.r ?_;cases a;exact fz rfl rfl
   ·refine R.r ?_;cases a;exact ⟨(),n,b,wk.trans (wk.le (by exact (.eq (.d4 (.drop (.drop (.eq (.eq (.cons (leV.of_eq (yL (by omega) (by omega))) (.d16 (.d16 (.d16 (.d16 (.d4 (.d4 (.d4 (.drop (.drop (.drop leL.nil))))))))))))))))))) (yl (by simp [zB,AV.low]) rfl rfl (by simp [Blk.low,zB,AV.low]))⟩
 ·refine R.r ?_;cases a;exact fz rfl rfl
theorem ok91N (n:Nat):∀{t0:(List GNode)} {d:(List zk)} {t:((List zk)->Option Bool)} {l:FuncId} {f g:List AV} {res:(List GNode)} {h:AH} (k:∀P v (L:List Blk) (M:List Nat),t P=some v->Spec Tryz.prog l (f++[.sl 1 (P.map zC)]++g) (h.ext L M) (ya (.bool v) (h.ext L M))),vh n t0 d t=some res->Spec Tryz.prog 91 [.sl 3 (t0.map GNode.row),.sl 1 (d.map zC),.fn (.func l) f g] h (ya (.sl 3 (res.map GNode.row)) h):=by
 induction n with
 | zero=>intro t0 d t l f g res h k c;simp [vh] at c
 | succ n ih =>
  intro t0 d t l f g res h k c;unfold vh at c;refine zL Tryz.func91 rfl (by kernel_rfl) (yj 65 rfl) (λo hC=>?_);simp only [zB,AV.low,Bool.and_eq_true,Bool.true_and,and_true] at o;have b:∀n m,h.blks.length<=n->h.toks.length<=m->zB n m f=true:=λn m S U=>zW S U _ (by simp [o]);have a:∀n m,h.blks.length<=n->h.toks.length<=m->zB n m g=true:=λn m S U=>zW S U _ (by simp [o]);refine R.r ?_;refine ln λG=>?_;replace G:=zU G;refine R.r ?_;refine zx (λ(V:Nat) (p:(List GNode))=>zD [0,3,4,5,7,8,9,10,11,12,16,17,18,19,20,21,22,23,24,25,26,27,28,29,30,31,32,33,34,35,36,37,38,39,40,41,42,43,44,45,46,47,48,49,50,51,52,53,54,55,56,57,58,59,60,61,62,63,64] [(6,.osl (some (h.toks.length+0)) 3 (p.map GNode.row)),(15,.int .i64 (V:Int))]) (λp=>h.ext [] [(p).length]) c (λ_ _=>by simp only [zD,wg,List.set_cons_succ,List.set_cons_zero];try rfl) (wk.trans (qF gt6 rfl st6 rfl) (wk.le (by exact (.drop (.eq (.eq (.drop (.drop (.drop (.cons (leV.of_eq rfl) (.d4 (.drop (.drop (.eq (.eq (.cons (leV.of_eq rfl) (.d16 (.d16 (.d16 (.drop leL.nil)))))))))))))))))))) ?_;intro V p Z c;refine R.r ?_;refine zF gg c (λe o1 B T c z=>?_) (λc=>?_)
  ·refine R.r ?_;refine zd rfl (yc rfl el24 gg gg isl (zw T) (GNode.row_eq _)) ss (R.r ?_);refine zt [] [] trivial mixed (by kernel_rfl) (R.r ?_);refine zf c (λq K c=>xU rfl FOk.nil (by rfl) rfl (sc rfl) (qO (T':=[(p).length,(q).length]) (ok82 K) (m:=1) rfl rfl) ss ?_);refine R.r ?_;refine zz rfl rfl (zp (es:=([e.name]:List zk).map zC) rfl el31 ze9 rfl rfl (ze gg zg) (.cons (zb rfl) .nil) rfl rfl rfl) ss ?_;refine zV c (λI c=>yO rfl FOk.nil (by rfl) rfl (yu (j:=1) (T':=[(p).length,((q++([e.name]:List zk))).length]) rfl rfl rfl rfl el31 el31 gg gg (zb rfl) (zb rfl) yk I rfl rfl) ss ?_);refine R.r ?_;refine zt [1,3,6] [(1,[(0,.cells [.str e.name,.sl 9 (e.leaves.map GLeaf.row),.sl 3 (e.subs.map GNode.row)])]),(3,[(0,.cells [.str e.name,.sl 9 (e.leaves.map GLeaf.row),.sl 3 (e.subs.map GNode.row)])])] ⟨⟨rfl,trivial⟩,⟨rfl,trivial⟩,trivial⟩ mixed (by kernel_rfl) (R.r ?_);refine xb rfl rfl (by rintro _ ⟨B2,T2,rfl,s⟩;exact xT rfl ty9 gg (wU s) (zY rfl) (zb rfl)) ss (R.r ?_);refine xb rfl rfl (by rintro _ ⟨B2,T2,rfl,s⟩;exact xT rfl ty24 gg (wU s) (zY rfl) (zb rfl)) ss (R.r ?_);refine zf c (λi J c=>zy rfl rfl (λ_=>sc rfl) (by rintro _ ⟨B2,T2,rfl,s⟩;exact (ih (λP v L M W=>by rw [y8];exact k P v _ _ W) J).le (.eq (.cons (leV.osl _ _ _) (.eq leL.nil)))) ss ?_);refine zz rfl rfl (zQ (cs':=[.str e.name,.osl none 9 (([]:List GLeaf).map GLeaf.row),.sl 3 (i.map GNode.row)]) rfl su58 ze58 pl58 (ze gg (ze gg zg)) (.cons (zb rfl) (.cons (zb rfl) .nil)) rfl rfl) ss ?_;refine zI rfl (FOk.cons (.inr (zX ⟨rfl,trivial⟩)) (FOk.cons (.inr (zX ⟨rfl,trivial⟩)) (FOk.cons (.inr (zX trivial)) FOk.nil))) (by kernel_rfl) rfl (qW (n:=1) rfl ze58 rfl) ss ?_;refine zI rfl (FOk.cons (.inr (zX ⟨rfl,trivial⟩)) (FOk.cons (.inr (zX ⟨rfl,trivial⟩)) (FOk.cons (.inr (zX trivial)) FOk.nil))) (by kernel_rfl) rfl (zT (cs':=[.str e.name,.osl none 9 (([]:List GLeaf).map GLeaf.row),.sl 3 (i.map GNode.row)]) rfl ty58.choose_spec.1 gg gg (zb rfl) rfl rfl rfl rfl rfl) rfl (R.r ?_);refine ln λw=>?_;replace w:=zU w;refine R.r ?_;refine zx (λ(n2:Nat) (s2:(List GLeaf))=>zD [0,3,4,5,7,8,11,12,16,17,18,19,20,21,22,23,24,25,26,27,28,29,30,31,32,33,37,38,39,40,41,42,43,44,45,46,47,48,49,50,51,52,53,54,55,56,57,58,59,60,61,62,63,64] [(36,.int .i64 (n2:Int))]) (λs2=>h.ext [.cells [.str e.name,.sl 9 (e.leaves.map GLeaf.row),.sl 3 (e.subs.map GNode.row)],.cells [.str e.name,.osl (some (h.toks.length+2)) 9 (s2.map GLeaf.row),.sl 3 (i.map GNode.row)]] [(p).length,((q++([e.name]:List zk))).length,(s2).length]) c (λ_ _=>by simp only [zD,wg,List.set_cons_succ,List.set_cons_zero];try rfl) (wk.trans (wk_tokB (j:=1) rfl gt1 rfl st1 rfl rfl) (wk.le (by exact (.drop (.eq (.eq (.drop (.drop (.drop (.eq (.drop (.drop (.eq (.eq (.drop (.drop (.eq (.eq (.eq (.d16 (.drop (.drop (.eq (.eq (.cons (leV.of_eq rfl) (.d16 (.d4 (.d4 (.d4 leL.nil))))))))))))))))))))))))))))) ?_;intro n2 s2 Y c;refine R.r ?_;refine zF gg c (λx2 o2 H Q c E=>?_) (λc=>?_)
   ·refine R.r ?_;refine ix (zw Q) (R.r ?_);refine zf c (λX O c=>yM rfl (scC rfl) ((k _ _ _ _ O).le (leL.app (leL.pre (.cons (leV.osl _ _ _) leL.nil)))) ss ?_);refine R.r ?_;refine zc gg c (λC c=>?_) (λC c=>?_)
    ·refine zt [3] [] trivial mixed (by kernel_rfl) (R.r ?_);refine zf c (λu F c=>zy rfl rfl (λ_=>sc rfl) (by rintro _ ⟨B2,T2,rfl,s⟩;exact ok83 F) ss ?_);refine zz rfl rfl (zp (es:=([u]:List GLeaf).map GLeaf.row) rfl el56 qE rfl rfl (ze gg zg) (.cons (zb rfl) .nil) rfl rfl rfl) ss ?_;refine zV c (λD c=>yO rfl (FOk.cons (.inr (zX trivial)) FOk.nil) (by rfl) rfl (yu (j:=2) (T':=[(p).length,((q++([e.name]:List zk))).length,((s2++([u]:List GLeaf))).length]) rfl rfl rfl rfl el56 el56 gg gg (zb rfl) (zb rfl) yk D rfl rfl) ss ?_);refine R.r ?_;refine zI rfl (FOk.cons (.inr (zX trivial)) FOk.nil) (by kernel_rfl) rfl (zT (cs':=[.str e.name,.osl (some (h.toks.length+2)) 9 ((s2++([u]:List GLeaf)).map GLeaf.row),.sl 3 (i.map GNode.row)]) rfl ty56 gg gg (zb rfl) rfl rfl rfl rfl rfl) rfl (R.r ?_);cases c;exact ⟨(s2++([u]:List GLeaf)),H,E,wk.trans (wk.le (by exact (.drop (.eq (.eq (.drop (.drop (.drop (.eq (.drop (.drop (.eq (.eq (.drop (.drop (.eq (.eq (.eq (.d16 (.drop (.drop (.eq (.eq (.cons (leV.of_eq (yL (by omega) (by omega))) (.d16 (.d4 (.d4 (.d4 leL.nil)))))))))))))))))))))))))))) (yl (by simp [zB,AV.low,b,a]) rfl rfl (by simp [Blk.low,zB,AV.low,b,a]))⟩
    ·refine R.r ?_;cases c;exact ⟨s2,H,E,wk.trans (wk.le (by exact (.drop (.eq (.eq (.drop (.drop (.drop (.eq (.drop (.drop (.eq (.eq (.drop (.drop (.eq (.eq (.eq (.d16 (.drop (.drop (.eq (.eq (.cons (leV.of_eq (yL (by omega) (by omega))) (.d16 (.d4 (.d4 (.d4 leL.nil)))))))))))))))))))))))))))) (yl (by simp [zB,AV.low,b,a]) rfl rfl (by simp [Blk.low,zB,AV.low,b,a]))⟩
   ·refine R.r ?_;refine ln λx=>?_;replace x:=zU x;refine R.r ?_;refine ln λy=>?_;replace y:=zU y;refine R.r ?_;refine zc gg c (λA c=>?_) (λA c=>?_)
    ·refine R.r ?_;refine zd rfl (zp (es:=([(GNode.mk e.name s2 i)]:List GNode).map GNode.row) rfl el24 ze58 rfl rfl (ze gg zg) (.cons (zb rfl) .nil) rfl rfl (by simp only [List.map_cons,List.map_nil,GNode.row_eq];rfl)) ss ?_;refine zV c (λN c=>zd rfl (yu (j:=0) (T':=[((p++([(GNode.mk e.name s2 i)]:List GNode))).length,((q++([e.name]:List zk))).length,(s2).length]) rfl rfl rfl rfl el24 el24 gg gg (zb rfl) (zb rfl) yk N rfl rfl) ss ?_);refine R.r ?_;cases c;exact ⟨(p++([(GNode.mk e.name s2 i)]:List GNode)),B,z,wk.trans (wk.le (by exact (.drop (.eq (.eq (.drop (.drop (.drop (.cons (leV.of_eq rfl) (.d4 (.drop (.drop (.eq (.eq (.cons (leV.of_eq (yL (by omega) (by omega))) (.d16 (.d16 (.d16 (.drop leL.nil))))))))))))))))))) (yl (by simp [zB,AV.low,b,a]) rfl rfl (by simp [Blk.low,zB,AV.low,b,a]))⟩
    ·refine R.r ?_;cases c;exact ⟨p,B,z,wk.trans (wk.le (by exact (.drop (.eq (.eq (.drop (.drop (.drop (.cons (leV.of_eq rfl) (.d4 (.drop (.drop (.eq (.eq (.cons (leV.of_eq (yL (by omega) (by omega))) (.d16 (.d16 (.d16 (.drop leL.nil))))))))))))))))))) (yl (by simp [zB,AV.low,b,a]) rfl rfl (by simp [Blk.low,zB,AV.low,b,a]))⟩
  ·refine R.r ?_;cases c;exact fe rfl rfl (leV.osl _ _ _)
theorem ok91 {t0:(List GNode)} {a:(List zk)} {e:((List zk)->Option Bool)} {d:FuncId} {c b:List AV} {res:(List GNode)} {h:AH} (f:∀g v (L:List Blk) (M:List Nat),e g=some v->Spec Tryz.prog d (c++[.sl 1 (g.map zC)]++b) (h.ext L M) (ya (.bool v) (h.ext L M))) (i:pathsXkept t0 a e=some res):Spec Tryz.prog 91 [.sl 3 (t0.map GNode.row),.sl 1 (a.map zC),.fn (.func d) c b] h (ya (.sl 3 (res.map GNode.row)) h):=by
 obtain ⟨n,j⟩:=vY i;exact ok91N n f j
theorem ok92 {a:(List zk)} {f:(List zk)} {e:Nat} {res:Bool} {h:AH} (c:h.blk e=some (.cells [.sl 1 (f.map zC)])) (b:pathsSelectC1 a f=some res):Spec Tryz.prog 92 [.sl 1 (a.map zC),.ptr e 0] h (ya (.bool res) h):=by
 unfold pathsSelectC1 at b;refine za Tryz.func92 rfl (by kernel_rfl) (yj 7 rfl) (R.r ?_);refine zd rfl (qg rfl ty31 gg c (zY rfl) (zb rfl)) ss (R.r ?_);refine zf b (λg d b=>cp (ok85 d) ?_);refine R.r ?_;cases b;exact fz rfl rfl
theorem ok54 {t0:(List GNode)} {f:(List zk)} {res:((List GNode)×Int)} {h:AH}  (a:vi t0 f=some res):Spec Tryz.prog 54 [.sl 3 (t0.map GNode.row),.sl 1 (f.map zC)] h (ya (.tup [.sl 3 (res.1.map GNode.row),.int .i64 res.2]) h):=by
 unfold vi at a;refine za Tryz.func54 rfl (by kernel_rfl) (yj 17 rfl) (R.r ?_);refine zf a (λk c a=>cp (ok19 c) ?_);refine R.r ?_;refine zG a (λl b a=>zA rfl sc (λi=>ok59 (b i)) ss ?_);refine R.r ?_;refine zc gg a (λe a=>?_) (λe a=>?_)
 ·refine R.r ?_;cases a;exact fe rfl rfl (leV.tup (.cons (leV.osl _ _ _) (.eq leL.nil)))
 ·refine R.r ?_;refine zd rfl (wi rfl rfl rfl) ss ?_;refine zf a (λv4 d a=>cp ((ok91 (λ_ v L M g=>ok92 (blk_ext2 (j:=0) rfl) g) d).le (.eq (.cons (leV.osl _ _ _) (.eq leL.nil)))) ?_);refine R.r ?_;cases a;exact fz rfl rfl
theorem ok96 {b:GNode} {a:zk} {res:Int} {h:AH}  (c:yU b a=some res):Spec Tryz.prog 96 [.agg [.str b.name,.sl 9 (b.leaves.map GLeaf.row),.sl 3 (b.subs.map GNode.row)],.str a] h (ya (.int .i64 res) h):=by
 unfold yU at c;refine za Tryz.func96 rfl (by kernel_rfl) (yj 9 rfl) (R.r ?_);refine zf c (λe d c=>cp (ok97 d) ?_);refine R.r ?_;cases c;exact fz rfl rfl
theorem okR98 {K H:Nat} {y:(List GLeaf)} {x:(GLeaf->Option Bool)} {s:FuncId} {f g:List AV} {res:(List GLeaf)} {h:AH} (N:h.blks.length=K) (O:h.toks.length=H) (t:∀G v (L:List Blk) (M:List Nat),x G=some v->Spec Tryz.prog s (f++[.agg (GLeaf.row G)]++g) (h.ext L M) (ya (.bool v) (h.ext L M))) (b:∀n m,h.blks.length<=n->h.toks.length<=m->zB n m f=true) (a:∀n m,h.blks.length<=n->h.toks.length<=m->zB n m g=true) (c:yR y x=some res):Spec Tryz.prog 98 [.rsl K H 9 y.length,.fn (.func s) f g] (h.ext [.row H 9 (y.map GLeaf.row)] [y.length]) (TurnK h K H 9 res.length (res.map GLeaf.row)):=by
 unfold yR at c;subst N O;refine yv Tryz.func98 rfl (by kernel_rfl) (yj 42 rfl) (R.r ?_);refine zf c (λW Q c=>cp (row_read (B1:=[]) (T1:=[]) (okR67 (by simp [AH.ext]) (by simp [AH.ext]) (λG v L M T=>by rw [y8];exact t G v _ _ T) (λn m I P=>b n m (by simp [AH.ext] at I;omega) (by simp [AH.ext] at P;omega)) (λn m I P=>a n m (by simp [AH.ext] at I;omega) (by simp [AH.ext] at P;omega)) Q) rfl rfl) ?_);refine R.r ?_;refine zc gg c (λJ c=>?_) (λJ c=>?_)
 ·refine R.r ?_;cases c;refine fr rfl (fin_turn0 (row:=GLeaf.row) ?_);exact ⟨rfl,_,rfl⟩
 ·refine R.r ?_;refine xQ (λ(e:Int×Int×(List GLeaf))=>zD [2,3,4,7,8,9,10,11,12,13,14,15,16,17,18,19,20,21,22,23,24,25,26,27,28,29,30,31,32,33,34,35,36,37,38,39,40,41] [(5,.int .i64 e.1),(6,.int .i64 e.2.1)]) (λe=>h.ext [.row (h.toks.length+0) 9 (e.2.2.map GLeaf.row)] [y.length]) c (λ_=>by simp only [zD,wg,List.set_cons_succ,List.set_cons_zero];try rfl) (wk.le LEL.o) ?_;intro X e Y c A;refine zV c (λk c=>R.r ?_);refine ln λS=>R.r ?_;refine zc gg c (λD c=>?_) (λD c=>?_)
  ·refine R.r ?_;refine zf c (λl w c=>zd rfl (wm rfl el56 gg gg (vN w k)) ss ?_);refine zd rfl (e_ldR (off:=0) (i:=0) (q:=h.toks.length+0) (z:=e.2.1.toNat) (row:=GLeaf.row) (λ_=>rfl) rfl ty55.choose_spec.1 (by decide) gg rfl k (idxR w).2.2 (xH (cs':=(GLeaf.row l)) ty55.choose_spec.2 rfl rfl) (zb rfl)) ss (R.r ?_);refine zf c (λU E c=>yM rfl (scC rfl) (t _ _ _ _ E) ss ?_);refine R.r ?_;refine zc gg c (λC c=>?_) (λC c=>?_)
   ·refine R.r ?_;refine zf c (λV u c=>zd rfl (wm rfl el56 gg gg (vN u k)) ss ?_);refine zd rfl (e_stR (off:=0) (i:=0) (q:=h.toks.length+0) (z:=e.1.toNat) (row:=GLeaf.row) (y':=l) (us:=(GLeaf.row l)) (B':=[.row (h.toks.length+0) 9 ((e.2.2.set e.1.toNat l).map GLeaf.row),.cells (GLeaf.row l)]) (λ_=>rfl) rfl ty55.choose_spec.1 gg gg (zb rfl) rfl rfl rfl rfl k (idxR u).2.2 (by decide) rfl rfl) rfl (R.r ?_);cases c;exact ⟨((IntKind.wrap .i64 (e.1+(1:Int))),(IntKind.wrap .i64 (e.2.1+(1:Int))),(e.2.2.set e.1.toNat l)),A,wk.trans (wk.le LEL.o) (yl (by simp [zB,AV.low,b,a]) rfl rfl (by simp [Blk.low,zB,AV.low,b,a]))⟩
   ·refine R.r ?_;cases c;exact ⟨(e.1,(IntKind.wrap .i64 (e.2.1+(1:Int))),e.2.2),A,wk.trans (wk.le LEL.o) (yl (by simp [zB,AV.low,b,a]) rfl rfl (by simp [Blk.low,zB,AV.low,b,a]))⟩
  ·refine R.r ?_;cases c;replace c:=A;refine R.r ?_;refine zV c (λp c=>qP rfl (e_sufR rfl el56 gg gg p) ss ?_);refine qP rfl (e_clrR (i:=0) (q:=h.toks.length+0) (L:=e.2.2) (row:=GLeaf.row) (d:=zLf) (B':=[.row (h.toks.length+0) 9 ((e.2.2.take e.1.toNat++List.replicate (y.length - e.1.toNat) zLf).map GLeaf.row)]) (λ_=>rfl) rfl rfl rfl rfl el56 qE rfl gg rfl k (Int.toNat_le.2 p.2) rfl) rfl (R.r ?_);refine zf c (λF B c=>qP rfl (e_cutR (i:=0) (j:=0) (L:=(e.2.2.take e.1.toNat++List.replicate (y.length - e.1.toNat) zLf)) (row:=GLeaf.row) (B':=[.dead,.row (h.toks.length+1) 9 (F.map GLeaf.row)]) (T':=[y.length+1,(F).length]) rfl el56 gg gg rfl (clr_len k (Int.toNat_le.2 p.2)) B rfl rfl rfl rfl) ss ?_);refine R.r ?_;cases c;refine fr rfl (fin_at ?_);exact ⟨rfl,_,rfl⟩
theorem ok100 {d:GLeaf} {c:Int} {b:Nat} {res:Bool} {h:AH} (a:h.blk b=some (.cells [.int .u8 c])) (e:diffXlayC2 d c=some res):Spec Tryz.prog 100 [.agg (GLeaf.row d),.ptr b 0] h (ya (.bool res) h):=by
 unfold diffXlayC2 at e;refine za Tryz.func100 rfl (by kernel_rfl) (yj 8 rfl) (R.r ?_);refine zd rfl (qg rfl ty5 gg a (zY rfl) (zb rfl)) ss (R.r ?_);cases e;exact fz rfl rfl
theorem ok101 {b:GLeaf} {res:GLeaf} {h:AH}  (a:diffXown b=some res):Spec Tryz.prog 101 [.agg (GLeaf.row b)] h (ya (.agg (GLeaf.row res)) h):=by
 unfold diffXown at a;refine za Tryz.func101 rfl (by kernel_rfl) (yj 12 rfl) (R.r ?_);refine zt [] [] trivial mixed (by kernel_rfl) (R.r ?_);refine zf a (λc e a=>xU rfl FOk.nil (by rfl) rfl (sc rfl) (qO (T':=[(c).length]) (ok70 e) (m:=0) rfl rfl) ss ?_);refine R.r ?_;refine zf a (λf d a=>xU rfl FOk.nil (by rfl) rfl (sc rfl) (qO (T':=[(c).length,(f).length]) (ok71 d) (m:=1) rfl rfl) ss ?_);refine R.r ?_;refine zI rfl FOk.nil (by kernel_rfl) rfl (zT (cs':=(zu b (.osl (some (h.toks.length+0)) 5 (c.map GItem.row)) (.sl 3 (b.tombs.map GDot.row)))) rfl ty53 gg gg (zb rfl) rfl rfl rfl rfl rfl) rfl (R.r ?_);refine zI rfl FOk.nil (by kernel_rfl) rfl (zT (cs':=(zu b (.osl (some (h.toks.length+0)) 5 (c.map GItem.row)) (.osl (some (h.toks.length+1)) 3 (f.map GDot.row)))) rfl ty32 gg gg (zb rfl) rfl rfl rfl rfl rfl) rfl (R.r ?_);cases a;exact fe rfl rfl (leV.agg (.eq (.eq (.eq (.eq (.eq (.eq (.eq (.cons (leV.osl _ _ _) (.cons (leV.osl _ _ _) leL.nil))))))))) rfl)
def sort102TryzRen:Go.Shelf.Ren :=
  { f:=λx=>match x with
      | 6=>102
      | 15=>148
      | 14=>147
      | 28=>177
      | 29=>178
      | 20=>169
      | 21=>170
      | 22=>171
      | 23=>172
      | 24=>173
      | 25=>174
      | 26=>175
      | 27=>176
      | 46=>194
      | 47=>195
      | 48=>196
      | 49=>197
      | 50=>198
      | 57=>213
      | n=>n
    t:=λx=>match x with
      | 22=>56
      | 24=>55
      | 25=>138
      | 3=>3
      | 39=>172
      | 0=>0
      | 53=>25
      | 55=>28
      | 4=>4
      | 46=>192
      | 45=>191
      | 50=>130
      | 5=>5
      | 9=>9
      | 66=>211
      | 70=>215
      | 76=>226
      | 77=>227
      | n=>n
    g:=λn=>n }
theorem sort102TryzLays:Go.Proofs.SlLaysF0.n6 Tryz.prog sort102TryzRen where
  mixed:=mixed
  f6:=⟨Tryz.f102.name,by kernel_rfl,Tryz.func102.trans (by kernel_rfl)⟩
  f15:=Tryz.func148.trans (by kernel_rfl)
  f14:=⟨Tryz.f147.name,by kernel_rfl,Tryz.func147.trans (by kernel_rfl)⟩
  f28:=Tryz.func177.trans (by kernel_rfl)
  f29:=Tryz.func178.trans (by kernel_rfl)
  f20:=⟨Tryz.f169.name,by kernel_rfl,Tryz.func169.trans (by kernel_rfl)⟩
  f21:=⟨Tryz.f170.name,by kernel_rfl,Tryz.func170.trans (by kernel_rfl)⟩
  f22:=⟨Tryz.f171.name,by kernel_rfl,Tryz.func171.trans (by kernel_rfl)⟩
  f23:=⟨Tryz.f172.name,by kernel_rfl,Tryz.func172.trans (by kernel_rfl)⟩
  f24:=⟨Tryz.f173.name,by kernel_rfl,Tryz.func173.trans (by kernel_rfl)⟩
  f25:=⟨Tryz.f174.name,by kernel_rfl,Tryz.func174.trans (by kernel_rfl)⟩
  f26:=⟨Tryz.f175.name,by kernel_rfl,Tryz.func175.trans (by kernel_rfl)⟩
  f27:=⟨Tryz.f176.name,by kernel_rfl,Tryz.func176.trans (by kernel_rfl)⟩
  f46:=⟨Tryz.f194.name,by kernel_rfl,Tryz.func194.trans (by kernel_rfl)⟩
  f47:=Tryz.func195.trans (by kernel_rfl)
  f48:=Tryz.func196.trans (by kernel_rfl)
  f49:=⟨Tryz.f197.name,by kernel_rfl,Tryz.func197.trans (by kernel_rfl)⟩
  f50:=⟨Tryz.f198.name,by kernel_rfl,Tryz.func198.trans (by kernel_rfl)⟩
  f57:=⟨Tryz.f213.name,by kernel_rfl,Tryz.func213.trans (by kernel_rfl)⟩
  t0:=Tryz.underlying0
  a0:=Tryz.isAgg0
  z0:=Tryz.sizeOf0
  v0:=Tryz.zeroValue0
  t3:=Tryz.underlying3
  a3:=Tryz.isAgg3
  z3:=Tryz.sizeOf3
  v3:=Tryz.zeroValue3
  t4:=Tryz.underlying4
  a4:=Tryz.isAgg4
  z4:=Tryz.sizeOf4
  v4:=Tryz.zeroValue4
  t5:=Tryz.underlying5
  a5:=Tryz.isAgg5
  z5:=Tryz.sizeOf5
  v5:=Tryz.zeroValue5
  t9:=Tryz.underlying9
  a9:=Tryz.isAgg9
  z9:=Tryz.sizeOf9
  v9:=Tryz.zeroValue9
  t22:=Tryz.underlying56
  a22:=Tryz.isAgg56
  z22:=Tryz.sizeOf56
  v22:=Tryz.zeroValue56
  t25:=Tryz.underlying138
  a25:=Tryz.isAgg138
  z25:=Tryz.sizeOf138
  v25:=Tryz.zeroValue138
  t39:=Tryz.underlying172
  a39:=Tryz.isAgg172
  z39:=Tryz.sizeOf172
  v39:=Tryz.zeroValue172
  t45:=Tryz.underlying191
  a45:=Tryz.isAgg191
  z45:=Tryz.sizeOf191
  v45:=Tryz.zeroValue191
  t46:=Tryz.underlying192
  a46:=Tryz.isAgg192
  z46:=Tryz.sizeOf192
  v46:=Tryz.zeroValue192
  t50:=Tryz.underlying130
  a50:=Tryz.isAgg130
  z50:=Tryz.sizeOf130
  v50:=Tryz.zeroValue130
  t53:=Tryz.underlying25
  a53:=Tryz.isAgg25
  z53:=Tryz.sizeOf25
  v53:=Tryz.zeroValue25
  t55:=Tryz.underlying28
  a55:=Tryz.isAgg28
  z55:=Tryz.sizeOf28
  v55:=Tryz.zeroValue28
  t66:=Tryz.underlying211
  a66:=Tryz.isAgg211
  z66:=Tryz.sizeOf211
  v66:=Tryz.zeroValue211
  t70:=Tryz.underlying215
  a70:=Tryz.isAgg215
  z70:=Tryz.sizeOf215
  v70:=Tryz.zeroValue215
  t76:=Tryz.underlying226
  a76:=Tryz.isAgg226
  z76:=Tryz.sizeOf226
  v76:=Tryz.zeroValue226
  t77:=Tryz.underlying227
  a77:=Tryz.isAgg227
  z77:=Tryz.sizeOf227
  v77:=Tryz.zeroValue227
theorem ok103 {c:GLeaf} {d:GLeaf} {res:Int} {h:AH}  (a:diffXlayC3 c d=some res):Spec Tryz.prog 103 [.agg (GLeaf.row c),.agg (GLeaf.row d)] h (ya (.int .i64 res) h):=by
 unfold diffXlayC3 at a;refine za Tryz.func103 rfl (by kernel_rfl) (yj 10 rfl) (R.r ?_);refine zf a (λe b a=>cp (ok104 b) ?_);refine R.r ?_;cases a;exact fz rfl rfl
end Go.Vv
