/- Each function that the law reaches computes what its reading says; printed by a program. -/
import Derived.Test.YtdodjocbjapaeaaGreatW1
namespace Go.Vv
open Go Go.Proofs
set_option maxRecDepth 100000
set_option synthInstance.maxSize 100000
set_option synthInstance.maxHeartbeats 1000000
set_option maxHeartbeats 1000000
set_option linter.unusedSimpArgs false
set_option linter.unusedVariables false
theorem ok170 {a0:GActor} {b1:GActor} {res:Int} {h:AH}  (hF:dotXcompare a0 b1=some res):Spec Tryz.prog 170 [.agg (GActor.row a0),.agg (GActor.row b1)] h (yb (.int .i64 res) h):=by
 unfold dotXcompare at hF;refine za Tryz.func170 rfl (by kernel_rfl) (yk 17 rfl) (R.r ?_);refine zt [4,9,11] [] trivial mixed (by kernel_rfl) (R.r ?_);refine ze hF (fun v1 hv1 hF=>?_);refine zy rfl rfl (fun _=>sc rfl) (by rintro _ ⟨B2,T2,rfl,hk2⟩;exact ok100 hv1) st9 (R.r ?_);refine ze hF (fun v2 hv2 hF=>?_);refine zy rfl rfl (fun _=>sc rfl) (by rintro _ ⟨B2,T2,rfl,hk2⟩;exact ok194 hv2) st14 ?_;refine zx rfl rfl (zq (es:=([v1,v2]:List Int).map (intRow .i64)) rfl el181 ze3 rfl rfl (zf gt9 (zf gt14 zg)) (.cons (zb rfl) (.cons (zb rfl) .nil)) rfl rfl rfl) st15 ?_;refine ze hF (fun v3 hv3 hF=>?_);refine zy rfl rfl (fun _=>sc rfl) (by rintro _ ⟨B2,T2,rfl,hk2⟩;exact (ok130 hv3).le (.cons (leV.osl _ _ _) leL.nil)) st16 (R.r ?_);cases hF;exact fz rfl rfl
theorem ok195 {x0:Int} {res:Bool} {h:AH}  (hF:wA x0=some res):Spec Tryz.prog 195 [.int .u64 x0] h (yb (.bool res) h):=by
 unfold wA at hF;refine za Tryz.func195 rfl (by kernel_rfl) (yk 6 rfl) (R.r ?_);cases hF;exact fz rfl rfl
theorem ok171 {x0:Int} {y1:Int} {res:Int} {h:AH}  (hF:xz x0 y1=some res):Spec Tryz.prog 171 [.int .u64 x0,.int .u64 y1] h (yb (.int .i64 res) h):=by
 unfold xz at hF;refine za Tryz.func171 rfl (by kernel_rfl) (yk 20 rfl) (R.r ?_);refine ze hF (fun v1 hv1 hF=>?_);refine cp (ok195 hv1) (R.r ?_);refine ze hF (fun v2 hv2 hF=>?_);refine cp (ok195 hv2) (R.r ?_);refine zd vh hF (fun hc3 hF=>?_) (fun hc3 hF=>?_)
 ·refine R.r ?_;refine zd qe hF (fun hc4 hF=>?_) (fun hc4 hF=>?_)
  ·refine R.r ?_;cases hF;exact fz rfl rfl
  ·refine R.r ?_;cases hF;exact fz rfl rfl
 ·refine R.r ?_;refine zd vt hF (fun hc5 hF=>?_) (fun hc5 hF=>?_)
  ·refine R.r ?_;cases hF;exact fz rfl rfl
  ·refine R.r ?_;refine zd vr hF (fun hc6 hF=>?_) (fun hc6 hF=>?_)
   ·refine R.r ?_;cases hF;exact fz rfl rfl
   ·refine R.r ?_;refine zd wW hF (fun hc7 hF=>?_) (fun hc7 hF=>?_)
    ·refine R.r ?_;cases hF;exact fz rfl rfl
    ·refine R.r ?_;cases hF;exact fz rfl rfl
theorem ok140 {a0:GDot} {b1:GDot} {res:Int} {h:AH}  (hF:wt a0 b1=some res):Spec Tryz.prog 140 [.agg (GDot.row a0),.agg (GDot.row b1)] h (yb (.int .i64 res) h):=by
 unfold wt at hF;refine za Tryz.func140 rfl (by kernel_rfl) (yk 17 rfl) (R.r ?_);refine zt [4,9,11] [] trivial mixed (by kernel_rfl) (R.r ?_);refine ze hF (fun v1 hv1 hF=>?_);refine zy rfl rfl (fun _=>sc rfl) (by rintro _ ⟨B2,T2,rfl,hk2⟩;exact ok170 hv1) st9 (R.r ?_);refine ze hF (fun v2 hv2 hF=>?_);refine zy rfl rfl (fun _=>sc rfl) (by rintro _ ⟨B2,T2,rfl,hk2⟩;exact ok171 hv2) st14 ?_;refine zx rfl rfl (zq (es:=([v1,v2]:List Int).map (intRow .i64)) rfl el181 ze3 rfl rfl (zf gt9 (zf gt14 zg)) (.cons (zb rfl) (.cons (zb rfl) .nil)) rfl rfl rfl) st15 ?_;refine ze hF (fun v3 hv3 hF=>?_);refine zy rfl rfl (fun _=>sc rfl) (by rintro _ ⟨B2,T2,rfl,hk2⟩;exact (ok130 hv3).le (.cons (leV.osl _ _ _) leL.nil)) st16 (R.r ?_);cases hF;exact fz rfl rfl
theorem ok172 {s0:(List GItem)} {f1:(GItem→Option Bool)} {ff1:FuncId} {af1 kf1:List AV} {res:Int} {h:AH} (hf1:∀ x0 v (L:List Blk) (M:List Nat),f1 x0=some v→Spec Tryz.prog ff1 (af1++[.agg (GItem.row x0)]++kf1) (h.ext L M) (yb (.bool v) (h.ext L M))) (hF:yf s0 f1=some res):Spec Tryz.prog 172 [.sl 5 (s0.map GItem.row),.fn (.func ff1) af1 kf1] h (yb (.int .i64 res) h):=by
 unfold yf at hF;refine zF Tryz.func172 rfl (by kernel_rfl) (yk 19 rfl) (fun hlow hC=>?_);simp only [zu,AV.low,Bool.and_eq_true,Bool.true_and,and_true] at hlow;have hlaf1:∀ n m,h.blks.length≤n→h.toks.length≤m→zu n m af1=true:=fun n m h1 h2=>zS h1 h2 _ (by simp [hlow]);have hlkf1:∀ n m,h.blks.length≤n→h.toks.length≤m→zu n m kf1=true:=fun n m h1 h2=>zS h1 h2 _ (by simp [hlow]);refine R.r ?_;refine ln fun hn1=>?_;replace hn1:=zY hn1;refine R.r ?_;refine zA (fun (n1:Nat) (s1:Unit)=>zG [2,3,4,5,6,9,10,11,12,13,14,15,16,17,18] [(8,.int .i64 (n1:Int))]) (fun s1=>h.ext [] []) hF (fun _ _=>by simp only [zG,wD,List.set_cons_succ,List.set_cons_zero];try rfl) (wk.le LEL.o) ?_;intro n1 s1 hi1 hF;refine R.r ?_;refine zJ gt9 hF (fun x1 o1 hl1 hx1 hF hK1=>?_) (fun hF=>?_)
 ·refine R.r ?_;refine ix (zz hx1) (R.r ?_);refine ze hF (fun v7 hv7 hF=>?_);refine yD rfl (scC rfl) (hf1 _ _ _ _ hv7) st16 (R.r ?_);refine zd vr hF (fun hc8 hF=>?_) (fun hc8 hF=>?_)
  ·refine R.r ?_;cases hF;replace hF:=hK1;refine R.r ?_;cases hF;exact fz rfl rfl
  ·refine R.r ?_;cases hF;exact ⟨(),hl1,hK1,wk.le (by exact (.eq (.eq (.d4 (.drop (.eq (.cons (leV.of_eq (y4 (by omega) (by omega))) (.d4 (.d4 (.drop (.drop leL.nil)))))))))))⟩
 ·refine R.r ?_;cases hF;exact fz rfl rfl
theorem okR172 {bl tl:Nat} {s0:(List GItem)} {f1:(GItem→Option Bool)} {ff1:FuncId} {af1 kf1:List AV} {res:Int} {h:AH} (hbl:h.blks.length=bl) (htl:h.toks.length=tl) (hf1:∀ x0 v (L:List Blk) (M:List Nat),f1 x0=some v→Spec Tryz.prog ff1 (af1++[.agg (GItem.row x0)]++kf1) (h.ext L M) (yb (.bool v) (h.ext L M))) (hlaf1:∀ n m,h.blks.length≤n→h.toks.length≤m→zu n m af1=true) (hlkf1:∀ n m,h.blks.length≤n→h.toks.length≤m→zu n m kf1=true) (hF:yf s0 f1=some res):Spec Tryz.prog 172 [.rsl bl tl 5 s0.length,.fn (.func ff1) af1 kf1] (h.ext [.row tl 5 (s0.map GItem.row)] [s0.length]) (yb (.int .i64 res) (h.ext [.row tl 5 (s0.map GItem.row)] [s0.length])):=by
 unfold yf at hF;subst hbl htl;refine yl Tryz.func172 rfl (by kernel_rfl) (yk 19 rfl) (R.r ?_);refine ln fun hn1=>?_;replace hn1:=zY hn1;refine R.r ?_;refine zA (fun (n1:Nat) (s1:Unit)=>zG [2,3,4,5,6,9,10,11,12,13,14,15,16,17,18] [(8,.int .i64 (n1:Int))]) (fun s1=>h.ext [.row (h.toks.length+0) 5 (s0.map GItem.row)] [s0.length]) hF (fun _ _=>by simp only [zG,wD,List.set_cons_succ,List.set_cons_zero];try rfl) (wk.le LEL.o) ?_;intro n1 s1 hi1 hF;refine R.r ?_;refine zJ gt9 hF (fun x1 o1 hl1 hx1 hF hK1=>?_) (fun hF=>?_)
 ·refine R.r ?_;refine zc rfl (x5 rfl el56 qe vt (vq (zz hx1) rfl)) st14 ?_;refine zc rfl (e_ldR (off:=0) (i:=0) (q:=h.toks.length+0) (z:=(n1:Int).toNat) (row:=GItem.row) (fun _=>rfl) rfl ty98.choose_spec.1 (by decide) gt14 rfl rfl (idxR (zz hx1)).2.2 (xq (cs':=(GItem.row x1)) ty98.choose_spec.2 rfl rfl) (zb rfl)) st15 ?_;refine ze hF (fun v8 hv8 hF=>?_);refine yD rfl (scC rfl) (hf1 _ _ _ _ hv8) st16 (R.r ?_);refine zd vr hF (fun hc9 hF=>?_) (fun hc9 hF=>?_)
  ·refine R.r ?_;cases hF;replace hF:=hK1;refine R.r ?_;cases hF;refine fr rfl (fin_extR (L:=[]) (M:=[]) rfl rfl (leV.refl _) rfl ?_);exact ⟨rfl,rfl⟩
  ·refine R.r ?_;cases hF;exact ⟨(),hl1,hK1,wk.le (by exact (.eq (.eq (.d4 (.drop (.eq (.cons (leV.of_eq (y4 (by omega) (by omega))) (.d4 (.d4 (.drop (.drop leL.nil)))))))))))⟩
 ·refine R.r ?_;cases hF;refine fr rfl (fin_extR (L:=[]) (M:=[]) rfl rfl (leV.refl _) rfl ?_);exact ⟨rfl,rfl⟩
theorem ok176 {s0:(List GItem)} {f1:(GItem→Option Bool)} {ff1:FuncId} {af1 kf1:List AV} {res:Bool} {h:AH} (hf1:∀ x0 v (L:List Blk) (M:List Nat),f1 x0=some v→Spec Tryz.prog ff1 (af1++[.agg (GItem.row x0)]++kf1) (h.ext L M) (yb (.bool v) (h.ext L M))) (hF:yR s0 f1=some res):Spec Tryz.prog 176 [.sl 5 (s0.map GItem.row),.fn (.func ff1) af1 kf1] h (yb (.bool res) h):=by
 unfold yR at hF;refine zF Tryz.func176 rfl (by kernel_rfl) (yk 9 rfl) (fun hlow hC=>?_);simp only [zu,AV.low,Bool.and_eq_true,Bool.true_and,and_true] at hlow;have hlaf1:∀ n m,h.blks.length≤n→h.toks.length≤m→zu n m af1=true:=fun n m h1 h2=>zS h1 h2 _ (by simp [hlow]);have hlkf1:∀ n m,h.blks.length≤n→h.toks.length≤m→zu n m kf1=true:=fun n m h1 h2=>zS h1 h2 _ (by simp [hlow]);refine R.r ?_;refine ze hF (fun v1 hv1 hF=>?_);refine cp (ok172 (fun x0 v L M hv=>by rw [yT];exact hf1 x0 v _ _ hv) hv1) (R.r ?_);cases hF;exact fz rfl rfl
theorem ok177 {x0:GItem} {c0:GDot} {i0:Nat} {res:Bool} {h:AH} (hb0:h.blk i0=some (.cells (GDot.row c0))) (hF:leafXhasC1 x0 c0=some res):Spec Tryz.prog 177 [.agg (GItem.row x0),.ptr i0 0] h (yb (.bool res) h):=by
 unfold leafXhasC1 at hF;refine za Tryz.func177 rfl (by kernel_rfl) (yk 8 rfl) (R.r ?_);refine zc rfl (vI rfl ty30.choose_spec.1 gt1 hb0 (xq (cs':=(GDot.row c0)) ty30.choose_spec.2 rfl rfl) (zb rfl)) st6 ?_;refine zc rfl (vT rfl gt5 gt6 (bin_eq pk30 rfl)) st7 (R.r ?_);cases hF;exact fz rfl rfl
theorem ok151 {l0:(List GItem)} {d1:GDot} {res:Bool} {h:AH}  (hF:leafXhas l0 d1=some res):Spec Tryz.prog 151 [.sl 5 (l0.map GItem.row),.agg (GDot.row d1)] h (yb (.bool res) h):=by
 unfold leafXhas at hF;refine za Tryz.func151 rfl (by kernel_rfl) (yk 8 rfl) (R.r ?_);refine zc rfl (xX rfl rfl rfl) st6 ?_;refine ze hF (fun v1 hv1 hF=>?_);refine cp (ok176 (fun _ v L M hv=>ok177 (blk_ext2 (j:=0) rfl) hv) hv1) (R.r ?_);cases hF;exact fz rfl rfl
theorem ok128 {l0:GLeaf} {res:Bool} {h:AH}  (hF:leafXtombs l0=some res):Spec Tryz.prog 128 [.agg (GLeaf.row l0)] h (yb (.bool res) h):=by
 unfold leafXtombs at hF;refine za Tryz.func128 rfl (by kernel_rfl) (yk 38 rfl) (R.r ?_);refine ln fun hn1=>?_;replace hn1:=zY hn1;refine R.r ?_;refine zA (fun (n1:Nat) (s1:Unit)=>zG [0,2,3,4,5,9,10,11,12,13,14,15,16,17,18,19,20,21,22,23,24,25,26,27,28,29,30,31,32,33,34,35,36,37] [(8,.int .i64 (n1:Int))]) (fun s1=>h.ext [.cells (GLeaf.row l0)] []) hF (fun _ _=>by simp only [zG,wD,List.set_cons_succ,List.set_cons_zero];try rfl) (wk.le LEL.o) ?_;intro n1 s1 hi1 hF;refine R.r ?_;refine zJ gt9 hF (fun x1 o1 hl1 hx1 hF hK1=>?_) (fun hF=>?_)
 ·refine R.r ?_;refine ix (zz hx1) (R.r ?_);refine zt [1] [] trivial mixed (by kernel_rfl) (R.r ?_);refine ze hF (fun v19 hv19 hF=>?_);refine zy rfl rfl (fun _=>sc rfl) (by rintro _ ⟨B2,T2,rfl,hk2⟩;exact ok50 hv19) st14 (R.r ?_);refine yd hF (fun hg20 hF=>?_);refine dgix hg20 (R.r ?_);refine zM hF (fun v21 hv21 hF=>?_);refine yI rfl (aG_gv rfl rfl rfl) sc (fun hb=>ok140 (hv21 hb)) st27 (R.r ?_);refine zM hF (fun v22 hv22 hF=>?_);refine yI rfl rfl sc (fun hb=>ok151 (hv22 hb)) st35 (R.r ?_);refine zd gt36 hF (fun hc23 hF=>?_) (fun hc23 hF=>?_)
  ·refine R.r ?_;cases hF;replace hF:=hK1;refine R.r ?_;cases hF;exact fz rfl rfl
  ·refine R.r ?_;cases hF;exact ⟨(),hl1,hK1,wk.trans (wk.le (by exact (.drop (.eq (.d4 (.eq (.eq (.cons (leV.of_eq (y4 (by omega) (by omega))) (.d16 (.d4 (.d4 (.d4 (.drop leL.nil))))))))))))) (yj (by simp [zu,AV.low]) rfl rfl (by simp [Blk.low,zu,AV.low]))⟩
 ·refine R.r ?_;cases hF;exact fz rfl rfl
theorem ok89 {s10:(List GItem)} {s21:(List GItem)} {res:Bool} {h:AH}  (hF:ww s10 s21=some res):Spec Tryz.prog 89 [.sl 5 (s10.map GItem.row),.sl 5 (s21.map GItem.row)] h (yb (.bool res) h):=by
 unfold ww at hF;refine za Tryz.func89 rfl (by kernel_rfl) (yk 26 rfl) (R.r ?_);refine ln fun hn1=>?_;replace hn1:=zY hn1;refine R.r ?_;refine ln fun hn2=>?_;replace hn2:=zY hn2;refine R.r ?_;refine zd vi hF (fun hc3 hF=>?_) (fun hc3 hF=>?_)
 ·refine R.r ?_;cases hF;exact fz rfl rfl
 ·refine R.r ?_;refine ln fun hn4=>?_;replace hn4:=zY hn4;refine R.r ?_;refine zA (fun (n1:Nat) (s1:Unit)=>zG [2,3,4,5,6,7,8,9,10,11,14,15,16,17,18,19,20,21,22,23,24,25] [(13,.int .i64 (n1:Int))]) (fun s1=>h.ext [] []) hF (fun _ _=>by simp only [zG,wD,List.set_cons_succ,List.set_cons_zero];try rfl) (wk.le LEL.o) ?_;intro n1 s1 hi1 hF;refine R.r ?_;refine zJ gt14 hF (fun x1 o1 hl1 hx1 hF hK1=>?_) (fun hF=>?_)
  ·refine R.r ?_;refine zt [] [] trivial mixed (by kernel_rfl) (R.r ?_);refine dix (zz hx1) (R.r ?_);refine ze hF (fun y10 hy10 hF=>?_);refine dix hy10 (R.r ?_);refine zx rfl rfl (vT rfl wW gt23 (bin_ne pk98 rfl)) st24 (R.r ?_);refine zd gt24 hF (fun hc11 hF=>?_) (fun hc11 hF=>?_)
   ·refine R.r ?_;cases hF;replace hF:=hK1;refine R.r ?_;cases hF;exact fz rfl rfl
   ·refine R.r ?_;cases hF;exact ⟨(),hl1,hK1,wk.le (by exact (.eq (.eq (.d4 (.d4 (.drop (.drop (.eq (.cons (leV.of_eq (y4 (by omega) (by omega))) (.d4 (.d4 (.d4 leL.nil))))))))))))⟩
  ·refine R.r ?_;cases hF;exact fz rfl rfl
theorem ok90 {s10:(List GDot)} {s21:(List GDot)} {res:Bool} {h:AH}  (hF:wK s10 s21=some res):Spec Tryz.prog 90 [.sl 3 (s10.map GDot.row),.sl 3 (s21.map GDot.row)] h (yb (.bool res) h):=by
 unfold wK at hF;refine za Tryz.func90 rfl (by kernel_rfl) (yk 26 rfl) (R.r ?_);refine ln fun hn1=>?_;replace hn1:=zY hn1;refine R.r ?_;refine ln fun hn2=>?_;replace hn2:=zY hn2;refine R.r ?_;refine zd vi hF (fun hc3 hF=>?_) (fun hc3 hF=>?_)
 ·refine R.r ?_;cases hF;exact fz rfl rfl
 ·refine R.r ?_;refine ln fun hn4=>?_;replace hn4:=zY hn4;refine R.r ?_;refine zA (fun (n1:Nat) (s1:Unit)=>zG [2,3,4,5,6,7,8,9,10,11,14,15,16,17,18,19,20,21,22,23,24,25] [(13,.int .i64 (n1:Int))]) (fun s1=>h.ext [] []) hF (fun _ _=>by simp only [zG,wD,List.set_cons_succ,List.set_cons_zero];try rfl) (wk.le LEL.o) ?_;intro n1 s1 hi1 hF;refine R.r ?_;refine zJ gt14 hF (fun x1 o1 hl1 hx1 hF hK1=>?_) (fun hF=>?_)
  ·refine R.r ?_;refine zt [] [] trivial mixed (by kernel_rfl) (R.r ?_);refine dix (zz hx1) (R.r ?_);refine ze hF (fun y10 hy10 hF=>?_);refine dix hy10 (R.r ?_);refine zx rfl rfl (vT rfl wW gt23 (bin_ne pk30 rfl)) st24 (R.r ?_);refine zd gt24 hF (fun hc11 hF=>?_) (fun hc11 hF=>?_)
   ·refine R.r ?_;cases hF;replace hF:=hK1;refine R.r ?_;cases hF;exact fz rfl rfl
   ·refine R.r ?_;cases hF;exact ⟨(),hl1,hK1,wk.le (by exact (.eq (.eq (.d4 (.d4 (.drop (.drop (.eq (.cons (leV.of_eq (y4 (by omega) (by omega))) (.d4 (.d4 (.d4 leL.nil))))))))))))⟩
  ·refine R.r ?_;cases hF;exact fz rfl rfl
theorem ok48 {a0:GLeaf} {b1:GLeaf} {res:Bool} {h:AH}  (hF:wd a0 b1=some res):Spec Tryz.prog 48 [.agg (GLeaf.row a0),.agg (GLeaf.row b1)] h (yb (.bool res) h):=by
 unfold wd at hF;refine za Tryz.func48 rfl (by kernel_rfl) (yk 52 rfl) (R.r ?_);refine qN rfl (fun hb=>vT rfl (yh gt26 hb) (yh gt28 hb) (bin_eq pk30 rfl)) st29 (R.r ?_);refine zM hF (fun v1 hv1 hF=>?_);refine zw rfl sc (fun hb=>ok89 (hv1 hb)) (sk st3) (R.r ?_);refine zM hF (fun v2 hv2 hF=>?_);refine zw rfl sc (fun hb=>ok90 (hv2 hb)) (sk st10) (R.r ?_);cases hF;exact fz rfl rfl
theorem ok125 {n0:Int} {res:Bool} {h:AH}  (hF:leafXisTime n0=some res):Spec Tryz.prog 125 [.int .u64 n0] h (yb (.bool res) h):=by
 unfold leafXisTime at hF;refine za Tryz.func125 rfl (by kernel_rfl) (yk 9 rfl) (R.r ?_);cases hF;exact fz rfl rfl
theorem ok126 {s0:zk} {res:Bool} {h:AH}  (hF:qa s0=some res):Spec Tryz.prog 126 [.str s0] h (yb (.bool res) h):=by
 unfold qa at hF;refine za Tryz.func126 rfl (by kernel_rfl) (yk 6 rfl) (R.r ?_);refine ln fun hn1=>?_;replace hn1:=zY hn1;refine R.r ?_;cases hF;exact fz rfl rfl
theorem ok164 {a0:Int} {d1:GDot} {b2:Int} {o3:GDot} {res:Int} {h:AH}  (hF:ve a0 d1 b2 o3=some res):Spec Tryz.prog 164 [.int .u64 a0,.agg (GDot.row d1),.int .u64 b2,.agg (GDot.row o3)] h (yb (.int .i64 res) h):=by
 unfold ve at hF;refine za Tryz.func164 rfl (by kernel_rfl) (yk 17 rfl) (R.r ?_);refine zt [2,5,7] [] trivial mixed (by kernel_rfl) (R.r ?_);refine ze hF (fun v1 hv1 hF=>?_);refine zy rfl rfl (fun _=>sc rfl) (by rintro _ ⟨B2,T2,rfl,hk2⟩;exact ok171 hv1) st11 (R.r ?_);refine ze hF (fun v2 hv2 hF=>?_);refine zy rfl rfl (fun _=>sc rfl) (by rintro _ ⟨B2,T2,rfl,hk2⟩;exact ok140 hv2) st14 ?_;refine zx rfl rfl (zq (es:=([v1,v2]:List Int).map (intRow .i64)) rfl el181 ze3 rfl rfl (zf vh (zf gt14 zg)) (.cons (zb rfl) (.cons (zb rfl) .nil)) rfl rfl rfl) st15 ?_;refine ze hF (fun v3 hv3 hF=>?_);refine zy rfl rfl (fun _=>sc rfl) (by rintro _ ⟨B2,T2,rfl,hk2⟩;exact (ok130 hv3).le (.cons (leV.osl _ _ _) leL.nil)) st16 (R.r ?_);cases hF;exact fz rfl rfl
theorem ok136 {time0:Int} {d1:GDot} {other2:Int} {o3:GDot} {res:Bool} {h:AH}  (hF:qT time0 d1 other2 o3=some res):Spec Tryz.prog 136 [.int .u64 time0,.agg (GDot.row d1),.int .u64 other2,.agg (GDot.row o3)] h (yb (.bool res) h):=by
 unfold qT at hF;refine za Tryz.func136 rfl (by kernel_rfl) (yk 15 rfl) (R.r ?_);refine ze hF (fun v1 hv1 hF=>?_);refine cp (ok164 hv1) (R.r ?_);cases hF;exact fz rfl rfl
theorem ok150 {l0:(List GItem)} {res:Bool} {h:AH}  (hF:leafXtwice l0=some res):Spec Tryz.prog 150 [.sl 5 (l0.map GItem.row)] h (yb (.bool res) h):=by
 unfold leafXtwice at hF;refine za Tryz.func150 rfl (by kernel_rfl) (yk 26 rfl) (R.r ?_);refine zc rfl (e_makeMap (n:=0) rfl rfl) st6 (R.r ?_);refine ln fun hn1=>?_;replace hn1:=zY hn1;refine R.r ?_;refine zA (fun (n1:Nat) (s1:List (GDot×Int))=>zG [1,2,4,5,6,10,11,12,13,14,15,16,17,18,19,20,21,22,23,24,25] [(9,.int .i64 (n1:Int))]) (fun s1=>h.ext [.mapo (s1.map (mrow (fun x=>AV.agg (GDot.row x)) (AV.int .i64))) 0] []) hF (fun _ _=>by simp only [zG,wD,List.set_cons_succ,List.set_cons_zero];try rfl) (wk.le LEL.o) ?_;intro n1 s1 hi1 hF;refine R.r ?_;refine zJ vi hF (fun x1 o1 hl1 hx1 hF hK1=>?_) (fun hF=>?_)
 ·refine R.r ?_;refine ix (zz hx1) (R.r ?_);refine r_drawnF [3] (fun _=>MapE h 0 (s1.map (mrow (fun x=>AV.agg (GDot.row x)) (AV.int .i64))) ((ment GDot.eqb (0:Int) s1 x1.dot).map (mrow (fun x=>AV.agg (GDot.row x)) (AV.int .i64)))) (fun _=>⟨_,_,rfl,.inl rfl⟩) mixed (by kernel_rfl) (R.r ?_);refine xe rfl rfl (e_lookupF (m:=s1) (k:=x1.dot) (d:=(0:Int)) (j:=0) (kv:=(fun x=>AV.agg (GDot.row x))) (vv:=(AV.int .i64)) rfl Tryz.underlying201 kq30 az3 vt gt15) st16 (R.r ?_);refine zH rfl (FOk.all ⟨_,_,rfl,.inr rfl⟩) (by kernel_rfl) rfl (e_entry (m:=s1) (k:=x1.dot) (d:=(0:Int)) (j:=0) (kv:=(fun x=>AV.agg (GDot.row x))) (vv:=(AV.int .i64)) rfl Tryz.underlying201 kq30 az3 vt rfl gt15 rfl) st18 (R.r ?_);refine zH rfl (FOk.skip (by kernel_rfl)) (by kernel_rfl) rfl (e_entryStore (m:=s1) (k:=x1.dot) (d:=(0:Int)) (v:=(IntKind.wrap .i64 ((x7 GDot.eqb (0:Int) s1 x1.dot)+(1:Int)))) (j:=0) (eq:=GDot.eqb) (kv:=(fun x=>AV.agg (GDot.row x))) (vv:=(AV.int .i64)) rfl vt rfl wW rfl gt17 rfl rfl) rfl (R.r ?_);cases hF;exact ⟨(mput GDot.eqb s1 x1.dot (IntKind.wrap .i64 ((x7 GDot.eqb (0:Int) s1 x1.dot)+(1:Int)))),hl1,hK1,wk.trans (wk.le (by exact (.eq (.drop (.drop (.eq (.drop (.drop (.drop (.eq (.eq (.cons (leV.of_eq (y4 (by omega) (by omega))) (.d16 leL.nil))))))))))))) (yj (by simp [zu,AV.low]) rfl rfl (by simp [Blk.low,zu,AV.low,GDot.row,mrow]))⟩
 ·refine R.r ?_;refine ops_mlen (m:=s1) (j:=0) (kv:=(fun x=>AV.agg (GDot.row x))) (vv:=(AV.int .i64)) rfl rfl rfl rfl rfl Tryz.underlying201 gt21 rfl st22 (R.r ?_);refine ln fun hn7=>?_;replace hn7:=zY hn7;refine R.r ?_;cases hF;exact fz rfl rfl
theorem ok127 {l0:(List GItem)} {timed1:Bool} {res:Bool} {h:AH}  (hF:qS l0 timed1=some res):Spec Tryz.prog 127 [.sl 5 (l0.map GItem.row),.bool timed1] h (yb (.bool res) h):=by
 unfold qS at hF;refine za Tryz.func127 rfl (by kernel_rfl) (yk 66 rfl) (R.r ?_);refine ln fun hn1=>?_;replace hn1:=zY hn1;refine R.r ?_;refine zA (fun (n1:Nat) (s1:Unit)=>zG [2,3,4,5,6,10,11,12,13,14,15,16,17,18,19,20,21,22,23,24,25,26,27,28,29,30,31,32,33,34,35,36,37,38,39,40,41,42,43,44,45,46,47,48,49,50,51,52,53,54,55,56,57,58,59,60,61,62,63,64,65] [(9,.int .i64 (n1:Int))]) (fun s1=>h.ext [] []) hF (fun _ _=>by simp only [zG,wD,List.set_cons_succ,List.set_cons_zero];try rfl) (wk.le LEL.o) ?_;intro n1 s1 hi1 hF;refine R.r ?_;refine zJ vi hF (fun x1 o1 hl1 hx1 hF hK1=>?_) (fun hF=>?_)
 ·refine R.r ?_;refine ix (zz hx1) (R.r ?_);refine ze hF (fun v13 hv13 hF=>?_);refine cp (ok50 hv13) (R.r ?_);refine zM hF (fun v14 hv14 hF=>?_);refine zw rfl sc (fun hb=>ok126 (hv14 hb)) st21 (R.r ?_);refine zM hF (fun v15 hv15 hF=>?_);refine zw rfl sc (fun hb=>ok125 (hv15 hb)) st28 ?_;refine qN rfl (fun hb=>vT rfl (yh gt25 hb) (yh gt28 hb) (bin_boolN ty4)) st29 (R.r ?_);refine zd gt39 hF (fun hc16 hF=>?_) (fun hc16 hF=>?_)
  ·refine R.r ?_;cases hF;replace hF:=hK1;refine R.r ?_;cases hF;exact fz rfl rfl
  ·refine R.r ?_;refine zt [] [] trivial mixed (by kernel_rfl) (R.r ?_);refine yd hF (fun hg17 hF=>?_);refine dgix hg17 (R.r ?_);refine yd hF (fun hg18 hF=>?_);refine dgix hg18 (R.r ?_);refine zM hF (fun v19 hv19 hF=>?_);refine yI rfl rfl sc (fun hb=>ok136 (hv19 hb)) (sk st19) (R.r ?_);refine zd (gk gt21) hF (fun hc20 hF=>?_) (fun hc20 hF=>?_)
   ·refine R.r ?_;cases hF;replace hF:=hK1;refine R.r ?_;cases hF;exact fz rfl rfl
   ·refine R.r ?_;cases hF;exact ⟨(),hl1,hK1,wk.trans (wk.le (by exact (.eq (.eq (.d4 (.drop (.eq (.eq (.cons (leV.of_eq (y4 (by omega) (by omega))) (.d16 (.d16 (.d16 (.d4 (.d4 leL.nil)))))))))))))) (yj (by simp [zu,AV.low]) rfl rfl (by simp [Blk.low,zu,AV.low]))⟩
 ·refine R.r ?_;refine ze hF (fun v21 hv21 hF=>?_);refine cp (ok150 hv21) (R.r ?_);cases hF;exact fz rfl rfl
theorem ok77 {l0:GLeaf} {res:Bool} {h:AH}  (hF:leafMay l0=some res):Spec Tryz.prog 77 [.agg (GLeaf.row l0)] h (yb (.bool res) h):=by
 unfold leafMay at hF;refine za Tryz.func77 rfl (by kernel_rfl) (yk 89 rfl) (R.r ?_);refine zc rfl (zR (cs':=[.int .u8 l0.typ,.int .i64 (0:Int),.int .u64 (0:Int),.int .u8 (0:Int),.int .u32 (0:Int),.int .u64 (0:Int),.str ([]:zk),.osl none 5 (([]:List GItem).map GItem.row),.osl none 3 (([]:List GDot).map GDot.row)]) rfl su58 qF pl58 (zf gt5 zg) (.cons (zb rfl) .nil) rfl rfl) st6 (R.r ?_);refine zd gt9 hF (fun hc1 hF=>?_) (fun hc1 hF=>?_)
 ·refine R.r ?_;refine ze hF (fun v2 hv2 hF=>?_);refine cp ((ok48 hv2).le (.eq (.cons (leV.agg (.eq (.eq (.eq (.eq (.eq (.eq (.eq (.cons (leV.osl _ _ _) (.cons (leV.osl _ _ _) leL.nil))))))))) rfl) leL.nil))) (R.r ?_);cases hF;exact fz rfl rfl
 ·refine R.r ?_;refine zd gt14 hF (fun hc3 hF=>?_) (fun hc3 hF=>?_)
  ·refine R.r ?_;refine zt [3,5] [(3,[(0,.cells (GLeaf.row l0))]),(5,[(0,.cells (GLeaf.row l0))])] ⟨⟨rfl,trivial⟩,⟨rfl,trivial⟩,trivial⟩ mixed (by kernel_rfl) (R.r ?_);refine xe rfl rfl (by rintro _ ⟨B2,T2,rfl,hk2⟩;exact x4 rfl ty30.choose_spec.1 gt18 (vg hk2) (xq (cs':=(GDot.row l0.dot)) ty30.choose_spec.2 rfl rfl) (zb rfl)) st19 (R.r ?_);refine xe rfl rfl (by rintro _ ⟨B2,T2,rfl,hk2⟩;exact x4 rfl ty9 gt20 (vg hk2) (zW rfl) (zb rfl)) st21 (R.r ?_);refine zH rfl (FOk.cons (.inr (zZ ⟨rfl,trivial⟩)) (FOk.cons (.inr (zZ ⟨rfl,trivial⟩)) FOk.nil)) (by kernel_rfl) rfl (zT (cs':=[.int .u8 l0.typ,.int .i64 (0:Int),.int .u64 l0.time,.int .u8 (0:Int),.int .u32 (0:Int),.int .u64 (0:Int),.str ([]:zk),.osl none 5 (([]:List GItem).map GItem.row),.osl none 3 (([]:List GDot).map GDot.row)]) rfl ty28 gt22 gt17 (zb rfl) rfl rfl rfl rfl rfl) rfl (R.r ?_);refine zH rfl (FOk.cons (.inr (zZ ⟨rfl,trivial⟩)) (FOk.cons (.inr (zZ ⟨rfl,trivial⟩)) FOk.nil)) (by kernel_rfl) rfl (zT (cs':=[.int .u8 l0.typ,.int .i64 (0:Int),.int .u64 l0.time,.int .u8 l0.dot.actor.rep,.int .u32 l0.dot.actor.inc,.int .u64 l0.dot.seq,.str ([]:zk),.osl none 5 (([]:List GItem).map GItem.row),.osl none 3 (([]:List GDot).map GDot.row)]) rfl ty30.choose_spec.1 gt23 wW (zb rfl) rfl rfl rfl rfl rfl) rfl (R.r ?_);refine zH rfl (FOk.cons (.inr (zZ ⟨rfl,trivial⟩)) (FOk.cons (.inr (zZ ⟨rfl,trivial⟩)) FOk.nil)) (by kernel_rfl) rfl (zT (cs':=[.int .u8 l0.typ,.int .i64 (0:Int),.int .u64 l0.time,.int .u8 l0.dot.actor.rep,.int .u32 l0.dot.actor.inc,.int .u64 l0.dot.seq,.str l0.text,.osl none 5 (([]:List GItem).map GItem.row),.osl none 3 (([]:List GDot).map GDot.row)]) rfl ty9 gt24 gt21 (zb rfl) rfl rfl rfl rfl rfl) rfl (R.r ?_);refine zM hF (fun v4 hv4 hF=>?_);refine zw rfl sc (fun hb=>ok125 (hv4 hb)) st31 (R.r ?_);refine zM hF (fun v5 hv5 hF=>?_);refine zw (aG_gv rfl rfl rfl) sc (fun hb=>ok50 (hv5 hb)) st35 (R.r ?_);refine zM hF (fun v6 hv6 hF=>?_);refine zw (aG_gv rfl rfl rfl) sc (fun hb=>ok126 (hv6 hb)) (sk st0) (R.r ?_);refine qN (aG_gv rfl rfl rfl) (fun hb=>zR (cs':=[.int .u8 (0:Int),.int .u32 (0:Int),.int .u64 (0:Int)]) rfl su30 ze30 pl30 zg .nil rfl rfl) (sk st11) ?_;refine qN (aG_gv rfl rfl rfl) (fun hb=>vT rfl (yh (gk vi) hb) (yh (gk vh) hb) (bin_ne pk30 rfl)) (sk st12) (R.r ?_);refine zd (gk wW) hF (fun hc7 hF=>?_) (fun hc7 hF=>?_)
   ·refine R.r ?_;cases hF;exact fz rfl rfl
   ·refine R.r ?_;refine ze hF (fun v8 hv8 hF=>?_);refine cp ((ok48 hv8).le (.eq (.cons (leV.agg (.eq (.eq (.eq (.eq (.eq (.eq (.eq (.cons (leV.osl _ _ _) (.cons (leV.osl _ _ _) leL.nil))))))))) rfl) leL.nil))) (R.r ?_);cases hF;exact fz rfl rfl
  ·refine R.r ?_;refine zd (gk gt20) hF (fun hc9 hF=>?_) (fun hc9 hF=>?_)
   ·refine R.r ?_;refine zt [3] [(3,[(0,.cells (GLeaf.row l0))])] ⟨⟨rfl,trivial⟩,trivial⟩ mixed (by kernel_rfl) (R.r ?_);refine xe rfl rfl (by rintro _ ⟨B2,T2,rfl,hk2⟩;exact x4 rfl ty32 (gk gt24) (vg hk2) (zW rfl) (zb rfl)) (sk st25) (R.r ?_);refine zH rfl (FOk.cons (.inr (zZ ⟨rfl,trivial⟩)) FOk.nil) (by kernel_rfl) rfl (zT (cs':=[.int .u8 l0.typ,.int .i64 (0:Int),.int .u64 (0:Int),.int .u8 (0:Int),.int .u32 (0:Int),.int .u64 (0:Int),.str ([]:zk),.sl 5 (l0.items.map GItem.row),.osl none 3 (([]:List GDot).map GDot.row)]) rfl ty56 (gk gt26) (gk gt23) (zb rfl) rfl rfl rfl rfl rfl) rfl (R.r ?_);refine zH rfl (FOk.cons (.inr (zZ ⟨rfl,trivial⟩)) FOk.nil) (by kernel_rfl) rfl (zT (cs':=[.int .u8 l0.typ,.int .i64 (0:Int),.int .u64 (0:Int),.int .u8 (0:Int),.int .u32 (0:Int),.int .u64 (0:Int),.str ([]:zk),.sl 5 (l0.items.map GItem.row),.sl 3 (l0.tombs.map GDot.row)]) rfl ty32 (gk gt27) (gk gt25) (zb rfl) rfl rfl rfl rfl rfl) rfl (R.r ?_);refine ze hF (fun v10 hv10 hF=>?_);refine cp (ok127 hv10) (R.r ?_);refine zM hF (fun v11 hv11 hF=>?_);refine zw rfl sc (fun hb=>ok128 (hv11 hb)) (sk st34) (R.r ?_);refine zd (gk gt36) hF (fun hc12 hF=>?_) (fun hc12 hF=>?_)
    ·refine R.r ?_;cases hF;exact fz rfl rfl
    ·refine R.r ?_;refine ze hF (fun v13 hv13 hF=>?_);refine cp (ok48 hv13) (R.r ?_);cases hF;exact fz rfl rfl
   ·refine R.r ?_;refine zd (gk gt37) hF (fun hc14 hF=>?_) (fun hc14 hF=>?_)
    ·refine R.r ?_;refine ze hF (fun v15 hv15 hF=>?_);refine cp (ok127 hv15) (R.r ?_);refine zd (gk (gk gt5)) hF (fun hc16 hF=>?_) (fun hc16 hF=>?_)
     ·refine R.r ?_;cases hF;exact fz rfl rfl
     ·refine R.r ?_;refine ze hF (fun v17 hv17 hF=>?_);refine cp ((ok48 hv17).le (.eq (.cons (leV.agg (.eq (.eq (.eq (.eq (.eq (.eq (.eq (.eq (.cons (leV.osl _ _ _) leL.nil))))))))) rfl) leL.nil))) (R.r ?_);cases hF;exact fz rfl rfl
    ·refine R.r ?_;cases hF;exact fz rfl rfl
theorem ok39N (n:Nat):∀ {t0:(List GNode)} {deep1:Int} {res:Bool} {h:AH} , vN n t0 deep1=some res→Spec Tryz.prog 39 [.sl 3 (t0.map GNode.row),.int .i64 deep1] h (yb (.bool res) h):=by
 induction n with
 | zero=>intro t0 deep1 res h  hF;simp [vN] at hF
 | succ n ih =>
  intro t0 deep1 res h  hF;unfold vN at hF;refine za Tryz.func39 rfl (by kernel_rfl) (yk 89 rfl) (R.r ?_);refine ln fun hn1=>?_;replace hn1:=zY hn1;refine R.r ?_;refine zd gt15 hF (fun hc2 hF=>?_) (fun hc2 hF=>?_)
  ·refine R.r ?_;cases hF;exact fz rfl rfl
  ·refine R.r ?_;refine ln fun hn3=>?_;replace hn3:=zY hn3;refine R.r ?_;refine zA (fun (n1:Nat) (s1:Unit)=>zG [2,3,4,5,6,7,8,9,10,11,12,13,14,15,19,20,21,22,23,24,25,26,27,28,29,30,31,32,33,34,35,36,37,38,39,40,41,42,43,44,45,46,47,48,49,50,51,52,53,54,55,56,57,58,59,60,61,62,63,64,65,66,67,68,69,70,71,72,73,74,75,76,77,78,79,80,81,82,83,84,85,86,87,88] [(18,.int .i64 (n1:Int))]) (fun s1=>h.ext [] []) hF (fun _ _=>by simp only [zG,wD,List.set_cons_succ,List.set_cons_zero];try rfl) (wk.le LEL.o) ?_;intro n1 s1 hi1 hF;refine R.r ?_;refine zJ wW hF (fun x1 o1 hl1 hx1 hF hK1=>?_) (fun hF=>?_)
   ·refine R.r ?_;refine zc rfl (yi rfl el24 vr gt18 isl (zz hx1) (GNode.row_eq _)) st21 (R.r ?_);refine zt [2] [] trivial mixed (by kernel_rfl) (R.r ?_);refine ze hF (fun v27 hv27 hF=>?_);refine zy rfl rfl (fun _=>sc rfl) (by rintro _ ⟨B2,T2,rfl,hk2⟩;exact ok73 hv27) st25 (R.r ?_);refine yd hF (fun hg28 hF=>?_);refine qy rfl (aG_gv rfl rfl rfl) (fun hb=>wo default rfl el24 (yh gt31 hb) (yh gt33 hb) isl (hg28 hb) (GNode.row_eq _)) st34 (R.r ?_);refine qU rfl rfl (fun hb=>wG rfl rfl rfl rfl el59 (yh (gk gt4) hb) qt) (sk st5) (R.r ?_);refine qU rfl rfl (fun hb=>wG rfl rfl rfl rfl el24 (yh (gk gt7) hb) qt) (sk st8) (R.r ?_);refine zM hF (fun v31 hv31 hF=>?_);refine yI rfl rfl sc (fun hb=>ih (hv31 hb)) (sk st17) (R.r ?_);refine zd (gk wW) hF (fun hc32 hF=>?_) (fun hc32 hF=>?_)
    ·refine R.r ?_;cases hF;replace hF:=hK1;refine R.r ?_;cases hF;exact fz rfl rfl
    ·refine R.r ?_;refine ln fun hn33=>?_;replace hn33:=zY hn33;refine R.r ?_;refine zA (fun (n2:Nat) (s2:Unit)=>zG [2,3,4,5,7,8,9,10,11,12,13,14,15,19,20,21,22,23,24,25,26,27,28,29,30,31,32,33,34,35,36,37,38,39,40,41,42,43,44,45,46,47,48,49,50,51,52,53,54,55,56,57,58,59,60,64,65,66,67,68,69,70,71,72,73,74,75,76,77,78,79,80,81,82,83,84,85,86,87,88] [(63,.int .i64 (n2:Int))]) (fun s2=>h.ext [.cells [.str x1.name,.sl 9 (x1.leaves.map GLeaf.row),.sl 3 (x1.subs.map GNode.row)]] []) hF (fun _ _=>by simp only [zG,wD,List.set_cons_succ,List.set_cons_zero];try rfl) (wk.le LEL.o) ?_;intro n2 s2 hi2 hF;refine R.r ?_;refine zJ (gk gt24) hF (fun x2 o2 hl2 hx2 hF hK2=>?_) (fun hF=>?_)
     ·refine R.r ?_;refine ix (zz hx2) (R.r ?_);refine zt [1] [] trivial mixed (by kernel_rfl) (R.r ?_);refine ze hF (fun v43 hv43 hF=>?_);refine zy rfl rfl (fun _=>sc rfl) (by rintro _ ⟨B2,T2,rfl,hk2⟩;exact ok77 hv43) (sk st29) (R.r ?_);refine yd hF (fun hg44 hF=>?_);refine dgix hg44 (R.r ?_);refine zd (gk (gk gt6)) hF (fun hc45 hF=>?_) (fun hc45 hF=>?_)
      ·refine R.r ?_;cases hF;replace hF:=hK2;refine R.r ?_;cases hF;replace hF:=hK1;refine R.r ?_;cases hF;exact fz rfl rfl
      ·refine R.r ?_;cases hF;exact ⟨(),hl2,hK2,wk.trans (wk.le (by exact (.eq (.eq (.d4 (.eq (.d4 (.d4 (.drop (.eq (.eq (.eq (.d16 (.d16 (.d4 (.d4 (.drop (.drop (.eq (.eq (.cons (leV.of_eq (y4 (by omega) (by omega))) (.d16 (.d4 (.d4 (.drop leL.nil))))))))))))))))))))))))) (yj (by simp [zu,AV.low]) rfl rfl (by simp [Blk.low,zu,AV.low]))⟩
     ·refine R.r ?_;cases hF;exact ⟨(),hl1,hK1,wk.trans (wk.le (by exact (.eq (.eq (.d4 (.d4 (.d4 (.drop (.drop (.eq (.eq (.cons (leV.of_eq (y4 (by omega) (by omega))) (.d16 (.d16 (.d16 (.d16 (.d4 (.drop (.drop leL.nil))))))))))))))))))) (yj (by simp [zu,AV.low]) rfl rfl (by simp [Blk.low,zu,AV.low]))⟩
   ·refine R.r ?_;cases hF;exact fz rfl rfl
theorem ok39 {t0:(List GNode)} {deep1:Int} {res:Bool} {h:AH}  (hF:treeXmay t0 deep1=some res):Spec Tryz.prog 39 [.sl 3 (t0.map GNode.row),.int .i64 deep1] h (yb (.bool res) h):=by
 obtain ⟨n,hn⟩:=anyN_is hF;exact ok39N n hn
theorem ok20 {t0:(List GNode)} {res:Bool} {h:AH}  (hF:vz t0=some res):Spec Tryz.prog 20 [.sl 3 (t0.map GNode.row)] h (yb (.bool res) h):=by
 unfold vz at hF;refine za Tryz.func20 rfl (by kernel_rfl) (yk 5 rfl) (R.r ?_);refine ze hF (fun v1 hv1 hF=>?_);refine cp (ok39 hv1) (R.r ?_);cases hF;exact fz rfl rfl
theorem ok129 {s0:zk} {res:Bool} {h:AH}  (hF:opMayPathC1 s0=some res):Spec Tryz.prog 129 [.str s0] h (yb (.bool res) h):=by
 unfold opMayPathC1 at hF;refine za Tryz.func129 rfl (by kernel_rfl) (yk 6 rfl) (R.r ?_);refine ze hF (fun v1 hv1 hF=>?_);refine cp (ok73 hv1) (R.r ?_);cases hF;exact fz rfl rfl
theorem ok84 {p0:(List zk)} {res:Bool} {h:AH}  (hF:vZ p0=some res):Spec Tryz.prog 84 [.sl 1 (p0.map zI)] h (yb (.bool res) h):=by
 unfold vZ at hF;refine za Tryz.func84 rfl (by kernel_rfl) (yk 16 rfl) (R.r ?_);refine ln fun hn1=>?_;replace hn1:=zY hn1;refine R.r ?_;refine lng fun hn2=>?_;refine R.r ?_;refine zM hF (fun v3 hv3 hF=>?_);refine zw rfl sc (fun hb=>ok74 (fun _ v L M hv=>ok129  hv) (hv3 hb)) st13 (R.r ?_);cases hF;exact fz rfl rfl
theorem ok83 {p0:(List zk)} {path1:(List zk)} {res:Bool} {h:AH}  (hF:qM p0 path1=some res):Spec Tryz.prog 83 [.sl 1 (p0.map zI),.sl 1 (path1.map zI)] h (yb (.bool res) h):=by
 unfold qM at hF;refine za Tryz.func83 rfl (by kernel_rfl) (yk 58 rfl) (R.r ?_);refine ze hF (fun v1 hv1 hF=>?_);refine cp (ok71 hv1) (R.r ?_);refine ze hF (fun v2 hv2 hF=>?_);refine cp (ok36 hv2) (R.r ?_);refine zM hF (fun v3 hv3 hF=>?_);refine zw rfl sc (fun hb=>ok84 (hv3 hb)) st19 (R.r ?_);refine lng fun hn4=>?_;refine R.r ?_;refine lng fun hn5=>?_;refine R.r ?_;refine lng fun hn6=>?_;refine R.r ?_;refine lng fun hn7=>?_;refine R.r ?_;refine zd gt39 hF (fun hc8 hF=>?_) (fun hc8 hF=>?_)
 ·refine R.r ?_;cases hF;exact fz rfl rfl
 ·refine R.r ?_;refine ln fun hn9=>?_;replace hn9:=zY hn9;refine R.r ?_;refine zA (fun (n1:Nat) (s1:Unit)=>zG [0,2,3,4,5,6,7,8,9,10,11,12,13,14,15,16,17,18,19,20,21,22,23,24,25,26,27,28,29,30,31,32,33,34,35,36,37,38,39,43,44,45,46,47,48,49,50,51,52,53,54,55,56,57] [(42,.int .i64 (n1:Int))]) (fun s1=>h.ext [] []) hF (fun _ _=>by simp only [zG,wD,List.set_cons_succ,List.set_cons_zero];try rfl) (wk.le LEL.o) ?_;intro n1 s1 hi1 hF;refine R.r ?_;refine zJ (gk gt3) hF (fun x1 o1 hl1 hx1 hF hK1=>?_) (fun hF=>?_)
  ·refine R.r ?_;refine ix (zz hx1) (R.r ?_);refine yd hF (fun hg15 hF=>?_);refine gix hg15 (R.r ?_);refine zd (gk vr) hF (fun hc16 hF=>?_) (fun hc16 hF=>?_)
   ·refine R.r ?_;cases hF;replace hF:=hK1;refine R.r ?_;cases hF;exact fz rfl rfl
   ·refine R.r ?_;cases hF;exact ⟨(),hl1,hK1,wk.le (by exact (.drop (.eq (.d16 (.d16 (.d4 (.drop (.drop (.eq (.eq (.cons (leV.of_eq (y4 (by omega) (by omega))) (.d4 (.d4 (.d4 (.drop (.drop (.drop leL.nil)))))))))))))))))⟩
  ·refine R.r ?_;cases hF;exact fz rfl rfl
theorem ok82 {f0:GField} {c0:(List zk)} {i0:Nat} {res:Bool} {h:AH} (hb0:h.blk i0=some (.cells [.sl 1 (c0.map zI)])) (hF:wL f0 c0=some res):Spec Tryz.prog 82 [.agg (GField.row f0),.ptr i0 0] h (yb (.bool res) h):=by
 unfold wL at hF;refine za Tryz.func82 rfl (by kernel_rfl) (yk 8 rfl) (R.r ?_);refine zc rfl (vI rfl ty31 gt1 hb0 (zW rfl) (zb rfl)) st6 ?_;refine ze hF (fun v1 hv1 hF=>?_);refine cp (ok83 hv1) (R.r ?_);cases hF;exact fz rfl rfl
theorem ok42 {l0:(List GField)} {path1:(List zk)} {res:(GField×Bool)} {h:AH}  (hF:qh l0 path1=some res):Spec Tryz.prog 42 [.sl 5 (l0.map GField.row),.sl 1 (path1.map zI)] h (yb (.tup [.agg (GField.row res.1),.bool res.2]) h):=by
 unfold qh at hF;refine za Tryz.func42 rfl (by kernel_rfl) (yk 17 rfl) (R.r ?_);refine zc rfl (xX rfl rfl rfl) st8 ?_;refine ze hF (fun v1 hv1 hF=>?_);refine cp (ok35 (fun _ v L M hv=>ok82 (blk_ext2 (j:=0) rfl) hv) hv1) (R.r ?_);refine zd vh hF (fun hc2 hF=>?_) (fun hc2 hF=>?_)
 ·refine R.r ?_;refine zc rfl (zR (cs':=[.osl none 1 (([]:List zk).map zI),.int .u8 (0:Int),.int .i64 (0:Int),.int .i64 (0:Int),.int .i64 (0:Int)]) rfl su53 ze53 pl53 zg .nil rfl rfl) st12 (R.r ?_);cases hF;exact fe rfl rfl (leV.tup (.cons (leV.agg (.cons (leV.osl _ _ _) (.eq (.eq (.eq (.eq leL.nil))))) rfl) (.eq leL.nil)))
 ·refine R.r ?_;refine ze hF (fun y3 hy3 hF=>?_);refine ix hy3 (R.r ?_);cases hF;exact fz rfl rfl
theorem ok43 {c0:GLeaf} {i0:Nat} {c1:GField} {i1:Nat} {res:Bool} {h:AH} (hb0:h.blk i0=some (.cells (GLeaf.row c0))) (hb1:h.blk i1=some (.cells (GField.row c1))) (hF:wx c0 c1=some res):Spec Tryz.prog 43 [.ptr i0 0,.ptr i1 0] h (yb (.bool res) h):=by
 unfold wx at hF;refine za Tryz.func43 rfl (by kernel_rfl) (yk 9 rfl) (R.r ?_);refine zc rfl (vI rfl ty56 gt3 hb0 (zW rfl) (zb rfl)) st4 ?_;refine ln fun hn1=>?_;replace hn1:=zY hn1;refine R.r ?_;refine zc rfl (vI rfl ty3 gt6 hb1 (zW rfl) (zb rfl)) st7 (R.r ?_);cases hF;exact fz rfl rfl
theorem ok44 {c0:GLeaf} {i0:Nat} {c1:GField} {i1:Nat} {res:Bool} {h:AH} (hb0:h.blk i0=some (.cells (GLeaf.row c0))) (hb1:h.blk i1=some (.cells (GField.row c1))) (hF:vB c0 c1=some res):Spec Tryz.prog 44 [.ptr i0 0,.ptr i1 0] h (yb (.bool res) h):=by
 unfold vB at hF;refine za Tryz.func44 rfl (by kernel_rfl) (yk 15 rfl) (R.r ?_);refine zc rfl (vI rfl ty2 gt3 hb0 (zW rfl) (zb rfl)) st4 (R.r ?_);refine zc rfl (vI rfl ty2 gt5 hb1 (zW rfl) (zb rfl)) st6 (R.r ?_);refine qN rfl (fun hb=>vI rfl ty2 (yh gt9 hb) hb0 (zW rfl) (zb rfl)) st10 (R.r ?_);refine qN rfl (fun hb=>vI rfl ty2 (yh vh hb) hb1 (zW rfl) (zb rfl)) st12 (R.r ?_);cases hF;exact fz rfl rfl
theorem ok45  {res:Bool} {h:AH}  (hF:vA  = some res):Spec Tryz.prog 45 [] h (yb (.bool res) h):=by
 unfold vA at hF;refine za Tryz.func45 rfl (by kernel_rfl) (yk 1 rfl) (R.r ?_);cases hF;exact fz rfl rfl
theorem ok22 {l0:(List GField)} {path1:(List zk)} {x2:GLeaf} {res:Int} {h:AH}  (hF:xu l0 path1 x2=some res):Spec Tryz.prog 22 [.sl 5 (l0.map GField.row),.sl 1 (path1.map zI),.agg (GLeaf.row x2)] h (yb (.int .i64 res) h):=by
 unfold xu at hF;refine za Tryz.func22 rfl (by kernel_rfl) (yk 41 rfl) (R.r ?_);refine ze hF (fun v1 hv1 hF=>?_);refine cp (ok42 hv1) (R.r ?_);refine zc rfl (xX rfl rfl rfl) st17 (R.r ?_);refine zc rfl (e_makeMap (n:=2) rfl rfl) st18 ?_;refine zc rfl (xX rfl rfl rfl) st19 ?_;refine qp rfl (e_insF (j:=2) rfl Tryz.underlying93 (qB Tryz.underlying5) gt18 rfl rfl wW wj rfl) rfl ?_;refine qp rfl (e_insF (j:=2) rfl Tryz.underlying93 (qB Tryz.underlying5) gt18 rfl rfl rfl (zC Tryz.underlying5 (by decide) wj) rfl) rfl (R.r ?_);refine qp rfl (e_insF (j:=2) rfl Tryz.underlying93 (qB Tryz.underlying5) gt18 rfl rfl gt20 (zC Tryz.underlying5 (by decide) (zC Tryz.underlying5 (by decide) wj)) rfl) rfl (R.r ?_);refine qp rfl (e_insF (j:=2) rfl Tryz.underlying93 (qB Tryz.underlying5) gt18 rfl rfl gt21 (zC Tryz.underlying5 (by decide) (zC Tryz.underlying5 (by decide) (zC Tryz.underlying5 (by decide) wj))) rfl) rfl (R.r ?_);refine zd gt23 hF (fun hc2 hF=>?_) (fun hc2 hF=>?_)
 ·refine R.r ?_;cases hF;exact fz rfl rfl
 ·refine R.r ?_;refine yd hF (fun hm3 hF=>?_);refine zc rfl (vT rfl gt28 gt30 (if_neg hm3)) st31 (R.r ?_);refine zd gt26 hF (fun hc4 hF=>?_) (fun hc4 hF=>?_)
  ·refine R.r ?_;cases hF;exact fz rfl rfl
  ·refine R.r ?_;refine iteF hF (fun hk5 hF=>?_) (fun hk5 hF=>?_)
   ·refine zc rfl (e_lookF (j:=2) (n:=1) rfl Tryz.underlying93 Tryz.underlying5 gt35 rfl gt37 hk5 (qC Tryz.underlying5)) st38 ?_;refine ze hF (fun v6 hv6 hF=>?_);refine yD rfl (scC rfl) (ok44 (blk_ext rfl) (blk_ext rfl) hv6) st39 (R.r ?_);refine zd gt34 hF (fun hc7 hF=>?_) (fun hc7 hF=>?_)
    ·refine R.r ?_;cases hF;exact fz rfl rfl
    ·refine R.r ?_;cases hF;exact fz rfl rfl
   ·refine iteF hF (fun hk8 hF=>?_) (fun hk8 hF=>?_)
    ·refine zc rfl (e_lookF (j:=2) (n:=2) rfl Tryz.underlying93 Tryz.underlying5 gt35 rfl gt37 hk8 (zC Tryz.underlying5 (by decide) (qC Tryz.underlying5))) st38 ?_;refine ze hF (fun v9 hv9 hF=>?_);refine yD rfl (wp rfl rfl gt38 xn .nil) (ok45 hv9) st39 (R.r ?_);refine zd gt34 hF (fun hc10 hF=>?_) (fun hc10 hF=>?_)
     ·refine R.r ?_;cases hF;exact fz rfl rfl
     ·refine R.r ?_;cases hF;exact fz rfl rfl
    ·refine iteF hF (fun hk11 hF=>?_) (fun hk11 hF=>?_)
     ·refine zc rfl (e_lookF (j:=2) (n:=3) rfl Tryz.underlying93 Tryz.underlying5 gt35 rfl gt37 hk11 (zC Tryz.underlying5 (by decide) (zC Tryz.underlying5 (by decide) (qC Tryz.underlying5)))) st38 ?_;refine ze hF (fun v12 hv12 hF=>?_);refine yD rfl (scC rfl) (ok43 (blk_ext rfl) (blk_ext rfl) hv12) st39 (R.r ?_);refine zd gt34 hF (fun hc13 hF=>?_) (fun hc13 hF=>?_)
      ·refine R.r ?_;cases hF;exact fz rfl rfl
      ·refine R.r ?_;cases hF;exact fz rfl rfl
     ·refine iteF hF (fun hk14 hF=>?_) (fun hk14 hF=>?_)
      ·refine zc rfl (e_lookF (j:=2) (n:=4) rfl Tryz.underlying93 Tryz.underlying5 gt35 rfl gt37 hk14 (zC Tryz.underlying5 (by decide) (zC Tryz.underlying5 (by decide) (zC Tryz.underlying5 (by decide) (qC Tryz.underlying5))))) st38 ?_;refine ze hF (fun v15 hv15 hF=>?_);refine yD rfl (scC rfl) (ok43 (blk_ext rfl) (blk_ext rfl) hv15) st39 (R.r ?_);refine zd gt34 hF (fun hc16 hF=>?_) (fun hc16 hF=>?_)
       ·refine R.r ?_;cases hF;exact fz rfl rfl
       ·refine R.r ?_;cases hF;exact fz rfl rfl
      ·refine zc rfl (e_lookN (j:=2) rfl Tryz.underlying93 Tryz.underlying5 gt35 rfl gt37 azf40 (zC Tryz.underlying5 hk5 (zC Tryz.underlying5 hk8 (zC Tryz.underlying5 hk11 (zC Tryz.underlying5 hk14 wj))))) st38 ?_;cases hF
theorem ok117 {o0:GOp} {res:Bool} {h:AH}  (hF:opXadds o0=some res):Spec Tryz.prog 117 [.agg (GOp.row o0)] h (yb (.bool res) h):=by
 unfold opXadds at hF;refine za Tryz.func117 rfl (by kernel_rfl) (yk 22 rfl) (R.r ?_);refine lng fun hn1=>?_;refine R.r ?_;cases hF;exact fz rfl rfl
theorem ok118 {o0:GOp} {res:Bool} {h:AH}  (hF:opXplain o0=some res):Spec Tryz.prog 118 [.agg (GOp.row o0)] h (yb (.bool res) h):=by
 unfold opXplain at hF;refine za Tryz.func118 rfl (by kernel_rfl) (yk 18 rfl) (R.r ?_);refine lng fun hn1=>?_;refine R.r ?_;refine lng fun hn2=>?_;refine R.r ?_;cases hF;exact fz rfl rfl
theorem ok119 {o0:GOp} {res:Bool} {h:AH}  (hF:opXdrops o0=some res):Spec Tryz.prog 119 [.agg (GOp.row o0)] h (yb (.bool res) h):=by
 unfold opXdrops at hF;refine za Tryz.func119 rfl (by kernel_rfl) (yk 47 rfl) (R.r ?_);refine lng fun hn1=>?_;refine R.r ?_;refine lng fun hn2=>?_;refine R.r ?_;refine zd wW hF (fun hc3 hF=>?_) (fun hc3 hF=>?_)
 ·refine R.r ?_;cases hF;exact fz rfl rfl
 ·refine R.r ?_;refine ln fun hn4=>?_;replace hn4:=zY hn4;refine R.r ?_;refine zA (fun (n1:Nat) (s1:Unit)=>zG [0,2,3,4,5,6,7,8,9,10,11,12,13,14,15,16,17,18,19,20,24,25,26,27,28,29,30,31,32,33,34,35,36,37,38,39,40,41,42,43,44,45,46] [(23,.int .i64 (n1:Int))]) (fun s1=>h.ext [.cells (GOp.row o0)] []) hF (fun _ _=>by simp only [zG,wD,List.set_cons_succ,List.set_cons_zero];try rfl) (wk.le LEL.o) ?_;intro n1 s1 hi1 hF;refine R.r ?_;refine zJ gt24 hF (fun x1 o1 hl1 hx1 hF hK1=>?_) (fun hF=>?_)
  ·refine R.r ?_;refine ix (zz hx1) (R.r ?_);refine zt [1] [] trivial mixed (by kernel_rfl) (R.r ?_);refine ze hF (fun v17 hv17 hF=>?_);refine zy rfl rfl (fun _=>sc rfl) (by rintro _ ⟨B2,T2,rfl,hk2⟩;exact ok50 hv17) st29 (R.r ?_);refine yd hF (fun hg18 hF=>?_);refine dgix hg18 (R.r ?_);refine zM hF (fun v19 hv19 hF=>?_);refine yI rfl (aG_gv rfl rfl rfl) sc (fun hb=>ok140 (hv19 hb)) (sk st2) (R.r ?_);refine zd (gk gt5) hF (fun hc20 hF=>?_) (fun hc20 hF=>?_)
   ·refine R.r ?_;cases hF;replace hF:=hK1;refine R.r ?_;cases hF;exact fz rfl rfl
   ·refine R.r ?_;cases hF;exact ⟨(),hl1,hK1,wk.trans (wk.le (by exact (.drop (.eq (.d16 (.drop (.drop (.drop (.eq (.eq (.cons (leV.of_eq (y4 (by omega) (by omega))) (.d16 (.d4 (.drop (.drop (.drop leL.nil)))))))))))))))) (yj (by simp [zu,AV.low]) rfl rfl (by simp [Blk.low,zu,AV.low]))⟩
  ·refine R.r ?_;cases hF;exact fz rfl rfl
theorem ok61 {k0:Int} {res:(GOpKind×Bool)} {h:AH}  (hF:opXof k0=some res):Spec Tryz.prog 61 [.int .u8 k0] h (yb (.tup [.agg (GOpKind.row res.1),.bool res.2]) h):=by
 unfold opXof at hF;refine za Tryz.func61 rfl (by kernel_rfl) (yk 21 rfl) (R.r ?_);refine zc rfl (zR (cs':=[.int .u8 (1:Int),.fn (.func 117) [] []]) rfl su109 ze109 pl109 (zf rfl (zf rfl zg)) (.cons (zb rfl) (.cons (zb rfl) .nil)) rfl rfl) st5 ?_;refine zc rfl (zR (cs':=[.int .u8 (2:Int),.fn (.func 118) [] []]) rfl su109 ze109 pl109 (zf rfl (zf rfl zg)) (.cons (zb rfl) (.cons (zb rfl) .nil)) rfl rfl) st6 ?_;refine zc rfl (zR (cs':=[.int .u8 (3:Int),.fn (.func 118) [] []]) rfl su109 ze109 pl109 (zf rfl (zf rfl zg)) (.cons (zb rfl) (.cons (zb rfl) .nil)) rfl rfl) st7 ?_;refine zc rfl (zR (cs':=[.int .u8 (3:Int),.fn (.func 119) [] []]) rfl su109 ze109 pl109 (zf rfl (zf rfl zg)) (.cons (zb rfl) (.cons (zb rfl) .nil)) rfl rfl) st8 ?_;refine zc rfl (zR (cs':=[.int .u8 (4:Int),.fn (.func 118) [] []]) rfl su109 ze109 pl109 (zf rfl (zf rfl zg)) (.cons (zb rfl) (.cons (zb rfl) .nil)) rfl rfl) st9 ?_;refine zc rfl (s_buildArr (cs':=[.int .u8 (0:Int),.nilf,.int .u8 (1:Int),.fn (.func 117) [] [],.int .u8 (2:Int),.fn (.func 118) [] [],.int .u8 (3:Int),.fn (.func 118) [] [],.int .u8 (3:Int),.fn (.func 119) [] [],.int .u8 (4:Int),.fn (.func 118) [] []]) rfl ty157.u ze157 ty109.choose_spec.1 (zf gt5 (zf gt6 (zf gt7 (zf gt8 (zf gt9 zg))))) (.cons (zb rfl) (.cons (zb rfl) (.cons (zb rfl) (.cons (zb rfl) (.cons (zb rfl) .nil))))) rfl rfl) st10 (R.r ?_);refine zd vr hF (fun hc1 hF=>?_) (fun hc1 hF=>?_)
 ·refine R.r ?_;refine zc rfl (zR (cs':=[.int .u8 (0:Int),.nilf]) rfl su109 ze109 pl109 zg .nil rfl rfl) st17 (R.r ?_);cases hF;exact fz rfl rfl
 ·refine R.r ?_;refine ze hF (fun y2 hy2 hF=>?_);refine zc rfl (s_idxArr rfl ty157 ty109.choose_spec.1 gt4 gt18 rfl hy2) st19 ?_;refine zc rfl (x4 rfl ty109.choose_spec.1 wW rfl ((congrArg (fun b=>ldC b _ _ _) ty109.choose_spec.2).trans (ldC_arr (row:=GOpKind.row) (L:=([(GOpKind.mk (0:Int) 0),(GOpKind.mk (1:Int) 1),(GOpKind.mk (2:Int) 2),(GOpKind.mk (3:Int) 2),(GOpKind.mk (3:Int) 3),(GOpKind.mk (4:Int) 2)]:List GOpKind)) (fun _=>rfl) hy2 rfl)) (zb rfl)) st20 (R.r ?_);cases hF;refine fr rfl (wr (leV.refl _) (by simp [AV.low,zu,fvlOp]) ?_);exact ⟨rfl,rfl⟩
theorem fnOpok {c:Nat} {x0:GOp} {v:Bool} (h:callOp c x0=some v):fvOp c=.fn (.func (fnOp c)) [] []:=by
  unfold callOp at h;split at h <;> first | rfl | cases h
theorem okfvOp {c:Nat} {x0:GOp} {res:Bool} {h:AH} (hF:callOp c x0=some res):Spec Tryz.prog (fnOp c) [.agg (GOp.row x0)] h (yb (.bool res) h):=by
 unfold callOp at hF;split at hF
 ·exact ok117 hF
 ·exact ok118 hF
 ·exact ok119 hF
 ·cases hF
theorem ok51 {o0:GOp} {res:Bool} {h:AH}  (hF:opMay o0=some res):Spec Tryz.prog 51 [.agg (GOp.row o0)] h (yb (.bool res) h):=by
 unfold opMay at hF;refine za Tryz.func51 rfl (by kernel_rfl) (yk 23 rfl) (R.r ?_);refine ze hF (fun v1 hv1 hF=>?_);refine cp (ok61 hv1) (R.r ?_);refine zM hF (fun v2 hv2 hF=>?_);refine zw rfl sc (fun hb=>ok84 (hv2 hb)) st15 (R.r ?_);refine qN rfl (fun hb=>x4 rfl ty100 (yh gt18 hb) rfl (zW rfl) (fvtOp _ _ _)) st19 (R.r ?_);refine zM hF (fun v3 hv3 hF=>?_);refine zw rfl (fun hb=>wp rfl rfl (evo_eq (yh wW hb) (fnOpok (hv3 hb))) (ya (yh gt20 hb) xn) (.cons (zb rfl) .nil)) (fun hb=>okfvOp (hv3 hb)) st21 (R.r ?_);cases hF;exact fz rfl rfl
theorem ok25 {e0:GEvent} {res:Bool} {h:AH}  (hF:vG e0=some res):Spec Tryz.prog 25 [.agg (GEvent.row e0)] h (yb (.bool res) h):=by
 unfold vG at hF;refine za Tryz.func25 rfl (by kernel_rfl) (yk 21 rfl) (R.r ?_);refine ze hF (fun v1 hv1 hF=>?_);refine cp (ok50 hv1) (R.r ?_);refine zM hF (fun v2 hv2 hF=>?_);refine zw rfl sc (fun hb=>ok51 (hv2 hb)) st19 (R.r ?_);cases hF;exact fz rfl rfl
theorem ok165 {s0:(List GDot)} {v1:GDot} {res:Int} {h:AH}  (hF:qg s0 v1=some res):Spec Tryz.prog 165 [.sl 3 (s0.map GDot.row),.agg (GDot.row v1)] h (yb (.int .i64 res) h):=by
 unfold qg at hF;refine za Tryz.func165 rfl (by kernel_rfl) (yk 19 rfl) (R.r ?_);refine ln fun hn1=>?_;replace hn1:=zY hn1;refine R.r ?_;refine zA (fun (n1:Nat) (s1:Unit)=>zG [1,2,4,5,6,9,10,11,12,13,14,15,16,17,18] [(8,.int .i64 (n1:Int))]) (fun s1=>h.ext [.cells (GDot.row v1)] []) hF (fun _ _=>by simp only [zG,wD,List.set_cons_succ,List.set_cons_zero];try rfl) (wk.le LEL.o) ?_;intro n1 s1 hi1 hF;refine R.r ?_;refine zJ gt9 hF (fun x1 o1 hl1 hx1 hF hK1=>?_) (fun hF=>?_)
 ·refine R.r ?_;refine zt [] [] trivial mixed (by kernel_rfl) (R.r ?_);refine dix (zz hx1) (R.r ?_);refine zx rfl rfl (vT rfl vh gt15 (bin_eq pk30 rfl)) st16 (R.r ?_);refine zd vr hF (fun hc9 hF=>?_) (fun hc9 hF=>?_)
  ·refine R.r ?_;cases hF;replace hF:=hK1;refine R.r ?_;cases hF;exact fz rfl rfl
  ·refine R.r ?_;cases hF;exact ⟨(),hl1,hK1,wk.le (by exact (.eq (.drop (.drop (.eq (.drop (.drop (.drop (.eq (.cons (leV.of_eq (y4 (by omega) (by omega))) (.d4 (.d4 (.drop (.drop leL.nil))))))))))))))⟩
 ·refine R.r ?_;cases hF;exact fz rfl rfl
theorem ok137 {s0:(List GDot)} {v1:GDot} {res:Bool} {h:AH}  (hF:xh s0 v1=some res):Spec Tryz.prog 137 [.sl 3 (s0.map GDot.row),.agg (GDot.row v1)] h (yb (.bool res) h):=by
 unfold xh at hF;refine za Tryz.func137 rfl (by kernel_rfl) (yk 9 rfl) (R.r ?_);refine ze hF (fun v1 hv1 hF=>?_);refine cp (ok165 hv1) (R.r ?_);cases hF;exact fz rfl rfl
def ins168TryzRen:Go.Shelf.Ren :=
  { f:=fun x=>match x with
      | 22=>168
      | 29=>184
      | 30=>185
      | n=>n
    t:=fun x=>match x with
      | 0=>0
      | 3=>3
      | 4=>4
      | 9=>98
      | 24=>56
      | n=>n
    g:=fun n=>n }
theorem ins168TryzLays:InsLays Tryz.prog ins168TryzRen 56 5 where
  mixed:=by kernel_rfl
  f22:=⟨Tryz.f168.name,Tryz.f168.targs,Tryz.func168.trans (by kernel_rfl),by kernel_rfl⟩
  f29:=fun args w=>run_callFunc_extern Tryz.func184 (by kernel_rfl) (by kernel_rfl) (by kernel_rfl) (e:=Extern.SlicesOverlaps.overlaps #[56,56] #[4]) (by kernel_rfl) args w
  t0:=Tryz.underlying0
  a0:=Tryz.isAgg0
  z0:=Tryz.sizeOf0
  v0:=Tryz.zeroValue0
  t3:=Tryz.underlying3
  a3:=Tryz.isAgg3
  z3:=Tryz.sizeOf3
  v3:=Tryz.zeroValue3
  t4:=Tryz.underlying4
  a4:=Tryz.isAgg4
  z4:=Tryz.sizeOf4
  v4:=Tryz.zeroValue4
  t24:=Tryz.underlying56
  a24:=Tryz.isAgg56
  z24:=Tryz.sizeOf56
  v24:=Tryz.zeroValue56
  t23:=Tryz.underlying56
  a23:=Tryz.isAgg56
  z23:=Tryz.sizeOf56
  v23:=Tryz.zeroValue56
  i9:=⟨_,_,rfl,rfl,rfl,rfl,by decide⟩
  k0:=by decide
theorem ok167 {a0:GItem} {b1:GItem} {res:Int} {h:AH}  (hF:yw a0 b1=some res):Spec Tryz.prog 167 [.agg (GItem.row a0),.agg (GItem.row b1)] h (yb (.int .i64 res) h):=by
 unfold yw at hF;refine za Tryz.func167 rfl (by kernel_rfl) (yk 14 rfl) (R.r ?_);refine ze hF (fun v1 hv1 hF=>?_);refine cp (ok164 hv1) (R.r ?_);cases hF;exact fz rfl rfl
theorem ok166 {x0:(List GItem)} {target1:GItem} {cmp2:(GItem→GItem→Option Int)} {fcmp2:FuncId} {acmp2 kcmp2:List AV} {res:(Int×Bool)} {h:AH} (hcmp2:∀ x0 x1 v (L:List Blk) (M:List Nat),cmp2 x0 x1=some v→Spec Tryz.prog fcmp2 (acmp2++[.agg (GItem.row x0),.agg (GItem.row x1)]++kcmp2) (h.ext L M) (yb (.int .i64 v) (h.ext L M))) (hF:zL x0 target1 cmp2=some res):Spec Tryz.prog 166 [.sl 5 (x0.map GItem.row),.agg (GItem.row target1),.fn (.func fcmp2) acmp2 kcmp2] h (yb (.tup [.int .i64 res.1,.bool res.2]) h):=by
 unfold zL at hF;refine zF Tryz.func166 rfl (by kernel_rfl) (yk 49 rfl) (fun hlow hC=>?_);simp only [zu,AV.low,Bool.and_eq_true,Bool.true_and,and_true] at hlow;have hlacmp2:∀ n m,h.blks.length≤n→h.toks.length≤m→zu n m acmp2=true:=fun n m h1 h2=>zS h1 h2 _ (by simp [hlow]);have hlkcmp2:∀ n m,h.blks.length≤n→h.toks.length≤m→zu n m kcmp2=true:=fun n m h1 h2=>zS h1 h2 _ (by simp [hlow]);refine R.r ?_;refine ln fun hn1=>?_;replace hn1:=zY hn1;refine R.r ?_;refine xD (fun (s1:Int×Int)=>zG [1,3,5,6,7,11,12,13,14,15,16,17,18,19,20,21,22,23,24,25,26,27,28,29,30,31,32,33,34,35,36,37,38,39,40,41,42,43,44,45,46,47,48] [(9,.int .i64 s1.1),(10,.int .i64 s1.2)]) (fun s1=>h.ext [.cells (GItem.row target1)] []) hF (fun _=>by simp only [zG,wD,List.set_cons_succ,List.set_cons_zero];try rfl) (wk.le LEL.o) ?_;intro n1 s1 o1 hF hK1;refine R.r ?_;refine zd gt17 hF (fun hc13 hF=>?_) (fun hc13 hF=>?_)
 ·refine R.r ?_;refine zc rfl (s_convert rfl ty3 ty165 gt20 rfl) st21 (R.r ?_);refine zc rfl (s_convert rfl ty165 ty3 gt22 rfl) st23 (R.r ?_);refine zt [] [] trivial mixed (by kernel_rfl) (R.r ?_);refine ze hF (fun y14 hy14 hF=>?_);refine dix hy14 (R.r ?_);refine ze hF (fun v15 hv15 hF=>?_);refine wg rfl rfl (scC rfl) (hcmp2 _ _ _ _ _ hv15) st30 (R.r ?_);refine zd gt31 hF (fun hc16 hF=>?_) (fun hc16 hF=>?_)
  ·refine R.r ?_;cases hF;exact ⟨((IntKind.wrap .i64 ((IntKind.wrap .i64 ((Int.fdiv (IntKind.wrap .u64 ((IntKind.wrap .i64 (s1.1+s1.2)))) (2 ^ (min (1:Int).toNat (IntKind.bits .u64))))))+(1:Int))),s1.2),hK1,wk.le LEL.o⟩
  ·refine R.r ?_;cases hF;exact ⟨(s1.1,(IntKind.wrap .i64 ((Int.fdiv (IntKind.wrap .u64 ((IntKind.wrap .i64 (s1.1+s1.2)))) (2 ^ (min (1:Int).toNat (IntKind.bits .u64))))))),hK1,wk.le LEL.o⟩
 ·refine R.r ?_;cases hF;replace hF:=hK1;refine R.r ?_;refine zt [] [] trivial mixed (by kernel_rfl) (R.r ?_);refine yd hF (fun hg19 hF=>?_);refine dgix hg19 (R.r ?_);refine zM hF (fun v20 hv20 hF=>?_);refine yI rfl rfl scC (fun hb=>hcmp2 _ _ _ _ _ (hv20 hb)) (sk st6) (R.r ?_);cases hF;exact fz rfl rfl
def sort139TryzRen:Go.Shelf.Ren :=
  { f:=fun x=>match x with
      | 6=>139
      | 15=>134
      | 14=>169
      | 28=>162
      | 29=>163
      | 20=>186
      | 21=>187
      | 22=>188
      | 23=>189
      | 24=>190
      | 25=>191
      | 26=>192
      | 27=>193
      | 46=>200
      | 47=>180
      | 48=>181
      | 49=>201
      | 50=>202
      | 57=>205
      | n=>n
    t:=fun x=>match x with
      | 22=>32
      | 24=>30
      | 25=>171
      | 3=>3
      | 39=>165
      | 0=>0
      | 53=>25
      | 55=>28
      | 4=>4
      | 46=>184
      | 45=>183
      | 50=>132
      | 5=>5
      | 9=>9
      | 66=>203
      | 70=>207
      | 76=>218
      | 77=>219
      | n=>n
    g:=fun n=>n }
theorem sort139TryzLays:Go.Proofs.SlLaysF0.n6 Tryz.prog sort139TryzRen where
  mixed:=mixed
  f6:=⟨Tryz.f139.name,by kernel_rfl,Tryz.func139.trans (by kernel_rfl)⟩
  f15:=Tryz.func134.trans (by kernel_rfl)
  f14:=⟨Tryz.f169.name,by kernel_rfl,Tryz.func169.trans (by kernel_rfl)⟩
  f28:=Tryz.func162.trans (by kernel_rfl)
  f29:=Tryz.func163.trans (by kernel_rfl)
  f20:=⟨Tryz.f186.name,by kernel_rfl,Tryz.func186.trans (by kernel_rfl)⟩
  f21:=⟨Tryz.f187.name,by kernel_rfl,Tryz.func187.trans (by kernel_rfl)⟩
  f22:=⟨Tryz.f188.name,by kernel_rfl,Tryz.func188.trans (by kernel_rfl)⟩
  f23:=⟨Tryz.f189.name,by kernel_rfl,Tryz.func189.trans (by kernel_rfl)⟩
  f24:=⟨Tryz.f190.name,by kernel_rfl,Tryz.func190.trans (by kernel_rfl)⟩
  f25:=⟨Tryz.f191.name,by kernel_rfl,Tryz.func191.trans (by kernel_rfl)⟩
  f26:=⟨Tryz.f192.name,by kernel_rfl,Tryz.func192.trans (by kernel_rfl)⟩
  f27:=⟨Tryz.f193.name,by kernel_rfl,Tryz.func193.trans (by kernel_rfl)⟩
  f46:=⟨Tryz.f200.name,by kernel_rfl,Tryz.func200.trans (by kernel_rfl)⟩
  f47:=Tryz.func180.trans (by kernel_rfl)
  f48:=Tryz.func181.trans (by kernel_rfl)
  f49:=⟨Tryz.f201.name,by kernel_rfl,Tryz.func201.trans (by kernel_rfl)⟩
  f50:=⟨Tryz.f202.name,by kernel_rfl,Tryz.func202.trans (by kernel_rfl)⟩
  f57:=⟨Tryz.f205.name,by kernel_rfl,Tryz.func205.trans (by kernel_rfl)⟩
  t0:=Tryz.underlying0
  a0:=Tryz.isAgg0
  z0:=Tryz.sizeOf0
  v0:=Tryz.zeroValue0
  t3:=Tryz.underlying3
  a3:=Tryz.isAgg3
  z3:=Tryz.sizeOf3
  v3:=Tryz.zeroValue3
  t4:=Tryz.underlying4
  a4:=Tryz.isAgg4
  z4:=Tryz.sizeOf4
  v4:=Tryz.zeroValue4
  t5:=Tryz.underlying5
  a5:=Tryz.isAgg5
  z5:=Tryz.sizeOf5
  v5:=Tryz.zeroValue5
  t9:=Tryz.underlying9
  a9:=Tryz.isAgg9
  z9:=Tryz.sizeOf9
  v9:=Tryz.zeroValue9
  t22:=Tryz.underlying32
  a22:=Tryz.isAgg32
  z22:=Tryz.sizeOf32
  v22:=Tryz.zeroValue32
  t25:=Tryz.underlying171
  a25:=Tryz.isAgg171
  z25:=Tryz.sizeOf171
  v25:=Tryz.zeroValue171
  t39:=Tryz.underlying165
  a39:=Tryz.isAgg165
  z39:=Tryz.sizeOf165
  v39:=Tryz.zeroValue165
  t45:=Tryz.underlying183
  a45:=Tryz.isAgg183
  z45:=Tryz.sizeOf183
  v45:=Tryz.zeroValue183
  t46:=Tryz.underlying184
  a46:=Tryz.isAgg184
  z46:=Tryz.sizeOf184
  v46:=Tryz.zeroValue184
  t50:=Tryz.underlying132
  a50:=Tryz.isAgg132
  z50:=Tryz.sizeOf132
  v50:=Tryz.zeroValue132
  t53:=Tryz.underlying25
  a53:=Tryz.isAgg25
  z53:=Tryz.sizeOf25
  v53:=Tryz.zeroValue25
  t55:=Tryz.underlying28
  a55:=Tryz.isAgg28
  z55:=Tryz.sizeOf28
  v55:=Tryz.zeroValue28
  t66:=Tryz.underlying203
  a66:=Tryz.isAgg203
  z66:=Tryz.sizeOf203
  v66:=Tryz.zeroValue203
  t70:=Tryz.underlying207
  a70:=Tryz.isAgg207
  z70:=Tryz.sizeOf207
  v70:=Tryz.zeroValue207
  t76:=Tryz.underlying218
  a76:=Tryz.isAgg218
  z76:=Tryz.sizeOf218
  v76:=Tryz.zeroValue218
  t77:=Tryz.underlying219
  a77:=Tryz.isAgg219
  z77:=Tryz.sizeOf219
  v77:=Tryz.zeroValue219
theorem okR141 {bl tl:Nat} {s0:(List GDot)} {res:(List GDot)} {h:AH} (hbl:h.blks.length=bl) (htl:h.toks.length=tl) (hF:xP s0=some res):Spec Tryz.prog 141 [.rsl bl tl 3 s0.length] (h.ext [.row tl 3 (s0.map GDot.row)] [s0.length]) (TurnK h bl tl 3 res.length (res.map GDot.row)):=by
 unfold xP at hF;subst hbl htl;refine yl Tryz.func141 rfl (by kernel_rfl) (yk 61 rfl) (R.r ?_);refine ln fun hn1=>?_;replace hn1:=zY hn1;refine R.r ?_;refine zd gt8 hF (fun hc2 hF=>?_) (fun hc2 hF=>?_)
 ·refine R.r ?_;cases hF;refine fr rfl (fin_turn0 (row:=GDot.row) ?_);exact ⟨rfl,_,rfl⟩
 ·refine R.r ?_;refine xD (fun (s1:Int)=>zG [1,2,4,5,6,7,8,9,10,11,12,13,14,15,16,17,18,19,20,21,22,23,24,25,26,27,28,29,30,31,32,33,34,35,36,37,38,39,40,41,42,43,44,45,46,47,48,49,50,51,52,53,54,55,56,57,58,59,60] [(3,.int .i64 s1)]) (fun s1=>h.ext [.row (h.toks.length+0) 3 (s0.map GDot.row)] [s0.length]) hF (fun _=>by simp only [zG,wD,List.set_cons_succ,List.set_cons_zero];try rfl) (wk.le LEL.o) ?_;intro n1 s1 o1 hF hK1;refine R.r ?_;refine ln fun hn33=>?_;replace hn33:=zY hn33;refine R.r ?_;refine zd vt hF (fun hc34 hF=>?_) (fun hc34 hF=>?_)
  ·refine R.r ?_;refine zt [] [] trivial mixed (by kernel_rfl) (R.r ?_);refine ze hF (fun y35 hy35 hF=>?_);refine zx rfl rfl (x5 rfl el32 vr gt17 (vq hy35 rfl)) st18 ?_;refine zx rfl rfl (e_ldR (off:=0) (i:=0) (q:=h.toks.length+0) (z:=s1.toNat) (row:=GDot.row) (fun _=>rfl) rfl ty30.choose_spec.1 (by decide) gt18 rfl rfl (idxR hy35).2.2 (xq (cs':=(GDot.row y35)) ty30.choose_spec.2 rfl rfl) (zb rfl)) st19 (R.r ?_);refine ze hF (fun y36 hy36 hF=>?_);refine zx rfl rfl (x5 rfl el32 gt20 gt22 (vq hy36 rfl)) st23 ?_;refine zx rfl rfl (e_ldR (off:=0) (i:=0) (q:=h.toks.length+0) (z:=(IntKind.wrap .i64 (s1 - (1:Int))).toNat) (row:=GDot.row) (fun _=>rfl) rfl ty30.choose_spec.1 (by decide) gt23 rfl rfl (idxR hy36).2.2 (xq (cs':=(GDot.row y36)) ty30.choose_spec.2 rfl rfl) (zb rfl)) st24 ?_;refine zx rfl rfl (vT rfl wW gt24 (bin_eq pk30 rfl)) st25 (R.r ?_);refine zd gt25 hF (fun hc37 hF=>?_) (fun hc37 hF=>?_)
   ·refine R.r ?_;refine yd hF (fun hm38 hF=>?_);refine qp rfl (e_sufR rfl el32 gt26 gt27 hm38) st28 (R.r ?_);refine xD (fun (s2:Int×Int×(List GDot))=>zG [1,2,6,7,8,9,10,11,12,13,14,15,16,17,18,19,20,21,22,23,24,25,26,27,28,29,30,31,32,33,34,35,36,37,38,39,40,41,42,43,44,45,46,47,48,49,50,51,52,53,54,55,56,57,58,59,60] [(3,.int .i64 s2.1),(5,.int .i64 s2.2.1)]) (fun s2=>h.ext [.row (h.toks.length+0) 3 (s2.2.2.map GDot.row)] [s0.length]) hF (fun _=>by simp only [zG,wD,List.set_cons_succ,List.set_cons_zero];try rfl) (wk.le LEL.o) ?_;intro n2 s2 o2 hF hK2;refine yd hF (fun hr2 hF=>?_);refine R.r ?_;refine ln fun hn49=>?_;refine R.r ?_;refine zd gt32 hF (fun hc50 hF=>?_) (fun hc50 hF=>?_)
    ·refine R.r ?_;refine zt [] [] trivial mixed (by kernel_rfl) (R.r ?_);refine ze hF (fun y51 hy51 hF=>?_);replace hy51:=idxS hy51;refine zx rfl rfl (e_idxS rfl el32 gt35 gt36 ⟨hy51.1,by have:=hy51.2.1;have:=hr2;omega⟩) st37 ?_;refine zx rfl rfl (e_ldR (off:=0) (i:=0) (q:=h.toks.length+0) (z:=(s1.toNat+s2.2.1.toNat)) (row:=GDot.row) (fun _=>rfl) rfl ty30.choose_spec.1 (by decide) gt37 rfl hr2 hy51.2.2 (xq (cs':=(GDot.row y51)) ty30.choose_spec.2 rfl rfl) (zb rfl)) st38 (R.r ?_);refine ze hF (fun y52 hy52 hF=>?_);replace hy52:=idxS hy52;refine zx rfl rfl (e_idxS rfl el32 gt39 (gk gt1) ⟨hy52.1,by have:=hy52.2.1;have:=hr2;omega⟩) (sk st2) ?_;refine zx rfl rfl (e_ldR (off:=0) (i:=0) (q:=h.toks.length+0) (z:=(s1.toNat+(IntKind.wrap .i64 (s2.2.1 - (1:Int))).toNat)) (row:=GDot.row) (fun _=>rfl) rfl ty30.choose_spec.1 (by decide) (gk gt2) rfl hr2 hy52.2.2 (xq (cs':=(GDot.row y52)) ty30.choose_spec.2 rfl rfl) (zb rfl)) (sk st3) ?_;refine zx rfl rfl (vT rfl gt38 (gk gt3) (bin_ne pk30 rfl)) (sk st4) (R.r ?_);refine zd (gk gt4) hF (fun hc53 hF=>?_) (fun hc53 hF=>?_)
     ·refine R.r ?_;refine ze hF (fun y54 hy54 hF=>?_);replace hy54:=idxS hy54;refine zc rfl (e_idxS rfl el32 (gk gt7) (gk gt8) ⟨hy54.1,by have:=hy54.2.1;have:=hr2;omega⟩) (sk st9) ?_;refine zc rfl (e_ldR (off:=0) (i:=0) (q:=h.toks.length+0) (z:=(s1.toNat+s2.2.1.toNat)) (row:=GDot.row) (fun _=>rfl) rfl ty30.choose_spec.1 (by decide) (gk gt9) rfl hr2 hy54.2.2 (xq (cs':=(GDot.row y54)) ty30.choose_spec.2 rfl rfl) (zb rfl)) (sk st10) ?_;refine ze hF (fun y55 hy55 hF=>?_);refine zc rfl (x5 rfl el32 (gk gt5) (gk gt6) (vq hy55 hr2)) (sk st11) ?_;refine zc rfl (e_stR (off:=0) (i:=0) (q:=h.toks.length+0) (z:=s2.1.toNat) (row:=GDot.row) (y':=y54) (us:=(GDot.row y54)) (B':=[.row (h.toks.length+0) 3 ((s2.2.2.set s2.1.toNat y54).map GDot.row)]) (fun _=>rfl) rfl ty30.choose_spec.1 (gk vh) (gk vi) (zb rfl) rfl rfl rfl rfl hr2 (idxR hy55).2.2 (by decide) rfl rfl) rfl (R.r ?_);cases hF;exact ⟨((IntKind.wrap .i64 (s2.1+(1:Int))),(IntKind.wrap .i64 (s2.2.1+(1:Int))),(s2.2.2.set s2.1.toNat y54)),hK2,wk.le LEL.o⟩
     ·refine R.r ?_;cases hF;exact ⟨(s2.1,(IntKind.wrap .i64 (s2.2.1+(1:Int))),s2.2.2),hK2,wk.le LEL.o⟩
    ·refine R.r ?_;cases hF;replace hF:=hK2;refine R.r ?_;refine yd hF (fun hm58 hF=>?_);refine qp rfl (e_sufR rfl el32 (gk gt14) (gk gt15) hm58) (sk st16) ?_;refine qp rfl (e_clrR (i:=0) (q:=h.toks.length+0) (L:=s2.2.2) (row:=GDot.row) (d:=(GDot.mk (GActor.mk (0:Int) (0:Int)) (0:Int))) (B':=[.row (h.toks.length+0) 3 ((s2.2.2.take s2.1.toNat++List.replicate (s0.length - s2.1.toNat) (GDot.mk (GActor.mk (0:Int) (0:Int)) (0:Int))).map GDot.row)]) (fun _=>rfl) rfl rfl rfl rfl el32 ze30 rfl (gk vr) rfl hr2 (Int.toNat_le.2 hm58.2) rfl) rfl (R.r ?_);refine ze hF (fun m59 hm59 hF=>?_);refine qp rfl (e_cutR (i:=0) (j:=0) (L:=(s2.2.2.take s2.1.toNat++List.replicate (s0.length - s2.1.toNat) (GDot.mk (GActor.mk (0:Int) (0:Int)) (0:Int)))) (row:=GDot.row) (B':=[.dead,.row (h.toks.length+1) 3 (m59.map GDot.row)]) (T':=[s0.length+1,(m59).length]) rfl el32 (gk gt17) (gk gt18) rfl (clr_len hr2 (Int.toNat_le.2 hm58.2)) hm59 rfl rfl rfl rfl) (sk st19) (R.r ?_);cases hF;replace hF:=hK1;refine R.r ?_;cases hF;refine fr rfl (fin_at ?_);exact ⟨rfl,_,rfl⟩
   ·refine R.r ?_;cases hF;exact ⟨(IntKind.wrap .i64 (s1+(1:Int))),hK1,wk.le LEL.o⟩
  ·refine R.r ?_;cases hF;replace hF:=hK1;refine R.r ?_;cases hF;refine fr rfl (fin_turn0 (row:=GDot.row) ?_);exact ⟨rfl,_,rfl⟩
end Go.Vv
