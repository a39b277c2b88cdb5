/- Each function that the law reaches computes what its reading says; printed by a program. -/
import Derived.Test.YtfdacjmlbokckaaGreatDoorW2
namespace Go.Vv
open Go Go.Proofs
set_option maxRecDepth 100000
set_option maxHeartbeats 1000000
set_option linter.unusedSimpArgs false
set_option linter.unusedVariables false
theorem ok23 {seq0:(S:Type)→(S→GRow→Option (Bool×S))→S→Option S} {fseq0:FuncId} {aseq0 kseq0:List AV} {res:(List GRow)} {h:AH} (hseq0:∀ (S:Type) (Hy:S→AH) (nb nt:Nat),(∀ s,(Hy s).blks.length=nb)→(∀ s,(Hy s).toks.length=nt)→(∀ s,(Hy s).closed nb nt)→(∀ s,∃ L M,Hy s=h.ext L M)→∀ (y:S→GRow→Option (Bool×S)) (idy:Nat),idy < nb→(∀ s x b s' L M,y s x=some (b,s')→SpecY Tryz.prog idy [.agg [.sl 1 (x.path.map zP),.int .u8 x.leaf.typ,.int .i64 x.leaf.n,.int .u64 x.leaf.time,.int .u8 x.leaf.dot.actor.rep,.int .u32 x.leaf.dot.actor.inc,.int .u64 x.leaf.dot.seq,.str x.leaf.text,.sl 5 (x.leaf.items.map GItem.row),.sl 3 (x.leaf.tombs.map GDot.row)]] ((Hy s).ext L M) (fun rr hh=>rr=.bool b∧hh=(Hy s').ext L M))→∀ s s',seq0 S y s=some s'→Spec Tryz.prog fseq0 (aseq0++[.yld idy]++kseq0) (Hy s) (fun rr hh=>rr=.tup []∧hh=Hy s')) (hF:vd seq0=some res):Spec Tryz.prog 23 [.fn (.func fseq0) aseq0 kseq0] h (fun rr hh=>rr=.sl 10 (res.map GRow.row)∧hh=h):=by
 unfold vd at hF
 refine yv Tryz.func23 rfl (by kernel_rfl) (env:=[.fn (.func fseq0) aseq0 kseq0,za,za,za,za]) (by rfl) (fun hlow hC=>?_)
 simp only [yf,AV.low,Bool.and_eq_true,Bool.true_and,and_true] at hlow
 have hlaseq0:∀ n m,h.blks.length≤n→h.toks.length≤m→yf n m aseq0=true:=fun n m h1 h2=>yJ h1 h2 _ (by simp [hlow])
 have hlkseq0:∀ n m,h.blks.length≤n→h.toks.length≤m→yf n m kseq0=true:=fun n m h1 h2=>yJ h1 h2 _ (by simp [hlow])
 refine zk (zd ?_)
 refine zc rfl (zi rfl rfl (xZ el31)) yM ?_
 refine ze (zj (zk (zd ?_)))
 refine zc rfl (zg rfl yB (zb rfl)) wD ?_
 refine zU hF (fun v1 hv1 hF=>?_)
 refine zN rfl (zC rfl rfl rfl (zo rfl (zo xj zw)) (.cons (xZ el31) (.cons (zb rfl) .nil))) (ok39 (fun S Hy nb nt hN hNt hC hE y idy hly hy s s' hF=>hseq0 S Hy nb nt hN hNt hC (fun s=>by obtain ⟨L,M,e⟩:=hE s;exact ⟨_,_,by rw [e,wI]⟩) y idy hly hy s s' hF) hv1) yF ?_
 refine zc rfl (zi rfl yH (zb rfl)) yM ?_
 refine ze (zj (zJ ?_))
 obtain rfl:=Option.some.inj hF
 refine zz rfl (zF yV zD) (zA (leV.refl _) rfl ?_)
 exact ⟨rfl,rfl⟩
theorem ok9 {t0:(List GNode)} {res:(List GRow)} {h:AH}  (hF:pathsRows t0=some res):Spec Tryz.prog 9 [.sl 3 (t0.map GNode.row)] h (fun rr hh=>rr=.sl 10 (res.map GRow.row)∧hh=h):=by
 unfold pathsRows at hF
 refine zr Tryz.func9 rfl (by kernel_rfl) (env:=[.sl 3 (t0.map GNode.row),za,za,za,za,za,za,za,za]) (by rfl) ?_
 refine zk (zd ?_)
 refine zc rfl (zi rfl rfl (xZ el31)) yM ?_
 refine ze (zj (zk (zk (zd ?_))))
 refine zc rfl (zg rfl yB (zb rfl)) wD ?_
 refine zU hF (fun v1 hv1 hF=>?_)
 refine zN rfl (zC rfl rfl rfl (zo xj zw) (.cons (zb rfl) .nil)) (ok20 hv1) yF ?_
 refine zc rfl (wo rfl yH rfl) xG ?_
 refine ze (zj ?_)
 refine zR yY hF (fun hc2 hF=>?_) (fun hc2 hF=>?_)
 ·refine zk (zd ?_)
  refine zc rfl (zi rfl rfl (xZ el31)) yM ?_
  refine ze (zj (zJ (zB ?_)))
  obtain rfl:=Option.some.inj hF
  refine zz rfl (zF yV zD) (zA (leV.osl _ _ _) rfl ?_)
  exact ⟨rfl,rfl⟩
 ·refine zO (zj (zk (zd ?_)))
  refine zc rfl (zg rfl yB (zb rfl)) xY ?_
  refine zU hF (fun v3 hv3 hF=>?_)
  refine ops_callH rfl (zC rfl rfl rfl (zo yT (zo rfl zw)) (.cons (zb rfl) (.cons (xZ xl) .nil))) (clo_ext rfl (n:=0) (B':=[.cells [.sl 3 (v3.1.map GNode.row)],.cells [.sl 1 (v3.2.map zP)]]) (caps:=[.ptr (h.blks.length+0) 0,.ptr (h.blks.length+1) 0]) ((ok24 hv3).le (.eq (.cons (leV.osl _ _ _) leL.nil))) rfl rfl rfl) wm ?_
  refine zU hF (fun v4 hv4 hF=>?_)
  refine zN rfl (zC rfl rfl rfl (zo xN zw) (.cons (zb rfl) .nil)) (ok23 (fun S Hy nb nt hN hNt hC hE y idy hly hy s s' hF=>ok40 hN hNt hC hly hy (fun s=>by obtain ⟨L,M,e⟩:=hE s;rw [e];exact n_blk2 (j:=0) rfl rfl) (fun s=>by obtain ⟨L,M,e⟩:=hE s;rw [e];exact n_blk2 (j:=1) rfl rfl) hF) hv4) wl ?_
  refine zc rfl (zi rfl xu (zb rfl)) yM ?_
  refine ze (zj (zJ ?_))
  obtain rfl:=Option.some.inj hF
  refine zz rfl (zF yV zD) (zA (leV.refl _) rfl ?_)
  exact ⟨rfl,rfl⟩
mutual
theorem GNode.pl:∀ x:GNode,plL x.row=true
  | ⟨name,leaves,subs⟩=>by simp [GNode.row,plL,AV.pl,plE_map,zP,GActor.row,GDot.row,GItem.row,GLeaf.row,GExportKind.row,GRow.row,GNode.pls subs]
theorem GNode.pls:∀ l:List GNode,plE (GNode.rows l)=true
  | []=>rfl
  | x::r=>by simp [GNode.rows,plE,GNode.pl x,GNode.pls r]
end
theorem ok12 {t0:List GNode} {res:zM} {h:AH} (hF:exportText t0=some res):Spec Tryz.prog 12 [.sl 3 (t0.map GNode.row)] h (fun rr hh=>rr=.str res∧hh=h):=by
 unfold exportText at hF
 refine zU hF (fun v hv hF=>?_)
 exact spec_linesO (row:=GRow.row) (fun _=>by simp [GRow.row,AV.pure]) (fun _=>by simp [GRow.row,plL,AV.pl,plE_map,zP,GActor.row,GDot.row,GItem.row,GLeaf.row,GExportKind.row,GRow.row]) (fun _=>⟨_,_,_,_,_,_,_,_,_,_,rfl⟩) (plE_map GNode.pl _) (fun _=>ok9 hv) (fun _ _ h=>ok11 h) hF
theorem ok3 {t0:(List GNode)} {p1:(List zM)} {res:Bool} {h:AH}  (hF:xV t0 p1=some res):Spec Tryz.prog 3 [.sl 3 (t0.map GNode.row),.sl 1 (p1.map zP)] h (fun rr hh=>rr=.bool res∧hh=h):=by
 unfold xV at hF
 refine zr Tryz.func3 rfl (by kernel_rfl) (env:=[.sl 3 (t0.map GNode.row),.sl 1 (p1.map zP),za,za,za,za,za,za,za,za,za,za,za,za,za,za,za,za,za,za,za,za,za,za,za,za,za,za,za,za,za,za,za,za,za,za,za,za,za,za,za,za,za,za,za,za,za,za,za,za,za,za,za,za,za,za,za,za,za,za,za,za]) (by rfl) ?_
 refine zk (zd ?_)
 refine zc rfl (zi rfl rfl (zb rfl)) yF ?_
 refine ze (zj (zk (zk (zd ?_))))
 refine zc rfl (zg rfl yB (zb rfl)) yN ?_
 refine zU hF (fun v1 hv1 hF=>?_)
 refine zN rfl (zC rfl rfl rfl (zo yG zw) (.cons (zb rfl) .nil)) (ok4 hv1) yR ?_
 refine zc rfl (zg rfl yP (zb rfl)) yQ ?_
 refine zq rfl (fun hb=>zg rfl yB (zb rfl)) yU ?_
 refine yZ hF (fun v2 hv2 hF=>?_)
 refine yA rfl (fun hb=>zC rfl rfl rfl (zo (zn yL hb) zw) (.cons (zb rfl) .nil)) (fun hb=>ok5 (hv2 hb)) y3 ?_
 refine zq rfl (fun hb=>wo rfl (zn y4 hb) rfl) y2 ?_
 refine zc rfl (zL rfl yO rfl yW (yb (fun ht=>gF ht))) xf ?_
 refine zc rfl (zg rfl xd (zb rfl)) xA ?_
 refine zq rfl (fun hb=>zg rfl yw (zb rfl)) xR ?_
 refine wd rfl (fun hb=>zY rfl rfl rfl rfl xl (zn xL hb) yh) wa fun hn3=>?_
 refine zq rfl (fun hb=>zy rfl (zn wh hb) rfl rfl) wJ ?_
 refine zc rfl (zL rfl xC rfl wL (yb (fun ht=>gF ht))) wO ?_
 refine zc rfl (zg rfl wK (zb rfl)) vk ?_
 refine zq rfl (fun hb=>zg rfl yw (zb rfl)) wN ?_
 refine yZ hF (fun v4 hv4 hF=>?_)
 refine yA rfl (fun hb=>zC rfl rfl rfl (zo (zn wy hb) zw) (.cons (zb rfl) .nil)) (fun hb=>ok6 (hv4 hb)) vj ?_
 refine zq rfl (fun hb=>wo rfl (zn vl hb) rfl) vC ?_
 refine zc rfl (zL rfl vm rfl vw (yb (fun ht=>gF ht))) qx ?_
 refine ze (zj ?_)
 refine zR qI hF (fun hc5 hF=>?_) (fun hc5 hF=>?_)
 ·refine zk (zd ?_)
  refine zU hF (fun v6 hv6 hF=>?_)
  refine zN rfl (zC rfl rfl rfl zw .nil) (ok7 hv6) qw ?_
  refine zc rfl (zi rfl qj (zb rfl)) yF ?_
  refine ze (zj (zJ (zB ?_)))
  obtain rfl:=Option.some.inj hF
  refine zz rfl (zF yH zD) (zA (leV.refl _) rfl ?_)
  exact ⟨rfl,rfl⟩
 ·refine zO (zj (zk (zd ?_)))
  refine zc rfl (zg rfl yB (zb rfl)) qv ?_
  refine zc rfl (zg rfl yw (zb rfl)) q9 ?_
  refine zU hF (fun v7 hv7 hF=>?_)
  refine zN rfl (zC rfl rfl rfl (zo qi (zo gt30 zw)) (.cons (zb rfl) (.cons (zb rfl) .nil))) (ok8 hv7) q8 ?_
  refine zc rfl (zg rfl gt31 (zb rfl)) qU ?_
  refine zc rfl (wb rfl qH rfl (zb rfl)) st32 ?_
  refine zc rfl (wb rfl qH rfl (zb rfl)) st33 ?_
  refine zc rfl (zi rfl gt32 (zb rfl)) xG ?_
  refine zc rfl (zi rfl gt33 (zb rfl)) xY ?_
  refine ze (zj (zk (zd ?_)))
  refine zc rfl (zi rfl rfl (zb rfl)) wm ?_
  refine ze (zj (zk (zk (zd ?_))))
  refine zc rfl (zg rfl yB (zb rfl)) st34 ?_
  refine zU hF (fun v8 hv8 hF=>?_)
  refine zN rfl (zC rfl rfl rfl (zo gt34 zw) (.cons (zb rfl) .nil)) (ok9 hv8) st35 ?_
  refine yc rfl (zY rfl rfl rfl rfl el31 gt35 yh) qT fun hn9=>?_
  replace hn9:=xK hn9
  refine zc rfl (zg rfl rfl (zb rfl)) qS ?_
  refine ze (zj (zS ?_))
  refine yu (fun (n1:Nat) (s1:zM)=>yS [0,2,3,4,8,9,10,11,12,13,14,15,16,17,18,19,20,21,22,23,24,25,26,27,28,29,30,31,32,33,34,38,39,40,41,42,43,44,45,46,47,48,49,50,51,52,53,54,55,56,57,58,59,60,61] [(7,.str s1),(37,.int .i64 (n1:Int))]) (fun s1=>h.ext [] []) hF (fun _ _=>by simp only [yS,upd,List.set_cons_succ,List.set_cons_zero];try rfl) (wk.le (by exact (.drop (.eq (.drop (.drop (.drop (.eq (.eq (.cons (leV.of_eq rfl) (.d16 (.d4 (.d4 (.drop (.drop (.drop (.eq (.eq (.cons (leV.of_eq rfl) (.d16 (.d4 (.d4 leL.nil)))))))))))))))))))))) ?_
  intro n1 s1 hi1 hF
  refine zk (zd ?_)
  refine zc rfl (zy rfl qF qG rfl) st38 ?_
  refine ze (zj (zk ?_))
  refine yI gt38 hF (fun x1 o1 hl1 hx1 hF hK1=>?_) (fun hF=>?_)
  ·refine zO (zj (zk (zS (zk (zd ?_)))))
   refine zc rfl (yr rfl el31 gt35 qF qZ (xc hx1)) st39 ?_
   refine zc rfl (yl rfl ty44.choose_spec.1 gt39 (zI (cs':=[.sl 1 (x1.path.map zP),.int .u8 x1.leaf.typ,.int .i64 x1.leaf.n,.int .u64 x1.leaf.time,.int .u8 x1.leaf.dot.actor.rep,.int .u32 x1.leaf.dot.actor.inc,.int .u64 x1.leaf.dot.seq,.str x1.leaf.text,.sl 5 (x1.leaf.items.map GItem.row),.sl 3 (x1.leaf.tombs.map GDot.row)]) ty44.choose_spec.2 rfl rfl) (zb rfl)) (sk st0) ?_
   refine zc rfl (y9 (n:=0) rfl ze44 rfl) vi ?_
   refine zc rfl (yx (cs':=[.sl 1 (x1.path.map zP),.int .u8 x1.leaf.typ,.int .i64 x1.leaf.n,.int .u64 x1.leaf.time,.int .u8 x1.leaf.dot.actor.rep,.int .u32 x1.leaf.dot.actor.inc,.int .u64 x1.leaf.dot.seq,.str x1.leaf.text,.sl 5 (x1.leaf.items.map GItem.row),.sl 3 (x1.leaf.tombs.map GDot.row)]) rfl ty44.choose_spec.1 wE (gk yB) (zb rfl) rfl rfl rfl rfl rfl) rfl ?_
   refine ze (zj (zk (zd ?_)))
   refine zc rfl (zg rfl yw (zb rfl)) (sk st1) ?_
   refine zc rfl (zf rfl fo44x0 wE rfl) (sk yM) ?_
   refine zc rfl (zu rfl ty24 (gk yV) rfl (zt rfl) (zb rfl)) (sk wD) ?_
   refine zU hF (fun v19 hv19 hF=>?_)
   refine zN rfl (zC rfl rfl rfl (zo (gk yw) (zo (gk xj) zw)) (.cons (zb rfl) (.cons (zb rfl) .nil))) (ok10 hv19) (sk yF) ?_
   refine ze (zj ?_)
   refine zR (gk yH) hF (fun hc20 hF=>?_) (fun hc20 hF=>?_)
   ·refine zd ?_
    refine zc rfl (zg rfl xN (zb rfl)) (sk xG) ?_
    refine zc rfl (zu rfl ty44.choose_spec.1 wE rfl (zI (cs':=[.sl 1 (x1.path.map zP),.int .u8 x1.leaf.typ,.int .i64 x1.leaf.n,.int .u64 x1.leaf.time,.int .u8 x1.leaf.dot.actor.rep,.int .u32 x1.leaf.dot.actor.inc,.int .u64 x1.leaf.dot.seq,.str x1.leaf.text,.sl 5 (x1.leaf.items.map GItem.row),.sl 3 (x1.leaf.tombs.map GDot.row)]) ty44.choose_spec.2 rfl rfl) (zb rfl)) (sk xY) ?_
    refine zU hF (fun v21 hv21 hF=>?_)
    refine zN rfl (zC rfl rfl rfl (zo (gk yT) zw) (.cons (zb rfl) .nil)) (ok11 hv21) (sk wm) ?_
    refine wt hF (fun hm22 hF=>?_)
    refine zc rfl (zy rfl (gk xN) rfl (if_pos hm22)) (sk wl) ?_
    refine wt hF (fun hm23 hF=>?_)
    refine zc rfl (zy rfl (gk yY) (gk xu) (if_pos hm23)) (sk vi) ?_
    refine zc rfl (zi rfl (gk wE) (zb rfl)) wm ?_
    refine ze (yi (zj (zd ?_)))
    refine zc rfl (zy rfl qF rfl rfl) (sk yN) ?_
    refine zc rfl (zg rfl (gk yG) (zb rfl)) qS ?_
    refine ze (yK ?_)
    obtain rfl:=Option.some.inj hF
    exact ⟨(s1++(v21++([10]:zM))),hl1,hK1,wk.trans (wk.le (by exact (.drop (.eq (.drop (.drop (.drop (.eq (.eq (.cons (leV.of_eq rfl) (.d16 (.d4 (.d4 (.drop (.drop (.drop (.eq (.eq (.cons (leV.of_eq (vN (by omega) (by omega))) (.d16 (.d4 (.d4 leL.nil)))))))))))))))))))))) (xP (by simp [yf,AV.low]) rfl rfl (by simp [Blk.low,yf,AV.low]))⟩
   ·refine zO (yi (zj (zd ?_)))
    refine zc rfl (zy rfl qF rfl rfl) (sk yN) ?_
    refine zc rfl (zg rfl (gk yG) (zb rfl)) qS ?_
    refine ze (yK ?_)
    obtain rfl:=Option.some.inj hF
    exact ⟨s1,hl1,hK1,wk.trans (wk.le (by exact (.drop (.eq (.drop (.drop (.drop (.eq (.eq (.cons (leV.of_eq rfl) (.d16 (.d4 (.d4 (.drop (.drop (.drop (.eq (.eq (.cons (leV.of_eq (vN (by omega) (by omega))) (.d16 (.d4 (.d4 leL.nil)))))))))))))))))))))) (xP (by simp [yf,AV.low]) rfl rfl (by simp [Blk.low,yf,AV.low]))⟩
  ·refine yX ?_
   refine z7 ?_
   refine zW ?_
   refine zX ?_
   refine zj (zk (zd ?_))
   refine zc rfl (zg rfl yT (zb rfl)) (sk yR) ?_
   refine zc rfl (zy rfl (gk yP) rfl rfl) (sk yQ) ?_
   refine zc rfl (zg rfl (gk yO) (zb rfl)) (sk yU) ?_
   refine zq rfl (fun hb=>zg rfl yY (zb rfl)) (sk y3) ?_
   refine yZ hF (fun v24 hv24 hF=>?_)
   refine yA rfl (fun hb=>zC rfl rfl rfl (zo (zn (gk y4) hb) zw) (.cons (zb rfl) .nil)) (fun hb=>ok12 (hv24 hb)) (sk y2) ?_
   refine zq rfl (fun hb=>zg rfl xN (zb rfl)) (sk xf) ?_
   refine zq rfl (fun hb=>zy rfl (zn (gk yW) hb) (zn (gk xd) hb) rfl) (sk xA) ?_
   refine zc rfl (zL rfl (gk yL) (gk xC) rfl (zT (fun ht=>gT ht))) (sk xR) ?_
   refine zc rfl (zg rfl (gk xL) (zb rfl)) (sk wa) ?_
   refine yZ hF (fun v25 hv25 hF=>?_)
   refine yA rfl (fun hb=>zC rfl rfl rfl zw .nil) (fun hb=>ok7 (hv25 hb)) (sk wJ) ?_
   refine zc rfl (zL rfl (gk wh) (gk wL) rfl (zT (fun ht=>gT ht))) (sk wO) ?_
   refine zc rfl (zi rfl (gk wK) (zb rfl)) yF ?_
   refine ze (zj (zJ ?_))
   obtain rfl:=Option.some.inj hF
   refine zz rfl (zF yH zD) (zA (leV.refl _) rfl ?_)
   exact ⟨rfl,rfl⟩
end Go.Vv
