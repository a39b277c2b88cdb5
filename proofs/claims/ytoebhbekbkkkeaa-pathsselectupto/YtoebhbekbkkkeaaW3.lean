/- Each function that the law reaches computes what its reading says; printed by a program. -/
import Derived.Test.YtoebhbekbkkkeaaW2
namespace Go.Vv
open Go Go.Proofs
set_option maxRecDepth 100000
set_option maxHeartbeats 1000000
set_option linter.unusedSimpArgs false
set_option linter.unusedVariables false
theorem ok44N (n:Nat):∀ {t0:(List GNode)} {path1:(List zR)} {l2:GLeaf} {res:(List GNode)} {h:AH} , x6 n t0 path1 l2=some res→Spec Try.prog 44 [.sl 3 (t0.map GNode.row),.sl 1 (path1.map zI),.agg [.int .u8 l2.typ,.int .i64 l2.n,.int .u64 l2.time,.int .u8 l2.dot.actor.rep,.int .u32 l2.dot.actor.inc,.int .u64 l2.dot.seq,.str l2.text,.sl 5 (l2.items.map GItem.row),.sl 3 (l2.tombs.map GDot.row)]] h (fun rr hh=>rr=.sl 3 (res.map GNode.row)∧hh=h):=by
 induction n with
 | zero=>intro t0 path1 l2 res h  hF;simp [x6] at hF
 | succ n ih =>
  intro t0 path1 l2 res h  hF
  unfold x6 at hF
  refine zu Try.func44 rfl (by kernel_rfl) (env:=[.sl 3 (t0.map GNode.row),.sl 1 (path1.map zI),.agg [.int .u8 l2.typ,.int .i64 l2.n,.int .u64 l2.time,.int .u8 l2.dot.actor.rep,.int .u32 l2.dot.actor.inc,.int .u64 l2.dot.seq,.str l2.text,.sl 5 (l2.items.map GItem.row),.sl 3 (l2.tombs.map GDot.row)],za,za,za,za,za,za,za,za,za,za,za,za,za,za,za,za,za,za,za,za,za,za,za,za,za,za,za,za,za,za,za,za,za,za,za,za,za,za,za,za,za,za,za,za,za,za,za,za,za,za,za,za,za,za,za,za,za,za,za,za,za,za,za,za,za,za,za,za,za,za,za,za,za,za,za,za,za,za,za,za,za,za,za,za,za,za,za,za,za,za,za,za,za,za,za,za,za,za,za,za,za,za,za,za,za,za,za,za,za,za,za,za,za,za,za,za,za,za,za,za,za,za,za,za,za,za,za,za,za,za]) (by rfl) ?_
  refine zk (zd ?_)
  refine zc rfl (xI (n:=0) rfl yT (zb rfl) rfl rfl) xg ?_
  refine zc rfl (zg rfl rfl (yE yZ)) xn ?_
  refine ze (zi (zk (zd ?_)))
  refine zc rfl (zg rfl rfl (yE yZ)) xJ ?_
  refine ze (zi (zk (zd ?_)))
  refine zc rfl (zg rfl rfl (zb rfl)) xM ?_
  refine ze (zi (zk (zJ ?_)))
  refine r_loopWF (fun (s1:(List GNode)×Int)=>yr [2,3,4,6,9,10,11,12,13,14,15,16,17,18,19,20,21,22,23,24,25,26,27,28,29,30,31,32,33,34,35,36,37,38,39,40,41,42,43,44,45,46,47,48,49,50,51,52,53,54,55,56,57,58,59,60,61,62,63,64,65,66,67,68,69,70,71,72,73,74,75,76,77,78,79,80,81,82,83,84,85,86,87,88,89,90,91,92,93,94,95,96,97,98,99,100,101,102,103,104,105,106,107,108,109,110,111,112,113,114,115,116,117,118,119,120,121,122,123,124,125,126,127,128,129,130,131,132] [(7,.osl (some (h.toks.length+0)) 3 (s1.1.map GNode.row)),(8,.int .i64 s1.2)]) (fun s1=>h.ext [.cells [.int .u8 l2.typ,.int .i64 l2.n,.int .u64 l2.time,.int .u8 l2.dot.actor.rep,.int .u32 l2.dot.actor.inc,.int .u64 l2.dot.seq,.str l2.text,.sl 5 (l2.items.map GItem.row),.sl 3 (l2.tombs.map GDot.row)]] [(s1.1).length]) hF (fun _=>by simp only [yr,qN,List.set_cons_succ,List.set_cons_zero];try rfl) (wk.trans (wk_tok xl rfl xJ rfl) (wk.le (by exact (.eq (.eq (.drop (.drop (.drop (.eq (.drop (.cons (leV.of_eq rfl) (.cons (leV.of_eq rfl) (.d16 (.d16 (.d16 (.d16 (.d16 (.d16 (.d16 (.d4 (.d4 (.d4 leL.nil)))))))))))))))))))))) ?_
  intro n1 s1 o1 hF hK1
  refine zk (zk ?_)
  refine yk [] [] trivial mixed (by kernel_rfl) ?_
  refine zo rfl rfl (zf rfl xc (zb rfl)) yQ ?_
  refine zo rfl rfl (zf rfl yl (zb rfl)) yW ?_
  refine draw_len rfl rfl (zO rfl rfl rfl rfl yZ yN ya) y3 ?_
  refine zo rfl rfl (zy rfl yK y6 rfl) y2 ?_
  refine zo rfl rfl (zf rfl yR (zb rfl)) xd ?_
  refine zr rfl rfl (fun hb=>zf rfl yl (zb rfl)) xi ?_
  refine zr rfl rfl (fun hb=>zf rfl xc (zb rfl)) xr ?_
  refine xe hF (fun hg19 hF=>?_)
  refine zr rfl rfl (fun hb=>vL default rfl yZ (zn xj hb) (zn xp hb) xZ (hg19 hb) (GNode.row_eq _)) xE ?_
  refine zr rfl rfl (fun hb=>zj rfl vX (zn xH hb) rfl) xR ?_
  refine zr rfl rfl (fun hb=>zX rfl qa (zn xO hb) (zt rfl) (zb rfl)) xY ?_
  refine zr rfl rfl (fun hb=>zf rfl yw (zb rfl)) x7 ?_
  refine xe hF (fun hg20 hF=>?_)
  refine zr rfl rfl (fun hb=>yH default rfl yG (zn x9 hb) rfl xZ (hg20 hb)) xQ ?_
  refine zr rfl rfl (fun hb=>zX rfl qa (zn xB hb) (zt rfl) (zb rfl)) wc ?_
  refine zr rfl rfl (fun hb=>zy rfl (zn xV hb) (zn wg hb) rfl) wb ?_
  refine zo rfl rfl (zM rfl xb x4 rfl (zV (fun ht=>gT ht))) wJ ?_
  refine yh ?_
  refine zi ?_
  refine zL wF hF (fun hc21 hF=>?_) (fun hc21 hF=>?_)
  ·refine zG (zi (zJ (zk (zd ?_))))
   refine zc rfl (zf rfl xl (zb rfl)) wR ?_
   refine zc rfl (zf rfl yl (zb rfl)) wZ ?_
   refine zc rfl (zf rfl xc (zb rfl)) vf ?_
   refine zU hF (fun y22 hy22 hF=>?_)
   refine zc rfl (xa rfl yZ w6 vo xZ hy22 (GNode.row_eq _)) ve ?_
   refine zc rfl (zX rfl ty64.choose_spec.1 vn (zK (cs':=[.str y22.name,.sl 9 (y22.leaves.map GLeaf.row),.sl 3 (y22.subs.map GNode.row)]) ty64.choose_spec.2 rfl rfl) (zb rfl)) vd ?_
   refine zc rfl (z8 (es:=([y22]:List GNode).map GNode.row) rfl yZ ze64 rfl rfl (zY vm ye) (.cons (zb rfl) .nil) rfl rfl (by simp only [List.map_cons,List.map_nil,GNode.row_eq];rfl)) vc ?_
   refine xe hF (fun hm23 hF=>?_)
   refine zc rfl (wz (j:=0) (T':=[((s1.1++([y22]:List GNode))).length]) rfl rfl rfl rfl yZ yZ wU w5 (zb rfl) (zb rfl) xG hm23 rfl rfl) vu ?_
   refine zc rfl (zg rfl vA (zb rfl)) xJ ?_
   refine ze (zi (zd ?_))
   refine zc rfl (zf rfl xc (zb rfl)) vt ?_
   refine zc rfl (zy rfl vl rfl rfl) vb ?_
   refine zc rfl (zg rfl vk (zb rfl)) xM ?_
   refine ze (yc (yp ?_))
   obtain rfl:=Option.some.inj hF
   exact ⟨((s1.1++([y22]:List GNode)),(IntKind.wrap .i64 (s1.2+(1:Int)))),hK1,wk.le (by exact (.eq (.eq (.drop (.drop (.drop (.eq (.drop (.cons (leV.of_eq rfl) (.cons (leV.of_eq rfl) (.d16 (.d16 (.d16 (.d16 (.d16 (.d16 (.d16 (.d4 (.d4 (.d4 leL.nil))))))))))))))))))))⟩
  ·refine yx ?_
   refine zW ?_
   refine zP ?_
   obtain rfl:=Option.some.inj hF
   replace hF:=hK1
   refine zQ ?_
   refine zi (zk (zd ?_))
   refine zc rfl (zf rfl yw (zb rfl)) wQ ?_
   refine zU hF (fun y96 hy96 hF=>?_)
   refine zc rfl (yg rfl yG wN rfl xZ hy96) va ?_
   refine zc rfl (zX rfl qa vj (zt rfl) (zb rfl)) vE ?_
   refine zc rfl (s_build (cs':=[.str y96,.osl none 9 (([]:List GLeaf).map GLeaf.row),.osl none 3 (([]:List GNode).map GNode.row)]) rfl su64 ze64 pl64 (zY vz ye) (.cons (zb rfl) .nil) rfl rfl) vJ ?_
   refine zc rfl (wt (n:=1) rfl ze64 rfl) wv ?_
   refine zc rfl (yP (cs':=[.str y96,.osl none 9 (([]:List GLeaf).map GLeaf.row),.osl none 3 (([]:List GNode).map GNode.row)]) rfl ty64.choose_spec.1 xy vF (zb rfl) rfl rfl rfl rfl rfl) rfl ?_
   refine ze (zi ?_)
   refine r_join (fun (s2:Int×zR×(List GLeaf)×(List GNode))=>yr [2,3,4,6,10,11,12,13,14,15,16,17,18,19,20,21,22,23,24,25,26,27,28,29,30,31,32,33,34,35,36,37,38,39,40,41,42,43,44,45,46,47,48,49,50,51,52,53,54,55,56,57,58,59,60,61,62,63,64,65,66,67,68,69,70,71,72,73,74,75,76,77,78,79,80,81,82,83,84,85,86,87,88,89,90,91,92,93,94,95,96,97,98,99,100,101,102,103,104,105,106,107,108,109,110,111,112,113,114,115,116,117,118,119,120,121,122,123,124,125,126,127,128,129,130,131,132] [(8,.int .i64 s2.1)]) (fun s2=>h.ext [.cells [.int .u8 l2.typ,.int .i64 l2.n,.int .u64 l2.time,.int .u8 l2.dot.actor.rep,.int .u32 l2.dot.actor.inc,.int .u64 l2.dot.seq,.str l2.text,.sl 5 (l2.items.map GItem.row),.sl 3 (l2.tombs.map GDot.row)],.cells [.str s2.2.1,.sl 9 (s2.2.2.1.map GLeaf.row),.sl 3 (s2.2.2.2.map GNode.row)]] [(s1.1).length]) hF (fun _=>by simp only [yr,qN,List.set_cons_succ,List.set_cons_zero];try rfl) (fun o2 hF hK2=>?_) (fun s2 hF=>?_)
   ·refine zk ?_
    refine yk [] [] trivial mixed (by kernel_rfl) ?_
    refine zo rfl rfl (zf rfl xc (zb rfl)) (sk st0) ?_
    refine zo rfl rfl (zf rfl yl (zb rfl)) (sk st1) ?_
    refine draw_len rfl rfl (zO rfl rfl rfl rfl yZ (gk yw) ya) (sk yU) ?_
    refine zo rfl rfl (zy rfl (gk yl) (gk yT) rfl) (sk x5) ?_
    refine zo rfl rfl (zf rfl (gk y8) (zb rfl)) (sk yu) ?_
    refine zr rfl rfl (fun hb=>zf rfl yl (zb rfl)) (sk xg) ?_
    refine zr rfl rfl (fun hb=>zf rfl xc (zb rfl)) (sk xn) ?_
    refine xe hF (fun hg103 hF=>?_)
    refine zr rfl rfl (fun hb=>vL default rfl yZ (zn (gk yD) hb) (zn (gk yS) hb) xZ (hg103 hb) (GNode.row_eq _)) (sk xJ) ?_
    refine zr rfl rfl (fun hb=>zj rfl vX (zn (gk xl) hb) rfl) (sk xM) ?_
    refine zr rfl rfl (fun hb=>zX rfl qa (zn (gk xc) hb) (zt rfl) (zb rfl)) (sk wv) ?_
    refine zr rfl rfl (fun hb=>zf rfl yw (zb rfl)) (sk yF) ?_
    refine xe hF (fun hg104 hF=>?_)
    refine zr rfl rfl (fun hb=>yH default rfl yG (zn (gk yv) hb) rfl xZ (hg104 hb)) (sk yL) ?_
    refine zr rfl rfl (fun hb=>zX rfl qa (zn (gk yA) hb) (zt rfl) (zb rfl)) (sk yQ) ?_
    refine zr rfl rfl (fun hb=>zy rfl (zn (gk xy) hb) (zn (gk yK) hb) rfl) (sk yW) ?_
    refine zo rfl rfl (zM rfl (gk yz) (gk yN) rfl (zV (fun ht=>gT ht))) (sk y3) ?_
    refine yh ?_
    refine zi ?_
    refine zL (gk y6) hF (fun hc105 hF=>?_) (fun hc105 hF=>?_)
    ·refine zk (zd ?_)
     refine zc rfl (zf rfl yl (zb rfl)) (sk y2) ?_
     refine zc rfl (zf rfl xc (zb rfl)) (sk xd) ?_
     refine zU hF (fun y106 hy106 hF=>?_)
     refine zc rfl (xa rfl yZ (gk yR) (gk xb) xZ hy106 (GNode.row_eq _)) (sk xi) ?_
     refine zc rfl (zX rfl ty64.choose_spec.1 (gk xj) (zK (cs':=[.str y106.name,.sl 9 (y106.leaves.map GLeaf.row),.sl 3 (y106.subs.map GNode.row)]) ty64.choose_spec.2 rfl rfl) (zb rfl)) (sk xr) ?_
     refine zc rfl (yP (cs':=[.str y106.name,.sl 9 (y106.leaves.map GLeaf.row),.sl 3 (y106.subs.map GNode.row)]) rfl ty64.choose_spec.1 xy (gk xp) (zb rfl) rfl rfl rfl rfl rfl) rfl ?_
     refine ze (zi (zd ?_))
     refine zc rfl (zf rfl xc (zb rfl)) (sk xE) ?_
     refine zc rfl (zy rfl (gk xH) rfl rfl) (sk xR) ?_
     refine zc rfl (zg rfl (gk xO) (zb rfl)) xM ?_
     refine ze (q_join ?_)
     obtain rfl:=Option.some.inj hF
     exact ⟨((IntKind.wrap .i64 (s1.2+(1:Int))),y106.name,y106.leaves,y106.subs),hK2,wk.le (by exact (.eq (.eq (.drop (.drop (.drop (.eq (.drop (.eq (.cons (leV.of_eq rfl) (.eq (.d16 (.d16 (.d16 (.d16 (.d16 (.d16 (.d16 (.d4 (.d4 (.drop (.drop (.drop leL.nil)))))))))))))))))))))))⟩
    ·refine zG (q_join ?_)
     obtain rfl:=Option.some.inj hF
     exact ⟨(s1.2,y96,([]:List GLeaf),([]:List GNode)),hK2,wk.trans (wk_leB (j:=1) rfl (by exact (.eq (.cons (leV.osl _ _ _) (.cons (leV.osl _ _ _) leL.nil)))) rfl rfl) (wk.le (by exact (.eq (.eq (.drop (.drop (.drop (.eq (.drop (.eq (.cons (leV.of_eq rfl) (.eq (.d16 (.d16 (.d16 (.d16 (.d16 (.d16 (.d16 (.d4 (.d4 (.drop (.drop (.drop leL.nil))))))))))))))))))))))))⟩
   ·refine zk (zk (zd ?_))
    refine zc rfl (zf rfl yw (zb rfl)) (sk xY) ?_
    refine zZ rfl (zO rfl rfl rfl rfl yG (gk xV) ya) (sk x7) fun hn107=>?_
    replace hn107:=y9 hn107
    refine zc rfl (zy rfl (gk x9) rfl rfl) (sk xQ) ?_
    refine ze (zi ?_)
    refine zL (gk xB) hF (fun hc108 hF=>?_) (fun hc108 hF=>?_)
    ·refine yk [5] [] trivial mixed (by kernel_rfl) ?_
     refine zo rfl rfl (zj rfl qE xy rfl) (sk wc) ?_
     refine zo rfl rfl (zA rfl ty23 (gk wg) rfl (zt rfl) (zb rfl)) (sk wb) ?_
     refine zo rfl rfl (zf rfl yw (zb rfl)) (sk wJ) ?_
     refine zU hF (fun m109 hm109 hF=>?_)
     refine zo rfl rfl (qy rfl yG (gk wF) (.inl rfl) (.some rfl) .none hm109) (sk wR) ?_
     refine zo rfl rfl (zA rfl ty45.choose_spec.1 yD rfl (zK (cs':=[.int .u8 l2.typ,.int .i64 l2.n,.int .u64 l2.time,.int .u8 l2.dot.actor.rep,.int .u32 l2.dot.actor.inc,.int .u64 l2.dot.seq,.str l2.text,.sl 5 (l2.items.map GItem.row),.sl 3 (l2.tombs.map GDot.row)]) ty45.choose_spec.2 rfl rfl) (zb rfl)) (sk wZ) ?_
     refine zU hF (fun v110 hv110 hF=>?_)
     refine yC rfl rfl (fun _=>zF rfl rfl rfl (zp (gk x4) (zp (gk wU) (zp (gk w6) zx))) (.cons (zb rfl) (.cons (zb rfl) (.cons (zb rfl) .nil)))) (by rintro _ ⟨B2,T2,rfl,hk2⟩;exact ih hv110) (sk vf) ?_
     refine zo rfl rfl (zj rfl qE xy rfl) (sk ve) ?_
     refine xX rfl (FOk.cons (.inr (qD trivial)) FOk.nil) (by kernel_rfl) rfl (yP (cs':=[.str s2.2.1,.sl 9 (s2.2.2.1.map GLeaf.row),.sl 3 (v110.map GNode.row)]) rfl ty23 (gk vn) (gk vo) (zb rfl) rfl rfl rfl rfl rfl) rfl ?_
     refine yh ?_
     refine zi (zk ?_)
     refine yk [] [] trivial mixed (by kernel_rfl) ?_
     refine zo rfl rfl (zf rfl xl (zb rfl)) (sk (sk (sk xg))) ?_
     refine zo rfl rfl (zA rfl ty64.choose_spec.1 xy rfl (zK (cs':=[.str s2.2.1,.sl 9 (s2.2.2.1.map GLeaf.row),.sl 3 (v110.map GNode.row)]) ty64.choose_spec.2 rfl rfl) (zb rfl)) (sk (sk (sk xn))) ?_
     refine zo rfl rfl (z8 (es:=([(GNode.mk s2.2.1 s2.2.2.1 v110)]:List GNode).map GNode.row) rfl yZ ze64 rfl rfl (zY (gk (gk (gk yS))) ye) (.cons (zb rfl) .nil) rfl rfl (by simp only [List.map_cons,List.map_nil,GNode.row_eq];rfl)) (sk (sk (sk xJ))) ?_
     refine xe hF (fun hm111 hF=>?_)
     refine xW rfl FOk.nil (by rfl) rfl (wz (j:=0) (T':=[((s1.1++([(GNode.mk s2.2.1 s2.2.2.1 v110)]:List GNode))).length]) rfl rfl rfl rfl yZ yZ (gk (gk (gk yD))) (gk (gk (gk xl))) (zb rfl) (zb rfl) xG hm111 rfl rfl) (sk (sk (sk xM))) ?_
     refine zo rfl rfl (zf rfl yl (zb rfl)) (sk (sk (sk wv))) ?_
     refine zo rfl rfl (zf rfl xc (zb rfl)) (sk (sk (sk yF))) ?_
     refine zU hF (fun m112 hm112 hF=>?_)
     refine zo rfl rfl (qy rfl yZ (gk (gk (gk xy))) (.inl rfl) (.some (gk (gk (gk yv)))) .none hm112) (sk (sk (sk yL))) ?_
     refine xe hF (fun hm113 hF=>?_)
     refine xW rfl FOk.nil (by rfl) rfl (wz (j:=0) (T':=[(((s1.1++([(GNode.mk s2.2.1 s2.2.2.1 v110)]:List GNode))++m112)).length]) rfl rfl rfl rfl yZ yZ (gk (gk (gk xc))) (gk (gk (gk yA))) (zb rfl) (zb rfl) vV hm113 rfl rfl) (sk (sk (sk yQ))) ?_
     refine zo rfl rfl (zg rfl (gk (gk (gk yK))) (zb rfl)) xn ?_
     refine yh ?_
     refine zi (zH ?_)
     obtain rfl:=Option.some.inj hF
     refine zz rfl (zD yS zE) (zB (leV.osl _ _ _) rfl ?_)
     exact ⟨rfl,rfl⟩
    ·refine zk (zd ?_)
     refine zc rfl (zg rfl rfl (yE wh)) yF ?_
     refine ze (zi (zk (zd ?_)))
     refine zc rfl (zg rfl rfl (zb rfl)) yL ?_
     refine ze (zi (zk (zJ ?_)))
     refine r_loopWF (fun (s3:(List GLeaf)×Int)=>yr [1,2,3,4,6,12,13,14,15,16,17,18,19,20,21,22,23,24,25,26,27,28,29,30,31,32,33,34,35,36,37,38,39,40,41,42,43,44,45,46,47,48,49,50,51,52,53,54,55,56,57,58,59,60,61,62,63,64,65,66,67,68,69,70,71,72,73,74,75,76,77,78,79,80,81,82,83,84,85,86,87,88,89,90,91,92,93,94,95,96,97,98,99,100,101,102,103,104,105,106,107,108,109,110,111,112,113,114,115,116,117,118,119,120,121,122,123,124,125,126,127,128,129,130,131,132] [(10,.osl (some (h.toks.length+1)) 9 (s3.1.map GLeaf.row)),(11,.int .i64 s3.2)]) (fun s3=>h.ext [.cells [.int .u8 l2.typ,.int .i64 l2.n,.int .u64 l2.time,.int .u8 l2.dot.actor.rep,.int .u32 l2.dot.actor.inc,.int .u64 l2.dot.seq,.str l2.text,.sl 5 (l2.items.map GItem.row),.sl 3 (l2.tombs.map GDot.row)],.cells [.str s2.2.1,.sl 9 (s2.2.2.1.map GLeaf.row),.sl 3 (s2.2.2.2.map GNode.row)]] [(s1.1).length,(s3.1).length]) hF (fun _=>by simp only [yr,qN,List.set_cons_succ,List.set_cons_zero];try rfl) (wk.trans (wk_tok yv rfl yF rfl) (wk.le (by exact (.eq (.d4 (.eq (.drop (.eq (.eq (.eq (.cons (leV.of_eq rfl) (.cons (leV.of_eq rfl) (.d16 (.d16 (.d16 (.d16 (.d16 (.d16 (.d16 (.d4 (.d4 (.drop leL.nil)))))))))))))))))))))) ?_
     intro n3 s3 o3 hF hK3
     refine zk (zk ?_)
     refine yk [] [] trivial mixed (by kernel_rfl) ?_
     refine zo rfl rfl (zf rfl yA (zb rfl)) (sk vd) ?_
     refine zo rfl rfl (zj rfl xh xy rfl) (sk vc) ?_
     refine zo rfl rfl (zA rfl qb (gk w5) rfl (zt rfl) (zb rfl)) (sk vu) ?_
     refine draw_len rfl rfl (zO rfl rfl rfl rfl wh (gk vA) ya) (sk vt) ?_
     refine zo rfl rfl (zy rfl (gk vm) (gk vl) rfl) (sk vb) ?_
     refine zo rfl rfl (zf rfl (gk vk) (zb rfl)) (sk wQ) ?_
     refine zr rfl rfl (fun hb=>zj rfl xh xy rfl) (sk va) ?_
     refine zr rfl rfl (fun hb=>zA rfl qb (zn (gk vj) hb) rfl (zt rfl) (zb rfl)) (sk vE) ?_
     refine zr rfl rfl (fun hb=>zf rfl yA (zb rfl)) (sk vJ) ?_
     refine xe hF (fun hg134 hF=>?_)
     refine zr rfl rfl (fun hb=>yH default rfl wh (zn (gk vz) hb) (zn (gk vF) hb) xZ (hg134 hb)) (sk (sk st0)) ?_
     refine zr rfl rfl (fun hb=>zj rfl wy (zn (gk (gk yl)) hb) rfl) (sk (sk st1)) ?_
     refine zr rfl rfl (fun hb=>zX rfl ty5 (zn (gk (gk yw)) hb) (zt rfl) (zb rfl)) (sk (sk yU)) ?_
     refine zr rfl rfl (fun hb=>zj rfl wy yD rfl) (sk (sk x5)) ?_
     refine zr rfl rfl (fun hb=>zA rfl ty5 (zn (gk (gk y8)) hb) rfl (zt rfl) (zb rfl)) (sk (sk yu)) ?_
     refine zr rfl rfl (fun hb=>zy rfl (zn (gk (gk yT)) hb) (zn (gk (gk yz)) hb) rfl) (sk (sk xg)) ?_
     refine zo rfl rfl (zM rfl (gk wN) (gk (gk yD)) rfl (zV (fun ht=>gT ht))) (sk (sk xn)) ?_
     refine yh ?_
     refine zi ?_
     refine zL (gk (gk yS)) hF (fun hc135 hF=>?_) (fun hc135 hF=>?_)
     ·refine zG (zi (zJ (zk (zd ?_))))
      refine zc rfl (zf rfl yv (zb rfl)) (sk (sk xJ)) ?_
      refine zc rfl (zj rfl xh xy rfl) (sk (sk xM)) ?_
      refine zc rfl (zA rfl qb (gk (gk xc)) rfl (zt rfl) (zb rfl)) (sk (sk wv)) ?_
      refine zc rfl (zf rfl yA (zb rfl)) (sk (sk yF)) ?_
      refine zU hF (fun y136 hy136 hF=>?_)
      refine zc rfl (yg rfl wh (gk (gk xy)) (gk (gk yv)) xZ hy136) (sk (sk yL)) ?_
      refine zc rfl (zX rfl ty45.choose_spec.1 (gk (gk yA)) (zK (cs':=[.int .u8 y136.typ,.int .i64 y136.n,.int .u64 y136.time,.int .u8 y136.dot.actor.rep,.int .u32 y136.dot.actor.inc,.int .u64 y136.dot.seq,.str y136.text,.sl 5 (y136.items.map GItem.row),.sl 3 (y136.tombs.map GDot.row)]) ty45.choose_spec.2 rfl rfl) (zb rfl)) (sk (sk yQ)) ?_
      refine zc rfl (z8 (es:=([y136]:List GLeaf).map GLeaf.row) rfl wh ze45 rfl rfl (zY (gk (gk yK)) ye) (.cons (zb rfl) .nil) rfl rfl rfl) (sk (sk yW)) ?_
      refine xe hF (fun hm137 hF=>?_)
      refine zc rfl (wz (j:=1) (T':=[(s1.1).length,((s3.1++([y136]:List GLeaf))).length]) rfl rfl rfl rfl wh wh (gk (gk xl)) (gk (gk yN)) (zb rfl) (zb rfl) xG hm137 rfl rfl) (sk (sk y3)) ?_
      refine zc rfl (zg rfl (gk (gk y6)) (zb rfl)) yF ?_
      refine ze (zi (zd ?_))
      refine zc rfl (zf rfl yA (zb rfl)) (sk (sk y2)) ?_
      refine zc rfl (zy rfl (gk (gk yR)) rfl rfl) (sk (sk xd)) ?_
      refine zc rfl (zg rfl (gk (gk xb)) (zb rfl)) yL ?_
      refine ze (yc (yp ?_))
      obtain rfl:=Option.some.inj hF
      exact ⟨((s3.1++([y136]:List GLeaf)),(IntKind.wrap .i64 (s3.2+(1:Int)))),hK3,wk.le (by exact (.eq (.d4 (.eq (.drop (.eq (.eq (.eq (.cons (leV.of_eq rfl) (.cons (leV.of_eq rfl) (.d16 (.d16 (.d16 (.d16 (.d16 (.d16 (.d16 (.d4 (.d4 (.drop leL.nil))))))))))))))))))))⟩
     ·refine yx ?_
      refine zW ?_
      refine zP ?_
      obtain rfl:=Option.some.inj hF
      replace hF:=hK3
      refine zQ ?_
      refine zi (zk (zk ?_))
      refine yk [] [] trivial mixed (by kernel_rfl) ?_
      refine zo rfl rfl (zf rfl yA (zb rfl)) (sk (sk xi)) ?_
      refine zo rfl rfl (zj rfl xh xy rfl) (sk (sk xr)) ?_
      refine zo rfl rfl (zA rfl qb (gk (gk xp)) rfl (zt rfl) (zb rfl)) (sk (sk xE)) ?_
      refine draw_len rfl rfl (zO rfl rfl rfl rfl wh (gk (gk xH)) ya) (sk (sk xR)) ?_
      refine zo rfl rfl (zy rfl (gk (gk xj)) (gk (gk xO)) rfl) (sk (sk xY)) ?_
      refine zo rfl rfl (zf rfl (gk (gk xV)) (zb rfl)) (sk (sk x7)) ?_
      refine zr rfl rfl (fun hb=>zj rfl xh xy rfl) (sk (sk xQ)) ?_
      refine zr rfl rfl (fun hb=>zA rfl qb (zn (gk (gk xB)) hb) rfl (zt rfl) (zb rfl)) (sk (sk wc)) ?_
      refine zr rfl rfl (fun hb=>zf rfl yA (zb rfl)) (sk (sk wb)) ?_
      refine xe hF (fun hg154 hF=>?_)
      refine zr rfl rfl (fun hb=>yH default rfl wh (zn (gk (gk wg)) hb) (zn (gk (gk x4)) hb) xZ (hg154 hb)) (sk (sk wJ)) ?_
      refine zr rfl rfl (fun hb=>zj rfl wy (zn (gk (gk wF)) hb) rfl) (sk (sk wR)) ?_
      refine zr rfl rfl (fun hb=>zX rfl ty5 (zn (gk (gk wU)) hb) (zt rfl) (zb rfl)) (sk (sk wZ)) ?_
      refine zr rfl rfl (fun hb=>zj rfl wy yD rfl) (sk (sk vf)) ?_
      refine zr rfl rfl (fun hb=>zA rfl ty5 (zn (gk (gk vo)) hb) rfl (zt rfl) (zb rfl)) (sk (sk ve)) ?_
      refine zr rfl rfl (fun hb=>zy rfl (zn (gk (gk w6)) hb) (zn (gk (gk vn)) hb) rfl) (sk (sk vd)) ?_
      refine zo rfl rfl (zM rfl (gk (gk x9)) (gk (gk vm)) rfl (zV (fun ht=>gT ht))) (sk (sk vc)) ?_
      refine yh ?_
      refine zi ?_
      refine zL (gk (gk w5)) hF (fun hc155 hF=>?_) (fun hc155 hF=>?_)
      ·refine zd ?_
       refine zc rfl (zf rfl yA (zb rfl)) (sk (sk vu)) ?_
       refine zc rfl (zy rfl (gk (gk vA)) rfl rfl) (sk (sk vt)) ?_
       refine zc rfl (zg rfl (gk (gk vl)) (zb rfl)) yL ?_
       refine ze (zi ?_)
       refine yk [] [] trivial mixed (by kernel_rfl) ?_
       refine zo rfl rfl (zf rfl yv (zb rfl)) (sk (sk vb)) ?_
       refine zo rfl rfl (zA rfl ty45.choose_spec.1 yD rfl (zK (cs':=[.int .u8 l2.typ,.int .i64 l2.n,.int .u64 l2.time,.int .u8 l2.dot.actor.rep,.int .u32 l2.dot.actor.inc,.int .u64 l2.dot.seq,.str l2.text,.sl 5 (l2.items.map GItem.row),.sl 3 (l2.tombs.map GDot.row)]) ty45.choose_spec.2 rfl rfl) (zb rfl)) (sk (sk wQ)) ?_
       refine zo rfl rfl (z8 (es:=([l2]:List GLeaf).map GLeaf.row) rfl wh ze45 rfl rfl (zY (gk (gk wN)) ye) (.cons (zb rfl) .nil) rfl rfl rfl) (sk (sk va)) ?_
       refine xe hF (fun hm156 hF=>?_)
       refine xW rfl FOk.nil (by rfl) rfl (wz (j:=1) (T':=[(s1.1).length,((s3.1++([l2]:List GLeaf))).length]) rfl rfl rfl rfl wh wh (gk (gk vk)) (gk (gk vj)) (zb rfl) (zb rfl) xG hm156 rfl rfl) (sk (sk vE)) ?_
       refine zo rfl rfl (zj rfl xh xy rfl) (sk (sk vJ)) ?_
       refine zo rfl rfl (zA rfl qb (gk (gk vF)) rfl (zt rfl) (zb rfl)) (sk (sk (sk st0))) ?_
       refine zo rfl rfl (zf rfl yA (zb rfl)) (sk (sk (sk st1))) ?_
       refine zU hF (fun m157 hm157 hF=>?_)
       refine zo rfl rfl (qy rfl wh (gk (gk (gk yl))) (.inl rfl) (.some (gk (gk (gk yw)))) .none hm157) (sk (sk (sk yU))) ?_
       refine xe hF (fun hm158 hF=>?_)
       refine xW rfl FOk.nil (by rfl) rfl (wz (j:=1) (T':=[(s1.1).length,(((s3.1++([l2]:List GLeaf))++m157)).length]) rfl rfl rfl rfl wh wh (gk (gk vz)) (gk (gk (gk yT))) (zb rfl) (zb rfl) vV hm158 rfl rfl) (sk (sk (sk x5))) ?_
       refine zo rfl rfl (zj rfl xh xy rfl) (sk (sk (sk yu))) ?_
       refine xX rfl FOk.nil (by kernel_rfl) rfl (yP (cs':=[.str s2.2.1,.osl (some (h.toks.length+1)) 9 (((s3.1++([l2]:List GLeaf))++m157).map GLeaf.row),.sl 3 (s2.2.2.2.map GNode.row)]) rfl qb (gk (gk (gk yz))) (gk (gk (gk y8))) (zb rfl) rfl rfl rfl rfl rfl) rfl ?_
       refine yh ?_
       refine zi (zk ?_)
       refine yk [] [] trivial mixed (by kernel_rfl) ?_
       refine zo rfl rfl (zf rfl xl (zb rfl)) (sk (sk (sk xg))) ?_
       refine zo rfl rfl (zA rfl ty64.choose_spec.1 xy rfl (zK (cs':=[.str s2.2.1,.osl (some (h.toks.length+1)) 9 (((s3.1++([l2]:List GLeaf))++m157).map GLeaf.row),.sl 3 (s2.2.2.2.map GNode.row)]) ty64.choose_spec.2 rfl rfl) (zb rfl)) (sk (sk (sk xn))) ?_
       refine zo rfl rfl (z8 (es:=([(GNode.mk s2.2.1 ((s3.1++([l2]:List GLeaf))++m157) s2.2.2.2)]:List GNode).map GNode.row) rfl yZ ze64 rfl rfl (zY (gk (gk (gk yS))) ye) (.cons (zb rfl) .nil) rfl rfl (by simp only [List.map_cons,List.map_nil,GNode.row_eq];rfl)) (sk (sk (sk xJ))) ?_
       refine xe hF (fun hm159 hF=>?_)
       refine xW rfl FOk.nil (by rfl) rfl (wz (j:=0) (T':=[((s1.1++([(GNode.mk s2.2.1 ((s3.1++([l2]:List GLeaf))++m157) s2.2.2.2)]:List GNode))).length,(((s3.1++([l2]:List GLeaf))++m157)).length]) rfl rfl rfl rfl yZ yZ (gk (gk (gk yD))) (gk (gk (gk xl))) (zb rfl) (zb rfl) xG hm159 rfl rfl) (sk (sk (sk xM))) ?_
       refine zo rfl rfl (zf rfl yl (zb rfl)) (sk (sk (sk wv))) ?_
       refine zo rfl rfl (zf rfl xc (zb rfl)) (sk (sk (sk yF))) ?_
       refine zU hF (fun m160 hm160 hF=>?_)
       refine zo rfl rfl (qy rfl yZ (gk (gk (gk xy))) (.inl rfl) (.some (gk (gk (gk yv)))) .none hm160) (sk (sk (sk yL))) ?_
       refine xe hF (fun hm161 hF=>?_)
       refine xW rfl FOk.nil (by rfl) rfl (wz (j:=0) (T':=[(((s1.1++([(GNode.mk s2.2.1 ((s3.1++([l2]:List GLeaf))++m157) s2.2.2.2)]:List GNode))++m160)).length,(((s3.1++([l2]:List GLeaf))++m157)).length]) rfl rfl rfl rfl yZ yZ (gk (gk (gk xc))) (gk (gk (gk yA))) (zb rfl) (zb rfl) vV hm161 rfl rfl) (sk (sk (sk yQ))) ?_
       refine zo rfl rfl (zg rfl (gk (gk (gk yK))) (zb rfl)) xn ?_
       refine yh ?_
       refine zi (zH ?_)
       obtain rfl:=Option.some.inj hF
       refine zz rfl (zD yS zE) (zB (leV.osl _ _ _) rfl ?_)
       exact ⟨rfl,rfl⟩
      ·refine zG (zi ?_)
       refine yk [] [] trivial mixed (by kernel_rfl) ?_
       refine zo rfl rfl (zf rfl yv (zb rfl)) (sk (sk vb)) ?_
       refine zo rfl rfl (zA rfl ty45.choose_spec.1 yD rfl (zK (cs':=[.int .u8 l2.typ,.int .i64 l2.n,.int .u64 l2.time,.int .u8 l2.dot.actor.rep,.int .u32 l2.dot.actor.inc,.int .u64 l2.dot.seq,.str l2.text,.sl 5 (l2.items.map GItem.row),.sl 3 (l2.tombs.map GDot.row)]) ty45.choose_spec.2 rfl rfl) (zb rfl)) (sk (sk wQ)) ?_
       refine zo rfl rfl (z8 (es:=([l2]:List GLeaf).map GLeaf.row) rfl wh ze45 rfl rfl (zY (gk (gk wN)) ye) (.cons (zb rfl) .nil) rfl rfl rfl) (sk (sk va)) ?_
       refine xe hF (fun hm162 hF=>?_)
       refine xW rfl FOk.nil (by rfl) rfl (wz (j:=1) (T':=[(s1.1).length,((s3.1++([l2]:List GLeaf))).length]) rfl rfl rfl rfl wh wh (gk (gk vk)) (gk (gk vj)) (zb rfl) (zb rfl) xG hm162 rfl rfl) (sk (sk vE)) ?_
       refine zo rfl rfl (zj rfl xh xy rfl) (sk (sk vJ)) ?_
       refine zo rfl rfl (zA rfl qb (gk (gk vF)) rfl (zt rfl) (zb rfl)) (sk (sk (sk st0))) ?_
       refine zo rfl rfl (zf rfl yA (zb rfl)) (sk (sk (sk st1))) ?_
       refine zU hF (fun m163 hm163 hF=>?_)
       refine zo rfl rfl (qy rfl wh (gk (gk (gk yl))) (.inl rfl) (.some (gk (gk (gk yw)))) .none hm163) (sk (sk (sk yU))) ?_
       refine xe hF (fun hm164 hF=>?_)
       refine xW rfl FOk.nil (by rfl) rfl (wz (j:=1) (T':=[(s1.1).length,(((s3.1++([l2]:List GLeaf))++m163)).length]) rfl rfl rfl rfl wh wh (gk (gk vz)) (gk (gk (gk yT))) (zb rfl) (zb rfl) vV hm164 rfl rfl) (sk (sk (sk x5))) ?_
       refine zo rfl rfl (zj rfl xh xy rfl) (sk (sk (sk yu))) ?_
       refine xX rfl FOk.nil (by kernel_rfl) rfl (yP (cs':=[.str s2.2.1,.osl (some (h.toks.length+1)) 9 (((s3.1++([l2]:List GLeaf))++m163).map GLeaf.row),.sl 3 (s2.2.2.2.map GNode.row)]) rfl qb (gk (gk (gk yz))) (gk (gk (gk y8))) (zb rfl) rfl rfl rfl rfl rfl) rfl ?_
       refine yh ?_
       refine zi (zk ?_)
       refine yk [] [] trivial mixed (by kernel_rfl) ?_
       refine zo rfl rfl (zf rfl xl (zb rfl)) (sk (sk (sk xg))) ?_
       refine zo rfl rfl (zA rfl ty64.choose_spec.1 xy rfl (zK (cs':=[.str s2.2.1,.osl (some (h.toks.length+1)) 9 (((s3.1++([l2]:List GLeaf))++m163).map GLeaf.row),.sl 3 (s2.2.2.2.map GNode.row)]) ty64.choose_spec.2 rfl rfl) (zb rfl)) (sk (sk (sk xn))) ?_
       refine zo rfl rfl (z8 (es:=([(GNode.mk s2.2.1 ((s3.1++([l2]:List GLeaf))++m163) s2.2.2.2)]:List GNode).map GNode.row) rfl yZ ze64 rfl rfl (zY (gk (gk (gk yS))) ye) (.cons (zb rfl) .nil) rfl rfl (by simp only [List.map_cons,List.map_nil,GNode.row_eq];rfl)) (sk (sk (sk xJ))) ?_
       refine xe hF (fun hm165 hF=>?_)
       refine xW rfl FOk.nil (by rfl) rfl (wz (j:=0) (T':=[((s1.1++([(GNode.mk s2.2.1 ((s3.1++([l2]:List GLeaf))++m163) s2.2.2.2)]:List GNode))).length,(((s3.1++([l2]:List GLeaf))++m163)).length]) rfl rfl rfl rfl yZ yZ (gk (gk (gk yD))) (gk (gk (gk xl))) (zb rfl) (zb rfl) xG hm165 rfl rfl) (sk (sk (sk xM))) ?_
       refine zo rfl rfl (zf rfl yl (zb rfl)) (sk (sk (sk wv))) ?_
       refine zo rfl rfl (zf rfl xc (zb rfl)) (sk (sk (sk yF))) ?_
       refine zU hF (fun m166 hm166 hF=>?_)
       refine zo rfl rfl (qy rfl yZ (gk (gk (gk xy))) (.inl rfl) (.some (gk (gk (gk yv)))) .none hm166) (sk (sk (sk yL))) ?_
       refine xe hF (fun hm167 hF=>?_)
       refine xW rfl FOk.nil (by rfl) rfl (wz (j:=0) (T':=[(((s1.1++([(GNode.mk s2.2.1 ((s3.1++([l2]:List GLeaf))++m163) s2.2.2.2)]:List GNode))++m166)).length,(((s3.1++([l2]:List GLeaf))++m163)).length]) rfl rfl rfl rfl yZ yZ (gk (gk (gk xc))) (gk (gk (gk yA))) (zb rfl) (zb rfl) vV hm167 rfl rfl) (sk (sk (sk yQ))) ?_
       refine zo rfl rfl (zg rfl (gk (gk (gk yK))) (zb rfl)) xn ?_
       refine yh ?_
       refine zi (zH ?_)
       obtain rfl:=Option.some.inj hF
       refine zz rfl (zD yS zE) (zB (leV.osl _ _ _) rfl ?_)
       exact ⟨rfl,rfl⟩
theorem ok44 {t0:(List GNode)} {path1:(List zR)} {l2:GLeaf} {res:(List GNode)} {h:AH}  (hF:ref07Lay t0 path1 l2=some res):Spec Try.prog 44 [.sl 3 (t0.map GNode.row),.sl 1 (path1.map zI),.agg [.int .u8 l2.typ,.int .i64 l2.n,.int .u64 l2.time,.int .u8 l2.dot.actor.rep,.int .u32 l2.dot.actor.inc,.int .u64 l2.dot.seq,.str l2.text,.sl 5 (l2.items.map GItem.row),.sl 3 (l2.tombs.map GDot.row)]] h (fun rr hh=>rr=.sl 3 (res.map GNode.row)∧hh=h):=by
 obtain ⟨n,hn⟩:=q9 hF
 exact ok44N n  hn
theorem ok24 {l0:(List GRow)} {res:(List GNode)} {h:AH}  (hF:ref30Made l0=some res):Spec Try.prog 24 [.sl 10 (l0.map GRow.row)] h (fun rr hh=>rr=.sl 3 (res.map GNode.row)∧hh=h):=by
 unfold ref30Made at hF
 refine zu Try.func24 rfl (by kernel_rfl) (env:=[.sl 10 (l0.map GRow.row),za,za,za,za,za,za,za,za,za,za,za,za,za,za,za,za,za,za,za,za,za,za,za]) (by rfl) ?_
 refine zk (zd ?_)
 refine zc rfl (zg rfl rfl (yE yZ)) yU ?_
 refine ze (zi (zk (zd ?_)))
 refine zc rfl (zg rfl rfl (yE yZ)) x5 ?_
 refine ze (zi (zk (zk (zd ?_))))
 refine zc rfl (zg rfl rfl (zb rfl)) yu ?_
 refine ze (zi (zJ ?_))
 refine yi (fun (n1:Nat) (s1:(List GNode))=>yr [1,2,5,6,7,8,9,10,11,12,13,14,15,16,17,18,19,20,21,22,23] [(3,.sl 3 (s1.map GNode.row)),(4,.int .i64 (n1:Int))]) (fun s1=>h.ext [] []) hF (fun _ _=>by simp only [yr,qN,List.set_cons_succ,List.set_cons_zero];try rfl) (wk.le (by exact (.eq (.drop (.drop (.cons (leV.osl _ _ _) (.cons (leV.of_eq rfl) (.d16 (.drop (.drop (.drop leL.nil))))))))))) ?_
 intro n1 s1 hi1 hF
 refine zk (zk (zd ?_))
 refine zc rfl (zf rfl yz (zb rfl)) xg ?_
 refine zc rfl (zf rfl yl (zb rfl)) xn ?_
 refine zZ rfl (zO rfl rfl rfl rfl w7 yS ya) xJ fun hn9=>?_
 replace hn9:=y9 hn9
 refine zc rfl (zy rfl yD xl rfl) xM ?_
 refine ze (zi ?_)
 refine yo xc hF (fun x1 o1 hl1 hx1 hF hK1=>?_) (fun hF=>?_)
 ·refine zG (zi (zk (zJ ?_)))
  refine yk [11] [] trivial mixed (by kernel_rfl) ?_
  refine zo rfl rfl (zf rfl y8 (zb rfl)) yL ?_
  refine zo rfl rfl (zf rfl yl (zb rfl)) yQ ?_
  refine zo rfl rfl (zf rfl yz (zb rfl)) yW ?_
  refine zo rfl rfl (yg rfl w7 yK yN xZ (yn hx1)) y3 ?_
  refine zo rfl rfl (zj rfl fo47x0 y6 rfl) y2 ?_
  refine zo rfl rfl (zX rfl ty24 yR (zt rfl) (zb rfl)) xd ?_
  refine zo rfl rfl (zf rfl yl (zb rfl)) xi ?_
  refine zo rfl rfl (zf rfl yz (zb rfl)) xr ?_
  refine zo rfl rfl (yg rfl w7 xj xp xZ (yn hx1)) xE ?_
  refine zo rfl rfl (zj rfl fo47x1 xH rfl) xR ?_
  refine zo rfl rfl (zX rfl ty45.choose_spec.1 xO (zK (cs':=[.int .u8 x1.leaf.typ,.int .i64 x1.leaf.n,.int .u64 x1.leaf.time,.int .u8 x1.leaf.dot.actor.rep,.int .u32 x1.leaf.dot.actor.inc,.int .u64 x1.leaf.dot.seq,.str x1.leaf.text,.sl 5 (x1.leaf.items.map GItem.row),.sl 3 (x1.leaf.tombs.map GDot.row)]) ty45.choose_spec.2 rfl rfl) (zb rfl)) xY ?_
  refine zU hF (fun v10 hv10 hF=>?_)
  refine yC rfl rfl (fun _=>zF rfl rfl rfl (zp yA (zp xb (zp xV zx))) (.cons (zb rfl) (.cons (zb rfl) (.cons (zb rfl) .nil)))) (by rintro _ ⟨B2,T2,rfl,hk2⟩;exact ok44 hv10) x7 ?_
  refine zo rfl rfl (zg rfl x9 (zb rfl)) x5 ?_
  refine yh ?_
  refine yc (zi (zd ?_))
  refine zc rfl (zf rfl yz (zb rfl)) wv ?_
  refine zc rfl (zy rfl xy rfl rfl) yF ?_
  refine zc rfl (zg rfl yv (zb rfl)) yu ?_
  refine ze (yp ?_)
  obtain rfl:=Option.some.inj hF
  exact ⟨v10,hl1,hK1,wk.le (by exact (.eq (.drop (.drop (.cons (leV.of_eq rfl) (.cons (leV.of_eq (wn (by omega) (by omega))) (.d16 (.drop (.drop (.drop leL.nil))))))))))⟩
 ·refine yx ?_
  refine zW ?_
  refine zP ?_
  refine zQ ?_
  refine zi (zk (zd ?_))
  refine zc rfl (zf rfl y8 (zb rfl)) xQ ?_
  refine zc rfl (zg rfl xB (zb rfl)) yU ?_
  refine ze (zi (zH ?_))
  obtain rfl:=Option.some.inj hF
  refine zz rfl (zD yT zE) (zB (leV.refl _) rfl ?_)
  exact ⟨rfl,rfl⟩
theorem ok8 {t0:(List GNode)} {p1:(List zR)} {mtch2:Bool} {res:((List GNode)×Int)} {h:AH}  (hF:ref30Kept t0 p1 mtch2=some res):Spec Try.prog 8 [.sl 3 (t0.map GNode.row),.sl 1 (p1.map zI),.bool mtch2] h (fun rr hh=>rr=.tup [.sl 3 (res.1.map GNode.row),.int .i64 res.2]∧hh=h):=by
 unfold ref30Kept at hF
 refine zu Try.func8 rfl (by kernel_rfl) (env:=[.sl 3 (t0.map GNode.row),.sl 1 (p1.map zI),.bool mtch2,za,za,za,za,za,za,za,za,za,za,za,za,za,za,za,za,za,za,za,za,za,za,za,za,za,za,za,za,za,za,za,za,za,za,za,za,za,za,za,za,za,za]) (by rfl) ?_
 refine zk (zd ?_)
 refine zc rfl (zg rfl rfl (yE yZ)) xn ?_
 refine zc rfl (zg rfl rfl (zb rfl)) xJ ?_
 refine ze (zi (zk (zk (zd ?_))))
 refine zc rfl (zf rfl yl (zb rfl)) yL ?_
 refine zU hF (fun v1 hv1 hF=>?_)
 refine zN rfl (zF rfl rfl rfl (zp yA zx) (.cons (zb rfl) .nil)) (ok21 hv1) yQ ?_
 refine zc rfl (xF rfl yK rfl) yW ?_
 refine zc rfl (zf rfl yN (zb rfl)) y3 ?_
 refine zq rfl (fun hb=>zf rfl yw (zb rfl)) y2 ?_
 refine yO hF (fun v2 hv2 hF=>?_)
 refine ym rfl (fun hb=>zF rfl rfl rfl (zp (zn yR hb) zx) (.cons (zb rfl) .nil)) (fun hb=>ok22 (hv2 hb)) xd ?_
 refine zq rfl (fun hb=>xF rfl (zn xb hb) rfl) xi ?_
 refine zc rfl (zM rfl y6 rfl xj (yd (fun ht=>gF ht))) xr ?_
 refine ze (zi ?_)
 refine zL xp hF (fun hc3 hF=>?_) (fun hc3 hF=>?_)
 ·refine zk (zd ?_)
  refine zc rfl (zg rfl rfl (yE yZ)) xn ?_
  refine zc rfl (zg rfl rfl (zb rfl)) xJ ?_
  refine ze (zi (zH (zw ?_)))
  obtain rfl:=Option.some.inj hF
  refine q_retL rfl (zD yS (zD xl zE)) (zB (leV.tup (.cons (leV.osl _ _ _) (.eq leL.nil))) rfl ?_)
  exact ⟨rfl,rfl⟩
 ·refine zG (zi (zk (zd ?_)))
  refine zc rfl (zf rfl yl (zb rfl)) xE ?_
  refine zU hF (fun v4 hv4 hF=>?_)
  refine zN rfl (zF rfl rfl rfl (zp xH zx) (.cons (zb rfl) .nil)) (ok13 hv4) xR ?_
  refine zc rfl (zg rfl xO (zb rfl)) xM ?_
  refine ze (zi (zk (zd ?_)))
  refine zc rfl (zg rfl rfl (yE w7)) wv ?_
  refine ze (zi (zk (zk (zd ?_))))
  refine zc rfl (zg rfl rfl (zb rfl)) yF ?_
  refine ze (zi (zJ ?_))
  refine yi (fun (n1:Nat) (s1:(List GRow))=>yr [0,3,4,5,6,7,11,12,13,14,15,16,17,18,19,20,21,22,23,24,25,26,27,28,29,30,31,32,33,34,35,36,37,38,39,40,41,42,43,44] [(9,.osl (some (h.toks.length+0)) 10 (s1.map GRow.row)),(10,.int .i64 (n1:Int))]) (fun s1=>h.ext [] [(s1).length]) hF (fun _ _=>by simp only [yr,qN,List.set_cons_succ,List.set_cons_zero];try rfl) (wk.trans (wk_tok xy rfl wv rfl) (wk.le (by exact (.drop (.eq (.eq (.d4 (.drop (.eq (.cons (leV.of_eq rfl) (.cons (leV.of_eq rfl) (.d16 (.d16 (.drop (.drop leL.nil))))))))))))))) ?_
  intro n1 s1 hi1 hF
  refine zk (zk (zd ?_))
  refine zc rfl (zf rfl yv (zb rfl)) xY ?_
  refine zc rfl (zf rfl xc (zb rfl)) x7 ?_
  refine zZ rfl (zO rfl rfl rfl rfl w7 x9 ya) xQ fun hn15=>?_
  replace hn15:=y9 hn15
  refine zc rfl (zy rfl xV xB rfl) wc ?_
  refine ze (zi ?_)
  refine yo wg hF (fun x1 o1 hl1 hx1 hF hK1=>?_) (fun hF=>?_)
  ·refine zG (zi (zk (zJ (zk (zd ?_)))))
   refine zc rfl (zf rfl yw (zb rfl)) wR ?_
   refine zc rfl (zf rfl xc (zb rfl)) wZ ?_
   refine zc rfl (zf rfl yv (zb rfl)) vf ?_
   refine zc rfl (yg rfl w7 w6 vo xZ (yn hx1)) ve ?_
   refine zc rfl (zj rfl fo47x0 vn rfl) vd ?_
   refine zc rfl (zX rfl ty24 vm (zt rfl) (zb rfl)) vc ?_
   refine zU hF (fun v16 hv16 hF=>?_)
   refine zN rfl (zF rfl rfl rfl (zp wU (zp w5 zx)) (.cons (zb rfl) (.cons (zb rfl) .nil))) (ok23 hv16) vu ?_
   refine zc rfl (zf rfl yT (zb rfl)) vt ?_
   refine zc rfl (zy rfl vA vl (bin_boolE ty4)) vb ?_
   refine ze (zi ?_)
   refine zL vk hF (fun hc17 hF=>?_) (fun hc17 hF=>?_)
   ·refine zd ?_
    refine zc rfl (zf rfl xy (zb rfl)) wQ ?_
    refine zc rfl (zf rfl xc (zb rfl)) va ?_
    refine zc rfl (zf rfl yv (zb rfl)) vE ?_
    refine zc rfl (yg rfl w7 vj vz xZ (yn hx1)) vJ ?_
    refine zc rfl (zX rfl ty47.choose_spec.1 vF (zK (cs':=[.sl 1 (x1.path.map zI),.int .u8 x1.leaf.typ,.int .i64 x1.leaf.n,.int .u64 x1.leaf.time,.int .u8 x1.leaf.dot.actor.rep,.int .u32 x1.leaf.dot.actor.inc,.int .u64 x1.leaf.dot.seq,.str x1.leaf.text,.sl 5 (x1.leaf.items.map GItem.row),.sl 3 (x1.leaf.tombs.map GDot.row)]) ty47.choose_spec.2 rfl rfl) (zb rfl)) (sk st0) ?_
    refine zc rfl (z8 (es:=([x1]:List GRow).map GRow.row) rfl w7 ze47 rfl rfl (zY (gk yl) ye) (.cons (zb rfl) .nil) rfl rfl rfl) (sk st1) ?_
    refine xe hF (fun hm18 hF=>?_)
    refine zc rfl (wz (j:=0) (T':=[((s1++([x1]:List GRow))).length]) rfl rfl rfl rfl w7 w7 wN (gk yw) (zb rfl) (zb rfl) xG hm18 rfl rfl) (sk yU) ?_
    refine zc rfl (zg rfl (gk yT) (zb rfl)) wv ?_
    refine ze (yc (zi (zd ?_)))
    refine zc rfl (zf rfl yv (zb rfl)) wb ?_
    refine zc rfl (zy rfl x4 rfl rfl) wJ ?_
    refine zc rfl (zg rfl wF (zb rfl)) yF ?_
    refine ze (yp ?_)
    obtain rfl:=Option.some.inj hF
    exact ⟨(s1++([x1]:List GRow)),hl1,hK1,wk.le (by exact (.drop (.eq (.eq (.d4 (.drop (.eq (.cons (leV.of_eq rfl) (.cons (leV.of_eq (wn (by omega) (by omega))) (.d16 (.d16 (.drop (.drop leL.nil)))))))))))))⟩
   ·refine zG (yc (zi (zd ?_)))
    refine zc rfl (zf rfl yv (zb rfl)) wb ?_
    refine zc rfl (zy rfl x4 rfl rfl) wJ ?_
    refine zc rfl (zg rfl wF (zb rfl)) yF ?_
    refine ze (yp ?_)
    obtain rfl:=Option.some.inj hF
    exact ⟨s1,hl1,hK1,wk.le (by exact (.drop (.eq (.eq (.d4 (.drop (.eq (.cons (leV.of_eq rfl) (.cons (leV.of_eq (wn (by omega) (by omega))) (.d16 (.d16 (.drop (.drop leL.nil)))))))))))))⟩
  ·refine yx ?_
   refine zW ?_
   refine zP ?_
   refine zQ ?_
   refine zi (zk (zd ?_))
   refine zc rfl (zf rfl xy (zb rfl)) (sk x5) ?_
   refine zU hF (fun v19 hv19 hF=>?_)
   refine zN rfl (zF rfl rfl rfl (zp (gk y8) zx) (.cons (zb rfl) .nil)) ((ok24 hv19).le (.cons (leV.osl _ _ _) leL.nil)) (sk yu) ?_
   refine zc rfl (zg rfl (gk yz) (zb rfl)) xn ?_
   refine zc rfl (zg rfl rfl (zb rfl)) xJ ?_
   refine ze (zi (zH ?_))
   obtain rfl:=Option.some.inj hF
   refine q_retL rfl (zD yS (zD xl zE)) (zB (leV.refl _) rfl ?_)
   exact ⟨rfl,rfl⟩
theorem ok25 {path0:(List zR)} {c0:(List zR)} {i0:Nat} {res:Bool} {h:AH} (hb0:h.blk i0=some (.cells [.sl 1 (c0.map zI)])) (hF:qz path0 c0=some res):Spec Try.prog 25 [.sl 1 (path0.map zI),.ptr i0 0] h (fun rr hh=>rr=.bool res∧hh=h):=by
 unfold qz at hF
 refine zu Try.func25 rfl (by kernel_rfl) (env:=[.sl 1 (path0.map zI),.ptr i0 0,za,za,za,za,za,za]) (by rfl) ?_
 refine zk (zd ?_)
 refine zc rfl (zg rfl rfl (zb rfl)) x5 ?_
 refine ze (zi (zk (zd ?_)))
 refine zc rfl (b_load rfl ty24 yw hb0 (zt rfl) (zb rfl)) yu ?_
 refine zc rfl (zf rfl yl (zb rfl)) xg ?_
 refine zU hF (fun v1 hv1 hF=>?_)
 refine zN rfl (zF rfl rfl rfl (zp yz (zp yD zx)) (.cons (zb rfl) (.cons (zb rfl) .nil))) (ok15 hv1) xn ?_
 refine zc rfl (xF rfl yS rfl) xJ ?_
 refine zc rfl (zg rfl xl (zb rfl)) x5 ?_
 refine ze (zi (zH ?_))
 obtain rfl:=Option.some.inj hF
 refine zz rfl (zD y8 zE) (zB (leV.refl _) rfl ?_)
 exact ⟨rfl,rfl⟩
theorem ok9 {t0:(List GNode)} {p1:(List zR)} {res:((List GNode)×Int)} {h:AH}  (hF:qA t0 p1=some res):Spec Try.prog 9 [.sl 3 (t0.map GNode.row),.sl 1 (p1.map zI)] h (fun rr hh=>rr=.tup [.sl 3 (res.1.map GNode.row),.int .i64 res.2]∧hh=h):=by
 unfold qA at hF
 refine zu Try.func9 rfl (by kernel_rfl) (env:=[.sl 3 (t0.map GNode.row),.sl 1 (p1.map zI),za,za,za,za,za,za,za,za,za,za,za,za,za,za,za]) (by rfl) ?_
 refine zk (zd ?_)
 refine zc rfl (xI (n:=0) rfl yw (zb rfl) rfl rfl) x5 ?_
 refine zc rfl (zg rfl rfl (yE yZ)) yu ?_
 refine zc rfl (zg rfl rfl (zb rfl)) xg ?_
 refine ze (zi (zk (zk (zd ?_))))
 refine zc rfl (zf rfl yl (zb rfl)) xn ?_
 refine zU hF (fun v1 hv1 hF=>?_)
 refine zN rfl (zF rfl rfl rfl (zp yS zx) (.cons (zb rfl) .nil)) (ok17 hv1) xJ ?_
 refine zc rfl (xF rfl xl rfl) xM ?_
 refine zc rfl (zf rfl xc (zb rfl)) wv ?_
 refine zq rfl (fun hb=>zA rfl ty24 y8 rfl (zt rfl) (zb rfl)) yF ?_
 refine yO hF (fun v2 hv2 hF=>?_)
 refine ym rfl (fun hb=>zF rfl rfl rfl (zp (zn yv hb) zx) (.cons (zb rfl) .nil)) (fun hb=>ok18 (hv2 hb)) yL ?_
 refine zq rfl (fun hb=>xF rfl (zn yA hb) rfl) yQ ?_
 refine zc rfl (zM rfl xy rfl yK (yd (fun ht=>gF ht))) yW ?_
 refine ze (zi ?_)
 refine zL yN hF (fun hc3 hF=>?_) (fun hc3 hF=>?_)
 ·refine zk (zd ?_)
  refine zc rfl (zg rfl rfl (yE yZ)) yu ?_
  refine zc rfl (zg rfl rfl (zb rfl)) xg ?_
  refine ze (zi (zH (zw ?_)))
  obtain rfl:=Option.some.inj hF
  refine q_retL rfl (zD yz (zD yD zE)) (zB (leV.tup (.cons (leV.osl _ _ _) (.eq leL.nil))) rfl ?_)
  exact ⟨rfl,rfl⟩
 ·refine zG (zi (zk (zd ?_)))
  refine zc rfl (zf rfl yl (zb rfl)) y3 ?_
  refine zc rfl (s_makeFunc rfl rfl rfl) y2 ?_
  refine zU hF (fun v4 hv4 hF=>?_)
  refine zN rfl (zF rfl rfl rfl (zp y6 (zp rfl (zp yR zx))) (.cons (zb rfl) (.cons (yE yG) (.cons (zb rfl) .nil)))) ((ok19 (fun _ v L M hv=>ok25 (blk_ext2 (j:=0) rfl) hv) hv4).le (.eq (.cons (leV.osl _ _ _) (.eq leL.nil)))) xd ?_
  refine zc rfl (zg rfl xb (zb rfl)) yu ?_
  refine zc rfl (zg rfl rfl (zb rfl)) xg ?_
  refine ze (zi (zH ?_))
  obtain rfl:=Option.some.inj hF
  refine q_retL rfl (zD yz (zD yD zE)) (zB (leV.refl _) rfl ?_)
  exact ⟨rfl,rfl⟩
theorem ok45 {s0:(List GRow)} {seq1:(S:Type)→(S→GRow→Option (Bool×S))→S→Option S} {fseq1:FuncId} {aseq1 kseq1:List AV} {res:(List GRow)} {h:AH} (hseq1:∀ (S:Type) (Hy:S→AH) (nb nt:Nat),(∀ s,(Hy s).blks.length=nb)→(∀ s,(Hy s).toks.length=nt)→(∀ s,(Hy s).closed nb nt)→(∀ s,∃ L M,Hy s=h.ext L M)→∀ (y:S→GRow→Option (Bool×S)) (idy:Nat),idy < nb→(∀ s x b s' L M,y s x=some (b,s')→SpecY Try.prog idy [.agg [.sl 1 (x.path.map zI),.int .u8 x.leaf.typ,.int .i64 x.leaf.n,.int .u64 x.leaf.time,.int .u8 x.leaf.dot.actor.rep,.int .u32 x.leaf.dot.actor.inc,.int .u64 x.leaf.dot.seq,.str x.leaf.text,.sl 5 (x.leaf.items.map GItem.row),.sl 3 (x.leaf.tombs.map GDot.row)]] ((Hy s).ext L M) (fun rr hh=>rr=.bool b∧hh=(Hy s').ext L M))→∀ s s',seq1 S y s=some s'→Spec Try.prog fseq1 (aseq1++[.yld idy]++kseq1) (Hy s) (fun rr hh=>rr=.tup []∧hh=Hy s')) (hF:xK s0 seq1=some res):Spec Try.prog 45 [.osl none 10 (s0.map GRow.row),.fn (.func fseq1) aseq1 kseq1] h (fun rr hh=>rr=.sl 10 (res.map GRow.row)∧hh=h):=by
 unfold xK at hF
 refine yy Try.func45 rfl (by kernel_rfl) (env:=[.osl none 10 (s0.map GRow.row),.fn (.func fseq1) aseq1 kseq1,za,za,za,za,za,za,za,za,za,za,za]) (by rfl) (fun hlow hC=>?_)
 simp only [yj,AV.low,Bool.and_eq_true,Bool.true_and,and_true] at hlow
 have hlaseq1:∀ n m,h.blks.length≤n→h.toks.length≤m→yj n m aseq1=true:=fun n m h1 h2=>yY h1 h2 _ (by simp [hlow])
 have hlkseq1:∀ n m,h.blks.length≤n→h.toks.length≤m→yj n m kseq1=true:=fun n m h1 h2=>yY h1 h2 _ (by simp [hlow])
 refine zk (zd ?_)
 refine zc rfl (xI (n:=0) rfl yl (zb rfl) rfl rfl) yU ?_
 refine zc rfl (zg rfl rfl (yE w7)) yu ?_
 refine ze (zi (zk (zk (zd ?_))))
 refine zc rfl (zf rfl yw (zb rfl)) xn ?_
 refine ze (zi (zJ ?_))
 refine r_range (fun (s1:(List GRow))=>h) (fun (s1:(List GRow))=>[.cells [.osl (some (h.toks.length+0)) 10 (s1.map GRow.row)]]) (fun (s1:(List GRow))=>[(s1).length]) s0 hF (wk.trans (wk_tokB (j:=0) rfl yl rfl st0 rfl rfl) (wk.le (by exact (.drop (.drop (.eq (.drop (.drop (.drop (.eq (.d4 (.drop (.drop leL.nil))))))))))))) (fun _=>rfl) rfl rfl rfl (fun _=>rfl) rfl yS rfl (fun lp1 hlp1 r1 hr1q=>?_) (fun s1 H1 hH hF=>?_) (fun j1 s1 H1 hH hF=>?_)
 ·have hlowlp1:∀ q1 q2,(lp1 q1 q2).low (h.blks.length+2) (h.toks.length+1)=true:=by intro q1 q2;rw [hlp1];simp [Blk.low,yj,AV.low,hlaseq1,hlkseq1]
  refine Spec.mono (hseq1 _ (fam (fun (s1:(List GRow))=>h) (fun (s1:(List GRow))=>[.cells [.osl (some (h.toks.length+0)) 10 (s1.map GRow.row)]]) (fun (s1:(List GRow))=>[(s1).length]) lp1) (h.blks.length+2) (h.toks.length+1) (fun _=>by simp only [fam];rw [ext_len rfl];rfl) (fun _=>by simp only [fam];rw [ext_tlen rfl];rfl) (fun _=>closed_ext hC (Nat.le_add_right _ _) (Nat.le_add_right _ _) (by simp only [List.all_append,List.all_cons,List.all_nil,Bool.and_true,List.length_cons,List.length_nil,Nat.reduceAdd,Nat.zero_add,hlowlp1] <;> simp [Blk.low,yj,AV.low,hlaseq1,hlkseq1])) (fun _=>⟨_,_,rfl⟩) _ _ (Nat.lt_succ_self _) (y_body hlp1 (xs:=fun (x:GRow)=>[.agg [.sl 1 (x.path.map zI),.int .u8 x.leaf.typ,.int .i64 x.leaf.n,.int .u64 x.leaf.time,.int .u8 x.leaf.dot.actor.rep,.int .u32 x.leaf.dot.actor.inc,.int .u64 x.leaf.dot.seq,.str x.leaf.text,.sl 5 (x.leaf.items.map GItem.row),.sl 3 (x.leaf.tombs.map GDot.row)]]) (fun _=>rfl) (fun _=>rfl) rfl (fun _=>rfl) (fun _=>by simp only [setL,List.set_cons_succ,List.set_cons_zero];try rfl) (fun s1 x1 o1 L1 M1 H1 hH hF=>?_)) _ _ hr1q) (fun _ _ h=>h.2)
  obtain rfl:H1=((h.ext ([.cells [.osl (some (h.toks.length+0)) 10 (s1.map GRow.row)]]++[lp1 .ready none]) [(s1).length]).ext L1 M1).ext [] []:=hH
  refine zd ?_
  refine zc rfl (n_alloc (wI rfl rfl) (n:=0) rfl ze47 rfl) xg ?_
  refine zc rfl (n_store (wI rfl rfl) (cs':=[.sl 1 (x1.path.map zI),.int .u8 x1.leaf.typ,.int .i64 x1.leaf.n,.int .u64 x1.leaf.time,.int .u8 x1.leaf.dot.actor.rep,.int .u32 x1.leaf.dot.actor.inc,.int .u64 x1.leaf.dot.seq,.str x1.leaf.text,.sl 5 (x1.leaf.items.map GItem.row),.sl 3 (x1.leaf.tombs.map GDot.row)]) rfl ty47.choose_spec.1 yD xl (zb rfl) rfl rfl rfl rfl rfl) rfl ?_
  refine ze ?_
  refine q_assign rfl rfl ?_
  refine zJ (zd ?_)
  refine zc rfl (d_load rfl rfl ty32 yT rfl (zt rfl) (zb rfl)) xM ?_
  refine zc rfl (qB (wI rfl rfl) rfl ty47.choose_spec.1 yD rfl (zK (cs':=[.sl 1 (x1.path.map zI),.int .u8 x1.leaf.typ,.int .i64 x1.leaf.n,.int .u64 x1.leaf.time,.int .u8 x1.leaf.dot.actor.rep,.int .u32 x1.leaf.dot.actor.inc,.int .u64 x1.leaf.dot.seq,.str x1.leaf.text,.sl 5 (x1.leaf.items.map GItem.row),.sl 3 (x1.leaf.tombs.map GDot.row)]) ty47.choose_spec.2 rfl rfl) (zb rfl)) wv ?_
  refine zc rfl (z8 (es:=([x1]:List GRow).map GRow.row) rfl w7 ze47 rfl rfl (zY xy ye) (.cons (zb rfl) .nil) rfl rfl rfl) yF ?_
  refine xe hF (fun hm3 hF=>?_)
  refine zc rfl (d_appT (j:=0) (T':=[((s1++([x1]:List GRow))).length]) rfl rfl rfl rfl rfl w7 w7 xc yv (zb rfl) (zb rfl) xG hm3 rfl rfl) yL ?_
  refine zc rfl (d_store (A':=[.cells [.osl (some (h.toks.length+0)) 10 ((s1++([x1]:List GRow)).map GRow.row)]]++[lp1 .busy none]) (cs':=[.osl (some (h.toks.length+0)) 10 ((s1++([x1]:List GRow)).map GRow.row)]) rfl rfl ty32 yT yA (zb rfl) rfl rfl rfl rfl rfl rfl) rfl ?_
  refine ze (yc ?_)
  obtain rfl:=Option.some.inj hF
  exact q_roundN hC rfl rfl rfl rfl rfl rfl rfl rfl rfl rfl rfl (by simp only [List.all_append,List.all_cons,List.all_nil,Bool.and_true,List.length_cons,List.length_nil,Nat.reduceAdd,Nat.zero_add,hlowlp1] <;> simp [Blk.low,yj,AV.low,hlaseq1,hlkseq1])
 ·obtain rfl:H1=h.ext [.cells [.osl (some (h.toks.length+0)) 10 (s1.map GRow.row)],.dead] [(s1).length]:=hH
  refine yc (zi (zk (zd ?_)))
  refine zc rfl (zA rfl ty32 yT rfl (zt rfl) (zb rfl)) yQ ?_
  refine zc rfl (zg rfl yK (zb rfl)) yu ?_
  refine ze (zi (zH ?_))
  obtain rfl:=Option.some.inj hF
  refine zz rfl (zD yz zE) (zB (leV.osl _ _ _) rfl ?_)
  exact ⟨rfl,rfl⟩
 ·obtain rfl:H1=h.ext [.cells [.osl (some (h.toks.length+0)) 10 (s1.map GRow.row)],.dead] [(s1).length]:=hH
  cases hF
theorem okM45 {seq1:(S:Type)→(S→GRow→Option (Bool×S))→S→Option S} {fseq1:FuncId} {aseq1 kseq1:List AV} {bl tl:Nat} {res:(List GRow)} {h:AH} (hbl:h.blks.length=bl) (htl:h.toks.length=tl) (hseq1:∀ (S:Type) (Hy:S→AH) (nb nt:Nat),(∀ s,(Hy s).blks.length=nb)→(∀ s,(Hy s).toks.length=nt)→(∀ s,(Hy s).closed nb nt)→(∀ s,∃ L M,Hy s=h.ext L M)→∀ (y:S→GRow→Option (Bool×S)) (idy:Nat),idy < nb→(∀ s x b s' L M,y s x=some (b,s')→SpecY Try.prog idy [.agg [.nsl 1 (x.path.map zI),.int .u8 x.leaf.typ,.int .i64 x.leaf.n,.int .u64 x.leaf.time,.int .u8 x.leaf.dot.actor.rep,.int .u32 x.leaf.dot.actor.inc,.int .u64 x.leaf.dot.seq,.str x.leaf.text,.nsl 5 (x.leaf.items.map GItem.row),.nsl 3 (x.leaf.tombs.map GDot.row)]] ((Hy s).ext L M) (fun rr hh=>rr=.bool b∧hh=(Hy s').ext L M))→∀ s s',seq1 S y s=some s'→Spec Try.prog fseq1 (aseq1++[.yld idy]++kseq1) (Hy s) (fun rr hh=>rr=.tup []∧hh=Hy s')) (hF:xK ([]:List GRow) seq1=some res):Spec Try.prog 45 [.osl none 10 [],.fn (.func fseq1) aseq1 kseq1] h (fun rr hh=>rr=.rsl bl tl 10 (res).length∧hh=h.ext [.row tl 10 (res.map GRow.rowN)] [(res).length]):=by
 unfold xK at hF
 subst hbl htl
 refine yy Try.func45 rfl (by kernel_rfl) (env:=[.osl none 10 [],.fn (.func fseq1) aseq1 kseq1,za,za,za,za,za,za,za,za,za,za,za]) (by rfl) (fun hlow hC=>?_)
 simp only [yj,AV.low,Bool.and_eq_true,Bool.true_and,and_true] at hlow
 have hlaseq1:∀ n m,h.blks.length≤n→h.toks.length≤m→yj n m aseq1=true:=fun n m h1 h2=>yY h1 h2 _ (by simp [hlow])
 have hlkseq1:∀ n m,h.blks.length≤n→h.toks.length≤m→yj n m kseq1=true:=fun n m h1 h2=>yY h1 h2 _ (by simp [hlow])
 refine zk (zd ?_)
 refine ops_swk (swk_thaw yl rfl rfl st0 rfl rfl) ?_
 refine zc rfl (xI (n:=1) rfl yl (zb rfl) rfl rfl) yU ?_
 refine zc rfl (zg rfl rfl (yE w7)) yu ?_
 refine ze (zi (zk (zk (zd ?_))))
 refine zc rfl (zf rfl yw (zb rfl)) xn ?_
 refine ze (zi (zJ ?_))
 refine r_range (k:=2) (fun (s1:(List GRow))=>h) (fun (s1:(List GRow))=>[.row (h.toks.length+0) 10 (s1.map GRow.rowN),.cells [.rsl (h.blks.length+0) (h.toks.length+0) 10 ((s1).length)]]) (fun (s1:(List GRow))=>[(s1).length]) ([]:List GRow) hF (wk.le (by exact (.drop (.drop (.eq (.drop (.drop (.drop (.eq (.d4 (.drop (.drop leL.nil)))))))))))) (fun _=>rfl) rfl rfl rfl (fun _=>rfl) rfl yS rfl (fun lp1 hlp1 r1 hr1q=>?_) (fun s1 H1 hH hF=>?_) (fun j1 s1 H1 hH hF=>?_)
 ·have hlowlp1:∀ q1 q2,(lp1 q1 q2).low (h.blks.length+3) (h.toks.length+1)=true:=by intro q1 q2;rw [hlp1];simp [Blk.low,yj,AV.low,hlaseq1,hlkseq1]
  refine Spec.mono (hseq1 _ (fam (fun (s1:(List GRow))=>h) (fun (s1:(List GRow))=>[.row (h.toks.length+0) 10 (s1.map GRow.rowN),.cells [.rsl (h.blks.length+0) (h.toks.length+0) 10 ((s1).length)]]) (fun (s1:(List GRow))=>[(s1).length]) lp1) (h.blks.length+3) (h.toks.length+1) (fun _=>by simp only [fam];rw [ext_len rfl];rfl) (fun _=>by simp only [fam];rw [ext_tlen rfl];rfl) (fun _=>closed_ext hC (Nat.le_add_right _ _) (Nat.le_add_right _ _) (by simp only [List.all_append,List.all_cons,List.all_nil,Bool.and_true,List.length_cons,List.length_nil,Nat.reduceAdd,Nat.zero_add,hlowlp1] <;> simp [Blk.low,yj,AV.low,hlaseq1,hlkseq1])) (fun _=>⟨_,_,rfl⟩) _ _ (Nat.lt_succ_self _) (y_body hlp1 (xs:=fun (x:GRow)=>[.agg [.nsl 1 (x.path.map zI),.int .u8 x.leaf.typ,.int .i64 x.leaf.n,.int .u64 x.leaf.time,.int .u8 x.leaf.dot.actor.rep,.int .u32 x.leaf.dot.actor.inc,.int .u64 x.leaf.dot.seq,.str x.leaf.text,.nsl 5 (x.leaf.items.map GItem.row),.nsl 3 (x.leaf.tombs.map GDot.row)]]) (fun _=>rfl) (fun _=>rfl) rfl (fun _=>rfl) (fun _=>by simp only [setL,List.set_cons_succ,List.set_cons_zero];try rfl) (fun s1 x1 o1 L1 M1 H1 hH hF=>?_)) _ _ hr1q) (fun _ _ h=>h.2)
  obtain rfl:H1=((h.ext ([.row (h.toks.length+0) 10 (s1.map GRow.rowN),.cells [.rsl (h.blks.length+0) (h.toks.length+0) 10 ((s1).length)]]++[lp1 .ready none]) [(s1).length]).ext L1 M1).ext [] []:=hH
  refine zd ?_
  refine zc rfl (n_alloc (wI rfl rfl) (n:=0) rfl ze47 rfl) xg ?_
  refine zc rfl (n_store (wI rfl rfl) (cs':=[.nsl 1 (x1.path.map zI),.int .u8 x1.leaf.typ,.int .i64 x1.leaf.n,.int .u64 x1.leaf.time,.int .u8 x1.leaf.dot.actor.rep,.int .u32 x1.leaf.dot.actor.inc,.int .u64 x1.leaf.dot.seq,.str x1.leaf.text,.nsl 5 (x1.leaf.items.map GItem.row),.nsl 3 (x1.leaf.tombs.map GDot.row)]) rfl ty47.choose_spec.1 yD xl (zb rfl) rfl rfl rfl rfl rfl) rfl ?_
  refine ze ?_
  refine q_assign rfl rfl ?_
  refine zJ (zd ?_)
  refine zc rfl (d_load rfl rfl ty32 yT rfl (zt rfl) (zb rfl)) xM ?_
  refine zc rfl (qB (wI rfl rfl) rfl ty47.choose_spec.1 yD rfl (zK (cs':=[.nsl 1 (x1.path.map zI),.int .u8 x1.leaf.typ,.int .i64 x1.leaf.n,.int .u64 x1.leaf.time,.int .u8 x1.leaf.dot.actor.rep,.int .u32 x1.leaf.dot.actor.inc,.int .u64 x1.leaf.dot.seq,.str x1.leaf.text,.nsl 5 (x1.leaf.items.map GItem.row),.nsl 3 (x1.leaf.tombs.map GDot.row)]) ty47.choose_spec.2 rfl rfl) (zb rfl)) wv ?_
  refine zc rfl (z8 (es:=([x1]:List GRow).map GRow.rowN) rfl w7 ze47 rfl rfl (zY xy ye) (.cons (zb rfl) .nil) rfl rfl rfl) yF ?_
  refine xe hF (fun hm3 hF=>?_)
  refine zc rfl (d_appR (i:=0) (j:=0) (A':=[.row (h.toks.length+0) 10 ((s1++([x1]:List GRow)).map GRow.rowN),.cells [.rsl (h.blks.length+0) (h.toks.length+0) 10 ((s1).length)]]++[lp1 .busy none]) (T':=[((s1++([x1]:List GRow))).length]) rfl rfl rfl rfl rfl rfl w7 w7 xc yv rfl (zb rfl) xG hm3 rfl rfl rfl rfl rfl) yL ?_
  refine zc rfl (d_store (A':=[.row (h.toks.length+0) 10 ((s1++([x1]:List GRow)).map GRow.rowN),.cells [.rsl (h.blks.length+0) (h.toks.length+0) 10 (((s1++([x1]:List GRow))).length)]]++[lp1 .busy none]) (cs':=[.rsl (h.blks.length+0) (h.toks.length+0) 10 (((s1++([x1]:List GRow))).length)]) rfl rfl ty32 yT yA (zb rfl) rfl rfl rfl rfl rfl rfl) rfl ?_
  refine ze (yc ?_)
  obtain rfl:=Option.some.inj hF
  exact q_roundN hC rfl rfl rfl rfl rfl rfl rfl rfl rfl rfl rfl (by simp only [List.all_append,List.all_cons,List.all_nil,Bool.and_true,List.length_cons,List.length_nil,Nat.reduceAdd,Nat.zero_add,hlowlp1] <;> simp [Blk.low,yj,AV.low,hlaseq1,hlkseq1])
 ·obtain rfl:H1=h.ext [.row (h.toks.length+0) 10 (s1.map GRow.rowN),.cells [.rsl (h.blks.length+0) (h.toks.length+0) 10 ((s1).length)],.dead] [(s1).length]:=hH
  refine yc (zi (zk (zd ?_)))
  refine zc rfl (zA rfl ty32 yT rfl (zt rfl) (zb rfl)) yQ ?_
  refine zc rfl (zg rfl yK (zb rfl)) yu ?_
  refine ze (zi (zH ?_))
  obtain rfl:=Option.some.inj hF
  refine zz rfl (zD yz zE) (fin_row1 (hds_row (j:=0) (i:=0) rfl (by simp)) ?_)
  exact ⟨by simp only [List.length_map];try rfl,by simp only [List.length_map];try rfl⟩
 ·obtain rfl:H1=h.ext [.row (h.toks.length+0) 10 (s1.map GRow.rowN),.cells [.rsl (h.blks.length+0) (h.toks.length+0) 10 ((s1).length)],.dead] [(s1).length]:=hH
  cases hF
theorem ok26 {seq0:(S:Type)→(S→GRow→Option (Bool×S))→S→Option S} {fseq0:FuncId} {aseq0 kseq0:List AV} {res:(List GRow)} {h:AH} (hseq0:∀ (S:Type) (Hy:S→AH) (nb nt:Nat),(∀ s,(Hy s).blks.length=nb)→(∀ s,(Hy s).toks.length=nt)→(∀ s,(Hy s).closed nb nt)→(∀ s,∃ L M,Hy s=h.ext L M)→∀ (y:S→GRow→Option (Bool×S)) (idy:Nat),idy < nb→(∀ s x b s' L M,y s x=some (b,s')→SpecY Try.prog idy [.agg [.sl 1 (x.path.map zI),.int .u8 x.leaf.typ,.int .i64 x.leaf.n,.int .u64 x.leaf.time,.int .u8 x.leaf.dot.actor.rep,.int .u32 x.leaf.dot.actor.inc,.int .u64 x.leaf.dot.seq,.str x.leaf.text,.sl 5 (x.leaf.items.map GItem.row),.sl 3 (x.leaf.tombs.map GDot.row)]] ((Hy s).ext L M) (fun rr hh=>rr=.bool b∧hh=(Hy s').ext L M))→∀ s s',seq0 S y s=some s'→Spec Try.prog fseq0 (aseq0++[.yld idy]++kseq0) (Hy s) (fun rr hh=>rr=.tup []∧hh=Hy s')) (hF:wl seq0=some res):Spec Try.prog 26 [.fn (.func fseq0) aseq0 kseq0] h (fun rr hh=>rr=.sl 10 (res.map GRow.row)∧hh=h):=by
 unfold wl at hF
 refine yy Try.func26 rfl (by kernel_rfl) (env:=[.fn (.func fseq0) aseq0 kseq0,za,za,za,za]) (by rfl) (fun hlow hC=>?_)
 simp only [yj,AV.low,Bool.and_eq_true,Bool.true_and,and_true] at hlow
 have hlaseq0:∀ n m,h.blks.length≤n→h.toks.length≤m→yj n m aseq0=true:=fun n m h1 h2=>yY h1 h2 _ (by simp [hlow])
 have hlkseq0:∀ n m,h.blks.length≤n→h.toks.length≤m→yj n m kseq0=true:=fun n m h1 h2=>yY h1 h2 _ (by simp [hlow])
 refine zk (zd ?_)
 refine zc rfl (zg rfl rfl (yE w7)) yU ?_
 refine ze (zi (zk (zd ?_)))
 refine zc rfl (zf rfl yl (zb rfl)) x5 ?_
 refine zU hF (fun v1 hv1 hF=>?_)
 refine zN rfl (zF rfl rfl rfl (zp rfl (zp y8 zx)) (.cons (yE w7) (.cons (zb rfl) .nil))) (ok45 (fun S Hy nb nt hN hNt hC hE y idy hly hy s s' hF=>hseq0 S Hy nb nt hN hNt hC (fun s=>by obtain ⟨L,M,e⟩:=hE s;exact ⟨_,_,by rw [e,wG]⟩) y idy hly hy s s' hF) hv1) yu ?_
 refine zc rfl (zg rfl yz (zb rfl)) yU ?_
 refine ze (zi (zH ?_))
 obtain rfl:=Option.some.inj hF
 refine zz rfl (zD yT zE) (zB (leV.refl _) rfl ?_)
 exact ⟨rfl,rfl⟩
theorem okM26 {seq0:(S:Type)→(S→GRow→Option (Bool×S))→S→Option S} {fseq0:FuncId} {aseq0 kseq0:List AV} {bl tl:Nat} {res:(List GRow)} {h:AH} (hbl:h.blks.length=bl) (htl:h.toks.length=tl) (hseq0:∀ (S:Type) (Hy:S→AH) (nb nt:Nat),(∀ s,(Hy s).blks.length=nb)→(∀ s,(Hy s).toks.length=nt)→(∀ s,(Hy s).closed nb nt)→(∀ s,∃ L M,Hy s=h.ext L M)→∀ (y:S→GRow→Option (Bool×S)) (idy:Nat),idy < nb→(∀ s x b s' L M,y s x=some (b,s')→SpecY Try.prog idy [.agg [.nsl 1 (x.path.map zI),.int .u8 x.leaf.typ,.int .i64 x.leaf.n,.int .u64 x.leaf.time,.int .u8 x.leaf.dot.actor.rep,.int .u32 x.leaf.dot.actor.inc,.int .u64 x.leaf.dot.seq,.str x.leaf.text,.nsl 5 (x.leaf.items.map GItem.row),.nsl 3 (x.leaf.tombs.map GDot.row)]] ((Hy s).ext L M) (fun rr hh=>rr=.bool b∧hh=(Hy s').ext L M))→∀ s s',seq0 S y s=some s'→Spec Try.prog fseq0 (aseq0++[.yld idy]++kseq0) (Hy s) (fun rr hh=>rr=.tup []∧hh=Hy s')) (hF:wl seq0=some res):Spec Try.prog 26 [.fn (.func fseq0) aseq0 kseq0] h (fun rr hh=>rr=.rsl bl tl 10 (res).length∧hh=h.ext [.row tl 10 (res.map GRow.rowN)] [(res).length]):=by
 unfold wl at hF
 subst hbl htl
 refine yy Try.func26 rfl (by kernel_rfl) (env:=[.fn (.func fseq0) aseq0 kseq0,za,za,za,za]) (by rfl) (fun hlow hC=>?_)
 simp only [yj,AV.low,Bool.and_eq_true,Bool.true_and,and_true] at hlow
 have hlaseq0:∀ n m,h.blks.length≤n→h.toks.length≤m→yj n m aseq0=true:=fun n m h1 h2=>yY h1 h2 _ (by simp [hlow])
 have hlkseq0:∀ n m,h.blks.length≤n→h.toks.length≤m→yj n m kseq0=true:=fun n m h1 h2=>yY h1 h2 _ (by simp [hlow])
 refine zk (zd ?_)
 refine zc rfl (zg rfl rfl (yE w7)) yU ?_
 refine ze (zi (zk (zd ?_)))
 refine zc rfl (zf rfl yl (zb rfl)) x5 ?_
 refine zU hF (fun v1 hv1 hF=>?_)
 refine qR rfl (zF rfl rfl rfl (zp rfl (zp y8 zx)) (.cons (yE w7) (.cons (zb rfl) .nil))) (row_newv (v':=.rsl (h.blks.length+0) (h.toks.length+0) 10 ((v1).length)) (B':=[.row (h.toks.length+0) 10 (v1.map GRow.rowN)]) (T':=[(v1).length]) (okM45 (by rw [ext_bl];rfl) (by rw [ext_tl];rfl) (fun S Hy nb nt hN hNt hC hE y idy hly hy s s' hF=>hseq0 S Hy nb nt hN hNt hC (fun s=>by obtain ⟨L,M,e⟩:=hE s;exact ⟨_,_,by rw [e,wG]⟩) y idy hly hy s s' hF) hv1) rfl rfl rfl) yu ?_
 refine zc rfl (zg rfl yz (zb rfl)) yU ?_
 refine ze (zi (zH ?_))
 obtain rfl:=Option.some.inj hF
 refine zz rfl (zD yT zE) (fin_row1 (hds_row (j:=0) (i:=0) rfl (by simp)) ?_)
 exact ⟨by simp only [List.length_map];try rfl,by simp only [List.length_map];try rfl⟩
theorem ok27 {t0:(List GNode)} {ahead1:(List zR)} {res:((List GNode)×(List zR))} {h:AH}  (hF:qQ t0 ahead1=some res):Spec Try.prog 27 [.sl 3 (t0.map GNode.row),.sl 1 (ahead1.map zI)] h (CloK h 46 [.cells [.sl 3 (res.1.map GNode.row)],.cells [.sl 1 (res.2.map zI)]]):=by
 unfold qQ at hF
 refine zu Try.func27 rfl (by kernel_rfl) (env:=[.sl 3 (t0.map GNode.row),.sl 1 (ahead1.map zI),za,za,za,za]) (by rfl) ?_
 refine zk (zd ?_)
 refine zc rfl (xI (n:=0) rfl yl (zb rfl) rfl rfl) yU ?_
 refine zc rfl (xI (n:=1) rfl yw (zb rfl) rfl rfl) x5 ?_
 refine zc rfl (zg rfl rfl (zb rfl)) yu ?_
 refine ze (zi (zk (zd ?_)))
 refine zc rfl (s_makeFunc rfl rfl rfl) xg ?_
 refine zc rfl (zg rfl yD (zb rfl)) yu ?_
 refine ze (zi (zH ?_))
 obtain rfl:=Option.some.inj hF
 refine zz rfl (zD yz zE) (fin_clo (bs:=[.cells [.sl 3 (t0.map GNode.row)],.cells [.sl 1 (ahead1.map zI)]]) (by simp [AV.low,yj]) rfl (by simp [Blk.low,yj,AV.low]) ?_)
 exact ⟨rfl,rfl⟩
theorem ok46N (n:Nat):∀ {S:Type} {Hy:S→AH} {nb nt:Nat} {yield0:S→GRow→Option (Bool×S)} {idy:Nat} {c0:(List GNode)} {i0:Nat} {c1:(List zR)} {i1:Nat} {s0:S} {res:S} (hN:∀ s,(Hy s).blks.length=nb) (hNt:∀ s,(Hy s).toks.length=nt) (hC:∀ s,(Hy s).closed nb nt) (hly:idy < nb) (hy:∀ s x b s' L M,yield0 s x=some (b,s')→SpecY Try.prog idy [.agg [.sl 1 (x.path.map zI),.int .u8 x.leaf.typ,.int .i64 x.leaf.n,.int .u64 x.leaf.time,.int .u8 x.leaf.dot.actor.rep,.int .u32 x.leaf.dot.actor.inc,.int .u64 x.leaf.dot.seq,.str x.leaf.text,.sl 5 (x.leaf.items.map GItem.row),.sl 3 (x.leaf.tombs.map GDot.row)]] ((Hy s).ext L M) (fun rr hh=>rr=.bool b∧hh=(Hy s').ext L M)) (hb0:∀ s,(Hy s).blk i0=some (.cells [.sl 3 (c0.map GNode.row)])) (hb1:∀ s,(Hy s).blk i1=some (.cells [.sl 1 (c1.map zI)])),xq n S yield0 c0 c1 s0=some res→Spec Try.prog 46 [.yld idy,.ptr i0 0,.ptr i1 0] (Hy s0) (fun rr hh=>rr=.tup []∧hh=Hy res):=by
 induction n with
 | zero=>intro S Hy nb nt yield0 idy c0 i0 c1 i1 s0 res hN hNt hC hly hy hb0 hb1 hF;simp [xq] at hF
 | succ n ih =>
  intro S Hy nb nt yield0 idy c0 i0 c1 i1 s0 res hN hNt hC hly hy hb0 hb1 hF
  unfold xq at hF
  refine zu Try.func46 rfl (by kernel_rfl) (env:=[.yld idy,.ptr i0 0,.ptr i1 0,za,za,za,za,za,za,za,za,za,za,za,za,za,za,za,za,za,za,za,za,za,za,za,za,za,za,za,za,za,za,za,za,za,za,za,za,za,za,za,za,za,za,za,za,za]) (by rfl) ?_
  have hly2:∀ k,idy < nb+k:=fun k=>Nat.lt_of_lt_of_le hly (Nat.le_add_right _ _)
  have hli0:=blk_lt (hb0 s0) (hN s0)
  have hli0b:∀ k,i0 < nb+k:=fun k=>Nat.lt_of_lt_of_le hli0 (Nat.le_add_right _ _)
  have hli1:=blk_lt (hb1 s0) (hN s0)
  have hli1b:∀ k,i1 < nb+k:=fun k=>Nat.lt_of_lt_of_le hli1 (Nat.le_add_right _ _)
  refine zk (zd ?_)
  refine zc rfl (n_box (hN _) (n:=0) rfl yl (zb rfl) rfl rfl) x5 ?_
  refine ze (zi (zk (zd ?_)))
  refine zc rfl (b_load rfl ty23 yw (hb0 _) (zt rfl) (zb rfl)) yF ?_
  refine zZ rfl (zO rfl rfl rfl rfl yZ yv ya) yL fun hn1=>?_
  replace hn1:=y9 hn1
  refine zc rfl (zf rfl rfl (zb rfl)) yQ ?_
  refine ze (zi (zJ ?_))
  refine yi (fun (n1:Nat) (s1:S)=>yr [0,1,4,5,6,7,8,9,13,14,15,16,17,18,19,20,21,22,23,24,25,26,27,28,29,30,31,32,33,34,35,36,37,38,39,40,41,42,43,44,45,46,47] [(12,.int .i64 (n1:Int))]) (fun s1=>(Hy s1).ext [.cells [.yld idy]] []) hF (fun _ _=>by simp only [yr,qN,List.set_cons_succ,List.set_cons_zero];try rfl) (wk.le (by exact (.drop (.drop (.eq (.eq (.d4 (.drop (.drop (.eq (.eq (.cons (leV.of_eq rfl) (.d16 (.d16 (.drop (.drop (.drop leL.nil))))))))))))))))) ?_
  intro n1 s1 hi1 hF
  refine zk (zd ?_)
  refine zc rfl (zy rfl yK yA rfl) yW ?_
  refine ze (zi (zk ?_))
  refine yo yN hF (fun x1 o1 hl1 hx1 hF hK1=>?_) (fun hF=>?_)
  ·refine zG (zi (zk (zJ (zk (zd ?_)))))
   refine zc rfl (xa rfl yZ yv yK xZ (yn hx1) (GNode.row_eq _)) y3 ?_
   refine zc rfl (zX rfl ty64.choose_spec.1 y6 (zK (cs':=[.str x1.name,.sl 9 (x1.leaves.map GLeaf.row),.sl 3 (x1.subs.map GNode.row)]) ty64.choose_spec.2 rfl rfl) (zb rfl)) y2 ?_
   refine zc rfl (n_alloc (hN _) (n:=1) rfl ze64 rfl) xg ?_
   refine zc rfl (n_store (hN _) (cs':=[.str x1.name,.sl 9 (x1.leaves.map GLeaf.row),.sl 3 (x1.subs.map GNode.row)]) rfl ty64.choose_spec.1 yD yR (zb rfl) rfl rfl rfl rfl rfl) rfl ?_
   refine ze (zi (zk ?_))
   refine yk [] [] trivial mixed (by kernel_rfl) ?_
   refine zo rfl rfl (b_load rfl ty24 yT (hb1 _) (zt rfl) (zb rfl)) xd ?_
   refine zU hF (fun v37 hv37 hF=>?_)
   refine qY rfl FOk.nil (by rfl) rfl (zF rfl rfl rfl (zp xb zx) (.cons (zb rfl) .nil)) (n_own (hNt _) (T':=[(v37).length]) (ok38 hv37) (m:=0) rfl rfl) xi ?_
   refine zo rfl rfl (zj rfl vX yD rfl) xr ?_
   refine zo rfl rfl (qB (hN _) rfl qa xp rfl (zt rfl) (zb rfl)) xE ?_
   refine zo rfl rfl (z8 (es:=([x1.name]:List zR).map zI) rfl yG ze9 rfl rfl (zY xH ye) (.cons (zb rfl) .nil) rfl rfl rfl) xR ?_
   refine xe hF (fun hm38 hF=>?_)
   refine xW rfl FOk.nil (by rfl) rfl (n_appT (hNt _) (j:=0) (T':=[((v37++([x1.name]:List zR))).length]) rfl rfl rfl rfl yG yG xj xO (zb rfl) (zb rfl) xG hm38 rfl rfl) xY ?_
   refine zo rfl rfl (zg rfl xV (zb rfl)) xn ?_
   refine yh ?_
   refine zi (zk (zk (zd ?_)))
   refine zc rfl (zj rfl xh yD rfl) x7 ?_
   refine zc rfl (qB (hN _) rfl qb x9 rfl (zt rfl) (zb rfl)) xQ ?_
   refine zZ rfl (zO rfl rfl rfl rfl wh xB ya) wc fun hn39=>?_
   replace hn39:=y9 hn39
   refine zc rfl (zf rfl rfl (zb rfl)) wb ?_
   refine ze (zi (zJ ?_))
   refine yi (fun (n2:Nat) (s2:S)=>yr [0,1,4,7,8,9,13,14,15,16,17,18,19,20,21,22,26,27,28,29,30,31,32,33,34,35,36,37,38,39,40,41,42,43,44,45,46,47] [(25,.int .i64 (n2:Int))]) (fun s2=>(Hy s2).ext [.cells [.yld idy],.cells [.str x1.name,.sl 9 (x1.leaves.map GLeaf.row),.sl 3 (x1.subs.map GNode.row)]] [((v37++([x1.name]:List zR))).length]) hF (fun _ _=>by simp only [yr,qN,List.set_cons_succ,List.set_cons_zero];try rfl) (wk.le (by exact (.drop (.drop (.eq (.eq (.drop (.eq (.eq (.drop (.drop (.drop (.eq (.eq (.eq (.d4 (.d4 (.drop (.drop (.eq (.eq (.cons (leV.of_eq rfl) (.d16 (.d4 (.drop (.drop leL.nil)))))))))))))))))))))))))) ?_
   intro n2 s2 hi2 hF
   refine zk (zd ?_)
   refine zc rfl (zy rfl x4 wg rfl) wJ ?_
   refine ze (zi (zk ?_))
   refine yo wF hF (fun x2 o2 hl2 hx2 hF hK2=>?_) (fun hF=>?_)
   ·refine zG (zi (zk (zJ (zk (zd ?_)))))
    refine zc rfl (yg rfl wh xB x4 xZ (yn hx2)) wR ?_
    refine zc rfl (zX rfl ty45.choose_spec.1 wU (zK (cs':=[.int .u8 x2.typ,.int .i64 x2.n,.int .u64 x2.time,.int .u8 x2.dot.actor.rep,.int .u32 x2.dot.actor.inc,.int .u64 x2.dot.seq,.str x2.text,.sl 5 (x2.items.map GItem.row),.sl 3 (x2.tombs.map GDot.row)]) ty45.choose_spec.2 rfl rfl) (zb rfl)) wZ ?_
    refine zc rfl (n_alloc (hN _) (n:=2) rfl ze45 rfl) xM ?_
    refine zc rfl (n_store (hN _) (cs':=[.int .u8 x2.typ,.int .i64 x2.n,.int .u64 x2.time,.int .u8 x2.dot.actor.rep,.int .u32 x2.dot.actor.inc,.int .u64 x2.dot.seq,.str x2.text,.sl 5 (x2.items.map GItem.row),.sl 3 (x2.tombs.map GDot.row)]) rfl ty45.choose_spec.1 xc w6 (zb rfl) rfl rfl rfl rfl rfl) rfl ?_
    refine ze (zi (zk ?_))
    refine yk [4] [] trivial mixed (by kernel_rfl) ?_
    refine zo rfl rfl (qB (hN _) rfl ty80 y8 rfl (zt rfl) (zb rfl)) vf ?_
    refine zo rfl rfl (zf rfl yS (zb rfl)) ve ?_
    refine zU hF (fun v51 hv51 hF=>?_)
    refine qY rfl (FOk.cons (.inr (qD trivial)) FOk.nil) (by rfl) rfl (zF rfl rfl rfl (zp vn zx) (.cons (zb rfl) .nil)) (n_own (hNt _) (T':=[((v37++([x1.name]:List zR))).length,(v51).length]) ((ok38 hv51).le (.cons (leV.osl _ _ _) leL.nil)) (m:=1) rfl rfl) vd ?_
    refine zo rfl rfl (qB (hN _) rfl ty45.choose_spec.1 xc rfl (zK (cs':=[.int .u8 x2.typ,.int .i64 x2.n,.int .u64 x2.time,.int .u8 x2.dot.actor.rep,.int .u32 x2.dot.actor.inc,.int .u64 x2.dot.seq,.str x2.text,.sl 5 (x2.items.map GItem.row),.sl 3 (x2.tombs.map GDot.row)]) ty45.choose_spec.2 rfl rfl) (zb rfl)) vc ?_
    refine zU hF (fun v52 hv52 hF=>?_)
    refine yC rfl rfl (fun _=>zF rfl rfl rfl (zp w5 zx) (.cons (zb rfl) .nil)) (by rintro _ ⟨B2,T2,rfl,hk2⟩;exact ok39 hv52) vu ?_
    refine zo rfl rfl (s_build (cs':=[.osl (some (nt+1)) 1 (v51.map zI),.int .u8 v52.typ,.int .i64 v52.n,.int .u64 v52.time,.int .u8 v52.dot.actor.rep,.int .u32 v52.dot.actor.inc,.int .u64 v52.dot.seq,.str v52.text,.sl 5 (v52.items.map GItem.row),.sl 3 (v52.tombs.map GDot.row)]) rfl su47 ze47 pl47 (zY vm (zY vA ye)) (.cons (zb rfl) (.cons (zb rfl) .nil)) rfl rfl) vt ?_
    refine zU hF (fun v53 hv53 hF=>?_)
    refine draw_round rfl (FOk.cons (.inl (by kernel_rfl)) FOk.nil) (by kernel_rfl) rfl (s_yield rfl rfl vo (zp vl zx) (.cons (zb rfl) .nil)) ((hy _ _ _ _ _ _ hv53).le (.cons (leV.agg (.cons (leV.osl _ _ _) (.eq (.eq (.eq (.eq (.eq (.eq (.eq (.eq (.eq leL.nil)))))))))) rfl) leL.nil)) vb ?_
    refine zo rfl rfl (xF rfl vk rfl) wQ ?_
    refine yh ?_
    refine zi ?_
    refine zL wN hF (fun hc54 hF=>?_) (fun hc54 hF=>?_)
    ·refine zH ?_
     refine zC ?_
     refine zw ?_
     refine yb ?_
     obtain rfl:=Option.some.inj hF
     replace hF:=hK2
     refine zC ?_
     refine zw ?_
     refine zC ?_
     refine zw ?_
     refine yb ?_
     obtain rfl:=Option.some.inj hF
     replace hF:=hK1
     refine zC ?_
     obtain rfl:=Option.some.inj hF
     refine q_retL0 rfl zE (fin_exts (hN _) (hNt _) (hN _) (hNt _) (hC _) (leV.refl _) rfl ?_)
     exact ⟨rfl,rfl⟩
    ·refine zG (yc (zi (zd ?_)))
     refine zc rfl (zy rfl x4 rfl rfl) va ?_
     refine zc rfl (zf rfl vj (zb rfl)) wb ?_
     refine ze (yp ?_)
     obtain rfl:=Option.some.inj hF
     exact ⟨v53.2,hl2,hK2,wk.trans (wk.le (by exact (.drop (.drop (.eq (.eq (.drop (.eq (.eq (.drop (.drop (.drop (.eq (.eq (.eq (.d4 (.d4 (.drop (.drop (.eq (.eq (.cons (leV.of_eq (wn (by omega) (by omega))) (.d16 (.d4 (.drop (.drop leL.nil)))))))))))))))))))))))))) (wk_ext3s (hN _) (hNt _) (hN _) (hNt _) (hC _) (by simp [yj,AV.low,hly,hly2,hli0,hli0b,hli1,hli1b]) rfl rfl (by simp [Blk.low,yj,AV.low,hly,hly2,hli0,hli0b,hli1,hli1b]))⟩
   ·refine yx ?_
    refine zW ?_
    refine zP ?_
    refine zQ ?_
    refine zi (zk (zd ?_))
    refine zc rfl (zj rfl qE yD rfl) vE ?_
    refine zc rfl (qB (hN _) rfl ty23 vz rfl (zt rfl) (zb rfl)) vJ ?_
    refine zc rfl (zf rfl yS (zb rfl)) (sk st0) ?_
    refine zU hF (fun v55 hv55 hF=>?_)
    refine qR rfl (zF rfl rfl rfl (zp vF (zp (gk yl) zx)) (.cons (zb rfl) (.cons (zb rfl) .nil))) (clo_ext (hN _) (n:=2) (B':=[.cells [.yld idy],.cells [.str x1.name,.sl 9 (x1.leaves.map GLeaf.row),.sl 3 (x1.subs.map GNode.row)],.cells [.sl 3 (v55.1.map GNode.row)],.cells [.sl 1 (v55.2.map zI)]]) (caps:=[.ptr (nb+2) 0,.ptr (nb+3) 0]) ((ok27 hv55).le (.eq (.cons (leV.osl _ _ _) leL.nil))) rfl rfl rfl) (sk st1) ?_
    refine ze (zi (zJ ?_))
    refine r_range (fun (s3:S)=>(Hy s3)) (fun (s3:S)=>[.cells [.yld idy],.cells [.str x1.name,.sl 9 (x1.leaves.map GLeaf.row),.sl 3 (x1.subs.map GNode.row)],.cells [.sl 3 (v55.1.map GNode.row)],.cells [.sl 1 (v55.2.map zI)]]) (fun (s3:S)=>[((v37++([x1.name]:List zR))).length]) s2 hF (wk.le (by exact (.drop (.drop (.eq (.eq (.d4 (.drop (.drop (.eq (.eq (.eq (.d16 (.d4 (.d4 (.d4 (.eq (.d4 (.drop (.drop leL.nil)))))))))))))))))))) (fun _=>(hN _)) rfl rfl rfl (fun _=>rfl) rfl (gk yw) rfl (fun lp3 hlp3 r3 hr3q=>?_) (fun s3 H1 hH hF=>?_) (fun j3 s3 H1 hH hF=>?_)
    ·have hlowlp3:∀ q1 q2,(lp3 q1 q2).low (nb+5) (nt+1)=true:=by intro q1 q2;rw [hlp3];simp [Blk.low,yj,AV.low,hly,hly2,hli0,hli0b,hli1,hli1b]
     refine Spec.mono (ih (Hy:=(fam (fun (s3:S)=>(Hy s3)) (fun (s3:S)=>[.cells [.yld idy],.cells [.str x1.name,.sl 9 (x1.leaves.map GLeaf.row),.sl 3 (x1.subs.map GNode.row)],.cells [.sl 3 (v55.1.map GNode.row)],.cells [.sl 1 (v55.2.map zI)]]) (fun (s3:S)=>[((v37++([x1.name]:List zR))).length]) lp3)) (nb:=nb+5) (nt:=nt+1) (fun _=>by simp only [fam];rw [ext_len (hN _)];rfl) (fun _=>by simp only [fam];rw [ext_tlen (hNt _)];rfl) (fun _=>closed_ext (hC _) (Nat.le_add_right _ _) (Nat.le_add_right _ _) (by simp only [List.all_append,List.all_cons,List.all_nil,Bool.and_true,List.length_cons,List.length_nil,Nat.reduceAdd,Nat.zero_add,hlowlp3] <;> simp [Blk.low,yj,AV.low,hly,hly2,hli0,hli0b,hli1,hli1b])) (Nat.lt_succ_self _) (y_body hlp3 (xs:=fun (x:GRow)=>[.agg [.sl 1 (x.path.map zI),.int .u8 x.leaf.typ,.int .i64 x.leaf.n,.int .u64 x.leaf.time,.int .u8 x.leaf.dot.actor.rep,.int .u32 x.leaf.dot.actor.inc,.int .u64 x.leaf.dot.seq,.str x.leaf.text,.sl 5 (x.leaf.items.map GItem.row),.sl 3 (x.leaf.tombs.map GDot.row)]]) (fun _=>(hN _)) (fun _=>rfl) rfl (fun _=>rfl) (fun _=>by simp only [setL,List.set_cons_succ,List.set_cons_zero];try rfl) (fun s3 x3 o3 L3 M3 H1 hH hF=>?_)) (fun _=>by simp only [fam];exact n_blk (j:=2) (hN _) rfl) (fun _=>by simp only [fam];exact n_blk (j:=3) (hN _) rfl) hr3q) (fun _ _ h=>h.2)
     obtain rfl:H1=(((Hy s3).ext ([.cells [.yld idy],.cells [.str x1.name,.sl 9 (x1.leaves.map GLeaf.row),.sl 3 (x1.subs.map GNode.row)],.cells [.sl 3 (v55.1.map GNode.row)],.cells [.sl 1 (v55.2.map zI)]]++[lp3 .ready none]) [((v37++([x1.name]:List zR))).length]).ext L3 M3).ext [] []:=hH
     refine zd ?_
     refine zc rfl (n_alloc (wI (hN _) rfl) (n:=0) rfl ze47 rfl) wv ?_
     refine zc rfl (n_store (wI (hN _) rfl) (cs':=[.sl 1 (x3.path.map zI),.int .u8 x3.leaf.typ,.int .i64 x3.leaf.n,.int .u64 x3.leaf.time,.int .u8 x3.leaf.dot.actor.rep,.int .u32 x3.leaf.dot.actor.inc,.int .u64 x3.leaf.dot.seq,.str x3.leaf.text,.sl 5 (x3.leaf.items.map GItem.row),.sl 3 (x3.leaf.tombs.map GDot.row)]) rfl ty47.choose_spec.1 xy (gk yT) (zb rfl) rfl rfl rfl rfl rfl) rfl ?_
     refine ze ?_
     refine q_assign (hN _) rfl ?_
     refine zJ (zk (zd ?_))
     refine zc rfl (d_load (hN _) rfl ty80 y8 rfl (zt rfl) (zb rfl)) (sk x5) ?_
     refine zc rfl (qB (wI (hN _) rfl) rfl ty47.choose_spec.1 xy rfl (zK (cs':=[.sl 1 (x3.path.map zI),.int .u8 x3.leaf.typ,.int .i64 x3.leaf.n,.int .u64 x3.leaf.time,.int .u8 x3.leaf.dot.actor.rep,.int .u32 x3.leaf.dot.actor.inc,.int .u64 x3.leaf.dot.seq,.str x3.leaf.text,.sl 5 (x3.leaf.items.map GItem.row),.sl 3 (x3.leaf.tombs.map GDot.row)]) ty47.choose_spec.2 rfl rfl) (zb rfl)) (sk yu) ?_
     refine zU hF (fun v64 hv64 hF=>?_)
     refine ops_round rfl (s_yield rfl rfl (gk y8) (zp (gk yz) zx) (.cons (zb rfl) .nil)) (SpecY.deep fun A B=>hy _ _ _ _ A B hv64) (sk xg) ?_
     refine zc rfl (xF rfl (gk yD) rfl) (sk xn) ?_
     refine ze (zi ?_)
     refine zL (gk yS) hF (fun hc65 hF=>?_) (fun hc65 hF=>?_)
     ·refine zH ?_
      refine zC ?_
      obtain rfl:=Option.some.inj hF
      exact q_roundR (hC _) (hN _) (hNt _) (hN _) (hNt _) rfl rfl rfl rfl rfl rfl rfl (by simp only [List.all_append,List.all_cons,List.all_nil,Bool.and_true,List.length_cons,List.length_nil,Nat.reduceAdd,Nat.zero_add,hlowlp3] <;> simp [Blk.low,yj,AV.low,hly,hly2,hli0,hli0b,hli1,hli1b])
     ·refine zG (yc ?_)
      obtain rfl:=Option.some.inj hF
      exact q_roundN (hC _) (hN _) (hNt _) (hN _) (hNt _) rfl rfl rfl rfl rfl rfl rfl (by simp only [List.all_append,List.all_cons,List.all_nil,Bool.and_true,List.length_cons,List.length_nil,Nat.reduceAdd,Nat.zero_add,hlowlp3] <;> simp [Blk.low,yj,AV.low,hly,hly2,hli0,hli0b,hli1,hli1b])
    ·obtain rfl:H1=(Hy s3).ext [.cells [.yld idy],.cells [.str x1.name,.sl 9 (x1.leaves.map GLeaf.row),.sl 3 (x1.subs.map GNode.row)],.cells [.sl 3 (v55.1.map GNode.row)],.cells [.sl 1 (v55.2.map zI)],.dead] [((v37++([x1.name]:List zR))).length]:=hH
     refine yc (yc (zi (zd ?_)))
     refine zc rfl (zy rfl yK rfl rfl) (sk xJ) ?_
     refine zc rfl (zf rfl (gk xl) (zb rfl)) yQ ?_
     refine ze (yp ?_)
     obtain rfl:=Option.some.inj hF
     exact ⟨s3,hl1,hK1,wk.trans (wk.le (by exact (.drop (.drop (.eq (.eq (.d4 (.drop (.drop (.eq (.eq (.cons (leV.of_eq (wn (by omega) (by omega))) (.d16 (.d16 (.drop (.drop (.drop leL.nil))))))))))))))))) (wk_ext3s (hN _) (hNt _) (hN _) (hNt _) (hC _) (by simp [yj,AV.low,hly,hly2,hli0,hli0b,hli1,hli1b]) rfl rfl (by simp [Blk.low,yj,AV.low,hly,hly2,hli0,hli0b,hli1,hli1b]))⟩
    ·obtain rfl:H1=(Hy s3).ext [.cells [.yld idy],.cells [.str x1.name,.sl 9 (x1.leaves.map GLeaf.row),.sl 3 (x1.subs.map GNode.row)],.cells [.sl 3 (v55.1.map GNode.row)],.cells [.sl 1 (v55.2.map zI)],.dead] [((v37++([x1.name]:List zR))).length]:=hH
     refine jmp1 (G:=fun j=>jumpQ _ j _ _) hF (fun hF=>?_)
     refine jmp_ret ?_
     refine zC ?_
     refine zC ?_
     refine zw ?_
     refine yb ?_
     obtain rfl:=Option.some.inj hF
     replace hF:=hK1
     refine zC ?_
     obtain rfl:=Option.some.inj hF
     refine q_retL0 rfl zE (fin_exts (hN _) (hNt _) (hN _) (hNt _) (hC _) (leV.refl _) rfl ?_)
     exact ⟨rfl,rfl⟩
  ·refine yx ?_
   refine zW ?_
   refine zP ?_
   refine zQ ?_
   refine q_end ?_
   obtain rfl:=Option.some.inj hF
   refine q_retL0 rfl zE (fin_exts (hN _) (hNt _) (hN _) (hNt _) (hC _) (leV.refl _) rfl ?_)
   exact ⟨rfl,rfl⟩
theorem ok46 {S:Type} {Hy:S→AH} {nb nt:Nat} {yield0:S→GRow→Option (Bool×S)} {idy:Nat} {c0:(List GNode)} {i0:Nat} {c1:(List zR)} {i1:Nat} {s0:S} {res:S} (hN:∀ s,(Hy s).blks.length=nb) (hNt:∀ s,(Hy s).toks.length=nt) (hC:∀ s,(Hy s).closed nb nt) (hly:idy < nb) (hy:∀ s x b s' L M,yield0 s x=some (b,s')→SpecY Try.prog idy [.agg [.sl 1 (x.path.map zI),.int .u8 x.leaf.typ,.int .i64 x.leaf.n,.int .u64 x.leaf.time,.int .u8 x.leaf.dot.actor.rep,.int .u32 x.leaf.dot.actor.inc,.int .u64 x.leaf.dot.seq,.str x.leaf.text,.sl 5 (x.leaf.items.map GItem.row),.sl 3 (x.leaf.tombs.map GDot.row)]] ((Hy s).ext L M) (fun rr hh=>rr=.bool b∧hh=(Hy s').ext L M)) (hb0:∀ s,(Hy s).blk i0=some (.cells [.sl 3 (c0.map GNode.row)])) (hb1:∀ s,(Hy s).blk i1=some (.cells [.sl 1 (c1.map zI)])) (hF:pathsXrowsC1 S yield0 c0 c1 s0=some res):Spec Try.prog 46 [.yld idy,.ptr i0 0,.ptr i1 0] (Hy s0) (fun rr hh=>rr=.tup []∧hh=Hy res):=by
 obtain ⟨n,hn⟩:=q9 hF
 exact ok46N n hN hNt hC hly hy hb0 hb1 hn
theorem okM46N (n:Nat):∀ {S:Type} {Hy:S→AH} {nb nt:Nat} {yield0:S→GRow→Option (Bool×S)} {idy:Nat} {c0:(List GNode)} {i0:Nat} {c1:(List zR)} {i1:Nat} {s0:S} {res:S} (hN:∀ s,(Hy s).blks.length=nb) (hNt:∀ s,(Hy s).toks.length=nt) (hC:∀ s,(Hy s).closed nb nt) (hly:idy < nb) (hy:∀ s x b s' L M,yield0 s x=some (b,s')→SpecY Try.prog idy [.agg [.nsl 1 (x.path.map zI),.int .u8 x.leaf.typ,.int .i64 x.leaf.n,.int .u64 x.leaf.time,.int .u8 x.leaf.dot.actor.rep,.int .u32 x.leaf.dot.actor.inc,.int .u64 x.leaf.dot.seq,.str x.leaf.text,.nsl 5 (x.leaf.items.map GItem.row),.nsl 3 (x.leaf.tombs.map GDot.row)]] ((Hy s).ext L M) (fun rr hh=>rr=.bool b∧hh=(Hy s').ext L M)) (hb0:∀ s,(Hy s).blk i0=some (.cells [.sl 3 (c0.map GNode.row)])) (hb1:∀ s,(Hy s).blk i1=some (.cells [.sl 1 (c1.map zI)])),xq n S yield0 c0 c1 s0=some res→Spec Try.prog 46 [.yld idy,.ptr i0 0,.ptr i1 0] (Hy s0) (fun rr hh=>rr=.tup []∧hh=Hy res):=by
 induction n with
 | zero=>intro S Hy nb nt yield0 idy c0 i0 c1 i1 s0 res hN hNt hC hly hy hb0 hb1 hF;simp [xq] at hF
 | succ n ih =>
  intro S Hy nb nt yield0 idy c0 i0 c1 i1 s0 res hN hNt hC hly hy hb0 hb1 hF
  unfold xq at hF
  refine zu Try.func46 rfl (by kernel_rfl) (env:=[.yld idy,.ptr i0 0,.ptr i1 0,za,za,za,za,za,za,za,za,za,za,za,za,za,za,za,za,za,za,za,za,za,za,za,za,za,za,za,za,za,za,za,za,za,za,za,za,za,za,za,za,za,za,za,za,za]) (by rfl) ?_
  have hly2:∀ k,idy < nb+k:=fun k=>Nat.lt_of_lt_of_le hly (Nat.le_add_right _ _)
  have hli0:=blk_lt (hb0 s0) (hN s0)
  have hli0b:∀ k,i0 < nb+k:=fun k=>Nat.lt_of_lt_of_le hli0 (Nat.le_add_right _ _)
  have hli1:=blk_lt (hb1 s0) (hN s0)
  have hli1b:∀ k,i1 < nb+k:=fun k=>Nat.lt_of_lt_of_le hli1 (Nat.le_add_right _ _)
  refine zk (zd ?_)
  refine zc rfl (n_box (hN _) (n:=0) rfl yl (zb rfl) rfl rfl) x5 ?_
  refine ze (zi (zk (zd ?_)))
  refine zc rfl (b_load rfl ty23 yw (hb0 _) (zt rfl) (zb rfl)) yF ?_
  refine zZ rfl (zO rfl rfl rfl rfl yZ yv ya) yL fun hn1=>?_
  replace hn1:=y9 hn1
  refine zc rfl (zf rfl rfl (zb rfl)) yQ ?_
  refine ze (zi (zJ ?_))
  refine yi (fun (n1:Nat) (s1:S)=>yr [0,1,4,5,6,7,8,9,13,14,15,16,17,18,19,20,21,22,23,24,25,26,27,28,29,30,31,32,33,34,35,36,37,38,39,40,41,42,43,44,45,46,47] [(12,.int .i64 (n1:Int))]) (fun s1=>(Hy s1).ext [.cells [.yld idy]] []) hF (fun _ _=>by simp only [yr,qN,List.set_cons_succ,List.set_cons_zero];try rfl) (wk.le (by exact (.drop (.drop (.eq (.eq (.d4 (.drop (.drop (.eq (.eq (.cons (leV.of_eq rfl) (.d16 (.d16 (.drop (.drop (.drop leL.nil))))))))))))))))) ?_
  intro n1 s1 hi1 hF
  refine zk (zd ?_)
  refine zc rfl (zy rfl yK yA rfl) yW ?_
  refine ze (zi (zk ?_))
  refine yo yN hF (fun x1 o1 hl1 hx1 hF hK1=>?_) (fun hF=>?_)
  ·refine zG (zi (zk (zJ (zk (zd ?_)))))
   refine zc rfl (xa rfl yZ yv yK xZ (yn hx1) (GNode.row_eq _)) y3 ?_
   refine zc rfl (zX rfl ty64.choose_spec.1 y6 (zK (cs':=[.str x1.name,.sl 9 (x1.leaves.map GLeaf.row),.sl 3 (x1.subs.map GNode.row)]) ty64.choose_spec.2 rfl rfl) (zb rfl)) y2 ?_
   refine zc rfl (n_alloc (hN _) (n:=1) rfl ze64 rfl) xg ?_
   refine zc rfl (n_store (hN _) (cs':=[.str x1.name,.sl 9 (x1.leaves.map GLeaf.row),.sl 3 (x1.subs.map GNode.row)]) rfl ty64.choose_spec.1 yD yR (zb rfl) rfl rfl rfl rfl rfl) rfl ?_
   refine ze (zi (zk ?_))
   refine yk [] [] trivial mixed (by kernel_rfl) ?_
   refine zo rfl rfl (b_load rfl ty24 yT (hb1 _) (zt rfl) (zb rfl)) xd ?_
   refine zU hF (fun v37 hv37 hF=>?_)
   refine qY rfl FOk.nil (by rfl) rfl (zF rfl rfl rfl (zp xb zx) (.cons (zb rfl) .nil)) (n_own (hNt _) (T':=[(v37).length]) (ok38 hv37) (m:=0) rfl rfl) xi ?_
   refine zo rfl rfl (zj rfl vX yD rfl) xr ?_
   refine zo rfl rfl (qB (hN _) rfl qa xp rfl (zt rfl) (zb rfl)) xE ?_
   refine zo rfl rfl (z8 (es:=([x1.name]:List zR).map zI) rfl yG ze9 rfl rfl (zY xH ye) (.cons (zb rfl) .nil) rfl rfl rfl) xR ?_
   refine xe hF (fun hm38 hF=>?_)
   refine xW rfl FOk.nil (by rfl) rfl (n_appT (hNt _) (j:=0) (T':=[((v37++([x1.name]:List zR))).length]) rfl rfl rfl rfl yG yG xj xO (zb rfl) (zb rfl) xG hm38 rfl rfl) xY ?_
   refine zo rfl rfl (zg rfl xV (zb rfl)) xn ?_
   refine yh ?_
   refine zi (zk (zk (zd ?_)))
   refine zc rfl (zj rfl xh yD rfl) x7 ?_
   refine zc rfl (qB (hN _) rfl qb x9 rfl (zt rfl) (zb rfl)) xQ ?_
   refine zZ rfl (zO rfl rfl rfl rfl wh xB ya) wc fun hn39=>?_
   replace hn39:=y9 hn39
   refine zc rfl (zf rfl rfl (zb rfl)) wb ?_
   refine ze (zi (zJ ?_))
   refine yi (fun (n2:Nat) (s2:S)=>yr [0,1,4,7,8,9,13,14,15,16,17,18,19,20,21,22,26,27,28,29,30,31,32,33,34,35,36,37,38,39,40,41,42,43,44,45,46,47] [(25,.int .i64 (n2:Int))]) (fun s2=>(Hy s2).ext [.cells [.yld idy],.cells [.str x1.name,.sl 9 (x1.leaves.map GLeaf.row),.sl 3 (x1.subs.map GNode.row)]] [((v37++([x1.name]:List zR))).length]) hF (fun _ _=>by simp only [yr,qN,List.set_cons_succ,List.set_cons_zero];try rfl) (wk.le (by exact (.drop (.drop (.eq (.eq (.drop (.eq (.eq (.drop (.drop (.drop (.eq (.eq (.eq (.d4 (.d4 (.drop (.drop (.eq (.eq (.cons (leV.of_eq rfl) (.d16 (.d4 (.drop (.drop leL.nil)))))))))))))))))))))))))) ?_
   intro n2 s2 hi2 hF
   refine zk (zd ?_)
   refine zc rfl (zy rfl x4 wg rfl) wJ ?_
   refine ze (zi (zk ?_))
   refine yo wF hF (fun x2 o2 hl2 hx2 hF hK2=>?_) (fun hF=>?_)
   ·refine zG (zi (zk (zJ (zk (zd ?_)))))
    refine zc rfl (yg rfl wh xB x4 xZ (yn hx2)) wR ?_
    refine zc rfl (zX rfl ty45.choose_spec.1 wU (zK (cs':=[.int .u8 x2.typ,.int .i64 x2.n,.int .u64 x2.time,.int .u8 x2.dot.actor.rep,.int .u32 x2.dot.actor.inc,.int .u64 x2.dot.seq,.str x2.text,.sl 5 (x2.items.map GItem.row),.sl 3 (x2.tombs.map GDot.row)]) ty45.choose_spec.2 rfl rfl) (zb rfl)) wZ ?_
    refine zc rfl (n_alloc (hN _) (n:=2) rfl ze45 rfl) xM ?_
    refine zc rfl (n_store (hN _) (cs':=[.int .u8 x2.typ,.int .i64 x2.n,.int .u64 x2.time,.int .u8 x2.dot.actor.rep,.int .u32 x2.dot.actor.inc,.int .u64 x2.dot.seq,.str x2.text,.sl 5 (x2.items.map GItem.row),.sl 3 (x2.tombs.map GDot.row)]) rfl ty45.choose_spec.1 xc w6 (zb rfl) rfl rfl rfl rfl rfl) rfl ?_
    refine ze (zi (zk ?_))
    refine yk [4] [] trivial mixed (by kernel_rfl) ?_
    refine zo rfl rfl (qB (hN _) rfl ty80 y8 rfl (zt rfl) (zb rfl)) vf ?_
    refine zo rfl rfl (zf rfl yS (zb rfl)) ve ?_
    refine zU hF (fun v51 hv51 hF=>?_)
    refine draw_call rfl rfl (zF rfl rfl rfl (zp vn zx) (.cons (zb rfl) .nil)) ((okM38 hv51).le (.cons (leV.osl _ _ _) leL.nil)) vd ?_
    refine zo rfl rfl (qB (hN _) rfl ty45.choose_spec.1 xc rfl (zK (cs':=[.int .u8 x2.typ,.int .i64 x2.n,.int .u64 x2.time,.int .u8 x2.dot.actor.rep,.int .u32 x2.dot.actor.inc,.int .u64 x2.dot.seq,.str x2.text,.sl 5 (x2.items.map GItem.row),.sl 3 (x2.tombs.map GDot.row)]) ty45.choose_spec.2 rfl rfl) (zb rfl)) vc ?_
    refine zU hF (fun v52 hv52 hF=>?_)
    refine yC rfl rfl (fun _=>zF rfl rfl rfl (zp w5 zx) (.cons (zb rfl) .nil)) (by rintro _ ⟨B2,T2,rfl,hk2⟩;exact okM39 hv52) vu ?_
    refine zo rfl rfl (s_build (cs':=[.nsl 1 (v51.map zI),.int .u8 v52.typ,.int .i64 v52.n,.int .u64 v52.time,.int .u8 v52.dot.actor.rep,.int .u32 v52.dot.actor.inc,.int .u64 v52.dot.seq,.str v52.text,.nsl 5 (v52.items.map GItem.row),.nsl 3 (v52.tombs.map GDot.row)]) rfl su47 ze47 pl47 (zY vm (zY vA ye)) (.cons (zb rfl) (.cons (zb rfl) .nil)) rfl rfl) vt ?_
    refine zU hF (fun v53 hv53 hF=>?_)
    refine draw_round rfl (FOk.cons (.inl (by kernel_rfl)) FOk.nil) (by kernel_rfl) rfl (s_yield rfl rfl vo (zp vl zx) (.cons (zb rfl) .nil)) (hy _ _ _ _ _ _ hv53) vb ?_
    refine zo rfl rfl (xF rfl vk rfl) wQ ?_
    refine yh ?_
    refine zi ?_
    refine zL wN hF (fun hc54 hF=>?_) (fun hc54 hF=>?_)
    ·refine zH ?_
     refine zC ?_
     refine zw ?_
     refine yb ?_
     obtain rfl:=Option.some.inj hF
     replace hF:=hK2
     refine zC ?_
     refine zw ?_
     refine zC ?_
     refine zw ?_
     refine yb ?_
     obtain rfl:=Option.some.inj hF
     replace hF:=hK1
     refine zC ?_
     obtain rfl:=Option.some.inj hF
     refine q_retL0 rfl zE (fin_exts (hN _) (hNt _) (hN _) (hNt _) (hC _) (leV.refl _) rfl ?_)
     exact ⟨rfl,rfl⟩
    ·refine zG (yc (zi (zd ?_)))
     refine zc rfl (zy rfl x4 rfl rfl) va ?_
     refine zc rfl (zf rfl vj (zb rfl)) wb ?_
     refine ze (yp ?_)
     obtain rfl:=Option.some.inj hF
     exact ⟨v53.2,hl2,hK2,wk.trans (wk.le (by exact (.drop (.drop (.eq (.eq (.drop (.eq (.eq (.drop (.drop (.drop (.eq (.eq (.eq (.d4 (.d4 (.drop (.drop (.eq (.eq (.cons (leV.of_eq (wn (by omega) (by omega))) (.d16 (.d4 (.drop (.drop leL.nil)))))))))))))))))))))))))) (wk_ext3s (hN _) (hNt _) (hN _) (hNt _) (hC _) (by simp [yj,AV.low,hly,hly2,hli0,hli0b,hli1,hli1b]) rfl rfl (by simp [Blk.low,yj,AV.low,hly,hly2,hli0,hli0b,hli1,hli1b]))⟩
   ·refine yx ?_
    refine zW ?_
    refine zP ?_
    refine zQ ?_
    refine zi (zk (zd ?_))
    refine zc rfl (zj rfl qE yD rfl) vE ?_
    refine zc rfl (qB (hN _) rfl ty23 vz rfl (zt rfl) (zb rfl)) vJ ?_
    refine zc rfl (zf rfl yS (zb rfl)) (sk st0) ?_
    refine zU hF (fun v55 hv55 hF=>?_)
    refine qR rfl (zF rfl rfl rfl (zp vF (zp (gk yl) zx)) (.cons (zb rfl) (.cons (zb rfl) .nil))) (clo_ext (hN _) (n:=2) (B':=[.cells [.yld idy],.cells [.str x1.name,.sl 9 (x1.leaves.map GLeaf.row),.sl 3 (x1.subs.map GNode.row)],.cells [.sl 3 (v55.1.map GNode.row)],.cells [.sl 1 (v55.2.map zI)]]) (caps:=[.ptr (nb+2) 0,.ptr (nb+3) 0]) ((ok27 hv55).le (.eq (.cons (leV.osl _ _ _) leL.nil))) rfl rfl rfl) (sk st1) ?_
    refine ze (zi (zJ ?_))
    refine r_range (fun (s3:S)=>(Hy s3)) (fun (s3:S)=>[.cells [.yld idy],.cells [.str x1.name,.sl 9 (x1.leaves.map GLeaf.row),.sl 3 (x1.subs.map GNode.row)],.cells [.sl 3 (v55.1.map GNode.row)],.cells [.sl 1 (v55.2.map zI)]]) (fun (s3:S)=>[((v37++([x1.name]:List zR))).length]) s2 hF (wk.le (by exact (.drop (.drop (.eq (.eq (.d4 (.drop (.drop (.eq (.eq (.eq (.d16 (.d4 (.d4 (.d4 (.eq (.d4 (.drop (.drop leL.nil)))))))))))))))))))) (fun _=>(hN _)) rfl rfl rfl (fun _=>rfl) rfl (gk yw) rfl (fun lp3 hlp3 r3 hr3q=>?_) (fun s3 H1 hH hF=>?_) (fun j3 s3 H1 hH hF=>?_)
    ·have hlowlp3:∀ q1 q2,(lp3 q1 q2).low (nb+5) (nt+1)=true:=by intro q1 q2;rw [hlp3];simp [Blk.low,yj,AV.low,hly,hly2,hli0,hli0b,hli1,hli1b]
     refine Spec.mono (ih (Hy:=(fam (fun (s3:S)=>(Hy s3)) (fun (s3:S)=>[.cells [.yld idy],.cells [.str x1.name,.sl 9 (x1.leaves.map GLeaf.row),.sl 3 (x1.subs.map GNode.row)],.cells [.sl 3 (v55.1.map GNode.row)],.cells [.sl 1 (v55.2.map zI)]]) (fun (s3:S)=>[((v37++([x1.name]:List zR))).length]) lp3)) (nb:=nb+5) (nt:=nt+1) (fun _=>by simp only [fam];rw [ext_len (hN _)];rfl) (fun _=>by simp only [fam];rw [ext_tlen (hNt _)];rfl) (fun _=>closed_ext (hC _) (Nat.le_add_right _ _) (Nat.le_add_right _ _) (by simp only [List.all_append,List.all_cons,List.all_nil,Bool.and_true,List.length_cons,List.length_nil,Nat.reduceAdd,Nat.zero_add,hlowlp3] <;> simp [Blk.low,yj,AV.low,hly,hly2,hli0,hli0b,hli1,hli1b])) (Nat.lt_succ_self _) (y_body hlp3 (xs:=fun (x:GRow)=>[.agg [.nsl 1 (x.path.map zI),.int .u8 x.leaf.typ,.int .i64 x.leaf.n,.int .u64 x.leaf.time,.int .u8 x.leaf.dot.actor.rep,.int .u32 x.leaf.dot.actor.inc,.int .u64 x.leaf.dot.seq,.str x.leaf.text,.nsl 5 (x.leaf.items.map GItem.row),.nsl 3 (x.leaf.tombs.map GDot.row)]]) (fun _=>(hN _)) (fun _=>rfl) rfl (fun _=>rfl) (fun _=>by simp only [setL,List.set_cons_succ,List.set_cons_zero];try rfl) (fun s3 x3 o3 L3 M3 H1 hH hF=>?_)) (fun _=>by simp only [fam];exact n_blk (j:=2) (hN _) rfl) (fun _=>by simp only [fam];exact n_blk (j:=3) (hN _) rfl) hr3q) (fun _ _ h=>h.2)
     obtain rfl:H1=(((Hy s3).ext ([.cells [.yld idy],.cells [.str x1.name,.sl 9 (x1.leaves.map GLeaf.row),.sl 3 (x1.subs.map GNode.row)],.cells [.sl 3 (v55.1.map GNode.row)],.cells [.sl 1 (v55.2.map zI)]]++[lp3 .ready none]) [((v37++([x1.name]:List zR))).length]).ext L3 M3).ext [] []:=hH
     refine zd ?_
     refine zc rfl (n_alloc (wI (hN _) rfl) (n:=0) rfl ze47 rfl) wv ?_
     refine zc rfl (n_store (wI (hN _) rfl) (cs':=[.nsl 1 (x3.path.map zI),.int .u8 x3.leaf.typ,.int .i64 x3.leaf.n,.int .u64 x3.leaf.time,.int .u8 x3.leaf.dot.actor.rep,.int .u32 x3.leaf.dot.actor.inc,.int .u64 x3.leaf.dot.seq,.str x3.leaf.text,.nsl 5 (x3.leaf.items.map GItem.row),.nsl 3 (x3.leaf.tombs.map GDot.row)]) rfl ty47.choose_spec.1 xy (gk yT) (zb rfl) rfl rfl rfl rfl rfl) rfl ?_
     refine ze ?_
     refine q_assign (hN _) rfl ?_
     refine zJ (zk (zd ?_))
     refine zc rfl (d_load (hN _) rfl ty80 y8 rfl (zt rfl) (zb rfl)) (sk x5) ?_
     refine zc rfl (qB (wI (hN _) rfl) rfl ty47.choose_spec.1 xy rfl (zK (cs':=[.nsl 1 (x3.path.map zI),.int .u8 x3.leaf.typ,.int .i64 x3.leaf.n,.int .u64 x3.leaf.time,.int .u8 x3.leaf.dot.actor.rep,.int .u32 x3.leaf.dot.actor.inc,.int .u64 x3.leaf.dot.seq,.str x3.leaf.text,.nsl 5 (x3.leaf.items.map GItem.row),.nsl 3 (x3.leaf.tombs.map GDot.row)]) ty47.choose_spec.2 rfl rfl) (zb rfl)) (sk yu) ?_
     refine zU hF (fun v64 hv64 hF=>?_)
     refine ops_round rfl (s_yield rfl rfl (gk y8) (zp (gk yz) zx) (.cons (zb rfl) .nil)) (SpecY.deep fun A B=>hy _ _ _ _ A B hv64) (sk xg) ?_
     refine zc rfl (xF rfl (gk yD) rfl) (sk xn) ?_
     refine ze (zi ?_)
     refine zL (gk yS) hF (fun hc65 hF=>?_) (fun hc65 hF=>?_)
     ·refine zH ?_
      refine zC ?_
      obtain rfl:=Option.some.inj hF
      exact q_roundR (hC _) (hN _) (hNt _) (hN _) (hNt _) rfl rfl rfl rfl rfl rfl rfl (by simp only [List.all_append,List.all_cons,List.all_nil,Bool.and_true,List.length_cons,List.length_nil,Nat.reduceAdd,Nat.zero_add,hlowlp3] <;> simp [Blk.low,yj,AV.low,hly,hly2,hli0,hli0b,hli1,hli1b])
     ·refine zG (yc ?_)
      obtain rfl:=Option.some.inj hF
      exact q_roundN (hC _) (hN _) (hNt _) (hN _) (hNt _) rfl rfl rfl rfl rfl rfl rfl (by simp only [List.all_append,List.all_cons,List.all_nil,Bool.and_true,List.length_cons,List.length_nil,Nat.reduceAdd,Nat.zero_add,hlowlp3] <;> simp [Blk.low,yj,AV.low,hly,hly2,hli0,hli0b,hli1,hli1b])
    ·obtain rfl:H1=(Hy s3).ext [.cells [.yld idy],.cells [.str x1.name,.sl 9 (x1.leaves.map GLeaf.row),.sl 3 (x1.subs.map GNode.row)],.cells [.sl 3 (v55.1.map GNode.row)],.cells [.sl 1 (v55.2.map zI)],.dead] [((v37++([x1.name]:List zR))).length]:=hH
     refine yc (yc (zi (zd ?_)))
     refine zc rfl (zy rfl yK rfl rfl) (sk xJ) ?_
     refine zc rfl (zf rfl (gk xl) (zb rfl)) yQ ?_
     refine ze (yp ?_)
     obtain rfl:=Option.some.inj hF
     exact ⟨s3,hl1,hK1,wk.trans (wk.le (by exact (.drop (.drop (.eq (.eq (.d4 (.drop (.drop (.eq (.eq (.cons (leV.of_eq (wn (by omega) (by omega))) (.d16 (.d16 (.drop (.drop (.drop leL.nil))))))))))))))))) (wk_ext3s (hN _) (hNt _) (hN _) (hNt _) (hC _) (by simp [yj,AV.low,hly,hly2,hli0,hli0b,hli1,hli1b]) rfl rfl (by simp [Blk.low,yj,AV.low,hly,hly2,hli0,hli0b,hli1,hli1b]))⟩
    ·obtain rfl:H1=(Hy s3).ext [.cells [.yld idy],.cells [.str x1.name,.sl 9 (x1.leaves.map GLeaf.row),.sl 3 (x1.subs.map GNode.row)],.cells [.sl 3 (v55.1.map GNode.row)],.cells [.sl 1 (v55.2.map zI)],.dead] [((v37++([x1.name]:List zR))).length]:=hH
     refine jmp1 (G:=fun j=>jumpQ _ j _ _) hF (fun hF=>?_)
     refine jmp_ret ?_
     refine zC ?_
     refine zC ?_
     refine zw ?_
     refine yb ?_
     obtain rfl:=Option.some.inj hF
     replace hF:=hK1
     refine zC ?_
     obtain rfl:=Option.some.inj hF
     refine q_retL0 rfl zE (fin_exts (hN _) (hNt _) (hN _) (hNt _) (hC _) (leV.refl _) rfl ?_)
     exact ⟨rfl,rfl⟩
  ·refine yx ?_
   refine zW ?_
   refine zP ?_
   refine zQ ?_
   refine q_end ?_
   obtain rfl:=Option.some.inj hF
   refine q_retL0 rfl zE (fin_exts (hN _) (hNt _) (hN _) (hNt _) (hC _) (leV.refl _) rfl ?_)
   exact ⟨rfl,rfl⟩
theorem okM46 {S:Type} {Hy:S→AH} {nb nt:Nat} {yield0:S→GRow→Option (Bool×S)} {idy:Nat} {c0:(List GNode)} {i0:Nat} {c1:(List zR)} {i1:Nat} {s0:S} {res:S} (hN:∀ s,(Hy s).blks.length=nb) (hNt:∀ s,(Hy s).toks.length=nt) (hC:∀ s,(Hy s).closed nb nt) (hly:idy < nb) (hy:∀ s x b s' L M,yield0 s x=some (b,s')→SpecY Try.prog idy [.agg [.nsl 1 (x.path.map zI),.int .u8 x.leaf.typ,.int .i64 x.leaf.n,.int .u64 x.leaf.time,.int .u8 x.leaf.dot.actor.rep,.int .u32 x.leaf.dot.actor.inc,.int .u64 x.leaf.dot.seq,.str x.leaf.text,.nsl 5 (x.leaf.items.map GItem.row),.nsl 3 (x.leaf.tombs.map GDot.row)]] ((Hy s).ext L M) (fun rr hh=>rr=.bool b∧hh=(Hy s').ext L M)) (hb0:∀ s,(Hy s).blk i0=some (.cells [.sl 3 (c0.map GNode.row)])) (hb1:∀ s,(Hy s).blk i1=some (.cells [.sl 1 (c1.map zI)])) (hF:pathsXrowsC1 S yield0 c0 c1 s0=some res):Spec Try.prog 46 [.yld idy,.ptr i0 0,.ptr i1 0] (Hy s0) (fun rr hh=>rr=.tup []∧hh=Hy res):=by
 obtain ⟨n,hn⟩:=q9 hF
 exact okM46N n hN hNt hC hly hy hb0 hb1 hn
theorem ok10 {t0:(List GNode)} {res:(List GRow)} {h:AH}  (hF:qr t0=some res):Spec Try.prog 10 [.sl 3 (t0.map GNode.row)] h (fun rr hh=>rr=.sl 10 (res.map GRow.row)∧hh=h):=by
 unfold qr at hF
 refine zu Try.func10 rfl (by kernel_rfl) (env:=[.sl 3 (t0.map GNode.row),za,za,za,za,za,za,za,za]) (by rfl) ?_
 refine zk (zd ?_)
 refine zc rfl (zg rfl rfl (yE w7)) yU ?_
 refine ze (zi (zk (zk (zd ?_))))
 refine zc rfl (zf rfl yl (zb rfl)) x5 ?_
 refine zU hF (fun v1 hv1 hF=>?_)
 refine zN rfl (zF rfl rfl rfl (zp y8 zx) (.cons (zb rfl) .nil)) (ok17 hv1) yu ?_
 refine zc rfl (xF rfl yz rfl) xg ?_
 refine ze (zi ?_)
 refine zL yD hF (fun hc2 hF=>?_) (fun hc2 hF=>?_)
 ·refine zk (zd ?_)
  refine zc rfl (zg rfl rfl (yE w7)) yU ?_
  refine ze (zi (zH (zw ?_)))
  obtain rfl:=Option.some.inj hF
  refine zz rfl (zD yT zE) (zB (leV.osl _ _ _) rfl ?_)
  exact ⟨rfl,rfl⟩
 ·refine zG (zi (zk (zd ?_)))
  refine zc rfl (zf rfl yl (zb rfl)) xn ?_
  refine zU hF (fun v3 hv3 hF=>?_)
  refine qR rfl (zF rfl rfl rfl (zp yS (zp rfl zx)) (.cons (zb rfl) (.cons (yE yG) .nil))) (clo_ext rfl (n:=0) (B':=[.cells [.sl 3 (v3.1.map GNode.row)],.cells [.sl 1 (v3.2.map zI)]]) (caps:=[.ptr (h.blks.length+0) 0,.ptr (h.blks.length+1) 0]) ((ok27 hv3).le (.eq (.cons (leV.osl _ _ _) leL.nil))) rfl rfl rfl) xJ ?_
  refine zU hF (fun v4 hv4 hF=>?_)
  refine zN rfl (zF rfl rfl rfl (zp xl zx) (.cons (zb rfl) .nil)) (ok26 (fun S Hy nb nt hN hNt hC hE y idy hly hy s s' hF=>ok46 hN hNt hC hly hy (fun s=>by obtain ⟨L,M,e⟩:=hE s;rw [e];exact n_blk2 (j:=0) rfl rfl) (fun s=>by obtain ⟨L,M,e⟩:=hE s;rw [e];exact n_blk2 (j:=1) rfl rfl) hF) hv4) xM ?_
  refine zc rfl (zg rfl xc (zb rfl)) yU ?_
  refine ze (zi (zH ?_))
  obtain rfl:=Option.some.inj hF
  refine zz rfl (zD yT zE) (zB (leV.refl _) rfl ?_)
  exact ⟨rfl,rfl⟩
theorem okM10 {t0:(List GNode)} {bl tl:Nat} {res:(List GRow)} {h:AH} (hbl:h.blks.length=bl) (htl:h.toks.length=tl) (hF:qr t0=some res):Spec Try.prog 10 [.sl 3 (t0.map GNode.row)] h (fun rr hh=>rr=.rsl bl tl 10 (res).length∧hh=h.ext [.row tl 10 (res.map GRow.rowN)] [(res).length]):=by
 unfold qr at hF
 subst hbl htl
 refine zu Try.func10 rfl (by kernel_rfl) (env:=[.sl 3 (t0.map GNode.row),za,za,za,za,za,za,za,za]) (by rfl) ?_
 refine zk (zd ?_)
 refine zc rfl (zg rfl rfl (yE w7)) yU ?_
 refine ze (zi (zk (zk (zd ?_))))
 refine zc rfl (zf rfl yl (zb rfl)) x5 ?_
 refine zU hF (fun v1 hv1 hF=>?_)
 refine zN rfl (zF rfl rfl rfl (zp y8 zx) (.cons (zb rfl) .nil)) (ok17 hv1) yu ?_
 refine zc rfl (xF rfl yz rfl) xg ?_
 refine ze (zi ?_)
 refine zL yD hF (fun hc2 hF=>?_) (fun hc2 hF=>?_)
 ·refine zk (zd ?_)
  refine zc rfl (zg rfl rfl (yE w7)) yU ?_
  refine ze (zi (zH (zw ?_)))
  obtain rfl:=Option.some.inj hF
  refine zz rfl (zD yT zE) (fin_row1 hds_nil ?_)
  exact ⟨rfl,rfl⟩
 ·refine zG (zi (zk (zd ?_)))
  refine zc rfl (zf rfl yl (zb rfl)) xn ?_
  refine zU hF (fun v3 hv3 hF=>?_)
  refine qR rfl (zF rfl rfl rfl (zp yS (zp rfl zx)) (.cons (zb rfl) (.cons (yE yG) .nil))) (clo_ext rfl (n:=0) (B':=[.cells [.sl 3 (v3.1.map GNode.row)],.cells [.sl 1 (v3.2.map zI)]]) (caps:=[.ptr (h.blks.length+0) 0,.ptr (h.blks.length+1) 0]) ((ok27 hv3).le (.eq (.cons (leV.osl _ _ _) leL.nil))) rfl rfl rfl) xJ ?_
  refine zU hF (fun v4 hv4 hF=>?_)
  refine qR rfl (zF rfl rfl rfl (zp xl zx) (.cons (zb rfl) .nil)) (row_newv (v':=.rsl (h.blks.length+2) (h.toks.length+0) 10 ((v4).length)) (B':=[.cells [.sl 3 (v3.1.map GNode.row)],.cells [.sl 1 (v3.2.map zI)],.row (h.toks.length+0) 10 (v4.map GRow.rowN)]) (T':=[(v4).length]) (okM26 (by rw [ext_bl];rfl) (by rw [ext_tl];rfl) (fun S Hy nb nt hN hNt hC hE y idy hly hy s s' hF=>okM46 hN hNt hC hly hy (fun s=>by obtain ⟨L,M,e⟩:=hE s;rw [e];exact n_blk2 (j:=0) rfl rfl) (fun s=>by obtain ⟨L,M,e⟩:=hE s;rw [e];exact n_blk2 (j:=1) rfl rfl) hF) hv4) rfl rfl rfl) xM ?_
  refine zc rfl (zg rfl xc (zb rfl)) yU ?_
  refine ze (zi (zH ?_))
  obtain rfl:=Option.some.inj hF
  refine zz rfl (zD yT zE) (fin_row1 (hds_row (j:=2) (i:=0) rfl (by simp)) ?_)
  exact ⟨by simp only [List.length_map];try rfl,by simp only [List.length_map];try rfl⟩
theorem ok28 {a0:GLeaf} {b1:GLeaf} {res:Bool} {h:AH}  (hF:ref05Same a0 b1=some res):Spec Try.prog 28 [.agg [.int .u8 a0.typ,.int .i64 a0.n,.int .u64 a0.time,.int .u8 a0.dot.actor.rep,.int .u32 a0.dot.actor.inc,.int .u64 a0.dot.seq,.str a0.text,.sl 5 (a0.items.map GItem.row),.sl 3 (a0.tombs.map GDot.row)],.agg [.int .u8 b1.typ,.int .i64 b1.n,.int .u64 b1.time,.int .u8 b1.dot.actor.rep,.int .u32 b1.dot.actor.inc,.int .u64 b1.dot.seq,.str b1.text,.sl 5 (b1.items.map GItem.row),.sl 3 (b1.tombs.map GDot.row)]] h (fun rr hh=>rr=.bool res∧hh=h):=by
 unfold ref05Same at hF
 refine zu Try.func28 rfl (by kernel_rfl) (env:=[.agg [.int .u8 a0.typ,.int .i64 a0.n,.int .u64 a0.time,.int .u8 a0.dot.actor.rep,.int .u32 a0.dot.actor.inc,.int .u64 a0.dot.seq,.str a0.text,.sl 5 (a0.items.map GItem.row),.sl 3 (a0.tombs.map GDot.row)],.agg [.int .u8 b1.typ,.int .i64 b1.n,.int .u64 b1.time,.int .u8 b1.dot.actor.rep,.int .u32 b1.dot.actor.inc,.int .u64 b1.dot.seq,.str b1.text,.sl 5 (b1.items.map GItem.row),.sl 3 (b1.tombs.map GDot.row)],za,za,za,za,za,za,za,za,za,za,za,za,za,za,za,za,za,za,za,za,za,za,za,za,za,za,za,za,za,za,za,za,za,za,za,za,za,za,za,za,za,za,za,za,za,za,za,za,za,za,za,za,za,za,za,za,za,za,za,za,za,za,za,za,za,za,za,za,za,za,za,za,za,za,za,za,za,za,za,za,za,za,za,za,za,za,za,za,za,za,za,za]) (by rfl) ?_
 refine zk (zd ?_)
 refine zc rfl (xI (n:=0) rfl yl (zb rfl) rfl rfl) yU ?_
 refine zc rfl (xI (n:=1) rfl yw (zb rfl) rfl rfl) x5 ?_
 refine zc rfl (zg rfl rfl (zb rfl)) yu ?_
 refine ze (zi (zk (zk (zd ?_))))
 refine zc rfl (zj rfl wy yT rfl) xJ ?_
 refine zc rfl (zA rfl ty5 xl rfl (zt rfl) (zb rfl)) xM ?_
 refine zc rfl (zj rfl wy y8 rfl) wv ?_
 refine zc rfl (zA rfl ty5 xy rfl (zt rfl) (zb rfl)) yF ?_
 refine zc rfl (zy rfl xc yv rfl) yL ?_
 refine zc rfl (zf rfl yA (zb rfl)) yQ ?_
 refine zq rfl (fun hb=>zj rfl fo45x1 yT rfl) yW ?_
 refine zq rfl (fun hb=>zA rfl ty2 (zn yN hb) rfl (zt rfl) (zb rfl)) y3 ?_
 refine zq rfl (fun hb=>zj rfl fo45x1 y8 rfl) y2 ?_
 refine zq rfl (fun hb=>zA rfl ty2 (zn yR hb) rfl (zt rfl) (zb rfl)) xd ?_
 refine zq rfl (fun hb=>zy rfl (zn y6 hb) (zn xb hb) rfl) xi ?_
 refine zc rfl (zM rfl yK rfl xj (yd (fun ht=>gF ht))) xr ?_
 refine zc rfl (zf rfl xp (zb rfl)) xE ?_
 refine zq rfl (fun hb=>zj rfl fo45x2 yT rfl) xR ?_
 refine zq rfl (fun hb=>zA rfl qx (zn xO hb) rfl (zt rfl) (zb rfl)) xY ?_
 refine zq rfl (fun hb=>zj rfl fo45x2 y8 rfl) x7 ?_
 refine zq rfl (fun hb=>zA rfl qx (zn x9 hb) rfl (zt rfl) (zb rfl)) xQ ?_
 refine zq rfl (fun hb=>zy rfl (zn xV hb) (zn xB hb) rfl) wc ?_
 refine zc rfl (zM rfl xH rfl wg (yd (fun ht=>gF ht))) wb ?_
 refine zc rfl (zf rfl x4 (zb rfl)) wJ ?_
 refine zq rfl (fun hb=>zj rfl fo45x3 yT rfl) wR ?_
 refine zq rfl (fun hb=>zA rfl ty41.choose_spec.1 (zn wU hb) rfl (zK (cs':=[.int .u8 a0.dot.actor.rep,.int .u32 a0.dot.actor.inc,.int .u64 a0.dot.seq]) ty41.choose_spec.2 rfl rfl) (zb rfl)) wZ ?_
 refine zq rfl (fun hb=>zj rfl fo45x3 y8 rfl) vf ?_
 refine zq rfl (fun hb=>zA rfl ty41.choose_spec.1 (zn vo hb) rfl (zK (cs':=[.int .u8 b1.dot.actor.rep,.int .u32 b1.dot.actor.inc,.int .u64 b1.dot.seq]) ty41.choose_spec.2 rfl rfl) (zb rfl)) ve ?_
 refine zq rfl (fun hb=>zy rfl (zn w6 hb) (zn vn hb) (bin_ne pk41 rfl)) vd ?_
 refine zc rfl (zM rfl wF rfl vm (yd (fun ht=>gF ht))) vc ?_
 refine zc rfl (zf rfl w5 (zb rfl)) vu ?_
 refine zq rfl (fun hb=>zj rfl fo45x4 yT rfl) vt ?_
 refine zq rfl (fun hb=>zA rfl qa (zn vl hb) rfl (zt rfl) (zb rfl)) vb ?_
 refine zq rfl (fun hb=>zj rfl fo45x4 y8 rfl) wQ ?_
 refine zq rfl (fun hb=>zA rfl qa (zn wN hb) rfl (zt rfl) (zb rfl)) va ?_
 refine zq rfl (fun hb=>zy rfl (zn vk hb) (zn vj hb) rfl) vE ?_
 refine zc rfl (zM rfl vA rfl vz (yd (fun ht=>gF ht))) vJ ?_
 refine zc rfl (zf rfl vF (zb rfl)) (sk st0) ?_
 refine zq rfl (fun hb=>zj rfl xC yT rfl) (sk st1) ?_
 refine zq rfl (fun hb=>zA rfl qL (zn (gk yw) hb) rfl (zt rfl) (zb rfl)) (sk yU) ?_
 refine xU rfl (fun hb=>zO rfl rfl rfl rfl wO (zn (gk yT) hb) ya) (sk x5) fun hn1=>?_
 refine zq rfl (fun hb=>zj rfl xC y8 rfl) (sk yu) ?_
 refine zq rfl (fun hb=>zA rfl qL (zn (gk yz) hb) rfl (zt rfl) (zb rfl)) (sk xg) ?_
 refine xU rfl (fun hb=>zO rfl rfl rfl rfl wO (zn (gk yD) hb) ya) (sk xn) fun hn2=>?_
 refine zq rfl (fun hb=>zy rfl (zn (gk y8) hb) (zn (gk yS) hb) rfl) (sk xJ) ?_
 refine zc rfl (zM rfl (gk yl) rfl (gk xl) (yd (fun ht=>gF ht))) (sk xM) ?_
 refine zc rfl (zf rfl (gk xc) (zb rfl)) (sk wv) ?_
 refine zq rfl (fun hb=>zj rfl wx yT rfl) (sk yF) ?_
 refine zq rfl (fun hb=>zA rfl ty43 (zn (gk yv) hb) rfl (zt rfl) (zb rfl)) (sk yL) ?_
 refine xU rfl (fun hb=>zO rfl rfl rfl rfl vY (zn (gk yA) hb) ya) (sk yQ) fun hn3=>?_
 refine zq rfl (fun hb=>zj rfl wx y8 rfl) (sk yW) ?_
 refine zq rfl (fun hb=>zA rfl ty43 (zn (gk yN) hb) rfl (zt rfl) (zb rfl)) (sk y3) ?_
 refine xU rfl (fun hb=>zO rfl rfl rfl rfl vY (zn (gk y6) hb) ya) (sk y2) fun hn4=>?_
 refine zq rfl (fun hb=>zy rfl (zn (gk yK) hb) (zn (gk yR) hb) rfl) (sk xd) ?_
 refine zc rfl (zM rfl (gk xy) rfl (gk xb) (yd (fun ht=>gF ht))) (sk xi) ?_
 refine ze (zi ?_)
 refine zL (gk xj) hF (fun hc5 hF=>?_) (fun hc5 hF=>?_)
 ·refine zk (zd ?_)
  refine zc rfl (zg rfl rfl (zb rfl)) yu ?_
  refine ze (zi (zH (zw ?_)))
  obtain rfl:=Option.some.inj hF
  refine zz rfl (zD yz zE) (zB (leV.refl _) rfl ?_)
  exact ⟨rfl,rfl⟩
 ·refine zG (zi (zk (zk (zd ?_))))
  refine zc rfl (zg rfl rfl (zb rfl)) xg ?_
  refine ze (zi (zJ ?_))
  refine yi (fun (n1:Nat) (s1:Unit)=>yr [0,1,4,6,7,8,9,10,11,12,13,14,15,16,17,18,19,20,21,22,23,24,25,26,27,28,29,30,31,32,33,34,35,36,37,38,39,40,41,42,43,44,45,46,47,48,49,50,51,52,53,54,55,56,57,58,59,60,61,62,63,64,65,66,67,68,69,70,71,72,73,74,75,76,77,78,79,80,81,82,83,84,85,86,87,88,89,90,91,92,93] [(5,.int .i64 (n1:Int))]) (fun s1=>h.ext [.cells [.int .u8 a0.typ,.int .i64 a0.n,.int .u64 a0.time,.int .u8 a0.dot.actor.rep,.int .u32 a0.dot.actor.inc,.int .u64 a0.dot.seq,.str a0.text,.sl 5 (a0.items.map GItem.row),.sl 3 (a0.tombs.map GDot.row)],.cells [.int .u8 b1.typ,.int .i64 b1.n,.int .u64 b1.time,.int .u8 b1.dot.actor.rep,.int .u32 b1.dot.actor.inc,.int .u64 b1.dot.seq,.str b1.text,.sl 5 (b1.items.map GItem.row),.sl 3 (b1.tombs.map GDot.row)]] []) hF (fun _ _=>by simp only [yr,qN,List.set_cons_succ,List.set_cons_zero];try rfl) (wk.le (by exact (.drop (.drop (.eq (.eq (.drop (.cons (leV.of_eq rfl) (.d16 (.d16 (.d16 (.d16 (.d16 (.d4 (.d4 leL.nil))))))))))))))) ?_
  intro n1 s1 hi1 hF
  refine zk (zk (zd ?_))
  refine zc rfl (zf rfl yD (zb rfl)) (sk xr) ?_
  refine zc rfl (zj rfl xC yT rfl) (sk xE) ?_
  refine zc rfl (zA rfl qL (gk xH) rfl (zt rfl) (zb rfl)) (sk xR) ?_
  refine zZ rfl (zO rfl rfl rfl rfl wO (gk xO) ya) (sk xY) fun hn31=>?_
  replace hn31:=y9 hn31
  refine zc rfl (zy rfl (gk xp) (gk xV) rfl) (sk x7) ?_
  refine ze (zi ?_)
  refine yo (gk x9) hF (fun x1 o1 hl1 hx1 hF hK1=>?_) (fun hF=>?_)
  ·refine zG (zi (zk (zJ (zk ?_))))
   refine yk [] [] trivial mixed (by kernel_rfl) ?_
   refine zo rfl rfl (zj rfl xC yT rfl) (sk wb) ?_
   refine zo rfl rfl (zA rfl qL (gk x4) rfl (zt rfl) (zb rfl)) (sk wJ) ?_
   refine zo rfl rfl (zf rfl yD (zb rfl)) (sk wR) ?_
   refine zo rfl rfl (yg rfl wO (gk wF) (gk wU) xZ (yn hx1)) (sk wZ) ?_
   refine zo rfl rfl (zX rfl ty49.choose_spec.1 (gk w6) (zK (cs':=[.int .u64 x1.time,.int .u8 x1.dot.actor.rep,.int .u32 x1.dot.actor.inc,.int .u64 x1.dot.seq,.str x1.text]) ty49.choose_spec.2 rfl rfl) (zb rfl)) (sk vf) ?_
   refine zo rfl rfl (zj rfl xC y8 rfl) (sk ve) ?_
   refine zo rfl rfl (zA rfl qL (gk vn) rfl (zt rfl) (zb rfl)) (sk vd) ?_
   refine zo rfl rfl (zf rfl yD (zb rfl)) (sk vc) ?_
   refine zU hF (fun y32 hy32 hF=>?_)
   refine zo rfl rfl (yg rfl wO (gk vm) (gk w5) xZ hy32) (sk vu) ?_
   refine zo rfl rfl (zX rfl ty49.choose_spec.1 (gk vA) (zK (cs':=[.int .u64 y32.time,.int .u8 y32.dot.actor.rep,.int .u32 y32.dot.actor.inc,.int .u64 y32.dot.seq,.str y32.text]) ty49.choose_spec.2 rfl rfl) (zb rfl)) (sk vt) ?_
   refine zo rfl rfl (zy rfl (gk vo) (gk vl) (bin_ne pk49 rfl)) (sk vb) ?_
   refine yh ?_
   refine zi ?_
   refine zL (gk vk) hF (fun hc33 hF=>?_) (fun hc33 hF=>?_)
   ·refine zk (zd ?_)
    refine zc rfl (zg rfl rfl (zb rfl)) yu ?_
    refine ze (zi (zH ?_))
    refine zC ?_
    refine zw ?_
    refine yb ?_
    obtain rfl:=Option.some.inj hF
    replace hF:=hK1
    refine zC ?_
    refine zw ?_
    obtain rfl:=Option.some.inj hF
    refine zz rfl (zD yz zE) (zB (leV.refl _) rfl ?_)
    exact ⟨rfl,rfl⟩
   ·refine zG (yc (zi (zd ?_)))
    refine zc rfl (zf rfl yD (zb rfl)) (sk xQ) ?_
    refine zc rfl (zy rfl (gk xB) rfl rfl) (sk wc) ?_
    refine zc rfl (zg rfl (gk wg) (zb rfl)) xg ?_
    refine ze (yp ?_)
    obtain rfl:=Option.some.inj hF
    exact ⟨(),hl1,hK1,wk.le (by exact (.drop (.drop (.eq (.eq (.drop (.cons (leV.of_eq (wn (by omega) (by omega))) (.d16 (.d16 (.d16 (.d16 (.d16 (.d4 (.d4 leL.nil))))))))))))))⟩
  ·refine yx ?_
   refine zW ?_
   refine zP ?_
   refine zQ ?_
   refine zi (zk (zk (zd ?_)))
   refine zc rfl (zg rfl rfl (zb rfl)) xn ?_
   refine ze (zi (zJ ?_))
   refine yi (fun (n2:Nat) (s2:Unit)=>yr [0,1,4,5,7,8,9,10,11,12,13,14,15,16,17,18,19,20,21,22,23,24,25,26,27,28,29,30,31,32,33,34,35,36,37,38,39,40,41,42,43,44,45,46,47,48,49,50,51,52,53,54,55,56,57,58,59,60,61,62,63,64,65,66,67,68,69,70,71,72,73,74,75,76,77,78,79,80,81,82,83,84,85,86,87,88,89,90,91,92,93] [(6,.int .i64 (n2:Int))]) (fun s2=>h.ext [.cells [.int .u8 a0.typ,.int .i64 a0.n,.int .u64 a0.time,.int .u8 a0.dot.actor.rep,.int .u32 a0.dot.actor.inc,.int .u64 a0.dot.seq,.str a0.text,.sl 5 (a0.items.map GItem.row),.sl 3 (a0.tombs.map GDot.row)],.cells [.int .u8 b1.typ,.int .i64 b1.n,.int .u64 b1.time,.int .u8 b1.dot.actor.rep,.int .u32 b1.dot.actor.inc,.int .u64 b1.dot.seq,.str b1.text,.sl 5 (b1.items.map GItem.row),.sl 3 (b1.tombs.map GDot.row)]] []) hF (fun _ _=>by simp only [yr,qN,List.set_cons_succ,List.set_cons_zero];try rfl) (wk.le (by exact (.drop (.drop (.eq (.eq (.drop (.drop (.cons (leV.of_eq rfl) (.d16 (.d16 (.d16 (.d16 (.d16 (.d4 (.drop (.drop (.drop leL.nil)))))))))))))))))) ?_
   intro n2 s2 hi2 hF
   refine zk (zk (zd ?_))
   refine zc rfl (zf rfl yS (zb rfl)) (sk wQ) ?_
   refine zc rfl (zj rfl wx yT rfl) (sk va) ?_
   refine zc rfl (zA rfl ty43 (gk vj) rfl (zt rfl) (zb rfl)) (sk vE) ?_
   refine zZ rfl (zO rfl rfl rfl rfl vY (gk vz) ya) (sk vJ) fun hn59=>?_
   replace hn59:=y9 hn59
   refine zc rfl (zy rfl (gk wN) (gk vF) rfl) (sk (sk st0)) ?_
   refine ze (zi ?_)
   refine yo (gk (gk yl)) hF (fun x2 o2 hl2 hx2 hF hK2=>?_) (fun hF=>?_)
   ·refine zG (zi (zk (zJ (zk ?_))))
    refine yk [] [] trivial mixed (by kernel_rfl) ?_
    refine zo rfl rfl (zj rfl wx yT rfl) (sk (sk x5)) ?_
    refine zo rfl rfl (zA rfl ty43 (gk (gk y8)) rfl (zt rfl) (zb rfl)) (sk (sk yu)) ?_
    refine zo rfl rfl (zf rfl yS (zb rfl)) (sk (sk xg)) ?_
    refine zo rfl rfl (yg rfl vY (gk (gk yz)) (gk (gk yD)) xZ (yn hx2)) (sk (sk xn)) ?_
    refine zo rfl rfl (zX rfl ty41.choose_spec.1 (gk (gk yS)) (zK (cs':=[.int .u8 x2.actor.rep,.int .u32 x2.actor.inc,.int .u64 x2.seq]) ty41.choose_spec.2 rfl rfl) (zb rfl)) (sk (sk xJ)) ?_
    refine zo rfl rfl (zj rfl wx y8 rfl) (sk (sk xM)) ?_
    refine zo rfl rfl (zA rfl ty43 (gk (gk xc)) rfl (zt rfl) (zb rfl)) (sk (sk wv)) ?_
    refine zo rfl rfl (zf rfl yS (zb rfl)) (sk (sk yF)) ?_
    refine zU hF (fun y60 hy60 hF=>?_)
    refine zo rfl rfl (yg rfl vY (gk (gk xy)) (gk (gk yv)) xZ hy60) (sk (sk yL)) ?_
    refine zo rfl rfl (zX rfl ty41.choose_spec.1 (gk (gk yA)) (zK (cs':=[.int .u8 y60.actor.rep,.int .u32 y60.actor.inc,.int .u64 y60.seq]) ty41.choose_spec.2 rfl rfl) (zb rfl)) (sk (sk yQ)) ?_
    refine zo rfl rfl (zy rfl (gk (gk xl)) (gk (gk yK)) (bin_ne pk41 rfl)) (sk (sk yW)) ?_
    refine yh ?_
    refine zi ?_
    refine zL (gk (gk yN)) hF (fun hc61 hF=>?_) (fun hc61 hF=>?_)
    ·refine zk (zd ?_)
     refine zc rfl (zg rfl rfl (zb rfl)) yu ?_
     refine ze (zi (zH ?_))
     refine zC ?_
     refine zw ?_
     refine yb ?_
     obtain rfl:=Option.some.inj hF
     replace hF:=hK2
     refine zC ?_
     refine zw ?_
     obtain rfl:=Option.some.inj hF
     refine zz rfl (zD yz zE) (zB (leV.refl _) rfl ?_)
     exact ⟨rfl,rfl⟩
    ·refine zG (yc (zi (zd ?_)))
     refine zc rfl (zf rfl yS (zb rfl)) (sk (sk st1)) ?_
     refine zc rfl (zy rfl (gk (gk yw)) rfl rfl) (sk (sk yU)) ?_
     refine zc rfl (zg rfl (gk (gk yT)) (zb rfl)) xn ?_
     refine ze (yp ?_)
     obtain rfl:=Option.some.inj hF
     exact ⟨(),hl2,hK2,wk.le (by exact (.drop (.drop (.eq (.eq (.drop (.drop (.cons (leV.of_eq (wn (by omega) (by omega))) (.d16 (.d16 (.d16 (.d16 (.d16 (.d4 (.drop (.drop (.drop leL.nil)))))))))))))))))⟩
   ·refine yx ?_
    refine zW ?_
    refine zP ?_
    refine zQ ?_
    refine zi (zk (zd ?_))
    refine zc rfl (zg rfl rfl (zb rfl)) yu ?_
    refine ze (zi (zH ?_))
    obtain rfl:=Option.some.inj hF
    refine zz rfl (zD yz zE) (zB (leV.refl _) rfl ?_)
    exact ⟨rfl,rfl⟩
theorem ok11N (n:Nat):∀ {a0:(List GNode)} {b1:(List GNode)} {res:Bool} {h:AH} , qi n a0 b1=some res→Spec Try.prog 11 [.sl 3 (a0.map GNode.row),.sl 3 (b1.map GNode.row)] h (fun rr hh=>rr=.bool res∧hh=h):=by
 induction n with
 | zero=>intro a0 b1 res h  hF;simp [qi] at hF
 | succ n ih =>
  intro a0 b1 res h  hF
  unfold qi at hF
  refine zu Try.func11 rfl (by kernel_rfl) (env:=[.sl 3 (a0.map GNode.row),.sl 3 (b1.map GNode.row),za,za,za,za,za,za,za,za,za,za,za,za,za,za,za,za,za,za,za,za,za,za,za,za,za,za,za,za,za,za,za,za,za,za,za,za,za,za,za,za,za,za,za,za,za,za,za,za,za,za,za,za,za,za,za,za,za,za,za,za,za,za,za,za,za,za,za,za,za,za,za,za,za,za,za,za,za,za,za,za,za,za,za,za]) (by rfl) ?_
  refine zk (zd ?_)
  refine zc rfl (zg rfl rfl (zb rfl)) yu ?_
  refine ze (zi (zk (zk (zd ?_))))
  refine zc rfl (zf rfl yl (zb rfl)) xJ ?_
  refine zZ rfl (zO rfl rfl rfl rfl yZ xl ya) xM fun hn1=>?_
  replace hn1:=y9 hn1
  refine zc rfl (zf rfl yw (zb rfl)) wv ?_
  refine zZ rfl (zO rfl rfl rfl rfl yZ xy ya) yF fun hn2=>?_
  replace hn2:=y9 hn2
  refine zc rfl (zy rfl xc yv rfl) yL ?_
  refine ze (zi ?_)
  refine zL yA hF (fun hc3 hF=>?_) (fun hc3 hF=>?_)
  ·refine zk (zd ?_)
   refine zc rfl (zg rfl rfl (zb rfl)) yu ?_
   refine ze (zi (zH (zw ?_)))
   obtain rfl:=Option.some.inj hF
   refine zz rfl (zD yz zE) (zB (leV.refl _) rfl ?_)
   exact ⟨rfl,rfl⟩
  ·refine zG (zi (zk (zk (zd ?_))))
   refine zc rfl (zg rfl rfl (zb rfl)) xg ?_
   refine ze (zi (zJ ?_))
   refine yi (fun (n1:Nat) (s1:Unit)=>yr [2,3,4,6,7,8,9,10,11,12,13,14,15,16,17,18,19,20,21,22,23,24,25,26,27,28,29,30,31,32,33,34,35,36,37,38,39,40,41,42,43,44,45,46,47,48,49,50,51,52,53,54,55,56,57,58,59,60,61,62,63,64,65,66,67,68,69,70,71,72,73,74,75,76,77,78,79,80,81,82,83,84,85] [(5,.int .i64 (n1:Int))]) (fun s1=>h.ext [] []) hF (fun _ _=>by simp only [yr,qN,List.set_cons_succ,List.set_cons_zero];try rfl) (wk.le (by exact (.eq (.eq (.drop (.drop (.drop (.cons (leV.of_eq rfl) (.d16 (.d16 (.d16 (.d16 (.d16 leL.nil))))))))))))) ?_
   intro n1 s1 hi1 hF
   refine zk (zk (zd ?_))
   refine zc rfl (zf rfl yD (zb rfl)) yQ ?_
   refine zc rfl (zf rfl yl (zb rfl)) yW ?_
   refine zZ rfl (zO rfl rfl rfl rfl yZ yN ya) y3 fun hn40=>?_
   replace hn40:=y9 hn40
   refine zc rfl (zy rfl yK y6 rfl) y2 ?_
   refine ze (zi ?_)
   refine yo yR hF (fun x1 o1 hl1 hx1 hF hK1=>?_) (fun hF=>?_)
   ·refine zG (zi (zk (zJ (zk (zk ?_)))))
    refine yk [] [] trivial mixed (by kernel_rfl) ?_
    refine zo rfl rfl (zf rfl yl (zb rfl)) xr ?_
    refine zo rfl rfl (zf rfl yD (zb rfl)) xE ?_
    refine zo rfl rfl (xa rfl yZ xp xH xZ (yn hx1) (GNode.row_eq _)) xR ?_
    refine zo rfl rfl (zj rfl vX xO rfl) xY ?_
    refine zo rfl rfl (zX rfl qa xV (zt rfl) (zb rfl)) x7 ?_
    refine zo rfl rfl (zf rfl yw (zb rfl)) xQ ?_
    refine zo rfl rfl (zf rfl yD (zb rfl)) wc ?_
    refine zU hF (fun y41 hy41 hF=>?_)
    refine zo rfl rfl (xa rfl yZ xB wg xZ hy41 (GNode.row_eq _)) wb ?_
    refine zo rfl rfl (zj rfl vX x4 rfl) wJ ?_
    refine zo rfl rfl (zX rfl qa wF (zt rfl) (zb rfl)) wR ?_
    refine zo rfl rfl (zy rfl x9 wU rfl) wZ ?_
    refine zo rfl rfl (zf rfl w6 (zb rfl)) vf ?_
    refine zr rfl rfl (fun hb=>zf rfl yl (zb rfl)) ve ?_
    refine zr rfl rfl (fun hb=>zf rfl yD (zb rfl)) vd ?_
    refine xe hF (fun hg42 hF=>?_)
    refine zr rfl rfl (fun hb=>vL default rfl yZ (zn vn hb) (zn vm hb) xZ (hg42 hb) (GNode.row_eq _)) vc ?_
    refine zr rfl rfl (fun hb=>zj rfl xh (zn w5 hb) rfl) vu ?_
    refine zr rfl rfl (fun hb=>zX rfl qb (zn vA hb) (zt rfl) (zb rfl)) vt ?_
    refine draw_glen rfl rfl (fun hb=>zO rfl rfl rfl rfl wh (zn vl hb) ya) vb ?_
    refine zr rfl rfl (fun hb=>zf rfl yw (zb rfl)) wQ ?_
    refine zr rfl rfl (fun hb=>zf rfl yD (zb rfl)) va ?_
    refine xe hF (fun hg44 hF=>?_)
    refine zr rfl rfl (fun hb=>vL default rfl yZ (zn wN hb) (zn vj hb) xZ (hg44 hb) (GNode.row_eq _)) vE ?_
    refine zr rfl rfl (fun hb=>zj rfl xh (zn vz hb) rfl) vJ ?_
    refine zr rfl rfl (fun hb=>zX rfl qb (zn vF hb) (zt rfl) (zb rfl)) (sk st0) ?_
    refine draw_glen rfl rfl (fun hb=>zO rfl rfl rfl rfl wh (zn (gk yl) hb) ya) (sk st1) ?_
    refine zr rfl rfl (fun hb=>zy rfl (zn vk hb) (zn (gk yw) hb) rfl) (sk yU) ?_
    refine zo rfl rfl (zM rfl vo rfl (gk yT) (yd (fun ht=>gF ht))) (sk x5) ?_
    refine zo rfl rfl (zf rfl (gk y8) (zb rfl)) (sk yu) ?_
    refine zr rfl rfl (fun hb=>zf rfl yl (zb rfl)) (sk xg) ?_
    refine zr rfl rfl (fun hb=>zf rfl yD (zb rfl)) (sk xn) ?_
    refine xe hF (fun hg46 hF=>?_)
    refine zr rfl rfl (fun hb=>vL default rfl yZ (zn (gk yD) hb) (zn (gk yS) hb) xZ (hg46 hb) (GNode.row_eq _)) (sk xJ) ?_
    refine zr rfl rfl (fun hb=>zj rfl qE (zn (gk xl) hb) rfl) (sk xM) ?_
    refine zr rfl rfl (fun hb=>zX rfl ty23 (zn (gk xc) hb) (zt rfl) (zb rfl)) (sk wv) ?_
    refine zr rfl rfl (fun hb=>zf rfl yw (zb rfl)) (sk yF) ?_
    refine zr rfl rfl (fun hb=>zf rfl yD (zb rfl)) (sk yL) ?_
    refine xe hF (fun hg47 hF=>?_)
    refine zr rfl rfl (fun hb=>vL default rfl yZ (zn (gk yv) hb) (zn (gk yA) hb) xZ (hg47 hb) (GNode.row_eq _)) (sk yQ) ?_
    refine zr rfl rfl (fun hb=>zj rfl qE (zn (gk yK) hb) rfl) (sk yW) ?_
    refine zr rfl rfl (fun hb=>zX rfl ty23 (zn (gk yN) hb) (zt rfl) (zb rfl)) (sk y3) ?_
    refine yO hF (fun v48 hv48 hF=>?_)
    refine wp rfl rfl (fun hb=>zF rfl rfl rfl (zp (zn (gk xy) hb) (zp (zn (gk y6) hb) zx)) (.cons (zb rfl) (.cons (zb rfl) .nil))) (fun hb=>ih (hv48 hb)) (sk y2) ?_
    refine zr rfl rfl (fun hb=>xF rfl (zn (gk yR) hb) rfl) (sk xd) ?_
    refine zo rfl rfl (zM rfl (gk yz) rfl (gk xb) (yd (fun ht=>gF ht))) (sk xi) ?_
    refine yh ?_
    refine zi ?_
    refine zL (gk xj) hF (fun hc49 hF=>?_) (fun hc49 hF=>?_)
    ·refine zk (zd ?_)
     refine zc rfl (zg rfl rfl (zb rfl)) yu ?_
     refine ze (zi (zH (zw ?_)))
     refine zC ?_
     refine zw ?_
     refine yb ?_
     obtain rfl:=Option.some.inj hF
     replace hF:=hK1
     refine zC ?_
     refine zw ?_
     obtain rfl:=Option.some.inj hF
     refine zz rfl (zD yz zE) (zB (leV.refl _) rfl ?_)
     exact ⟨rfl,rfl⟩
    ·refine zG (zi (zk (zd ?_)))
     refine zc rfl (zg rfl rfl (zb rfl)) xn ?_
     refine ze (zi (zJ ?_))
     refine yi (fun (n2:Nat) (s2:Unit)=>yr [2,3,4,7,8,9,10,11,12,13,14,15,16,17,18,19,20,21,22,23,24,25,26,27,28,29,30,31,32,33,34,35,36,37,38,39,40,41,42,43,44,45,46,47,48,49,50,51,52,53,54,55,56,57,58,59,60,61,62,63,64,65,66,67,68,69,70,71,72,73,74,75,76,77,78,79,80,81,82,83,84,85] [(6,.int .i64 (n2:Int))]) (fun s2=>h.ext [] []) hF (fun _ _=>by simp only [yr,qN,List.set_cons_succ,List.set_cons_zero];try rfl) (wk.le (by exact (.eq (.eq (.drop (.drop (.drop (.eq (.cons (leV.of_eq rfl) (.d16 (.d16 (.d16 (.d16 (.d4 (.d4 (.d4 (.drop (.drop (.drop leL.nil))))))))))))))))))) ?_
     intro n2 s2 hi2 hF
     refine zk (zk (zd ?_))
     refine zc rfl (zf rfl yS (zb rfl)) (sk xr) ?_
     refine zc rfl (zf rfl yl (zb rfl)) (sk xE) ?_
     refine zc rfl (zf rfl yD (zb rfl)) (sk xR) ?_
     refine zc rfl (xa rfl yZ (gk xH) (gk xO) xZ (yn hx1) (GNode.row_eq _)) (sk xY) ?_
     refine zc rfl (zj rfl xh (gk xV) rfl) (sk x7) ?_
     refine zc rfl (zX rfl qb (gk x9) (zt rfl) (zb rfl)) (sk xQ) ?_
     refine zZ rfl (zO rfl rfl rfl rfl wh (gk xB) ya) (sk wc) fun hn59=>?_
     replace hn59:=y9 hn59
     refine zc rfl (zy rfl (gk xp) (gk wg) rfl) (sk wb) ?_
     refine ze (zi ?_)
     refine yo (gk x4) hF (fun x2 o2 hl2 hx2 hF hK2=>?_) (fun hF=>?_)
     ·refine zG (zi (zk (zJ (zk ?_))))
      refine yk [16] [] trivial mixed (by kernel_rfl) ?_
      refine zo rfl rfl (zf rfl yl (zb rfl)) (sk wZ) ?_
      refine zo rfl rfl (zf rfl yD (zb rfl)) (sk vf) ?_
      refine zo rfl rfl (xa rfl yZ (gk w6) (gk vo) xZ (yn hx1) (GNode.row_eq _)) (sk ve) ?_
      refine zo rfl rfl (zj rfl xh (gk vn) rfl) (sk vd) ?_
      refine zo rfl rfl (zX rfl qb (gk vm) (zt rfl) (zb rfl)) (sk vc) ?_
      refine zo rfl rfl (zf rfl yS (zb rfl)) (sk vu) ?_
      refine zo rfl rfl (yg rfl wh (gk w5) (gk vA) xZ (yn hx2)) (sk vt) ?_
      refine zo rfl rfl (zX rfl ty45.choose_spec.1 (gk vl) (zK (cs':=[.int .u8 x2.typ,.int .i64 x2.n,.int .u64 x2.time,.int .u8 x2.dot.actor.rep,.int .u32 x2.dot.actor.inc,.int .u64 x2.dot.seq,.str x2.text,.sl 5 (x2.items.map GItem.row),.sl 3 (x2.tombs.map GDot.row)]) ty45.choose_spec.2 rfl rfl) (zb rfl)) (sk vb) ?_
      refine zo rfl rfl (zf rfl yw (zb rfl)) (sk wQ) ?_
      refine zo rfl rfl (zf rfl yD (zb rfl)) (sk va) ?_
      refine zU hF (fun y60 hy60 hF=>?_)
      refine zo rfl rfl (xa rfl yZ (gk wN) (gk vj) xZ hy60 (GNode.row_eq _)) (sk vE) ?_
      refine zo rfl rfl (zj rfl xh (gk vz) rfl) (sk vJ) ?_
      refine zo rfl rfl (zX rfl qb (gk vF) (zt rfl) (zb rfl)) (sk (sk st0)) ?_
      refine zo rfl rfl (zf rfl yS (zb rfl)) (sk (sk st1)) ?_
      refine zU hF (fun y61 hy61 hF=>?_)
      refine zo rfl rfl (yg rfl wh (gk (gk yl)) (gk (gk yw)) xZ hy61) (sk (sk yU)) ?_
      refine zo rfl rfl (zX rfl ty45.choose_spec.1 (gk (gk yT)) (zK (cs':=[.int .u8 y61.typ,.int .i64 y61.n,.int .u64 y61.time,.int .u8 y61.dot.actor.rep,.int .u32 y61.dot.actor.inc,.int .u64 y61.dot.seq,.str y61.text,.sl 5 (y61.items.map GItem.row),.sl 3 (y61.tombs.map GDot.row)]) ty45.choose_spec.2 rfl rfl) (zb rfl)) (sk (sk x5)) ?_
      refine zU hF (fun v62 hv62 hF=>?_)
      refine yC rfl rfl (fun _=>zF rfl rfl rfl (zp (gk vk) (zp (gk (gk y8)) zx)) (.cons (zb rfl) (.cons (zb rfl) .nil))) (by rintro _ ⟨B2,T2,rfl,hk2⟩;exact ok28 hv62) (sk (sk yu)) ?_
      refine zo rfl rfl (xF rfl (gk (gk yz)) rfl) (sk (sk xg)) ?_
      refine yh ?_
      refine zi ?_
      refine zL (gk (gk yD)) hF (fun hc63 hF=>?_) (fun hc63 hF=>?_)
      ·refine zk (zd ?_)
       refine zc rfl (zg rfl rfl (zb rfl)) yu ?_
       refine ze (zi (zH ?_))
       refine zC ?_
       refine zw ?_
       refine yb ?_
       obtain rfl:=Option.some.inj hF
       replace hF:=hK2
       refine zC ?_
       refine zC ?_
       refine zw ?_
       refine yb ?_
       obtain rfl:=Option.some.inj hF
       replace hF:=hK1
       refine zC ?_
       refine zw ?_
       obtain rfl:=Option.some.inj hF
       refine zz rfl (zD yz zE) (zB (leV.refl _) rfl ?_)
       exact ⟨rfl,rfl⟩
      ·refine zG (yc (zi (zd ?_)))
       refine zc rfl (zf rfl yS (zb rfl)) (sk wJ) ?_
       refine zc rfl (zy rfl (gk wF) rfl rfl) (sk wR) ?_
       refine zc rfl (zg rfl (gk wU) (zb rfl)) xn ?_
       refine ze (yp ?_)
       obtain rfl:=Option.some.inj hF
       exact ⟨(),hl2,hK2,wk.le (by exact (.eq (.eq (.drop (.drop (.drop (.eq (.cons (leV.of_eq (wn (by omega) (by omega))) (.d16 (.d16 (.d16 (.d16 (.d4 (.d4 (.d4 (.drop (.drop (.drop leL.nil))))))))))))))))))⟩
     ·refine yx ?_
      refine zW ?_
      refine zP ?_
      refine zQ ?_
      refine yc (zi (zd ?_))
      refine zc rfl (zf rfl yD (zb rfl)) xd ?_
      refine zc rfl (zy rfl xb rfl rfl) xi ?_
      refine zc rfl (zg rfl xj (zb rfl)) xg ?_
      refine ze (yp ?_)
      obtain rfl:=Option.some.inj hF
      exact ⟨(),hl1,hK1,wk.le (by exact (.eq (.eq (.drop (.drop (.drop (.cons (leV.of_eq (wn (by omega) (by omega))) (.d16 (.d16 (.d16 (.d16 (.d16 leL.nil))))))))))))⟩
   ·refine yx ?_
    refine zW ?_
    refine zP ?_
    refine zQ ?_
    refine zi (zk (zd ?_))
    refine zc rfl (zg rfl rfl (zb rfl)) yu ?_
    refine ze (zi (zH ?_))
    obtain rfl:=Option.some.inj hF
    refine zz rfl (zD yz zE) (zB (leV.refl _) rfl ?_)
    exact ⟨rfl,rfl⟩
theorem ok11 {a0:(List GNode)} {b1:(List GNode)} {res:Bool} {h:AH}  (hF:ref07Same a0 b1=some res):Spec Try.prog 11 [.sl 3 (a0.map GNode.row),.sl 3 (b1.map GNode.row)] h (fun rr hh=>rr=.bool res∧hh=h):=by
 obtain ⟨n,hn⟩:=q9 hF
 exact ok11N n  hn
theorem ok29 {a0:(List zR)} {b1:(List zR)} {res:Bool} {h:AH}  (hF:qc a0 b1=some res):Spec Try.prog 29 [.sl 1 (a0.map zI),.sl 1 (b1.map zI)] h (fun rr hh=>rr=.bool res∧hh=h):=by
 unfold qc at hF
 refine zu Try.func29 rfl (by kernel_rfl) (env:=[.sl 1 (a0.map zI),.sl 1 (b1.map zI),za,za,za,za,za,za,za,za,za,za,za,za,za,za,za,za,za,za,za,za,za,za,za,za]) (by rfl) ?_
 refine zk (zd ?_)
 refine zc rfl (zg rfl rfl (zb rfl)) yu ?_
 refine ze (zi (zk (zk (zd ?_))))
 refine zc rfl (zf rfl yl (zb rfl)) xn ?_
 refine zZ rfl (zO rfl rfl rfl rfl yG yS ya) xJ fun hn1=>?_
 replace hn1:=y9 hn1
 refine zc rfl (zf rfl yw (zb rfl)) xM ?_
 refine zZ rfl (zO rfl rfl rfl rfl yG xc ya) wv fun hn2=>?_
 replace hn2:=y9 hn2
 refine zc rfl (zy rfl xl xy rfl) yF ?_
 refine ze (zi ?_)
 refine zL yv hF (fun hc3 hF=>?_) (fun hc3 hF=>?_)
 ·refine zk (zd ?_)
  refine zc rfl (zg rfl rfl (zb rfl)) yu ?_
  refine ze (zi (zH (zw ?_)))
  obtain rfl:=Option.some.inj hF
  refine zz rfl (zD yz zE) (zB (leV.refl _) rfl ?_)
  exact ⟨rfl,rfl⟩
 ·refine zG (zi (zk (zk (zd ?_))))
  refine zc rfl (zg rfl rfl (zb rfl)) xg ?_
  refine ze (zi (zJ ?_))
  refine yi (fun (n1:Nat) (s1:Unit)=>yr [2,3,4,6,7,8,9,10,11,12,13,14,15,16,17,18,19,20,21,22,23,24,25] [(5,.int .i64 (n1:Int))]) (fun s1=>h.ext [] []) hF (fun _ _=>by simp only [yr,qN,List.set_cons_succ,List.set_cons_zero];try rfl) (wk.le (by exact (.eq (.eq (.drop (.drop (.drop (.cons (leV.of_eq rfl) (.d16 (.d4 leL.nil)))))))))) ?_
  intro n1 s1 hi1 hF
  refine zk (zk (zd ?_))
  refine zc rfl (zf rfl yD (zb rfl)) yL ?_
  refine zc rfl (zf rfl yl (zb rfl)) yQ ?_
  refine zZ rfl (zO rfl rfl rfl rfl yG yK ya) yW fun hn11=>?_
  replace hn11:=y9 hn11
  refine zc rfl (zy rfl yA yN rfl) y3 ?_
  refine ze (zi ?_)
  refine yo y6 hF (fun x1 o1 hl1 hx1 hF hK1=>?_) (fun hF=>?_)
  ·refine zG (zi (zk (zJ (zk ?_))))
   refine yk [] [] trivial mixed (by kernel_rfl) ?_
   refine zo rfl rfl (zf rfl yl (zb rfl)) xi ?_
   refine zo rfl rfl (zf rfl yD (zb rfl)) xr ?_
   refine zo rfl rfl (yg rfl yG xj xp xZ (yn hx1)) xE ?_
   refine zo rfl rfl (zX rfl qa xH (zt rfl) (zb rfl)) xR ?_
   refine zo rfl rfl (zf rfl yw (zb rfl)) xY ?_
   refine zo rfl rfl (zf rfl yD (zb rfl)) x7 ?_
   refine zU hF (fun y12 hy12 hF=>?_)
   refine zo rfl rfl (yg rfl yG xV x9 xZ hy12) xQ ?_
   refine zo rfl rfl (zX rfl qa xB (zt rfl) (zb rfl)) wc ?_
   refine zo rfl rfl (zy rfl xO wg rfl) wb ?_
   refine yh ?_
   refine zi ?_
   refine zL x4 hF (fun hc13 hF=>?_) (fun hc13 hF=>?_)
   ·refine zk (zd ?_)
    refine zc rfl (zg rfl rfl (zb rfl)) yu ?_
    refine ze (zi (zH ?_))
    refine zC ?_
    refine zw ?_
    refine yb ?_
    obtain rfl:=Option.some.inj hF
    replace hF:=hK1
    refine zC ?_
    refine zw ?_
    obtain rfl:=Option.some.inj hF
    refine zz rfl (zD yz zE) (zB (leV.refl _) rfl ?_)
    exact ⟨rfl,rfl⟩
   ·refine zG (yc (zi (zd ?_)))
    refine zc rfl (zf rfl yD (zb rfl)) y2 ?_
    refine zc rfl (zy rfl yR rfl rfl) xd ?_
    refine zc rfl (zg rfl xb (zb rfl)) xg ?_
    refine ze (yp ?_)
    obtain rfl:=Option.some.inj hF
    exact ⟨(),hl1,hK1,wk.le (by exact (.eq (.eq (.drop (.drop (.drop (.cons (leV.of_eq (wn (by omega) (by omega))) (.d16 (.d4 leL.nil)))))))))⟩
  ·refine yx ?_
   refine zW ?_
   refine zP ?_
   refine zQ ?_
   refine zi (zk (zd ?_))
   refine zc rfl (zg rfl rfl (zb rfl)) yu ?_
   refine ze (zi (zH ?_))
   obtain rfl:=Option.some.inj hF
   refine zz rfl (zD yz zE) (zB (leV.refl _) rfl ?_)
   exact ⟨rfl,rfl⟩
theorem ok12 {a0:(List GRow)} {b1:(List GRow)} {res:Bool} {h:AH}  (hF:ref30Same a0 b1=some res):Spec Try.prog 12 [.sl 10 (a0.map GRow.row),.sl 10 (b1.map GRow.row)] h (fun rr hh=>rr=.bool res∧hh=h):=by
 unfold ref30Same at hF
 refine zu Try.func12 rfl (by kernel_rfl) (env:=[.sl 10 (a0.map GRow.row),.sl 10 (b1.map GRow.row),za,za,za,za,za,za,za,za,za,za,za,za,za,za,za,za,za,za,za,za,za,za,za,za,za,za,za,za,za,za,za,za,za,za,za,za,za,za,za,za,za]) (by rfl) ?_
 refine zk (zd ?_)
 refine zc rfl (zg rfl rfl (zb rfl)) yu ?_
 refine ze (zi (zk (zk (zd ?_))))
 refine zc rfl (zf rfl yl (zb rfl)) xn ?_
 refine zZ rfl (zO rfl rfl rfl rfl w7 yS ya) xJ fun hn1=>?_
 replace hn1:=y9 hn1
 refine zc rfl (zf rfl yw (zb rfl)) xM ?_
 refine zZ rfl (zO rfl rfl rfl rfl w7 xc ya) wv fun hn2=>?_
 replace hn2:=y9 hn2
 refine zc rfl (zy rfl xl xy rfl) yF ?_
 refine ze (zi ?_)
 refine zL yv hF (fun hc3 hF=>?_) (fun hc3 hF=>?_)
 ·refine zk (zd ?_)
  refine zc rfl (zg rfl rfl (zb rfl)) yu ?_
  refine ze (zi (zH (zw ?_)))
  obtain rfl:=Option.some.inj hF
  refine zz rfl (zD yz zE) (zB (leV.refl _) rfl ?_)
  exact ⟨rfl,rfl⟩
 ·refine zG (zi (zk (zk (zd ?_))))
  refine zc rfl (zg rfl rfl (zb rfl)) xg ?_
  refine ze (zi (zJ ?_))
  refine yi (fun (n1:Nat) (s1:Unit)=>yr [2,3,4,6,7,8,9,10,11,12,13,14,15,16,17,18,19,20,21,22,23,24,25,26,27,28,29,30,31,32,33,34,35,36,37,38,39,40,41,42] [(5,.int .i64 (n1:Int))]) (fun s1=>h.ext [] []) hF (fun _ _=>by simp only [yr,qN,List.set_cons_succ,List.set_cons_zero];try rfl) (wk.le (by exact (.eq (.eq (.drop (.drop (.drop (.cons (leV.of_eq rfl) (.d16 (.d16 (.d4 (.drop leL.nil)))))))))))) ?_
  intro n1 s1 hi1 hF
  refine zk (zk (zd ?_))
  refine zc rfl (zf rfl yD (zb rfl)) yL ?_
  refine zc rfl (zf rfl yl (zb rfl)) yQ ?_
  refine zZ rfl (zO rfl rfl rfl rfl w7 yK ya) yW fun hn15=>?_
  replace hn15:=y9 hn15
  refine zc rfl (zy rfl yA yN rfl) y3 ?_
  refine ze (zi ?_)
  refine yo y6 hF (fun x1 o1 hl1 hx1 hF hK1=>?_) (fun hF=>?_)
  ·refine zG (zi (zk (zJ (zk ?_))))
   refine yk [10] [] trivial mixed (by kernel_rfl) ?_
   refine zo rfl rfl (zf rfl yl (zb rfl)) xi ?_
   refine zo rfl rfl (zf rfl yD (zb rfl)) xr ?_
   refine zo rfl rfl (yg rfl w7 xj xp xZ (yn hx1)) xE ?_
   refine zo rfl rfl (zj rfl fo47x0 xH rfl) xR ?_
   refine zo rfl rfl (zX rfl ty24 xO (zt rfl) (zb rfl)) xY ?_
   refine zo rfl rfl (zf rfl yw (zb rfl)) x7 ?_
   refine zo rfl rfl (zf rfl yD (zb rfl)) xQ ?_
   refine zU hF (fun y16 hy16 hF=>?_)
   refine zo rfl rfl (yg rfl w7 x9 xB xZ hy16) wc ?_
   refine zo rfl rfl (zj rfl fo47x0 wg rfl) wb ?_
   refine zo rfl rfl (zX rfl ty24 x4 (zt rfl) (zb rfl)) wJ ?_
   refine zU hF (fun v17 hv17 hF=>?_)
   refine yC rfl rfl (fun _=>zF rfl rfl rfl (zp xV (zp wF zx)) (.cons (zb rfl) (.cons (zb rfl) .nil))) (by rintro _ ⟨B2,T2,rfl,hk2⟩;exact ok29 hv17) wR ?_
   refine zo rfl rfl (xF rfl wU rfl) wZ ?_
   refine zo rfl rfl (zf rfl w6 (zb rfl)) vf ?_
   refine zr rfl rfl (fun hb=>zf rfl yl (zb rfl)) ve ?_
   refine zr rfl rfl (fun hb=>zf rfl yD (zb rfl)) vd ?_
   refine xe hF (fun hg18 hF=>?_)
   refine zr rfl rfl (fun hb=>yH default rfl w7 (zn vn hb) (zn vm hb) xZ (hg18 hb)) vc ?_
   refine zr rfl rfl (fun hb=>zj rfl fo47x1 (zn w5 hb) rfl) vu ?_
   refine zr rfl rfl (fun hb=>zX rfl ty45.choose_spec.1 (zn vA hb) (zK (cs':=[.int .u8 (((a0).getD (n1:Int).toNat default).leaf.typ),.int .i64 (((a0).getD (n1:Int).toNat default).leaf.n),.int .u64 (((a0).getD (n1:Int).toNat default).leaf.time),.int .u8 (((a0).getD (n1:Int).toNat default).leaf.dot.actor.rep),.int .u32 (((a0).getD (n1:Int).toNat default).leaf.dot.actor.inc),.int .u64 (((a0).getD (n1:Int).toNat default).leaf.dot.seq),.str (((a0).getD (n1:Int).toNat default).leaf.text),.sl 5 ((((a0).getD (n1:Int).toNat default).leaf.items).map GItem.row),.sl 3 ((((a0).getD (n1:Int).toNat default).leaf.tombs).map GDot.row)]) ty45.choose_spec.2 rfl rfl) (zb rfl)) vt ?_
   refine zr rfl rfl (fun hb=>zf rfl yw (zb rfl)) vb ?_
   refine zr rfl rfl (fun hb=>zf rfl yD (zb rfl)) wQ ?_
   refine xe hF (fun hg19 hF=>?_)
   refine zr rfl rfl (fun hb=>yH default rfl w7 (zn vk hb) (zn wN hb) xZ (hg19 hb)) va ?_
   refine zr rfl rfl (fun hb=>zj rfl fo47x1 (zn vj hb) rfl) vE ?_
   refine zr rfl rfl (fun hb=>zX rfl ty45.choose_spec.1 (zn vz hb) (zK (cs':=[.int .u8 (((b1).getD (n1:Int).toNat default).leaf.typ),.int .i64 (((b1).getD (n1:Int).toNat default).leaf.n),.int .u64 (((b1).getD (n1:Int).toNat default).leaf.time),.int .u8 (((b1).getD (n1:Int).toNat default).leaf.dot.actor.rep),.int .u32 (((b1).getD (n1:Int).toNat default).leaf.dot.actor.inc),.int .u64 (((b1).getD (n1:Int).toNat default).leaf.dot.seq),.str (((b1).getD (n1:Int).toNat default).leaf.text),.sl 5 ((((b1).getD (n1:Int).toNat default).leaf.items).map GItem.row),.sl 3 ((((b1).getD (n1:Int).toNat default).leaf.tombs).map GDot.row)]) ty45.choose_spec.2 rfl rfl) (zb rfl)) vJ ?_
   refine yO hF (fun v20 hv20 hF=>?_)
   refine wp rfl rfl (fun hb=>zF rfl rfl rfl (zp (zn vl hb) (zp (zn vF hb) zx)) (.cons (zb rfl) (.cons (zb rfl) .nil))) (fun hb=>ok28 (hv20 hb)) (sk st0) ?_
   refine zr rfl rfl (fun hb=>xF rfl (zn (gk yl) hb) rfl) (sk st1) ?_
   refine zo rfl rfl (zM rfl vo rfl (gk yw) (yd (fun ht=>gF ht))) (sk yU) ?_
   refine yh ?_
   refine zi ?_
   refine zL (gk yT) hF (fun hc21 hF=>?_) (fun hc21 hF=>?_)
   ·refine zk (zd ?_)
    refine zc rfl (zg rfl rfl (zb rfl)) yu ?_
    refine ze (zi (zH ?_))
    refine zC ?_
    refine zw ?_
    refine yb ?_
    obtain rfl:=Option.some.inj hF
    replace hF:=hK1
    refine zC ?_
    refine zw ?_
    obtain rfl:=Option.some.inj hF
    refine zz rfl (zD yz zE) (zB (leV.refl _) rfl ?_)
    exact ⟨rfl,rfl⟩
   ·refine zG (yc (zi (zd ?_)))
    refine zc rfl (zf rfl yD (zb rfl)) y2 ?_
    refine zc rfl (zy rfl yR rfl rfl) xd ?_
    refine zc rfl (zg rfl xb (zb rfl)) xg ?_
    refine ze (yp ?_)
    obtain rfl:=Option.some.inj hF
    exact ⟨(),hl1,hK1,wk.le (by exact (.eq (.eq (.drop (.drop (.drop (.cons (leV.of_eq (wn (by omega) (by omega))) (.d16 (.d16 (.d4 (.drop leL.nil)))))))))))⟩
  ·refine yx ?_
   refine zW ?_
   refine zP ?_
   refine zQ ?_
   refine zi (zk (zd ?_))
   refine zc rfl (zg rfl rfl (zb rfl)) yu ?_
   refine ze (zi (zH ?_))
   obtain rfl:=Option.some.inj hF
   refine zz rfl (zD yz zE) (zB (leV.refl _) rfl ?_)
   exact ⟨rfl,rfl⟩
theorem okT3 {t0:(List GNode)} {p1:(List zR)} {res:Bool} {h:AH} (hh0:h=h0) (hF:wT t0 p1=some res):SpecT Try.prog 3 [.bsl 3 (t0.map GNode.rowB),.sl 1 (p1.map zI)] h (fun rr=>rr=.bool res):=by
 unfold wT at hF
 refine specT_of_body_ext Try.func3 rfl 8 (env:=[.bsl 3 (t0.map GNode.rowB),.sl 1 (p1.map zI),za,za,za,za,za,za,za,za,za,za,za,za,za,za,za,za,za,za,za,za,za,za,za,za,za,za,za,za,za,za,za,za,za,za,za,za,za,za,za,za,za,za,za,za,za,za,za,za,za,za,za,za,za,za,za,za,za,za,za,za,za,za,za,za,za,za,za,za,za,za,za,za,za,za,za,za,za,za,za,za,za,za,za,za,za,za,za,za,za,za,za,za,za,za,za,za,za,za,za,za,za,za,za,za,za,za,za,za,za,za,za,za,za,za,za,za,za]) (by rfl) ?_
 refine c_seq ?_
 refine zd ?_
 refine zc rfl (zg rfl rfl (zb rfl)) yu ?_
 refine ze ?_
 refine cq_seq ?_
 refine c_seq ?_
 refine zk (zd ?_)
 refine zc rfl (zf rfl yl (zb rfl)) xr ?_
 refine zU hF (fun v1 hv1 hF=>?_)
 refine zN rfl (zF rfl rfl rfl (zp xp zx) (.cons (zb rfl) .nil)) ((ok4 hv1).le (.cons (leG.bslM GNode.rowB_le).v leL.nil)) xE ?_
 refine zc rfl (zf rfl xH (zb rfl)) xR ?_
 refine zq rfl (fun hb=>zf rfl yw (zb rfl)) xY ?_
 refine zq rfl (fun hb=>z8 (es:=([p1]:List (List zR)).map (fun l=>[AV.sl 1 (l.map zI)])) rfl el52 ze24 rfl rfl (zY (zn xV hb) ye) (.cons (zb rfl) .nil) rfl rfl rfl) x7 ?_
 refine yO hF (fun v2 hv2 hF=>?_)
 refine ym rfl (fun hb=>zF rfl rfl rfl (zp (zn x9 hb) zx) (.cons (zb rfl) .nil)) (fun hb=>(ok5 (hv2 hb)).le (.cons (leV.osl _ _ _) leL.nil)) xQ ?_
 refine zc rfl (zM rfl xO rfl xB (yd (fun ht=>gF ht))) wc ?_
 refine ze (zi ?_)
 refine zL wg hF (fun hc3 hF=>?_) (fun hc3 hF=>?_)
 ·refine zk (zd ?_)
  refine zU hF (fun v4 hv4 hF=>?_)
  refine zN rfl (zF rfl rfl rfl zx .nil) (ok6 hv4) wb ?_
  refine zc rfl (zg rfl x4 (zb rfl)) yu ?_
  refine ze (zi (zH ?_))
  refine cq_ret ?_
  obtain rfl:=Option.some.inj hF
  refine t_retL1 rfl (zD yz zE) ?_
  rfl
 ·refine zG ?_
  refine cq_seq ?_
  refine c_seq ?_
  refine zd ?_
  refine zc rfl (zf rfl yl (zb rfl)) wR ?_
  refine zc rfl (zf rfl yw (zb rfl)) wZ ?_
  refine zU hF (fun v5 hv5 hF=>?_)
  refine zN rfl (zF rfl rfl rfl (zp wU (zp w6 zx)) (.cons (zb rfl) (.cons (zb rfl) .nil))) ((ok7 hv5).le (.cons (leG.bslM GNode.rowB_le).v (.eq leL.nil))) vf ?_
  refine zc rfl (zf rfl vo (zb rfl)) wJ ?_
  refine zc rfl (xk rfl wF rfl (zb rfl)) ve ?_
  refine zc rfl (xk rfl wF rfl (zb rfl)) vd ?_
  refine zc rfl (zg rfl vn (zb rfl)) xg ?_
  refine zc rfl (zg rfl vm (zb rfl)) xn ?_
  refine ze ?_
  refine cq_seq ?_
  refine c_seq ?_
  refine zd ?_
  refine zc rfl (zf rfl yl (zb rfl)) vu ?_
  refine zc rfl (zf rfl yw (zb rfl)) vt ?_
  refine zU hF (fun v6 hv6 hF=>?_)
  refine zN rfl (zF rfl rfl rfl (zp vA (zp vl (zp rfl zx))) (.cons (zb rfl) (.cons (zb rfl) (.cons (zb rfl) .nil)))) ((ok8 hv6).le (.cons (leG.bslM GNode.rowB_le).v (.eq (.eq leL.nil)))) vb ?_
  refine zc rfl (zf rfl vk (zb rfl)) vc ?_
  refine zc rfl (xk rfl w5 rfl (zb rfl)) wQ ?_
  refine zc rfl (xk rfl w5 rfl (zb rfl)) va ?_
  refine zc rfl (zg rfl wN (zb rfl)) xJ ?_
  refine zc rfl (zg rfl vj (zb rfl)) xM ?_
  refine ze ?_
  refine cq_seq ?_
  refine c_seq ?_
  refine zd ?_
  refine zc rfl (zf rfl yl (zb rfl)) vJ ?_
  refine zc rfl (zf rfl yw (zb rfl)) (sk st0) ?_
  refine zU hF (fun v7 hv7 hF=>?_)
  refine zN rfl (zF rfl rfl rfl (zp vF (zp (gk yl) zx)) (.cons (zb rfl) (.cons (zb rfl) .nil))) ((ok9 hv7).le (.cons (leG.bslM GNode.rowB_le).v (.eq leL.nil))) (sk st1) ?_
  refine zc rfl (zf rfl (gk yw) (zb rfl)) vE ?_
  refine zc rfl (xk rfl vz rfl (zb rfl)) (sk yU) ?_
  refine zc rfl (xk rfl vz rfl (zb rfl)) (sk x5) ?_
  refine zc rfl (zg rfl (gk yT) (zb rfl)) wv ?_
  refine zc rfl (zg rfl (gk y8) (zb rfl)) yF ?_
  refine ze ?_
  refine cq_seq ?_
  refine c_seq ?_
  refine zd ?_
  refine zc rfl (zf rfl yl (zb rfl)) (sk xg) ?_
  refine zc rfl (zf rfl yw (zb rfl)) (sk xn) ?_
  refine zU hF (fun v8 hv8 hF=>?_)
  refine zN rfl (zF rfl rfl rfl (zp (gk yD) (zp (gk yS) (zp rfl zx))) (.cons (zb rfl) (.cons (zb rfl) (.cons (zb rfl) .nil)))) ((ok8 hv8).le (.cons (leG.bslM GNode.rowB_le).v (.eq (.eq leL.nil)))) (sk xJ) ?_
  refine zc rfl (zf rfl (gk xl) (zb rfl)) (sk yu) ?_
  refine zc rfl (xk rfl (gk yz) rfl (zb rfl)) (sk xM) ?_
  refine zc rfl (xk rfl (gk yz) rfl (zb rfl)) (sk wv) ?_
  refine zc rfl (zg rfl (gk xc) (zb rfl)) yL ?_
  refine zc rfl (zg rfl (gk xy) (zb rfl)) yQ ?_
  refine ze ?_
  refine cq_seq ?_
  refine c_seq ?_
  refine zd ?_
  refine zc rfl (zf rfl yl (zb rfl)) (sk yF) ?_
  refine zU hF (fun v9 hv9 hF=>?_)
  refine qR rfl (zF rfl rfl rfl (zp (gk yv) zx) (.cons (zb rfl) .nil)) (row_newv (v':=.rsl (h.blks.length+0) (h.toks.length+0) 10 ((v9).length)) (B':=[.row (h.toks.length+0) 10 (v9.map GRow.rowN)]) (T':=[(v9).length]) (Spec.le (okM10 (by rw [ext_bl];rfl) (by rw [ext_tl];rfl) hv9) (.cons (leG.bslM GNode.rowB_le).v leL.nil)) rfl rfl rfl) (sk yL) ?_
  refine zc rfl (zg rfl (gk yA) (zb rfl)) yW ?_
  refine ze ?_
  refine cq_seq ?_
  refine c_seq ?_
  refine zk (zd ?_)
  refine zc rfl (zf rfl yD (zb rfl)) (sk yQ) ?_
  refine zc rfl (zf rfl xl (zb rfl)) (sk yW) ?_
  refine zU hF (fun v10 hv10 hF=>?_)
  refine zN rfl (zF rfl rfl rfl (zp (gk yK) (zp (gk yN) zx)) (.cons (zb rfl) (.cons (zb rfl) .nil))) (ok11 hv10) (sk y3) ?_
  refine zc rfl (xF rfl (gk y6) rfl) (sk y2) ?_
  refine zc rfl (zf rfl (gk yR) (zb rfl)) (sk xd) ?_
  refine zq rfl (fun hb=>zf rfl yS (zb rfl)) (sk xi) ?_
  refine zq rfl (fun hb=>zf rfl xc (zb rfl)) (sk xr) ?_
  refine zq rfl (fun hb=>zy rfl (zn (gk xj) hb) (zn (gk xp) hb) rfl) (sk xE) ?_
  refine zc rfl (zM rfl (gk xb) rfl (gk xH) (yd (fun ht=>gF ht))) (sk xR) ?_
  refine zc rfl (zf rfl (gk xO) (zb rfl)) (sk xY) ?_
  refine zq rfl (fun hb=>zf rfl xy (zb rfl)) (sk x7) ?_
  refine zq rfl (fun hb=>zf rfl yA (zb rfl)) (sk xQ) ?_
  refine yO hF (fun v11 hv11 hF=>?_)
  refine ym rfl (fun hb=>zF rfl rfl rfl (zp (zn (gk x9) hb) (zp (zn (gk xB) hb) zx)) (.cons (zb rfl) (.cons (zb rfl) .nil))) (fun hb=>ok11 (hv11 hb)) (sk wc) ?_
  refine zq rfl (fun hb=>xF rfl (zn (gk wg) hb) rfl) (sk wb) ?_
  refine zc rfl (zM rfl (gk xV) rfl (gk x4) (yd (fun ht=>gF ht))) (sk wJ) ?_
  refine zc rfl (zf rfl (gk wF) (zb rfl)) (sk wR) ?_
  refine zq rfl (fun hb=>zf rfl yv (zb rfl)) (sk wZ) ?_
  refine zq rfl (fun hb=>zf rfl yK (zb rfl)) (sk vf) ?_
  refine zq rfl (fun hb=>zy rfl (zn (gk w6) hb) (zn (gk vo) hb) rfl) (sk ve) ?_
  refine zc rfl (zM rfl (gk wU) rfl (gk vn) (yd (fun ht=>gF ht))) (sk vd) ?_
  refine zc rfl (zf rfl (gk vm) (zb rfl)) (sk vc) ?_
  refine zq rfl (fun hb=>zf rfl yN (zb rfl)) (sk vu) ?_
  refine zq rfl (fun hb=>zf rfl yl (zb rfl)) (sk vt) ?_
  refine yO hF (fun v12 hv12 hF=>?_)
  refine ym rfl (fun hb=>zF rfl rfl rfl (zp (zn (gk vl) hb) zx) (.cons (zb rfl) .nil)) (fun hb=>(ok13 (hv12 hb)).le (.cons (leG.bslM GNode.rowB_le).v leL.nil)) (sk vb) ?_
  refine yO hF (fun v13 hv13 hF=>?_)
  refine ym rfl (fun hb=>zF rfl rfl rfl (zp (zn (gk vA) hb) (zp (zn (gk vk) hb) zx)) (.cons (zb rfl) (.cons (zb rfl) .nil))) (fun hb=>spec_read (by exact (.cons (.row _ _ _ _ _ (by rw [wH];rfl) (by simp)) (.cons (.low _ rfl) .nil))) rfl ((ok12 (hv13 hb)).le (.cons (leG.slM GRow.rowN_le).v (.eq leL.nil))) (fun _ _ h=>h.1)) (sk wQ) ?_
  refine zq rfl (fun hb=>xF rfl (zn (gk wN) hb) rfl) (sk va) ?_
  refine zc rfl (zM rfl (gk w5) rfl (gk vj) (yd (fun ht=>gF ht))) (sk vE) ?_
  refine ze (zi ?_)
  refine zL (gk vz) hF (fun hc14 hF=>?_) (fun hc14 hF=>?_)
  ·refine zk (zd ?_)
   refine zc rfl (zg rfl rfl (zb rfl)) yu ?_
   refine ze (zi (zH ?_))
   refine cq_ret ?_
   obtain rfl:=Option.some.inj hF
   refine t_retL1 rfl (zD yz zE) ?_
   rfl
  ·refine zG ?_
   refine cq_seq ?_
   refine c_cut hh0 (by exact .cons (.bslM GNode.rowB_ct) (.away (.away (.away (.cons (.plain rfl) (.away (.cons (.plain rfl) (.away (.cons (.plain rfl) (.away (.cons (.plain rfl) (.away (.cons (.plain rfl) (.cons .rsl (.away (.away (.away (.away (.cons (.bslM GNode.rowB_ct) (.cons (.plain rfl) (.cons (.plain rfl) (.away (.away (.away (.cons (.plain rfl) (.away (.away (.cons (.bslM GNode.rowB_ct) (.away (.away (.away (.cons (.plain rfl) (.away (.cons (.bslM GNode.rowB_ct) (.away (.away (.away (.cons (.plain rfl) (.away (.cons (.bslM GNode.rowB_ct) (.away (.away (.away (.cons (.plain rfl) (.away (.cons (.bslM GNode.rowB_ct) (.away (.away (.away (.cons (.plain rfl) (.cons (.bslM GNode.rowB_ct) (.cons .rsl (.away (.away (.cons (.plain rfl) (.cons (.plain rfl) (.cons (.plain rfl) (.away (.away (.away (.cons (.plain rfl) (.cons (.plain rfl) (.away (.away (.away (.away (.cons (.plain rfl) (.cons (.plain rfl) (.away (.away (.away (.cons (.plain rfl) (.cons (.plain rfl) (.away (.away (.away (.away (.away (.cons (.plain rfl) (.away (.away (.away (.away (.away (.away (.away (.away (.away (.away (.away (.away (.away (.away (.away (.away (.away (.away (.away (.away (.away (.away (.away (.away (.away (.away (.away (.away (.away (.away (.away (.away (.away (.away (.away (.away (.away (.away (.away (.away .nil))))))))))))))))))))))))))))))))))))))))))))))))))))))))))))))))))))))))))))))))))))))))))))))))))))))))))))))))))))))) (by exact (.row (ctE.map GRow.rowN_ct _) .nil)) ?_
   refine zk (zk (zd ?_))
   refine zc rfl (zf rfl yN (zb rfl)) (sk vJ) ?_
   refine zZ rfl (zO rfl rfl rfl rfl w7 (gk vF) rfl) (sk (sk st0)) fun hn15=>?_
   refine zc rfl (zf rfl rfl (zb rfl)) (sk (sk st1)) ?_
   refine ze (zi (zJ ?_))
   refine xe hF (fun hR1 hF=>?_)
   refine yi (fun (n1:Nat) (s1:Unit)=>yr [1,2,3,4,5,6,7,8,9,10,11,12,13,14,15,16,17,18,19,20,21,22,23,24,25,26,27,28,29,30,31,32,33,34,35,36,37,38,39,40,41,42,43,44,45,46,47,48,49,50,51,52,53,54,55,56,57,58,59,60,61,62,63,64,65,66,67,68,69,70,71,72,73,74,75,76,77,78,82,83,84,85,86,87,88,89,90,91,92,93,94,95,96,97,98,99,100,101,102,103,104,105,106,107,108,109,110,111,112,113,114,115,116,117,118] [(81,.int .i64 (n1:Int))]) (fun s1=>h.ext [.row (h.toks.length+0) 10 (v9.map GRow.rowG)] [(v9).length]) hF (fun _ _=>by simp only [yr,qN,List.set_cons_succ,List.set_cons_zero];try rfl) (wk.le (by exact (.eq (.d16 (.d16 (.d16 (.d16 (.d4 (.d4 (.d4 (.drop (.drop (.eq (.eq (.cons (leV.of_eq rfl) (.d16 (.d16 (.d4 (.drop leL.nil))))))))))))))))))) ?_
   intro n1 s1 hi1 hF
   refine zk (zd ?_)
   refine zc rfl (zy rfl (gk (gk yw)) (gk (gk yl)) rfl) (sk (sk yU)) ?_
   refine ze (zi (zk ?_))
   refine r_condR (gk (gk yT)) hF (fun x1 o1 hl1 hm1 hx1 hF hK1=>?_) (fun hF=>?_)
   ·refine zG (zi (zk (zJ (zk (zd ?_)))))
    refine zU hF (fun y52 hy52 hF=>?_)
    refine zc rfl (e_idxR rfl w7 (gk vF) (gk (gk yw)) (idxRn hy52 rfl)) (sk (sk x5)) ?_
    refine zc rfl (e_ldR (off:=0) (i:=0) (q:=h.toks.length+0) (z:=(n1:Int).toNat) (row:=GRow.rowG) (fun _=>rfl) rfl ty47.choose_spec.1 (by decide) (gk (gk y8)) rfl rfl (idxR hy52).2.2 (zK (cs':=[.gsl 1 (y52.path).length,.int .u8 y52.leaf.typ,.int .i64 y52.leaf.n,.int .u64 y52.leaf.time,.int .u8 y52.leaf.dot.actor.rep,.int .u32 y52.leaf.dot.actor.inc,.int .u64 y52.leaf.dot.seq,.str y52.leaf.text,.gsl 5 (y52.leaf.items).length,.gsl 3 (y52.leaf.tombs).length]) ty47.choose_spec.2 rfl rfl) (zb rfl)) (sk (sk yu)) ?_
    refine zc rfl (wt (n:=1) rfl ze47 rfl) y2 ?_
    refine zc rfl (yP (cs':=[.gsl 1 (y52.path).length,.int .u8 y52.leaf.typ,.int .i64 y52.leaf.n,.int .u64 y52.leaf.time,.int .u8 y52.leaf.dot.actor.rep,.int .u32 y52.leaf.dot.actor.inc,.int .u64 y52.leaf.dot.seq,.str y52.leaf.text,.gsl 5 (y52.leaf.items).length,.gsl 3 (y52.leaf.tombs).length]) rfl ty47.choose_spec.1 yR (gk (gk yz)) (zb rfl) rfl rfl rfl rfl rfl) rfl ?_
    refine ze (zi (zk (zk (zd ?_))))
    refine zc rfl (zj rfl fo47x0 yR rfl) (sk (sk xg)) ?_
    refine zc rfl (zA rfl ty24 (gk (gk yD)) rfl (zt rfl) (zb rfl)) (sk (sk xn)) ?_
    refine zZ rfl (zO rfl rfl rfl rfl yG (gk (gk yS)) rfl) (sk (sk xJ)) fun hn53=>?_
    replace hn53:=y9 hn53
    refine zc rfl (zf rfl rfl (zb rfl)) (sk (sk xM)) ?_
    refine ze (zi (zJ ?_))
    refine yi (fun (n2:Nat) (s2:Unit)=>yr [1,2,3,4,5,6,7,8,9,10,11,12,13,14,16,17,18,19,20,21,22,23,24,25,26,27,28,29,30,31,32,33,34,35,36,37,38,39,40,41,42,43,44,45,46,47,48,49,50,51,52,53,54,55,56,57,58,59,60,61,62,63,64,65,66,67,68,69,70,71,72,73,74,75,76,77,78,82,83,84,85,86,89,90,91,92,93,94,95,96,97,98,99,100,101,102,103,104,105,106,107,108,109,110,111,112,113,114,115,116,117,118] [(88,.int .i64 (n2:Int))]) (fun s2=>h.ext [.row (h.toks.length+0) 10 (v9.map GRow.rowG),.cells [.gsl 1 (y52.path).length,.int .u8 y52.leaf.typ,.int .i64 y52.leaf.n,.int .u64 y52.leaf.time,.int .u8 y52.leaf.dot.actor.rep,.int .u32 y52.leaf.dot.actor.inc,.int .u64 y52.leaf.dot.seq,.str y52.leaf.text,.gsl 5 (y52.leaf.items).length,.gsl 3 (y52.leaf.tombs).length]] [(v9).length]) hF (fun _ _=>by simp only [yr,qN,List.set_cons_succ,List.set_cons_zero];try rfl) (wk.le (by exact (.eq (.d4 (.d4 (.d4 (.drop (.drop (.eq (.d16 (.d16 (.d16 (.d4 (.d4 (.d4 (.drop (.drop (.drop (.eq (.eq (.eq (.d4 (.drop (.eq (.cons (leV.of_eq rfl) (.d16 (.d4 (.d4 (.d4 (.drop (.drop leL.nil))))))))))))))))))))))))))))))) ?_
    intro n2 s2 hi2 hF
    refine zk (zd ?_)
    refine zc rfl (zy rfl (gk (gk xc)) (gk (gk xl)) rfl) (sk (sk wv)) ?_
    refine ze (zi (zk ?_))
    refine yo (gk (gk xy)) hF (fun x2 o2 hl2 hx2 hF hK2=>?_) (fun hF=>?_)
    ·refine zG (zi (zk (zJ (zk (zd ?_)))))
     refine zc rfl (zf rfl (gk (gk xc)) (zb rfl)) (sk (sk yF)) ?_
     refine zc rfl (zg rfl (gk (gk yv)) (zb rfl)) xd ?_
     refine ze (zi (zd ?_))
     refine zc rfl (zj rfl fo47x0 yR rfl) (sk (sk yL)) ?_
     refine zc rfl (zA rfl ty24 (gk (gk yA)) rfl (zt rfl) (zb rfl)) (sk (sk yQ)) ?_
     refine zc rfl (zf rfl xb (zb rfl)) (sk (sk yW)) ?_
     refine zc rfl (s_idxG rfl yG (gk (gk yK)) (gk (gk yN)) (yn hx2)) (sk (sk y3)) ?_
     refine zc rfl (s_storeG rfl qa (gk (gk y6)) rfl (zb rfl) rfl rfl rfl) rfl ?_
     refine ze (yc (zi (zd ?_)))
     refine zc rfl (zy rfl (gk (gk xc)) rfl rfl) (sk (sk y2)) ?_
     refine zc rfl (zf rfl (gk (gk yR)) (zb rfl)) (sk (sk xM)) ?_
     refine ze (yp ?_)
     obtain rfl:=Option.some.inj hF
     exact ⟨(),hl2,hK2,wk.le (by exact (.eq (.d4 (.d4 (.d4 (.drop (.drop (.eq (.d16 (.d16 (.d16 (.d4 (.d4 (.d4 (.drop (.drop (.drop (.eq (.eq (.eq (.d4 (.drop (.eq (.cons (leV.of_eq (wn (by omega) (by omega))) (.d16 (.d4 (.d4 (.d4 (.drop (.drop leL.nil))))))))))))))))))))))))))))))⟩
    ·refine yx ?_
     refine zW ?_
     refine zP ?_
     refine zQ ?_
     refine zi (zk (zd ?_))
     refine zc rfl (zj rfl fo47x1 yR rfl) (sk (sk xd)) ?_
     refine zc rfl (zj rfl xC (gk (gk xb)) rfl) (sk (sk xi)) ?_
     refine zc rfl (zA rfl qL (gk (gk xj)) rfl (zt rfl) (zb rfl)) (sk (sk xr)) ?_
     refine zZ rfl (zO rfl rfl rfl rfl wO (gk (gk xp)) rfl) (sk (sk xE)) fun hn68=>?_
     replace hn68:=y9 hn68
     refine zc rfl (zf rfl rfl (zb rfl)) (sk (sk xR)) ?_
     refine ze (zi (zJ ?_))
     refine yi (fun (n3:Nat) (s3:Unit)=>yr [1,2,3,4,5,6,7,8,9,10,11,12,13,14,16,17,18,19,20,21,22,23,24,25,26,27,28,29,30,31,32,33,34,35,36,37,38,39,40,41,42,43,44,45,46,47,48,49,50,51,52,53,54,55,56,57,58,59,60,61,62,63,64,65,66,67,68,69,70,71,72,73,74,75,76,77,78,82,83,84,85,86,87,88,89,90,91,92,93,94,95,96,97,98,101,102,103,104,105,106,107,108,109,110,111,112,113,114,115,116,117,118] [(100,.int .i64 (n3:Int))]) (fun s3=>h.ext [.row (h.toks.length+0) 10 (v9.map GRow.rowG),.cells [.gsl 1 (y52.path).length,.int .u8 y52.leaf.typ,.int .i64 y52.leaf.n,.int .u64 y52.leaf.time,.int .u8 y52.leaf.dot.actor.rep,.int .u32 y52.leaf.dot.actor.inc,.int .u64 y52.leaf.dot.seq,.str y52.leaf.text,.gsl 5 (y52.leaf.items).length,.gsl 3 (y52.leaf.tombs).length]] [(v9).length]) hF (fun _ _=>by simp only [yr,qN,List.set_cons_succ,List.set_cons_zero];try rfl) (wk.le (by exact (.eq (.d4 (.d4 (.d4 (.drop (.drop (.eq (.d16 (.d16 (.d16 (.d4 (.d4 (.d4 (.drop (.drop (.drop (.eq (.eq (.eq (.d16 (.drop (.eq (.cons (leV.of_eq rfl) (.d16 (.drop (.drop leL.nil)))))))))))))))))))))))))))) ?_
     intro n3 s3 hi3 hF
     refine zk (zd ?_)
     refine zc rfl (zy rfl (gk (gk xO)) (gk (gk xH)) rfl) (sk (sk xY)) ?_
     refine ze (zi (zk ?_))
     refine yo (gk (gk xV)) hF (fun x3 o3 hl3 hx3 hF hK3=>?_) (fun hF=>?_)
     ·refine zG (zi (zk (zJ (zk (zd ?_)))))
      refine zc rfl (zf rfl (gk (gk xO)) (zb rfl)) (sk (sk x7)) ?_
      refine zc rfl (zg rfl (gk (gk x9)) (zb rfl)) xi ?_
      refine ze (zi (zd ?_))
      refine zc rfl (zj rfl fo47x1 yR rfl) (sk (sk xQ)) ?_
      refine zc rfl (zj rfl xC (gk (gk xB)) rfl) (sk (sk wc)) ?_
      refine zc rfl (zA rfl qL (gk (gk wg)) rfl (zt rfl) (zb rfl)) (sk (sk wb)) ?_
      refine zc rfl (zf rfl xj (zb rfl)) (sk (sk wJ)) ?_
      refine zc rfl (s_idxG rfl wO (gk (gk x4)) (gk (gk wF)) (yn hx3)) (sk (sk wR)) ?_
      refine zc rfl (zj rfl fo49x2 (gk (gk wU)) rfl) (sk (sk wZ)) ?_
      refine zc rfl (s_storeG rfl qa (gk (gk w6)) rfl (zb rfl) rfl rfl rfl) rfl ?_
      refine ze (yc (zi (zd ?_)))
      refine zc rfl (zy rfl (gk (gk xO)) rfl rfl) (sk (sk vf)) ?_
      refine zc rfl (zf rfl (gk (gk vo)) (zb rfl)) (sk (sk xR)) ?_
      refine ze (yp ?_)
      obtain rfl:=Option.some.inj hF
      exact ⟨(),hl3,hK3,wk.le (by exact (.eq (.d4 (.d4 (.d4 (.drop (.drop (.eq (.d16 (.d16 (.d16 (.d4 (.d4 (.d4 (.drop (.drop (.drop (.eq (.eq (.eq (.d16 (.drop (.eq (.cons (leV.of_eq (wn (by omega) (by omega))) (.d16 (.drop (.drop leL.nil)))))))))))))))))))))))))))⟩
     ·refine yx ?_
      refine zW ?_
      refine zP ?_
      refine zQ ?_
      refine yc (zi (zd ?_))
      refine zc rfl (zy rfl (gk (gk yw)) rfl rfl) (sk (sk ve)) ?_
      refine zc rfl (zf rfl (gk (gk vn)) (zb rfl)) (sk (sk st1)) ?_
      refine ze (yp ?_)
      obtain rfl:=Option.some.inj hF
      exact ⟨(),hl1,hK1,wk.trans (wk.le (by exact (.eq (.d16 (.d16 (.d16 (.d16 (.d4 (.d4 (.d4 (.drop (.drop (.eq (.eq (.cons (leV.of_eq (wn (by omega) (by omega))) (.d16 (.d16 (.d4 (.drop leL.nil))))))))))))))))))) (vG (by simp [yj,AV.low]) rfl rfl (by simp [Blk.low,yj,AV.low]))⟩
   ·refine yx ?_
    refine zW ?_
    refine zP ?_
    refine zQ ?_
    refine zi (zk (zd ?_))
    refine zc rfl (zf rfl yl (zb rfl)) (sk (sk vd)) ?_
    refine zU hF (fun v83 hv83 hF=>?_)
    refine zN rfl (zF rfl rfl rfl (zp (gk (gk vm)) zx) (.cons (zb rfl) .nil)) ((ok10 hv83).le (.cons (leG.bslM GNode.rowB_le).v leL.nil)) (sk (sk vc)) ?_
    refine zc rfl (zf rfl yl (zb rfl)) (sk (sk vu)) ?_
    refine zU hF (fun v84 hv84 hF=>?_)
    refine zN rfl (zF rfl rfl rfl (zp (gk (gk vA)) zx) (.cons (zb rfl) .nil)) ((ok13 hv84).le (.cons (leG.bslM GNode.rowB_le).v leL.nil)) (sk (sk vt)) ?_
    refine zU hF (fun v85 hv85 hF=>?_)
    refine zN rfl (zF rfl rfl rfl (zp (gk (gk w5)) (zp (gk (gk vl)) zx)) (.cons (zb rfl) (.cons (zb rfl) .nil))) (ok12 hv85) (sk (sk vb)) ?_
    refine zc rfl (zf rfl (gk (gk vk)) (zb rfl)) (sk (sk wQ)) ?_
    refine yO hF (fun v86 hv86 hF=>?_)
    refine ym rfl (fun hb=>zF rfl rfl rfl zx .nil) (fun hb=>ok6 (hv86 hb)) (sk (sk va)) ?_
    refine zc rfl (zM rfl (gk (gk wN)) (gk (gk vj)) rfl (zV (fun ht=>gT ht))) (sk (sk vE)) ?_
    refine zc rfl (zg rfl (gk (gk vz)) (zb rfl)) yu ?_
    refine ze (zi (zH ?_))
    obtain rfl:=Option.some.inj hF
    refine t_retL1 rfl (zD yz zE) ?_
    rfl
end Go.Vv
