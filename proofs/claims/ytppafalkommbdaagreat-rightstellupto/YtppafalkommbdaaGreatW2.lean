/- Each function that the law reaches computes what its reading says; printed by a program. -/
import Derived.Test.YtppafalkommbdaaGreatW1
namespace Go.Vv
open Go Go.Proofs
set_option maxRecDepth 100000
set_option maxHeartbeats 1000000
set_option linter.unusedSimpArgs false
set_option linter.unusedVariables false
/-! varve/leaf.has 1 -/
theorem ok146 {x0:GItem} {c0:GDot} {i0:Nat} {res:Bool} {h:AH} (hb0:h.blk i0=some (.cells [.int .u8 c0.actor.rep,.int .u32 c0.actor.inc,.int .u64 c0.seq])) (hF:leafXhasC1 x0 c0=some res):Spec Tryz.prog 146 [.agg [.int .u64 x0.time,.int .u8 x0.dot.actor.rep,.int .u32 x0.dot.actor.inc,.int .u64 x0.dot.seq,.str x0.text],.ptr i0 0] h (fun rr hh=>rr=.bool res∧hh=h):=by
 unfold leafXhasC1 at hF
 refine zt Tryz.func146 rfl (by kernel_rfl) (env:=[.agg [.int .u64 x0.time,.int .u8 x0.dot.actor.rep,.int .u32 x0.dot.actor.inc,.int .u64 x0.dot.seq,.str x0.text],.ptr i0 0,za,za,za,za,za,za]) (by rfl) ?_
 refine zk (zd ?_)
 refine zc rfl (xy (n:=0) rfl yg (zb rfl) rfl rfl) yH ?_
 refine zc rfl (zg rfl rfl (zb rfl)) xS ?_
 refine zf (zi (zk (zd ?_)))
 refine zc rfl (zj rfl fo77x1 yz rfl) yD ?_
 refine zc rfl (zw rfl ty55.choose_spec.1 yv rfl (zL (cs':=[.int .u8 x0.dot.actor.rep,.int .u32 x0.dot.actor.inc,.int .u64 x0.dot.seq]) ty55.choose_spec.2 rfl rfl) (zb rfl)) xw ?_
 refine zc rfl (b_load rfl ty55.choose_spec.1 yw hb0 (zL (cs':=[.int .u8 c0.actor.rep,.int .u32 c0.actor.inc,.int .u64 c0.seq]) ty55.choose_spec.2 rfl rfl) (zb rfl)) xp ?_
 refine zc rfl (zu rfl yP yS (bin_eq pk55 rfl)) xK ?_
 refine zc rfl (zg rfl xn (zb rfl)) xS ?_
 refine zf (zi (zJ ?_))
 obtain rfl:=Option.some.inj hF
 refine zB rfl (zC yX zD) (zz (leV.refl _) rfl ?_)
 exact ⟨rfl,rfl⟩
/-! varve/leaf.has -/
theorem ok128 {l0:(List GItem)} {d1:GDot} {res:Bool} {h:AH}  (hF:leafXhas l0 d1=some res):Spec Tryz.prog 128 [.sl 5 (l0.map GItem.row),.agg [.int .u8 d1.actor.rep,.int .u32 d1.actor.inc,.int .u64 d1.seq]] h (fun rr hh=>rr=.bool res∧hh=h):=by
 unfold leafXhas at hF
 refine zt Tryz.func128 rfl (by kernel_rfl) (env:=[.sl 5 (l0.map GItem.row),.agg [.int .u8 d1.actor.rep,.int .u32 d1.actor.inc,.int .u64 d1.seq],za,za,za,za,za,za]) (by rfl) ?_
 refine zk (zd ?_)
 refine zc rfl (xy (n:=0) rfl yw (zb rfl) rfl rfl) xS ?_
 refine zc rfl (zg rfl rfl (zb rfl)) yD ?_
 refine zf (zi (zk (zd ?_)))
 refine zc rfl (ze rfl yg (zb rfl)) xw ?_
 refine zc rfl (qS rfl rfl rfl) xp ?_
 refine zS hF (fun v1 hv1 hF=>?_)
 refine zM rfl (zE rfl rfl rfl (zo yP (zo yS zy)) (.cons (zb rfl) (.cons (zb rfl) .nil))) (ok145 (fun _ v L M hv=>ok146 (blk_ext2 (j:=0) rfl) hv) hv1) xK ?_
 refine zc rfl (zg rfl xn (zb rfl)) yD ?_
 refine zf (zi (zJ ?_))
 obtain rfl:=Option.some.inj hF
 refine zB rfl (zC yv zD) (zz (leV.refl _) rfl ?_)
 exact ⟨rfl,rfl⟩
/-! varve/leaf.tombs -/
theorem ok110 {l0:GLeaf} {res:Bool} {h:AH}  (hF:leafXtombs l0=some res):Spec Tryz.prog 110 [.agg [.int .u8 l0.typ,.int .i64 l0.n,.int .u64 l0.time,.int .u8 l0.dot.actor.rep,.int .u32 l0.dot.actor.inc,.int .u64 l0.dot.seq,.str l0.text,.sl 5 (l0.items.map GItem.row),.sl 3 (l0.tombs.map GDot.row)]] h (fun rr hh=>rr=.bool res∧hh=h):=by
 unfold leafXtombs at hF
 refine zt Tryz.func110 rfl (by kernel_rfl) (env:=[.agg [.int .u8 l0.typ,.int .i64 l0.n,.int .u64 l0.time,.int .u8 l0.dot.actor.rep,.int .u32 l0.dot.actor.inc,.int .u64 l0.dot.seq,.str l0.text,.sl 5 (l0.items.map GItem.row),.sl 3 (l0.tombs.map GDot.row)],za,za,za,za,za,za,za,za,za,za,za,za,za,za,za,za,za,za,za,za,za,za,za,za,za,za,za,za,za,za,za,za,za,za,za,za,za]) (by rfl) ?_
 refine zk (zd ?_)
 refine zc rfl (xy (n:=0) rfl yg (zb rfl) rfl rfl) qI ?_
 refine zc rfl (zg rfl rfl (zb rfl)) yH ?_
 refine zf (zi (zk (zk (zd ?_))))
 refine zc rfl (zj rfl vz yw rfl) xw ?_
 refine zc rfl (zw rfl qL yP rfl (zr rfl) (zb rfl)) xp ?_
 refine z7 rfl (zQ rfl rfl rfl rfl qf yS z0) xK fun hn1=>?_
 replace hn1:=xg hn1
 refine zc rfl (ze rfl rfl (zb rfl)) xH ?_
 refine zf (zi (zO ?_))
 refine ym (fun (n1:Nat) (s1:Unit)=>yB [0,2,3,4,5,9,10,11,12,13,14,15,16,17,18,19,20,21,22,23,24,25,26,27,28,29,30,31,32,33,34,35,36,37] [(8,.int .i64 (n1:Int))]) (fun s1=>h.ext [.cells [.int .u8 l0.typ,.int .i64 l0.n,.int .u64 l0.time,.int .u8 l0.dot.actor.rep,.int .u32 l0.dot.actor.inc,.int .u64 l0.dot.seq,.str l0.text,.sl 5 (l0.items.map GItem.row),.sl 3 (l0.tombs.map GDot.row)]] []) hF (fun _ _=>by simp only [yB,qw,List.set_cons_succ,List.set_cons_zero];try rfl) (wk.le (by exact (.drop (.eq (.d4 (.eq (.eq (.cons (leV.of_eq rfl) (.d16 (.d4 (.d4 (.d4 (.drop leL.nil))))))))))))) ?_
 intro n1 s1 hi1 hF
 refine zk (zd ?_)
 refine zc rfl (zu rfl yV xn rfl) x8 ?_
 refine zf (zi (zk ?_))
 refine yJ xl hF (fun x1 o1 hl1 hx1 hF hK1=>?_) (fun hF=>?_)
 ·refine zI (zi (zk (zO (zk (zd ?_)))))
  refine zc rfl (ze rfl yV (zb rfl)) yq ?_
  refine zc rfl (yd rfl qf yS yV wd (yA hx1)) yy ?_
  refine zc rfl (zY rfl ty55.choose_spec.1 yl (zL (cs':=[.int .u8 x1.actor.rep,.int .u32 x1.actor.inc,.int .u64 x1.seq]) ty55.choose_spec.2 rfl rfl) (zb rfl)) yE ?_
  refine zc rfl (xf (n:=1) rfl ze55 rfl) yD ?_
  refine zc rfl (zg rfl yi (zb rfl)) xS ?_
  refine zc rfl (yk (cs':=[.int .u8 x1.actor.rep,.int .u32 x1.actor.inc,.int .u64 x1.seq]) rfl ty55.choose_spec.1 yv yC (zb rfl) rfl rfl rfl rfl rfl) rfl ?_
  refine zf (zi (zk ?_))
  refine yI [1] [] trivial mixed (by kernel_rfl) ?_
  refine zq rfl rfl (zw rfl ty55.choose_spec.1 yv rfl (zL (cs':=[.int .u8 x1.actor.rep,.int .u32 x1.actor.inc,.int .u64 x1.seq]) ty55.choose_spec.2 rfl rfl) (zb rfl)) yG ?_
  refine zS hF (fun v19 hv19 hF=>?_)
  refine yW rfl rfl (fun _=>zE rfl rfl rfl (zo yr zy) (.cons (zb rfl) .nil)) (by rintro _ ⟨B2,T2,rfl,hk2⟩;exact ok107 hv19) yN ?_
  refine zq rfl rfl (xV rfl yM rfl) yO ?_
  refine zq rfl rfl (ze rfl yL (zb rfl)) yT ?_
  refine zx rfl rfl (fun hb=>ze rfl yX (zb rfl)) yZ ?_
  refine zx rfl rfl (fun hb=>zu rfl (zn yY hb) rfl rfl) xd ?_
  refine zx rfl rfl (fun hb=>ze rfl (zn xb hb) (zb rfl)) xi ?_
  refine zx rfl (zP rfl rfl rfl) (fun hb=>zj rfl vz yw rfl) xA ?_
  refine zx rfl (zP rfl rfl rfl) (fun hb=>zw rfl qL (zn xz hb) rfl (zr rfl) (zb rfl)) xE ?_
  refine zx rfl (zP rfl rfl rfl) (fun hb=>ze rfl yX (zb rfl)) xI ?_
  refine zx rfl (zP rfl rfl rfl) (fun hb=>zu rfl (zn xF hb) rfl rfl) xD ?_
  refine xG hF (fun hg20 hF=>?_)
  refine zx rfl (zP rfl rfl rfl) (fun hb=>yK default rfl qf (zn xB hb) (zn xu hb) wd (hg20 hb)) xM ?_
  refine zx rfl (zP rfl rfl rfl) (fun hb=>zY rfl ty55.choose_spec.1 (zn xN hb) (zL (cs':=[.int .u8 (((l0.tombs).getD (IntKind.wrap .i64 ((n1:Int) - (1:Int))).toNat default).actor.rep),.int .u32 (((l0.tombs).getD (IntKind.wrap .i64 ((n1:Int) - (1:Int))).toNat default).actor.inc),.int .u64 (((l0.tombs).getD (IntKind.wrap .i64 ((n1:Int) - (1:Int))).toNat default).seq)]) ty55.choose_spec.2 rfl rfl) (zb rfl)) wa ?_
  refine zx rfl (zP rfl rfl rfl) (fun hb=>zw rfl ty55.choose_spec.1 yv rfl (zL (cs':=[.int .u8 x1.actor.rep,.int .u32 x1.actor.inc,.int .u64 x1.seq]) ty55.choose_spec.2 rfl rfl) (zb rfl)) wi ?_
  refine yn hF (fun v21 hv21 hF=>?_)
  refine ww rfl (zP rfl rfl rfl) (fun hb=>zE rfl rfl rfl (zo (zn x9 hb) (zo (zn wh hb) zy)) (.cons (zb rfl) (.cons (zb rfl) .nil))) (fun hb=>ok123 (hv21 hb)) wj ?_
  refine zx rfl (zP rfl rfl rfl) (fun hb=>zu rfl (zn wm hb) rfl rfl) wn ?_
  refine zx rfl rfl (fun hb=>zG rfl (zn xh hb) wl rfl (zN (fun ht=>gT2 hb ht))) wD ?_
  refine zq rfl rfl (zG rfl yQ rfl wz (zZ (fun ht=>gF ht))) wC ?_
  refine zq rfl rfl (ze rfl wM (zb rfl)) wI ?_
  refine zx rfl rfl (fun hb=>zj rfl w7 yw rfl) wH ?_
  refine zx rfl rfl (fun hb=>zw rfl ty56 (zn wy hb) rfl (zr rfl) (zb rfl)) wP ?_
  refine zx rfl rfl (fun hb=>zw rfl ty55.choose_spec.1 yv rfl (zL (cs':=[.int .u8 x1.actor.rep,.int .u32 x1.actor.inc,.int .u64 x1.seq]) ty55.choose_spec.2 rfl rfl) (zb rfl)) wO ?_
  refine yn hF (fun v22 hv22 hF=>?_)
  refine ww rfl rfl (fun hb=>zE rfl rfl rfl (zo (zn wT hb) (zo (zn wK hb) zy)) (.cons (zb rfl) (.cons (zb rfl) .nil))) (fun hb=>ok128 (hv22 hb)) wN ?_
  refine zq rfl rfl (zG rfl wL rfl wS (zZ (fun ht=>gF ht))) wG ?_
  refine yo ?_
  refine zi ?_
  refine zH wu hF (fun hc23 hF=>?_) (fun hc23 hF=>?_)
  ·refine zk (zd ?_)
   refine zc rfl (zg rfl rfl (zb rfl)) yH ?_
   refine zf (zi (zJ ?_))
   refine zF ?_
   refine zA ?_
   refine yf ?_
   obtain rfl:=Option.some.inj hF
   replace hF:=hK1
   refine zF ?_
   refine zA ?_
   obtain rfl:=Option.some.inj hF
   refine zB rfl (zC yz zD) (zz (leV.refl _) rfl ?_)
   exact ⟨rfl,rfl⟩
  ·refine zI (yb (zi (zd ?_)))
   refine zc rfl (zu rfl yV rfl rfl) wF ?_
   refine zc rfl (ze rfl wJ (zb rfl)) xH ?_
   refine zf (yu ?_)
   obtain rfl:=Option.some.inj hF
   exact ⟨(),hl1,hK1,wk.trans (wk.le (by exact (.drop (.eq (.d4 (.eq (.eq (.cons (leV.of_eq (wx (by omega) (by omega))) (.d16 (.d4 (.d4 (.d4 (.drop leL.nil))))))))))))) (xY (by simp [yj,AV.low]) rfl rfl (by simp [Blk.low,yj,AV.low]))⟩
 ·refine yF ?_
  refine zX ?_
  refine zU ?_
  refine zV ?_
  refine zi (zk (zd ?_))
  refine zc rfl (zg rfl rfl (zb rfl)) yH ?_
  refine zf (zi (zJ ?_))
  obtain rfl:=Option.some.inj hF
  refine zB rfl (zC yz zD) (zz (leV.refl _) rfl ?_)
  exact ⟨rfl,rfl⟩
/-! slices.Equal[[]varve/api.Item,varve/api.Item] -/
theorem ok82 {s10:(List GItem)} {s21:(List GItem)} {res:Bool} {h:AH}  (hF:qy s10 s21=some res):Spec Tryz.prog 82 [.sl 5 (s10.map GItem.row),.sl 5 (s21.map GItem.row)] h (fun rr hh=>rr=.bool res∧hh=h):=by
 unfold qy at hF
 refine zt Tryz.func82 rfl (by kernel_rfl) (env:=[.sl 5 (s10.map GItem.row),.sl 5 (s21.map GItem.row),za,za,za,za,za,za,za,za,za,za,za,za,za,za,za,za,za,za,za,za,za,za,za,za]) (by rfl) ?_
 refine zk (zd ?_)
 refine zc rfl (zg rfl rfl (zb rfl)) yD ?_
 refine zf (zi (zk (zk (zd ?_))))
 refine zc rfl (ze rfl yg (zb rfl)) xp ?_
 refine z7 rfl (zQ rfl rfl rfl rfl el56 yS z0) xK fun hn1=>?_
 replace hn1:=xg hn1
 refine zc rfl (ze rfl yw (zb rfl)) xH ?_
 refine z7 rfl (zQ rfl rfl rfl rfl el56 yV z0) x8 fun hn2=>?_
 replace hn2:=xg hn2
 refine zc rfl (zu rfl xn xl rfl) yq ?_
 refine zf (zi ?_)
 refine zH yi hF (fun hc3 hF=>?_) (fun hc3 hF=>?_)
 ·refine zk (zd ?_)
  refine zc rfl (zg rfl rfl (zb rfl)) yD ?_
  refine zf (zi (zJ (zA ?_)))
  obtain rfl:=Option.some.inj hF
  refine zB rfl (zC yv zD) (zz (leV.refl _) rfl ?_)
  exact ⟨rfl,rfl⟩
 ·refine zI (zi (zk (zk (zd ?_))))
  refine zc rfl (ze rfl yg (zb rfl)) yy ?_
  refine z7 rfl (zQ rfl rfl rfl rfl el56 yl z0) yE fun hn4=>?_
  replace hn4:=xg hn4
  refine zc rfl (ze rfl rfl (zb rfl)) yG ?_
  refine zf (zi (zO ?_))
  refine ym (fun (n1:Nat) (s1:Unit)=>yB [2,3,4,5,6,7,8,9,10,11,14,15,16,17,18,19,20,21,22,23,24,25] [(13,.int .i64 (n1:Int))]) (fun s1=>h.ext [] []) hF (fun _ _=>by simp only [yB,qw,List.set_cons_succ,List.set_cons_zero];try rfl) (wk.le (by exact (.eq (.eq (.d4 (.d4 (.drop (.drop (.eq (.cons (leV.of_eq rfl) (.d4 (.d4 (.d4 leL.nil))))))))))))) ?_
  intro n1 s1 hi1 hF
  refine zk (zd ?_)
  refine zc rfl (zu rfl yr yC rfl) yN ?_
  refine zf (zi (zk ?_))
  refine yJ yM hF (fun x1 o1 hl1 hx1 hF hK1=>?_) (fun hF=>?_)
  ·refine zI (zi (zk (zO (zk (zd ?_)))))
   refine zc rfl (ze rfl yr (zb rfl)) yO ?_
   refine zc rfl (zg rfl yL (zb rfl)) xw ?_
   refine zf (zi (zk ?_))
   refine yI [] [] trivial mixed (by kernel_rfl) ?_
   refine zq rfl rfl (ze rfl yg (zb rfl)) yT ?_
   refine zq rfl rfl (ze rfl yP (zb rfl)) yZ ?_
   refine zq rfl rfl (yd rfl el56 yQ yY wd (yA hx1)) xd ?_
   refine zq rfl rfl (zY rfl ty77.choose_spec.1 xb (zL (cs':=[.int .u64 x1.time,.int .u8 x1.dot.actor.rep,.int .u32 x1.dot.actor.inc,.int .u64 x1.dot.seq,.str x1.text]) ty77.choose_spec.2 rfl rfl) (zb rfl)) xi ?_
   refine zq rfl rfl (ze rfl yw (zb rfl)) xA ?_
   refine zq rfl rfl (ze rfl yP (zb rfl)) xE ?_
   refine zS hF (fun y10 hy10 hF=>?_)
   refine zq rfl rfl (yd rfl el56 xz xB wd hy10) xI ?_
   refine zq rfl rfl (zY rfl ty77.choose_spec.1 xF (zL (cs':=[.int .u64 y10.time,.int .u8 y10.dot.actor.rep,.int .u32 y10.dot.actor.inc,.int .u64 y10.dot.seq,.str y10.text]) ty77.choose_spec.2 rfl rfl) (zb rfl)) xD ?_
   refine zq rfl rfl (zu rfl xh xu (bin_ne pk77 rfl)) xM ?_
   refine yo ?_
   refine zi ?_
   refine zH xN hF (fun hc11 hF=>?_) (fun hc11 hF=>?_)
   ·refine zk (zd ?_)
    refine zc rfl (zg rfl rfl (zb rfl)) yD ?_
    refine zf (zi (zJ ?_))
    refine zF ?_
    refine zA ?_
    refine yf ?_
    obtain rfl:=Option.some.inj hF
    replace hF:=hK1
    refine zF ?_
    refine zA ?_
    obtain rfl:=Option.some.inj hF
    refine zB rfl (zC yv zD) (zz (leV.refl _) rfl ?_)
    exact ⟨rfl,rfl⟩
   ·refine zI (yb (zi (zd ?_)))
    refine zc rfl (zu rfl yr rfl rfl) wa ?_
    refine zc rfl (ze rfl x9 (zb rfl)) yG ?_
    refine zf (yu ?_)
    obtain rfl:=Option.some.inj hF
    exact ⟨(),hl1,hK1,wk.le (by exact (.eq (.eq (.d4 (.d4 (.drop (.drop (.eq (.cons (leV.of_eq (wx (by omega) (by omega))) (.d4 (.d4 (.d4 leL.nil))))))))))))⟩
  ·refine yF ?_
   refine zX ?_
   refine zU ?_
   refine zV ?_
   refine zi (zk (zd ?_))
   refine zc rfl (zg rfl rfl (zb rfl)) yD ?_
   refine zf (zi (zJ ?_))
   obtain rfl:=Option.some.inj hF
   refine zB rfl (zC yv zD) (zz (leV.refl _) rfl ?_)
   exact ⟨rfl,rfl⟩
/-! slices.Equal[[]varve/api.Dot,varve/api.Dot] -/
theorem ok83 {s10:(List GDot)} {s21:(List GDot)} {res:Bool} {h:AH}  (hF:qR s10 s21=some res):Spec Tryz.prog 83 [.sl 3 (s10.map GDot.row),.sl 3 (s21.map GDot.row)] h (fun rr hh=>rr=.bool res∧hh=h):=by
 unfold qR at hF
 refine zt Tryz.func83 rfl (by kernel_rfl) (env:=[.sl 3 (s10.map GDot.row),.sl 3 (s21.map GDot.row),za,za,za,za,za,za,za,za,za,za,za,za,za,za,za,za,za,za,za,za,za,za,za,za]) (by rfl) ?_
 refine zk (zd ?_)
 refine zc rfl (zg rfl rfl (zb rfl)) yD ?_
 refine zf (zi (zk (zk (zd ?_))))
 refine zc rfl (ze rfl yg (zb rfl)) xp ?_
 refine z7 rfl (zQ rfl rfl rfl rfl qf yS z0) xK fun hn1=>?_
 replace hn1:=xg hn1
 refine zc rfl (ze rfl yw (zb rfl)) xH ?_
 refine z7 rfl (zQ rfl rfl rfl rfl qf yV z0) x8 fun hn2=>?_
 replace hn2:=xg hn2
 refine zc rfl (zu rfl xn xl rfl) yq ?_
 refine zf (zi ?_)
 refine zH yi hF (fun hc3 hF=>?_) (fun hc3 hF=>?_)
 ·refine zk (zd ?_)
  refine zc rfl (zg rfl rfl (zb rfl)) yD ?_
  refine zf (zi (zJ (zA ?_)))
  obtain rfl:=Option.some.inj hF
  refine zB rfl (zC yv zD) (zz (leV.refl _) rfl ?_)
  exact ⟨rfl,rfl⟩
 ·refine zI (zi (zk (zk (zd ?_))))
  refine zc rfl (ze rfl yg (zb rfl)) yy ?_
  refine z7 rfl (zQ rfl rfl rfl rfl qf yl z0) yE fun hn4=>?_
  replace hn4:=xg hn4
  refine zc rfl (ze rfl rfl (zb rfl)) yG ?_
  refine zf (zi (zO ?_))
  refine ym (fun (n1:Nat) (s1:Unit)=>yB [2,3,4,5,6,7,8,9,10,11,14,15,16,17,18,19,20,21,22,23,24,25] [(13,.int .i64 (n1:Int))]) (fun s1=>h.ext [] []) hF (fun _ _=>by simp only [yB,qw,List.set_cons_succ,List.set_cons_zero];try rfl) (wk.le (by exact (.eq (.eq (.d4 (.d4 (.drop (.drop (.eq (.cons (leV.of_eq rfl) (.d4 (.d4 (.d4 leL.nil))))))))))))) ?_
  intro n1 s1 hi1 hF
  refine zk (zd ?_)
  refine zc rfl (zu rfl yr yC rfl) yN ?_
  refine zf (zi (zk ?_))
  refine yJ yM hF (fun x1 o1 hl1 hx1 hF hK1=>?_) (fun hF=>?_)
  ·refine zI (zi (zk (zO (zk (zd ?_)))))
   refine zc rfl (ze rfl yr (zb rfl)) yO ?_
   refine zc rfl (zg rfl yL (zb rfl)) xw ?_
   refine zf (zi (zk ?_))
   refine yI [] [] trivial mixed (by kernel_rfl) ?_
   refine zq rfl rfl (ze rfl yg (zb rfl)) yT ?_
   refine zq rfl rfl (ze rfl yP (zb rfl)) yZ ?_
   refine zq rfl rfl (yd rfl qf yQ yY wd (yA hx1)) xd ?_
   refine zq rfl rfl (zY rfl ty55.choose_spec.1 xb (zL (cs':=[.int .u8 x1.actor.rep,.int .u32 x1.actor.inc,.int .u64 x1.seq]) ty55.choose_spec.2 rfl rfl) (zb rfl)) xi ?_
   refine zq rfl rfl (ze rfl yw (zb rfl)) xA ?_
   refine zq rfl rfl (ze rfl yP (zb rfl)) xE ?_
   refine zS hF (fun y10 hy10 hF=>?_)
   refine zq rfl rfl (yd rfl qf xz xB wd hy10) xI ?_
   refine zq rfl rfl (zY rfl ty55.choose_spec.1 xF (zL (cs':=[.int .u8 y10.actor.rep,.int .u32 y10.actor.inc,.int .u64 y10.seq]) ty55.choose_spec.2 rfl rfl) (zb rfl)) xD ?_
   refine zq rfl rfl (zu rfl xh xu (bin_ne pk55 rfl)) xM ?_
   refine yo ?_
   refine zi ?_
   refine zH xN hF (fun hc11 hF=>?_) (fun hc11 hF=>?_)
   ·refine zk (zd ?_)
    refine zc rfl (zg rfl rfl (zb rfl)) yD ?_
    refine zf (zi (zJ ?_))
    refine zF ?_
    refine zA ?_
    refine yf ?_
    obtain rfl:=Option.some.inj hF
    replace hF:=hK1
    refine zF ?_
    refine zA ?_
    obtain rfl:=Option.some.inj hF
    refine zB rfl (zC yv zD) (zz (leV.refl _) rfl ?_)
    exact ⟨rfl,rfl⟩
   ·refine zI (yb (zi (zd ?_)))
    refine zc rfl (zu rfl yr rfl rfl) wa ?_
    refine zc rfl (ze rfl x9 (zb rfl)) yG ?_
    refine zf (yu ?_)
    obtain rfl:=Option.some.inj hF
    exact ⟨(),hl1,hK1,wk.le (by exact (.eq (.eq (.d4 (.d4 (.drop (.drop (.eq (.cons (leV.of_eq (wx (by omega) (by omega))) (.d4 (.d4 (.d4 leL.nil))))))))))))⟩
  ·refine yF ?_
   refine zX ?_
   refine zU ?_
   refine zV ?_
   refine zi (zk (zd ?_))
   refine zc rfl (zg rfl rfl (zb rfl)) yD ?_
   refine zf (zi (zJ ?_))
   obtain rfl:=Option.some.inj hF
   refine zB rfl (zC yv zD) (zz (leV.refl _) rfl ?_)
   exact ⟨rfl,rfl⟩
/-! varve/leaf.Same -/
theorem ok49 {a0:GLeaf} {b1:GLeaf} {res:Bool} {h:AH}  (hF:qB a0 b1=some res):Spec Tryz.prog 49 [.agg [.int .u8 a0.typ,.int .i64 a0.n,.int .u64 a0.time,.int .u8 a0.dot.actor.rep,.int .u32 a0.dot.actor.inc,.int .u64 a0.dot.seq,.str a0.text,.sl 5 (a0.items.map GItem.row),.sl 3 (a0.tombs.map GDot.row)],.agg [.int .u8 b1.typ,.int .i64 b1.n,.int .u64 b1.time,.int .u8 b1.dot.actor.rep,.int .u32 b1.dot.actor.inc,.int .u64 b1.dot.seq,.str b1.text,.sl 5 (b1.items.map GItem.row),.sl 3 (b1.tombs.map GDot.row)]] h (fun rr hh=>rr=.bool res∧hh=h):=by
 unfold qB at hF
 refine zt Tryz.func49 rfl (by kernel_rfl) (env:=[.agg [.int .u8 a0.typ,.int .i64 a0.n,.int .u64 a0.time,.int .u8 a0.dot.actor.rep,.int .u32 a0.dot.actor.inc,.int .u64 a0.dot.seq,.str a0.text,.sl 5 (a0.items.map GItem.row),.sl 3 (a0.tombs.map GDot.row)],.agg [.int .u8 b1.typ,.int .i64 b1.n,.int .u64 b1.time,.int .u8 b1.dot.actor.rep,.int .u32 b1.dot.actor.inc,.int .u64 b1.dot.seq,.str b1.text,.sl 5 (b1.items.map GItem.row),.sl 3 (b1.tombs.map GDot.row)],za,za,za,za,za,za,za,za,za,za,za,za,za,za,za,za,za,za,za,za,za,za,za,za,za,za,za,za,za,za,za,za,za,za,za,za,za,za,za,za,za,za,za,za,za,za,za,za,za,za]) (by rfl) ?_
 refine zk (zd ?_)
 refine zc rfl (xy (n:=0) rfl yg (zb rfl) rfl rfl) yH ?_
 refine zc rfl (xy (n:=1) rfl yw (zb rfl) rfl rfl) xS ?_
 refine zc rfl (zg rfl rfl (zb rfl)) yD ?_
 refine zf (zi (zk (zd ?_)))
 refine zc rfl (zj rfl wU yz rfl) xw ?_
 refine zc rfl (zw rfl vb yP rfl (zr rfl) (zb rfl)) xp ?_
 refine zc rfl (zj rfl wU yX rfl) xK ?_
 refine zc rfl (zw rfl vb xn rfl (zr rfl) (zb rfl)) xH ?_
 refine zc rfl (zu rfl yS yV rfl) x8 ?_
 refine zc rfl (ze rfl xl (zb rfl)) yq ?_
 refine zp rfl (fun hb=>zj rfl fo58x1 yz rfl) yy ?_
 refine zp rfl (fun hb=>zw rfl ty2 (zn yl hb) rfl (zr rfl) (zb rfl)) yE ?_
 refine zp rfl (fun hb=>zj rfl fo58x1 yX rfl) yG ?_
 refine zp rfl (fun hb=>zw rfl ty2 (zn yr hb) rfl (zr rfl) (zb rfl)) yN ?_
 refine zp rfl (fun hb=>zu rfl (zn yC hb) (zn yM hb) rfl) yO ?_
 refine zc rfl (zG rfl yi yL rfl (zN (fun ht=>gT ht))) yT ?_
 refine zc rfl (ze rfl yQ (zb rfl)) yZ ?_
 refine zp rfl (fun hb=>zj rfl fo58x2 yz rfl) xd ?_
 refine zp rfl (fun hb=>zw rfl qK (zn xb hb) rfl (zr rfl) (zb rfl)) xi ?_
 refine zp rfl (fun hb=>zj rfl fo58x2 yX rfl) xA ?_
 refine zp rfl (fun hb=>zw rfl qK (zn xz hb) rfl (zr rfl) (zb rfl)) xE ?_
 refine zp rfl (fun hb=>zu rfl (zn xh hb) (zn xB hb) rfl) xI ?_
 refine zc rfl (zG rfl yY xF rfl (zN (fun ht=>gT ht))) xD ?_
 refine zc rfl (ze rfl xu (zb rfl)) xM ?_
 refine zp rfl (fun hb=>zj rfl fo58x3 yz rfl) wa ?_
 refine zp rfl (fun hb=>zw rfl ty55.choose_spec.1 (zn x9 hb) rfl (zL (cs':=[.int .u8 a0.dot.actor.rep,.int .u32 a0.dot.actor.inc,.int .u64 a0.dot.seq]) ty55.choose_spec.2 rfl rfl) (zb rfl)) wi ?_
 refine zp rfl (fun hb=>zj rfl fo58x3 yX rfl) wj ?_
 refine zp rfl (fun hb=>zw rfl ty55.choose_spec.1 (zn wm hb) rfl (zL (cs':=[.int .u8 b1.dot.actor.rep,.int .u32 b1.dot.actor.inc,.int .u64 b1.dot.seq]) ty55.choose_spec.2 rfl rfl) (zb rfl)) wn ?_
 refine zp rfl (fun hb=>zu rfl (zn wh hb) (zn wl hb) (bin_eq pk55 rfl)) wD ?_
 refine zc rfl (zG rfl xN wz rfl (zN (fun ht=>gT ht))) wC ?_
 refine zc rfl (ze rfl wM (zb rfl)) wI ?_
 refine zp rfl (fun hb=>zj rfl fo58x4 yz rfl) wH ?_
 refine zp rfl (fun hb=>zw rfl vt (zn wy hb) rfl (zr rfl) (zb rfl)) wP ?_
 refine zp rfl (fun hb=>zj rfl fo58x4 yX rfl) wO ?_
 refine zp rfl (fun hb=>zw rfl vt (zn wK hb) rfl (zr rfl) (zb rfl)) wN ?_
 refine zp rfl (fun hb=>zu rfl (zn wT hb) (zn wS hb) rfl) wG ?_
 refine zc rfl (zG rfl wL wu rfl (zN (fun ht=>gT ht))) wF ?_
 refine zc rfl (ze rfl wJ (zb rfl)) wZ ?_
 refine zp rfl (fun hb=>zj rfl w7 yz rfl) wY ?_
 refine zp rfl (fun hb=>zw rfl ty56 (zn w5 hb) rfl (zr rfl) (zb rfl)) (sk qP) ?_
 refine zp rfl (fun hb=>zj rfl w7 yX rfl) (sk qI) ?_
 refine zp rfl (fun hb=>zw rfl ty56 (zn (gk yw) hb) rfl (zr rfl) (zb rfl)) (sk yH) ?_
 refine yn hF (fun v1 hv1 hF=>?_)
 refine z8 rfl (fun hb=>zE rfl rfl rfl (zo (zn (gk yg) hb) (zo (zn (gk yz) hb) zy)) (.cons (zb rfl) (.cons (zb rfl) .nil))) (fun hb=>ok82 (hv1 hb)) (sk xS) ?_
 refine zc rfl (zG rfl w6 (gk yX) rfl (zN (fun ht=>gT ht))) (sk yD) ?_
 refine zc rfl (ze rfl (gk yv) (zb rfl)) (sk xw) ?_
 refine zp rfl (fun hb=>zj rfl vz yz rfl) (sk xp) ?_
 refine zp rfl (fun hb=>zw rfl qL (zn (gk yS) hb) rfl (zr rfl) (zb rfl)) (sk xK) ?_
 refine zp rfl (fun hb=>zj rfl vz yX rfl) (sk xH) ?_
 refine zp rfl (fun hb=>zw rfl qL (zn (gk yV) hb) rfl (zr rfl) (zb rfl)) (sk x8) ?_
 refine yn hF (fun v2 hv2 hF=>?_)
 refine z8 rfl (fun hb=>zE rfl rfl rfl (zo (zn (gk xn) hb) (zo (zn (gk xl) hb) zy)) (.cons (zb rfl) (.cons (zb rfl) .nil))) (fun hb=>ok83 (hv2 hb)) (sk yq) ?_
 refine zc rfl (zG rfl (gk yP) (gk yi) rfl (zN (fun ht=>gT ht))) (sk yy) ?_
 refine zc rfl (zg rfl (gk yl) (zb rfl)) yD ?_
 refine zf (zi (zJ ?_))
 obtain rfl:=Option.some.inj hF
 refine zB rfl (zC yv zD) (zz (leV.refl _) rfl ?_)
 exact ⟨rfl,rfl⟩
/-! varve/leaf.May -/
theorem ok67 {l0:GLeaf} {res:Bool} {h:AH}  (hF:leafMay l0=some res):Spec Tryz.prog 67 [.agg [.int .u8 l0.typ,.int .i64 l0.n,.int .u64 l0.time,.int .u8 l0.dot.actor.rep,.int .u32 l0.dot.actor.inc,.int .u64 l0.dot.seq,.str l0.text,.sl 5 (l0.items.map GItem.row),.sl 3 (l0.tombs.map GDot.row)]] h (fun rr hh=>rr=.bool res∧hh=h):=by
 unfold leafMay at hF
 refine zt Tryz.func67 rfl (by kernel_rfl) (env:=[.agg [.int .u8 l0.typ,.int .i64 l0.n,.int .u64 l0.time,.int .u8 l0.dot.actor.rep,.int .u32 l0.dot.actor.inc,.int .u64 l0.dot.seq,.str l0.text,.sl 5 (l0.items.map GItem.row),.sl 3 (l0.tombs.map GDot.row)],za,za,za,za,za,za,za,za,za,za,za,za,za,za,za,za,za,za,za,za,za,za,za,za,za,za,za,za,za,za,za,za,za,za,za,za,za,za,za,za,za,za,za,za,za,za,za,za,za,za,za,za,za,za,za,za,za,za,za,za,za,za,za,za,za,za,za,za,za,za,za,za,za,za,za,za,za,za,za,za,za,za,za,za,za,za,za,za]) (by rfl) ?_
 refine zk (zd ?_)
 refine zc rfl (xy (n:=0) rfl yg (zb rfl) rfl rfl) qI ?_
 refine zc rfl (zg rfl rfl (zb rfl)) yH ?_
 refine zf (zi (zk (zd ?_)))
 refine zc rfl (zj rfl wU yw rfl) yD ?_
 refine zc rfl (zw rfl vb yv rfl (zr rfl) (zb rfl)) xw ?_
 refine zc rfl (wR (cs':=[.int .u8 l0.typ,.int .i64 (0:Int),.int .u64 (0:Int),.int .u8 (0:Int),.int .u32 (0:Int),.int .u64 (0:Int),.str ([]:zR),.osl none 5 (([]:List GItem).map GItem.row),.osl none 3 (([]:List GDot).map GDot.row)]) rfl su58 ze58 pl58 (zT yP ye) (.cons (zb rfl) .nil) rfl rfl) xp ?_
 refine zc rfl (xf (n:=1) rfl ze58 rfl) xS ?_
 refine zc rfl (yk (cs':=[.int .u8 l0.typ,.int .i64 (0:Int),.int .u64 (0:Int),.int .u8 (0:Int),.int .u32 (0:Int),.int .u64 (0:Int),.str ([]:zR),.osl none 5 (([]:List GItem).map GItem.row),.osl none 3 (([]:List GDot).map GDot.row)]) rfl ty58.choose_spec.1 yX yS (zb rfl) rfl rfl rfl rfl rfl) rfl ?_
 refine zf (zi (zk (zk (zd ?_))))
 refine zc rfl (zj rfl wU yw rfl) xK ?_
 refine zc rfl (zw rfl vb xn rfl (zr rfl) (zb rfl)) xH ?_
 refine zf (zi (zO (zk (zd ?_))))
 refine zc rfl (zu rfl yV rfl rfl) yq ?_
 refine zc rfl (zg rfl yi (zb rfl)) x8 ?_
 refine zf (zi ?_)
 refine zH xl hF (fun hc1 hF=>?_) (fun hc1 hF=>?_)
 ·refine zd ?_
  refine zc rfl (zj rfl fo58x1 yw rfl) yy ?_
  refine zc rfl (zw rfl ty2 yl rfl (zr rfl) (zb rfl)) yE ?_
  refine zc rfl (zj rfl fo58x1 yX rfl) yG ?_
  refine zc rfl (yk (cs':=[.int .u8 l0.typ,.int .i64 l0.n,.int .u64 (0:Int),.int .u8 (0:Int),.int .u32 (0:Int),.int .u64 (0:Int),.str ([]:zR),.osl none 5 (([]:List GItem).map GItem.row),.osl none 3 (([]:List GDot).map GDot.row)]) rfl ty2 yr yC (zb rfl) rfl rfl rfl rfl rfl) rfl ?_
  refine zf (yb (zi (zk (zd ?_))))
  refine zc rfl (zw rfl ty58.choose_spec.1 yw rfl (zL (cs':=[.int .u8 l0.typ,.int .i64 l0.n,.int .u64 l0.time,.int .u8 l0.dot.actor.rep,.int .u32 l0.dot.actor.inc,.int .u64 l0.dot.seq,.str l0.text,.sl 5 (l0.items.map GItem.row),.sl 3 (l0.tombs.map GDot.row)]) ty58.choose_spec.2 rfl rfl) (zb rfl)) (sk (sk xp)) ?_
  refine zc rfl (zw rfl ty58.choose_spec.1 yX rfl (zL (cs':=[.int .u8 l0.typ,.int .i64 l0.n,.int .u64 (0:Int),.int .u8 (0:Int),.int .u32 (0:Int),.int .u64 (0:Int),.str ([]:zR),.osl none 5 (([]:List GItem).map GItem.row),.osl none 3 (([]:List GDot).map GDot.row)]) ty58.choose_spec.2 rfl rfl) (zb rfl)) (sk (sk xK)) ?_
  refine zS hF (fun v2 hv2 hF=>?_)
  refine zM rfl (zE rfl rfl rfl (zo (gk (gk yS)) (zo (gk (gk xn)) zy)) (.cons (zb rfl) (.cons (zb rfl) .nil))) ((ok49 hv2).le (.eq (.cons (leV.agg (.eq (.eq (.eq (.eq (.eq (.eq (.eq (.cons (leV.osl _ _ _) (.cons (leV.osl _ _ _) leL.nil))))))))) rfl) leL.nil))) (sk (sk xH)) ?_
  refine zc rfl (zg rfl (gk (gk yV)) (zb rfl)) yH ?_
  refine zf (zi (zJ ?_))
  obtain rfl:=Option.some.inj hF
  refine zB rfl (zC yz zD) (zz (leV.refl _) rfl ?_)
  exact ⟨rfl,rfl⟩
 ·refine zk (zd ?_)
  refine zc rfl (zu rfl yV rfl rfl) yO ?_
  refine zc rfl (zg rfl yL (zb rfl)) yN ?_
  refine zf (zi ?_)
  refine zH yM hF (fun hc3 hF=>?_) (fun hc3 hF=>?_)
  ·refine zk ?_
   refine yI [3,5] [(3,[(0,.cells [.int .u8 l0.typ,.int .i64 l0.n,.int .u64 l0.time,.int .u8 l0.dot.actor.rep,.int .u32 l0.dot.actor.inc,.int .u64 l0.dot.seq,.str l0.text,.sl 5 (l0.items.map GItem.row),.sl 3 (l0.tombs.map GDot.row)])]),(5,[(0,.cells [.int .u8 l0.typ,.int .i64 l0.n,.int .u64 l0.time,.int .u8 l0.dot.actor.rep,.int .u32 l0.dot.actor.inc,.int .u64 l0.dot.seq,.str l0.text,.sl 5 (l0.items.map GItem.row),.sl 3 (l0.tombs.map GDot.row)])])] ⟨⟨rfl,trivial⟩,⟨rfl,trivial⟩,trivial⟩ mixed (by kernel_rfl) ?_
   refine zq rfl rfl (zj rfl fo58x2 yw rfl) yT ?_
   refine zq rfl rfl (zw rfl qK yQ rfl (zr rfl) (zb rfl)) yZ ?_
   refine zq rfl rfl (zj rfl fo58x3 yw rfl) xd ?_
   refine draw_okN rfl rfl (by rintro _ ⟨B2,T2,rfl,hk2⟩;exact zw rfl ty55.choose_spec.1 xb (keeps1 hk2) (zL (cs':=[.int .u8 l0.dot.actor.rep,.int .u32 l0.dot.actor.inc,.int .u64 l0.dot.seq]) ty55.choose_spec.2 rfl rfl) (zb rfl)) xi ?_
   refine zq rfl rfl (zj rfl fo58x4 yw rfl) xA ?_
   refine draw_okN rfl rfl (by rintro _ ⟨B2,T2,rfl,hk2⟩;exact zw rfl vt xz (keeps1 hk2) (zr rfl) (zb rfl)) xE ?_
   refine zq rfl rfl (zj rfl fo58x2 yX rfl) xI ?_
   refine wq rfl (FOk.cons (.inr (keepB ⟨rfl,trivial⟩)) (FOk.cons (.inr (keepB ⟨rfl,trivial⟩)) FOk.nil)) (by kernel_rfl) rfl (yk (cs':=[.int .u8 l0.typ,.int .i64 (0:Int),.int .u64 l0.time,.int .u8 (0:Int),.int .u32 (0:Int),.int .u64 (0:Int),.str ([]:zR),.osl none 5 (([]:List GItem).map GItem.row),.osl none 3 (([]:List GDot).map GDot.row)]) rfl qK xF yY (zb rfl) rfl rfl rfl rfl rfl) rfl ?_
   refine zq rfl rfl (zj rfl fo58x3 yX rfl) xD ?_
   refine wq rfl (FOk.cons (.inr (keepB ⟨rfl,trivial⟩)) (FOk.cons (.inr (keepB ⟨rfl,trivial⟩)) FOk.nil)) (by kernel_rfl) rfl (yk (cs':=[.int .u8 l0.typ,.int .i64 (0:Int),.int .u64 l0.time,.int .u8 l0.dot.actor.rep,.int .u32 l0.dot.actor.inc,.int .u64 l0.dot.seq,.str ([]:zR),.osl none 5 (([]:List GItem).map GItem.row),.osl none 3 (([]:List GDot).map GDot.row)]) rfl ty55.choose_spec.1 xu xh (zb rfl) rfl rfl rfl rfl rfl) rfl ?_
   refine zq rfl rfl (zj rfl fo58x4 yX rfl) xM ?_
   refine wq rfl (FOk.cons (.inr (keepB ⟨rfl,trivial⟩)) (FOk.cons (.inr (keepB ⟨rfl,trivial⟩)) FOk.nil)) (by kernel_rfl) rfl (yk (cs':=[.int .u8 l0.typ,.int .i64 (0:Int),.int .u64 l0.time,.int .u8 l0.dot.actor.rep,.int .u32 l0.dot.actor.inc,.int .u64 l0.dot.seq,.str l0.text,.osl none 5 (([]:List GItem).map GItem.row),.osl none 3 (([]:List GDot).map GDot.row)]) rfl vt xN xB (zb rfl) rfl rfl rfl rfl rfl) rfl ?_
   refine yo ?_
   refine zi (zk (zd ?_))
   refine zc rfl (zj rfl fo58x2 yw rfl) wa ?_
   refine zc rfl (zw rfl qK x9 rfl (zr rfl) (zb rfl)) wi ?_
   refine zc rfl (zu rfl wh rfl rfl) wj ?_
   refine zc rfl (ze rfl wm (zb rfl)) wn ?_
   refine zp rfl (fun hb=>zj rfl fo58x2 yw rfl) wD ?_
   refine zp rfl (fun hb=>zw rfl qK (zn wz hb) rfl (zr rfl) (zb rfl)) wC ?_
   refine yn hF (fun v4 hv4 hF=>?_)
   refine z8 rfl (fun hb=>zE rfl rfl rfl (zo (zn wM hb) zy) (.cons (zb rfl) .nil)) (fun hb=>ok106 (hv4 hb)) wI ?_
   refine zp rfl (fun hb=>ze rfl (zn wL hb) (zb rfl)) wH ?_
   refine zp (zP rfl rfl rfl) (fun hb=>zj rfl fo58x3 yw rfl) wP ?_
   refine zp (zP rfl rfl rfl) (fun hb=>zw rfl ty55.choose_spec.1 (zn wT hb) rfl (zL (cs':=[.int .u8 l0.dot.actor.rep,.int .u32 l0.dot.actor.inc,.int .u64 l0.dot.seq]) ty55.choose_spec.2 rfl rfl) (zb rfl)) wO ?_
   refine yn hF (fun v5 hv5 hF=>?_)
   refine z8 (zP rfl rfl rfl) (fun hb=>zE rfl rfl rfl (zo (zn wK hb) zy) (.cons (zb rfl) .nil)) (fun hb=>ok107 (hv5 hb)) wN ?_
   refine zp rfl (fun hb=>zG rfl (zn wy hb) wS rfl (zN (fun ht=>gT2 hb ht))) wG ?_
   refine zp rfl (fun hb=>ze rfl (zn wu hb) (zb rfl)) wF ?_
   refine zp (zP rfl rfl rfl) (fun hb=>zj rfl fo58x4 yw rfl) wZ ?_
   refine zp (zP rfl rfl rfl) (fun hb=>zw rfl vt (zn w6 hb) rfl (zr rfl) (zb rfl)) wY ?_
   refine yn hF (fun v6 hv6 hF=>?_)
   refine z8 (zP rfl rfl rfl) (fun hb=>zE rfl rfl rfl (zo (zn w5 hb) zy) (.cons (zb rfl) .nil)) (fun hb=>ok108 (hv6 hb)) (sk qP) ?_
   refine zp rfl (fun hb=>zG rfl (zn wJ hb) (gk yg) rfl (zN (fun ht=>gT2 hb ht))) (sk qI) ?_
   refine zp rfl (fun hb=>xV rfl (zn (gk yw) hb) rfl) (sk yH) ?_
   refine zc rfl (zG rfl wl (gk yz) rfl (zN (fun ht=>gT ht))) (sk xS) ?_
   refine zc rfl (ze rfl (gk yX) (zb rfl)) (sk yD) ?_
   refine zp rfl (fun hb=>zj rfl fo58x2 yw rfl) (sk xw) ?_
   refine zp rfl (fun hb=>zw rfl qK (zn (gk yP) hb) rfl (zr rfl) (zb rfl)) (sk xp) ?_
   refine zp rfl (fun hb=>zu rfl (zn (gk yS) hb) rfl rfl) (sk xK) ?_
   refine zp rfl (fun hb=>ze rfl (zn (gk xn) hb) (zb rfl)) (sk xH) ?_
   refine zp (zP rfl rfl rfl) (fun hb=>zj rfl fo58x3 yw rfl) (sk x8) ?_
   refine zp (zP rfl rfl rfl) (fun hb=>zw rfl ty55.choose_spec.1 (zn (gk xl) hb) rfl (zL (cs':=[.int .u8 l0.dot.actor.rep,.int .u32 l0.dot.actor.inc,.int .u64 l0.dot.seq]) ty55.choose_spec.2 rfl rfl) (zb rfl)) (sk yq) ?_
   refine zp (zP rfl rfl rfl) (fun hb=>wR (cs':=[.int .u8 (0:Int),.int .u32 (0:Int),.int .u64 (0:Int)]) rfl su55 ze55 pl55 ye .nil rfl rfl) (sk yy) ?_
   refine zp (zP rfl rfl rfl) (fun hb=>zu rfl (zn (gk yi) hb) (zn (gk yl) hb) (bin_ne pk55 rfl)) (sk yE) ?_
   refine zp (zP rfl rfl rfl) (fun hb=>ze rfl (zn (gk yC) hb) (zb rfl)) (sk yG) ?_
   refine zp (zP rfl rfl rfl) (fun hb=>zj rfl fo58x4 yw rfl) (sk yN) ?_
   refine zp (zP rfl rfl rfl) (fun hb=>zw rfl vt (zn (gk yM) hb) rfl (zr rfl) (zb rfl)) (sk yO) ?_
   refine zp (zP rfl rfl rfl) (fun hb=>zu rfl (zn (gk yL) hb) rfl rfl) (sk yT) ?_
   refine zp (zP rfl rfl rfl) (fun hb=>zG rfl (zn (gk yr) hb) rfl (gk yQ) (zZ (fun ht=>gF2 hb ht))) (sk yZ) ?_
   refine zp rfl (fun hb=>zG rfl (zn (gk yV) hb) (gk yY) rfl (zN (fun ht=>gT2 hb ht))) (sk xd) ?_
   refine zc rfl (zG rfl (gk yv) rfl (gk xb) (zZ (fun ht=>gF ht))) (sk xi) ?_
   refine zf (zi ?_)
   refine zH (gk xh) hF (fun hc7 hF=>?_) (fun hc7 hF=>?_)
   ·refine zk (zd ?_)
    refine zc rfl (zg rfl rfl (zb rfl)) yH ?_
    refine zf (zi (zJ ?_))
    refine zF ?_
    refine zA ?_
    obtain rfl:=Option.some.inj hF
    refine zB rfl (zC yz zD) (zz (leV.refl _) rfl ?_)
    exact ⟨rfl,rfl⟩
   ·refine zI (yb (zi (zk (zd ?_))))
    refine zc rfl (zw rfl ty58.choose_spec.1 yw rfl (zL (cs':=[.int .u8 l0.typ,.int .i64 l0.n,.int .u64 l0.time,.int .u8 l0.dot.actor.rep,.int .u32 l0.dot.actor.inc,.int .u64 l0.dot.seq,.str l0.text,.sl 5 (l0.items.map GItem.row),.sl 3 (l0.tombs.map GDot.row)]) ty58.choose_spec.2 rfl rfl) (zb rfl)) (sk (sk xp)) ?_
    refine zc rfl (zw rfl ty58.choose_spec.1 yX rfl (zL (cs':=[.int .u8 l0.typ,.int .i64 (0:Int),.int .u64 l0.time,.int .u8 l0.dot.actor.rep,.int .u32 l0.dot.actor.inc,.int .u64 l0.dot.seq,.str l0.text,.osl none 5 (([]:List GItem).map GItem.row),.osl none 3 (([]:List GDot).map GDot.row)]) ty58.choose_spec.2 rfl rfl) (zb rfl)) (sk (sk xK)) ?_
    refine zS hF (fun v8 hv8 hF=>?_)
    refine zM rfl (zE rfl rfl rfl (zo (gk (gk yS)) (zo (gk (gk xn)) zy)) (.cons (zb rfl) (.cons (zb rfl) .nil))) ((ok49 hv8).le (.eq (.cons (leV.agg (.eq (.eq (.eq (.eq (.eq (.eq (.eq (.cons (leV.osl _ _ _) (.cons (leV.osl _ _ _) leL.nil))))))))) rfl) leL.nil))) (sk (sk xH)) ?_
    refine zc rfl (zg rfl (gk (gk yV)) (zb rfl)) yH ?_
    refine zf (zi (zJ ?_))
    obtain rfl:=Option.some.inj hF
    refine zB rfl (zC yz zD) (zz (leV.refl _) rfl ?_)
    exact ⟨rfl,rfl⟩
  ·refine zk (zd ?_)
   refine zc rfl (zu rfl yV rfl rfl) (sk xE) ?_
   refine zc rfl (zg rfl (gk xB) (zb rfl)) (sk xA) ?_
   refine zf (zi ?_)
   refine zH (gk xz) hF (fun hc9 hF=>?_) (fun hc9 hF=>?_)
   ·refine zk ?_
    refine yI [3] [(3,[(0,.cells [.int .u8 l0.typ,.int .i64 l0.n,.int .u64 l0.time,.int .u8 l0.dot.actor.rep,.int .u32 l0.dot.actor.inc,.int .u64 l0.dot.seq,.str l0.text,.sl 5 (l0.items.map GItem.row),.sl 3 (l0.tombs.map GDot.row)])])] ⟨⟨rfl,trivial⟩,trivial⟩ mixed (by kernel_rfl) ?_
    refine zq rfl rfl (zj rfl w7 yw rfl) (sk xI) ?_
    refine zq rfl rfl (zw rfl ty56 (gk xF) rfl (zr rfl) (zb rfl)) (sk xD) ?_
    refine zq rfl rfl (zj rfl vz yw rfl) (sk xM) ?_
    refine draw_okN rfl rfl (by rintro _ ⟨B2,T2,rfl,hk2⟩;exact zw rfl qL (gk xN) (keeps1 hk2) (zr rfl) (zb rfl)) (sk wa) ?_
    refine zq rfl rfl (zj rfl w7 yX rfl) (sk wi) ?_
    refine wq rfl (FOk.cons (.inr (keepB ⟨rfl,trivial⟩)) FOk.nil) (by kernel_rfl) rfl (yk (cs':=[.int .u8 l0.typ,.int .i64 (0:Int),.int .u64 (0:Int),.int .u8 (0:Int),.int .u32 (0:Int),.int .u64 (0:Int),.str ([]:zR),.sl 5 (l0.items.map GItem.row),.osl none 3 (([]:List GDot).map GDot.row)]) rfl ty56 (gk wh) (gk xu) (zb rfl) rfl rfl rfl rfl rfl) rfl ?_
    refine zq rfl rfl (zj rfl vz yX rfl) (sk wj) ?_
    refine wq rfl (FOk.cons (.inr (keepB ⟨rfl,trivial⟩)) FOk.nil) (by kernel_rfl) rfl (yk (cs':=[.int .u8 l0.typ,.int .i64 (0:Int),.int .u64 (0:Int),.int .u8 (0:Int),.int .u32 (0:Int),.int .u64 (0:Int),.str ([]:zR),.sl 5 (l0.items.map GItem.row),.sl 3 (l0.tombs.map GDot.row)]) rfl qL (gk wm) (gk x9) (zb rfl) rfl rfl rfl rfl rfl) rfl ?_
    refine yo ?_
    refine zi (zk (zd ?_))
    refine zc rfl (zj rfl w7 yw rfl) (sk wn) ?_
    refine zc rfl (zw rfl ty56 (gk wl) rfl (zr rfl) (zb rfl)) (sk wD) ?_
    refine zS hF (fun v10 hv10 hF=>?_)
    refine zM rfl (zE rfl rfl rfl (zo (gk wz) (zo rfl zy)) (.cons (zb rfl) (.cons (zb rfl) .nil))) (ok109 hv10) (sk wC) ?_
    refine zc rfl (xV rfl (gk wM) rfl) (sk wI) ?_
    refine zc rfl (ze rfl (gk wL) (zb rfl)) (sk wH) ?_
    refine zp rfl (fun hb=>zw rfl ty58.choose_spec.1 yw rfl (zL (cs':=[.int .u8 l0.typ,.int .i64 l0.n,.int .u64 l0.time,.int .u8 l0.dot.actor.rep,.int .u32 l0.dot.actor.inc,.int .u64 l0.dot.seq,.str l0.text,.sl 5 (l0.items.map GItem.row),.sl 3 (l0.tombs.map GDot.row)]) ty58.choose_spec.2 rfl rfl) (zb rfl)) (sk wP) ?_
    refine yn hF (fun v11 hv11 hF=>?_)
    refine z8 rfl (fun hb=>zE rfl rfl rfl (zo (zn (gk wT) hb) zy) (.cons (zb rfl) .nil)) (fun hb=>ok110 (hv11 hb)) (sk wO) ?_
    refine zp rfl (fun hb=>xV rfl (zn (gk wK) hb) rfl) (sk wN) ?_
    refine zc rfl (zG rfl (gk wy) rfl (gk wS) (zZ (fun ht=>gF ht))) (sk wG) ?_
    refine zf (zi ?_)
    refine zH (gk wu) hF (fun hc12 hF=>?_) (fun hc12 hF=>?_)
    ·refine zk (zd ?_)
     refine zc rfl (zg rfl rfl (zb rfl)) yH ?_
     refine zf (zi (zJ ?_))
     refine zF ?_
     refine zA ?_
     obtain rfl:=Option.some.inj hF
     refine zB rfl (zC yz zD) (zz (leV.refl _) rfl ?_)
     exact ⟨rfl,rfl⟩
    ·refine zI (yb (zi (zk (zd ?_))))
     refine zc rfl (zw rfl ty58.choose_spec.1 yw rfl (zL (cs':=[.int .u8 l0.typ,.int .i64 l0.n,.int .u64 l0.time,.int .u8 l0.dot.actor.rep,.int .u32 l0.dot.actor.inc,.int .u64 l0.dot.seq,.str l0.text,.sl 5 (l0.items.map GItem.row),.sl 3 (l0.tombs.map GDot.row)]) ty58.choose_spec.2 rfl rfl) (zb rfl)) (sk (sk xp)) ?_
     refine zc rfl (zw rfl ty58.choose_spec.1 yX rfl (zL (cs':=[.int .u8 l0.typ,.int .i64 (0:Int),.int .u64 (0:Int),.int .u8 (0:Int),.int .u32 (0:Int),.int .u64 (0:Int),.str ([]:zR),.sl 5 (l0.items.map GItem.row),.sl 3 (l0.tombs.map GDot.row)]) ty58.choose_spec.2 rfl rfl) (zb rfl)) (sk (sk xK)) ?_
     refine zS hF (fun v13 hv13 hF=>?_)
     refine zM rfl (zE rfl rfl rfl (zo (gk (gk yS)) (zo (gk (gk xn)) zy)) (.cons (zb rfl) (.cons (zb rfl) .nil))) (ok49 hv13) (sk (sk xH)) ?_
     refine zc rfl (zg rfl (gk (gk yV)) (zb rfl)) yH ?_
     refine zf (zi (zJ ?_))
     obtain rfl:=Option.some.inj hF
     refine zB rfl (zC yz zD) (zz (leV.refl _) rfl ?_)
     exact ⟨rfl,rfl⟩
   ·refine zk (zd ?_)
    refine zc rfl (zu rfl yV rfl rfl) (sk wZ) ?_
    refine zc rfl (zg rfl (gk w6) (zb rfl)) (sk wF) ?_
    refine zf (zi ?_)
    refine zH (gk wJ) hF (fun hc14 hF=>?_) (fun hc14 hF=>?_)
    ·refine zk (zd ?_)
     refine zc rfl (zj rfl w7 yw rfl) (sk wY) ?_
     refine zc rfl (zw rfl ty56 (gk w5) rfl (zr rfl) (zb rfl)) (sk (sk qP)) ?_
     refine zc rfl (zj rfl w7 yX rfl) (sk (sk qI)) ?_
     refine zc rfl (yk (cs':=[.int .u8 l0.typ,.int .i64 (0:Int),.int .u64 (0:Int),.int .u8 (0:Int),.int .u32 (0:Int),.int .u64 (0:Int),.str ([]:zR),.sl 5 (l0.items.map GItem.row),.osl none 3 (([]:List GDot).map GDot.row)]) rfl ty56 (gk (gk yw)) (gk (gk yg)) (zb rfl) rfl rfl rfl rfl rfl) rfl ?_
     refine zf (zi (zk (zd ?_)))
     refine zc rfl (zj rfl w7 yw rfl) (sk (sk yH)) ?_
     refine zc rfl (zw rfl ty56 (gk (gk yz)) rfl (zr rfl) (zb rfl)) (sk (sk xS)) ?_
     refine zS hF (fun v15 hv15 hF=>?_)
     refine zM rfl (zE rfl rfl rfl (zo (gk (gk yX)) (zo rfl zy)) (.cons (zb rfl) (.cons (zb rfl) .nil))) (ok109 hv15) (sk (sk yD)) ?_
     refine zc rfl (xV rfl (gk (gk yv)) rfl) (sk (sk xw)) ?_
     refine zf (zi ?_)
     refine zH (gk (gk yP)) hF (fun hc16 hF=>?_) (fun hc16 hF=>?_)
     ·refine zk (zd ?_)
      refine zc rfl (zg rfl rfl (zb rfl)) yH ?_
      refine zf (zi (zJ ?_))
      refine zF ?_
      refine zA ?_
      obtain rfl:=Option.some.inj hF
      refine zB rfl (zC yz zD) (zz (leV.refl _) rfl ?_)
      exact ⟨rfl,rfl⟩
     ·refine zI (yb (zi (zk (zd ?_))))
      refine zc rfl (zw rfl ty58.choose_spec.1 yw rfl (zL (cs':=[.int .u8 l0.typ,.int .i64 l0.n,.int .u64 l0.time,.int .u8 l0.dot.actor.rep,.int .u32 l0.dot.actor.inc,.int .u64 l0.dot.seq,.str l0.text,.sl 5 (l0.items.map GItem.row),.sl 3 (l0.tombs.map GDot.row)]) ty58.choose_spec.2 rfl rfl) (zb rfl)) (sk (sk xp)) ?_
      refine zc rfl (zw rfl ty58.choose_spec.1 yX rfl (zL (cs':=[.int .u8 l0.typ,.int .i64 (0:Int),.int .u64 (0:Int),.int .u8 (0:Int),.int .u32 (0:Int),.int .u64 (0:Int),.str ([]:zR),.sl 5 (l0.items.map GItem.row),.osl none 3 (([]:List GDot).map GDot.row)]) ty58.choose_spec.2 rfl rfl) (zb rfl)) (sk (sk xK)) ?_
      refine zS hF (fun v17 hv17 hF=>?_)
      refine zM rfl (zE rfl rfl rfl (zo (gk (gk yS)) (zo (gk (gk xn)) zy)) (.cons (zb rfl) (.cons (zb rfl) .nil))) ((ok49 hv17).le (.eq (.cons (leV.agg (.eq (.eq (.eq (.eq (.eq (.eq (.eq (.eq (.cons (leV.osl _ _ _) leL.nil))))))))) rfl) leL.nil))) (sk (sk xH)) ?_
      refine zc rfl (zg rfl (gk (gk yV)) (zb rfl)) yH ?_
      refine zf (zi (zJ ?_))
      obtain rfl:=Option.some.inj hF
      refine zB rfl (zC yz zD) (zz (leV.refl _) rfl ?_)
      exact ⟨rfl,rfl⟩
    ·refine zk (zd ?_)
     refine zc rfl (zg rfl rfl (zb rfl)) yH ?_
     refine zf (zi (zJ ?_))
     refine zF ?_
     refine zA ?_
     obtain rfl:=Option.some.inj hF
     refine zB rfl (zC yz zD) (zz (leV.refl _) rfl ?_)
     exact ⟨rfl,rfl⟩
/-! varve/tree.may -/
theorem ok43N (n:Nat):∀ {t0:(List GNode)} {deep1:Int} {res:Bool} {h:AH} , treeXmayN n t0 deep1=some res→Spec Tryz.prog 43 [.sl 3 (t0.map GNode.row),.int .i64 deep1] h (fun rr hh=>rr=.bool res∧hh=h):=by
 induction n with
 | zero=>intro t0 deep1 res h  hF;simp [treeXmayN] at hF
 | succ n ih =>
  intro t0 deep1 res h  hF
  unfold treeXmayN at hF
  refine zt Tryz.func43 rfl (by kernel_rfl) (env:=[.sl 3 (t0.map GNode.row),.int .i64 deep1,za,za,za,za,za,za,za,za,za,za,za,za,za,za,za,za,za,za,za,za,za,za,za,za,za,za,za,za,za,za,za,za,za,za,za,za,za,za,za,za,za,za,za,za,za,za,za,za,za,za,za,za,za,za,za,za,za,za,za,za,za,za,za,za,za,za,za,za,za,za,za,za,za,za,za,za,za,za,za,za,za,za,za,za,za,za,za]) (by rfl) ?_
  refine zk (zd ?_)
  refine zc rfl (zg rfl rfl (zb rfl)) yD ?_
  refine zf (zi (zk (zk (zd ?_))))
  refine zc rfl (ze rfl yg (zb rfl)) x8 ?_
  refine z7 rfl (zQ rfl rfl rfl rfl xa xl z0) yq fun hn1=>?_
  replace hn1:=xg hn1
  refine zc rfl (zu rfl yi rfl rfl) yy ?_
  refine zc rfl (ze rfl yl (zb rfl)) yE ?_
  refine zp rfl (fun hb=>ze rfl yw (zb rfl)) yG ?_
  refine zp rfl (fun hb=>zu rfl (zn yr hb) rfl rfl) yN ?_
  refine zc rfl (zG rfl yC yM rfl (zN (fun ht=>gT ht))) yO ?_
  refine zf (zi ?_)
  refine zH yL hF (fun hc2 hF=>?_) (fun hc2 hF=>?_)
  ·refine zk (zd ?_)
   refine zc rfl (zg rfl rfl (zb rfl)) yD ?_
   refine zf (zi (zJ (zA ?_)))
   obtain rfl:=Option.some.inj hF
   refine zB rfl (zC yv zD) (zz (leV.refl _) rfl ?_)
   exact ⟨rfl,rfl⟩
  ·refine zI (zi (zk (zk (zd ?_))))
   refine zc rfl (ze rfl yg (zb rfl)) yT ?_
   refine z7 rfl (zQ rfl rfl rfl rfl xa yQ z0) yZ fun hn3=>?_
   replace hn3:=xg hn3
   refine zc rfl (ze rfl rfl (zb rfl)) xd ?_
   refine zf (zi (zO ?_))
   refine ym (fun (n1:Nat) (s1:Unit)=>yB [2,3,4,5,6,7,8,9,10,11,12,13,14,15,19,20,21,22,23,24,25,26,27,28,29,30,31,32,33,34,35,36,37,38,39,40,41,42,43,44,45,46,47,48,49,50,51,52,53,54,55,56,57,58,59,60,61,62,63,64,65,66,67,68,69,70,71,72,73,74,75,76,77,78,79,80,81,82,83,84,85,86,87,88] [(18,.int .i64 (n1:Int))]) (fun s1=>h.ext [] []) hF (fun _ _=>by simp only [yB,qw,List.set_cons_succ,List.set_cons_zero];try rfl) (wk.le (by exact (.eq (.eq (.d4 (.d4 (.d4 (.drop (.drop (.eq (.eq (.cons (leV.of_eq rfl) (.d16 (.d16 (.d16 (.d16 (.d4 (.drop (.drop leL.nil))))))))))))))))))) ?_
   intro n1 s1 hi1 hF
   refine zk (zd ?_)
   refine zc rfl (zu rfl xb yY rfl) xi ?_
   refine zf (zi (zk ?_))
   refine yJ xh hF (fun x1 o1 hl1 hx1 hF hK1=>?_) (fun hF=>?_)
   ·refine zI (zi (zk (zO (zk (zd ?_)))))
    refine zc rfl (ze rfl xb (zb rfl)) xA ?_
    refine zc rfl (xO rfl xa yQ xb wd (yA hx1) (GNode.row_eq _)) xE ?_
    refine zc rfl (zY rfl ty74.choose_spec.1 xB (zL (cs':=[.str x1.name,.sl 9 (x1.leaves.map GLeaf.row),.sl 3 (x1.subs.map GNode.row)]) ty74.choose_spec.2 rfl rfl) (zb rfl)) xI ?_
    refine zc rfl (xf (n:=0) rfl ze74 rfl) xp ?_
    refine zc rfl (zg rfl xz (zb rfl)) xw ?_
    refine zc rfl (yk (cs':=[.str x1.name,.sl 9 (x1.leaves.map GLeaf.row),.sl 3 (x1.subs.map GNode.row)]) rfl ty74.choose_spec.1 yS xF (zb rfl) rfl rfl rfl rfl rfl) rfl ?_
    refine zf (zi (zk (zk ?_)))
    refine yI [2] [] trivial mixed (by kernel_rfl) ?_
    refine zq rfl rfl (zj rfl q9 yS rfl) xD ?_
    refine zq rfl rfl (zw rfl vt xu rfl (zr rfl) (zb rfl)) xM ?_
    refine zS hF (fun v27 hv27 hF=>?_)
    refine yW rfl rfl (fun _=>zE rfl rfl rfl (zo xN zy) (.cons (zb rfl) .nil)) (by rintro _ ⟨B2,T2,rfl,hk2⟩;exact ok66 hv27) wa ?_
    refine zq rfl rfl (xV rfl x9 rfl) wi ?_
    refine zq rfl rfl (ze rfl wh (zb rfl)) wj ?_
    refine zx rfl rfl (fun hb=>ze rfl yP (zb rfl)) wn ?_
    refine zx rfl rfl (fun hb=>zu rfl (zn wl hb) rfl rfl) wD ?_
    refine zx rfl rfl (fun hb=>ze rfl (zn wz hb) (zb rfl)) wC ?_
    refine zx rfl (zP rfl rfl rfl) (fun hb=>ze rfl yg (zb rfl)) wI ?_
    refine zx rfl (zP rfl rfl rfl) (fun hb=>ze rfl yP (zb rfl)) wH ?_
    refine zx rfl (zP rfl rfl rfl) (fun hb=>zu rfl (zn wy hb) rfl rfl) wP ?_
    refine xG hF (fun hg28 hF=>?_)
    refine zx rfl (zP rfl rfl rfl) (fun hb=>qm default rfl xa (zn wL hb) (zn wT hb) wd (hg28 hb) (GNode.row_eq _)) wO ?_
    refine zx rfl (zP rfl rfl rfl) (fun hb=>zj rfl q9 (zn wK hb) rfl) wN ?_
    refine zx rfl (zP rfl rfl rfl) (fun hb=>zY rfl vt (zn wS hb) (zr rfl) (zb rfl)) wG ?_
    refine zx rfl (zP rfl rfl rfl) (fun hb=>zj rfl q9 yS rfl) wF ?_
    refine zx rfl (zP rfl rfl rfl) (fun hb=>zw rfl vt (zn wJ hb) rfl (zr rfl) (zb rfl)) wZ ?_
    refine zx rfl (zP rfl rfl rfl) (fun hb=>zu rfl (zn wu hb) (zn w6 hb) rfl) wY ?_
    refine zx rfl rfl (fun hb=>zG rfl (zn wM hb) w5 rfl (zN (fun ht=>gT2 hb ht))) (sk qP) ?_
    refine zq rfl rfl (zG rfl wm rfl (gk yg) (zZ (fun ht=>gF ht))) (sk qI) ?_
    refine zq rfl rfl (ze rfl (gk yw) (zb rfl)) (sk yH) ?_
    refine zx rfl rfl (fun hb=>zj rfl xX yS rfl) (sk xS) ?_
    refine zx rfl rfl (fun hb=>zw rfl qk (zn (gk yX) hb) rfl (zr rfl) (zb rfl)) (sk yD) ?_
    refine draw_glen rfl rfl (fun hb=>zQ rfl rfl rfl rfl wr (zn (gk yv) hb) z0) (sk xw) ?_
    refine zx rfl rfl (fun hb=>zj rfl q8 yS rfl) (sk xp) ?_
    refine zx rfl rfl (fun hb=>zw rfl ty28 (zn (gk yS) hb) rfl (zr rfl) (zb rfl)) (sk xK) ?_
    refine draw_glen rfl rfl (fun hb=>zQ rfl rfl rfl rfl xa (zn (gk xn) hb) z0) (sk xH) ?_
    refine zx rfl rfl (fun hb=>zu rfl (zn (gk yP) hb) (zn (gk yV) hb) rfl) (sk x8) ?_
    refine zx rfl rfl (fun hb=>zu rfl (zn (gk xl) hb) rfl rfl) (sk yq) ?_
    refine zq rfl rfl (zG rfl (gk yz) rfl (gk yi) (zZ (fun ht=>gF ht))) (sk yy) ?_
    refine zq rfl rfl (ze rfl (gk yl) (zb rfl)) (sk yE) ?_
    refine zx rfl rfl (fun hb=>zj rfl q8 yS rfl) (sk yG) ?_
    refine zx rfl rfl (fun hb=>zw rfl ty28 (zn (gk yr) hb) rfl (zr rfl) (zb rfl)) (sk yN) ?_
    refine zx rfl rfl (fun hb=>ze rfl yw (zb rfl)) (sk yO) ?_
    refine zx rfl rfl (fun hb=>zu rfl (zn (gk yL) hb) rfl rfl) (sk yT) ?_
    refine yn hF (fun v31 hv31 hF=>?_)
    refine ww rfl rfl (fun hb=>zE rfl rfl rfl (zo (zn (gk yM) hb) (zo (zn (gk yQ) hb) zy)) (.cons (zb rfl) (.cons (zb rfl) .nil))) (fun hb=>ih (hv31 hb)) (sk yZ) ?_
    refine zx rfl rfl (fun hb=>xV rfl (zn (gk yY) hb) rfl) (sk xd) ?_
    refine zq rfl rfl (zG rfl (gk yC) rfl (gk xb) (zZ (fun ht=>gF ht))) (sk xi) ?_
    refine yo ?_
    refine zi ?_
    refine zH (gk xh) hF (fun hc32 hF=>?_) (fun hc32 hF=>?_)
    ·refine zk (zd ?_)
     refine zc rfl (zg rfl rfl (zb rfl)) yD ?_
     refine zf (zi (zJ (zA ?_)))
     refine zF ?_
     refine zA ?_
     refine yf ?_
     obtain rfl:=Option.some.inj hF
     replace hF:=hK1
     refine zF ?_
     refine zA ?_
     obtain rfl:=Option.some.inj hF
     refine zB rfl (zC yv zD) (zz (leV.refl _) rfl ?_)
     exact ⟨rfl,rfl⟩
    ·refine zI (zi (zk (zd ?_)))
     refine zc rfl (zj rfl xX yS rfl) (sk xA) ?_
     refine zc rfl (zw rfl qk (gk xz) rfl (zr rfl) (zb rfl)) (sk xE) ?_
     refine z7 rfl (zQ rfl rfl rfl rfl wr (gk xB) z0) (sk xI) fun hn33=>?_
     replace hn33:=xg hn33
     refine zc rfl (ze rfl rfl (zb rfl)) (sk xD) ?_
     refine zf (zi (zO ?_))
     refine ym (fun (n2:Nat) (s2:Unit)=>yB [2,3,4,5,7,8,9,10,11,12,13,14,15,19,20,21,22,23,24,25,26,27,28,29,30,31,32,33,34,35,36,37,38,39,40,41,42,43,44,45,46,47,48,49,50,51,52,53,54,55,56,57,58,59,60,64,65,66,67,68,69,70,71,72,73,74,75,76,77,78,79,80,81,82,83,84,85,86,87,88] [(63,.int .i64 (n2:Int))]) (fun s2=>h.ext [.cells [.str x1.name,.sl 9 (x1.leaves.map GLeaf.row),.sl 3 (x1.subs.map GNode.row)]] []) hF (fun _ _=>by simp only [yB,qw,List.set_cons_succ,List.set_cons_zero];try rfl) (wk.le (by exact (.eq (.eq (.d4 (.eq (.d4 (.d4 (.drop (.eq (.eq (.eq (.d16 (.d16 (.d4 (.d4 (.drop (.drop (.eq (.eq (.cons (leV.of_eq rfl) (.d16 (.d4 (.d4 (.drop leL.nil))))))))))))))))))))))))) ?_
     intro n2 s2 hi2 hF
     refine zk (zd ?_)
     refine zc rfl (zu rfl (gk xu) (gk xF) rfl) (sk xM) ?_
     refine zf (zi (zk ?_))
     refine yJ (gk xN) hF (fun x2 o2 hl2 hx2 hF hK2=>?_) (fun hF=>?_)
     ·refine zI (zi (zk (zO (zk (zd ?_)))))
      refine zc rfl (ze rfl (gk xu) (zb rfl)) (sk wa) ?_
      refine zc rfl (yd rfl wr (gk xB) (gk xu) wd (yA hx2)) (sk wi) ?_
      refine zc rfl (zY rfl ty58.choose_spec.1 (gk wh) (zL (cs':=[.int .u8 x2.typ,.int .i64 x2.n,.int .u64 x2.time,.int .u8 x2.dot.actor.rep,.int .u32 x2.dot.actor.inc,.int .u64 x2.dot.seq,.str x2.text,.sl 5 (x2.items.map GItem.row),.sl 3 (x2.tombs.map GDot.row)]) ty58.choose_spec.2 rfl rfl) (zb rfl)) (sk wj) ?_
      refine zc rfl (xf (n:=1) rfl ze58 rfl) xH ?_
      refine zc rfl (zg rfl (gk x9) (zb rfl)) xK ?_
      refine zc rfl (yk (cs':=[.int .u8 x2.typ,.int .i64 x2.n,.int .u64 x2.time,.int .u8 x2.dot.actor.rep,.int .u32 x2.dot.actor.inc,.int .u64 x2.dot.seq,.str x2.text,.sl 5 (x2.items.map GItem.row),.sl 3 (x2.tombs.map GDot.row)]) rfl ty58.choose_spec.1 yV (gk wm) (zb rfl) rfl rfl rfl rfl rfl) rfl ?_
      refine zf (zi (zk ?_))
      refine yI [1] [] trivial mixed (by kernel_rfl) ?_
      refine zq rfl rfl (zw rfl ty58.choose_spec.1 yV rfl (zL (cs':=[.int .u8 x2.typ,.int .i64 x2.n,.int .u64 x2.time,.int .u8 x2.dot.actor.rep,.int .u32 x2.dot.actor.inc,.int .u64 x2.dot.seq,.str x2.text,.sl 5 (x2.items.map GItem.row),.sl 3 (x2.tombs.map GDot.row)]) ty58.choose_spec.2 rfl rfl) (zb rfl)) (sk wn) ?_
      refine zS hF (fun v43 hv43 hF=>?_)
      refine yW rfl rfl (fun _=>zE rfl rfl rfl (zo (gk wl) zy) (.cons (zb rfl) .nil)) (by rintro _ ⟨B2,T2,rfl,hk2⟩;exact ok67 hv43) (sk wD) ?_
      refine zq rfl rfl (xV rfl (gk wz) rfl) (sk wC) ?_
      refine zq rfl rfl (ze rfl (gk wM) (zb rfl)) (sk wI) ?_
      refine zx rfl rfl (fun hb=>ze rfl xn (zb rfl)) (sk wH) ?_
      refine zx rfl rfl (fun hb=>zu rfl (zn (gk wy) hb) rfl rfl) (sk wP) ?_
      refine zx rfl rfl (fun hb=>ze rfl (zn (gk wT) hb) (zb rfl)) (sk wO) ?_
      refine zx rfl (zP rfl rfl rfl) (fun hb=>zj rfl xX yS rfl) (sk wN) ?_
      refine zx rfl (zP rfl rfl rfl) (fun hb=>zw rfl qk (zn (gk wS) hb) rfl (zr rfl) (zb rfl)) (sk wG) ?_
      refine zx rfl (zP rfl rfl rfl) (fun hb=>ze rfl xn (zb rfl)) (sk wF) ?_
      refine zx rfl (zP rfl rfl rfl) (fun hb=>zu rfl (zn (gk wJ) hb) rfl rfl) (sk wZ) ?_
      refine xG hF (fun hg44 hF=>?_)
      refine zx rfl (zP rfl rfl rfl) (fun hb=>yK default rfl wr (zn (gk wu) hb) (zn (gk w6) hb) wd (hg44 hb)) (sk wY) ?_
      refine zx rfl (zP rfl rfl rfl) (fun hb=>zj rfl wU (zn (gk w5) hb) rfl) (sk (sk qP)) ?_
      refine zx rfl (zP rfl rfl rfl) (fun hb=>zY rfl vb (zn (gk (gk yg)) hb) (zr rfl) (zb rfl)) (sk (sk qI)) ?_
      refine zx rfl (zP rfl rfl rfl) (fun hb=>zj rfl wU yV rfl) (sk (sk yH)) ?_
      refine zx rfl (zP rfl rfl rfl) (fun hb=>zw rfl vb (zn (gk (gk yz)) hb) rfl (zr rfl) (zb rfl)) (sk (sk xS)) ?_
      refine zx rfl (zP rfl rfl rfl) (fun hb=>zu rfl (zn (gk (gk yw)) hb) (zn (gk (gk yX)) hb) rfl) (sk (sk yD)) ?_
      refine zx rfl rfl (fun hb=>zG rfl (zn (gk wK) hb) (gk (gk yv)) rfl (zN (fun ht=>gT2 hb ht))) (sk (sk xw)) ?_
      refine zq rfl rfl (zG rfl (gk wL) rfl (gk (gk yP)) (zZ (fun ht=>gF ht))) (sk (sk xp)) ?_
      refine yo ?_
      refine zi ?_
      refine zH (gk (gk yS)) hF (fun hc45 hF=>?_) (fun hc45 hF=>?_)
      ·refine zk (zd ?_)
       refine zc rfl (zg rfl rfl (zb rfl)) yD ?_
       refine zf (zi (zJ ?_))
       refine zF ?_
       refine zA ?_
       refine yf ?_
       obtain rfl:=Option.some.inj hF
       replace hF:=hK2
       refine zF ?_
       refine zF ?_
       refine zA ?_
       refine yf ?_
       obtain rfl:=Option.some.inj hF
       replace hF:=hK1
       refine zF ?_
       refine zA ?_
       obtain rfl:=Option.some.inj hF
       refine zB rfl (zC yv zD) (zz (leV.refl _) rfl ?_)
       exact ⟨rfl,rfl⟩
      ·refine zI (yb (zi (zd ?_)))
       refine zc rfl (zu rfl (gk xu) rfl rfl) (sk (sk xK)) ?_
       refine zc rfl (ze rfl (gk (gk xn)) (zb rfl)) (sk xD) ?_
       refine zf (yu ?_)
       obtain rfl:=Option.some.inj hF
       exact ⟨(),hl2,hK2,wk.trans (wk.le (by exact (.eq (.eq (.d4 (.eq (.d4 (.d4 (.drop (.eq (.eq (.eq (.d16 (.d16 (.d4 (.d4 (.drop (.drop (.eq (.eq (.cons (leV.of_eq (wx (by omega) (by omega))) (.d16 (.d4 (.d4 (.drop leL.nil))))))))))))))))))))))))) (xY (by simp [yj,AV.low]) rfl rfl (by simp [Blk.low,yj,AV.low]))⟩
     ·refine yF ?_
      refine zX ?_
      refine zU ?_
      refine zV ?_
      refine yb (zi (zd ?_))
      refine zc rfl (zu rfl xb rfl rfl) (sk (sk xH)) ?_
      refine zc rfl (ze rfl (gk (gk yV)) (zb rfl)) xd ?_
      refine zf (yu ?_)
      obtain rfl:=Option.some.inj hF
      exact ⟨(),hl1,hK1,wk.trans (wk.le (by exact (.eq (.eq (.d4 (.d4 (.d4 (.drop (.drop (.eq (.eq (.cons (leV.of_eq (wx (by omega) (by omega))) (.d16 (.d16 (.d16 (.d16 (.d4 (.drop (.drop leL.nil))))))))))))))))))) (xY (by simp [yj,AV.low]) rfl rfl (by simp [Blk.low,yj,AV.low]))⟩
   ·refine yF ?_
    refine zX ?_
    refine zU ?_
    refine zV ?_
    refine zi (zk (zd ?_))
    refine zc rfl (zg rfl rfl (zb rfl)) yD ?_
    refine zf (zi (zJ ?_))
    obtain rfl:=Option.some.inj hF
    refine zB rfl (zC yv zD) (zz (leV.refl _) rfl ?_)
    exact ⟨rfl,rfl⟩
theorem ok43 {t0:(List GNode)} {deep1:Int} {res:Bool} {h:AH}  (hF:treeXmay t0 deep1=some res):Spec Tryz.prog 43 [.sl 3 (t0.map GNode.row),.int .i64 deep1] h (fun rr hh=>rr=.bool res∧hh=h):=by
 obtain ⟨n,hn⟩:=anyN_is hF
 exact ok43N n  hn
/-! varve/tree.May -/
theorem ok22 {t0:(List GNode)} {res:Bool} {h:AH}  (hF:treeMay t0=some res):Spec Tryz.prog 22 [.sl 3 (t0.map GNode.row)] h (fun rr hh=>rr=.bool res∧hh=h):=by
 unfold treeMay at hF
 refine zt Tryz.func22 rfl (by kernel_rfl) (env:=[.sl 3 (t0.map GNode.row),za,za,za,za]) (by rfl) ?_
 refine zk (zd ?_)
 refine zc rfl (zg rfl rfl (zb rfl)) yH ?_
 refine zf (zi (zk (zd ?_)))
 refine zc rfl (ze rfl yg (zb rfl)) xS ?_
 refine zS hF (fun v1 hv1 hF=>?_)
 refine zM rfl (zE rfl rfl rfl (zo yX (zo rfl zy)) (.cons (zb rfl) (.cons (zb rfl) .nil))) (ok43 hv1) yD ?_
 refine zc rfl (zg rfl yv (zb rfl)) yH ?_
 refine zf (zi (zJ ?_))
 obtain rfl:=Option.some.inj hF
 refine zB rfl (zC yz zD) (zz (leV.refl _) rfl ?_)
 exact ⟨rfl,rfl⟩
/-! varve/paths.rows -/
theorem ok45 {t0:(List GNode)} {ahead1:(List zR)} {res:((List GNode)×(List zR))} {h:AH}  (hF:pathsXrows t0 ahead1=some res):Spec Tryz.prog 45 [.sl 3 (t0.map GNode.row),.sl 1 (ahead1.map zK)] h (CloK h 69 [.cells [.sl 3 (res.1.map GNode.row)],.cells [.sl 1 (res.2.map zK)]]):=by
 unfold pathsXrows at hF
 refine zt Tryz.func45 rfl (by kernel_rfl) (env:=[.sl 3 (t0.map GNode.row),.sl 1 (ahead1.map zK),za,za,za,za]) (by rfl) ?_
 refine zk (zd ?_)
 refine zc rfl (xy (n:=0) rfl yg (zb rfl) rfl rfl) yH ?_
 refine zc rfl (xy (n:=1) rfl yw (zb rfl) rfl rfl) xS ?_
 refine zc rfl (zg rfl rfl (zb rfl)) yD ?_
 refine zf (zi (zk (zd ?_)))
 refine zc rfl (qS rfl rfl rfl) xw ?_
 refine zc rfl (zg rfl yP (zb rfl)) yD ?_
 refine zf (zi (zJ ?_))
 obtain rfl:=Option.some.inj hF
 refine zB rfl (zC yv zD) (fin_clo (bs:=[.cells [.sl 3 (t0.map GNode.row)],.cells [.sl 1 (ahead1.map zK)]]) (by simp [AV.low,yj]) rfl (by simp [Blk.low,yj,AV.low]) ?_)
 exact ⟨rfl,rfl⟩
/-! slices.Clone[[]string,string] -/
theorem ok70 {s0:(List zR)} {res:(List zR)} {h:AH}  (hF:vk s0=some res):Spec Tryz.prog 70 [.sl 1 (s0.map zK)] h (OwnK h 1 res.length (res.map zK)):=by
 unfold vk at hF
 refine zt Tryz.func70 rfl (by kernel_rfl) (env:=[.sl 1 (s0.map zK),za,za,za,za,za,za,za]) (by rfl) ?_
 refine zk (zd ?_)
 refine zc rfl (zg rfl rfl (xq xc)) yH ?_
 refine zf (zi (zk (zk (zd ?_))))
 refine zc rfl (ze rfl yg (zb rfl)) xS ?_
 refine ops_nilqE rfl rfl xc yX wd rfl (fun _=>yD) hF (fun b1 hb1 hF=>?_)
 refine zf (zi ?_)
 refine zH yv hF (fun hc2 hF=>?_) (fun hc2 hF=>?_)
 ·refine zk (zd ?_)
  refine zc rfl (zg rfl rfl (xq xc)) yH ?_
  refine zf (zi (zJ (zA ?_)))
  obtain rfl:=Option.some.inj hF
  refine zB rfl (zC yz zD) (fin_own0 (row:=zK) (L:=([]:List zR)) ?_)
  exact ⟨rfl,rfl⟩
 ·refine zI (zi (zk (zd ?_)))
  refine zc rfl (yh (es:=([]:List zR).map zK) rfl xc ze9 rfl rfl ye .nil rfl rfl rfl) xw ?_
  refine zc rfl (ze rfl yg (zb rfl)) xp ?_
  refine xG hF (fun hm3 hF=>?_)
  refine zc rfl (e_appN (m:=0) (T':=[((([]:List zR)++s0)).length]) rfl rfl rfl rfl xc xc yP yS (zb rfl) (zb rfl) vY hm3 rfl rfl) xK ?_
  refine zc rfl (zg rfl xn (zb rfl)) yH ?_
  refine zf (zi (zJ ?_))
  obtain rfl:=Option.some.inj hF
  refine zB rfl (zC yz zD) (fin_own ?_)
  exact ⟨rfl,rfl⟩
/-! slices.Clone[[]varve/api.Item,varve/api.Item] -/
theorem ok80 {s0:(List GItem)} {res:(List GItem)} {h:AH}  (hF:vJ s0=some res):Spec Tryz.prog 80 [.sl 5 (s0.map GItem.row)] h (OwnK h 5 res.length (res.map GItem.row)):=by
 unfold vJ at hF
 refine zt Tryz.func80 rfl (by kernel_rfl) (env:=[.sl 5 (s0.map GItem.row),za,za,za,za,za,za,za]) (by rfl) ?_
 refine zk (zd ?_)
 refine zc rfl (zg rfl rfl (xq el56)) yH ?_
 refine zf (zi (zk (zk (zd ?_))))
 refine zc rfl (ze rfl yg (zb rfl)) xS ?_
 refine ops_nilqE rfl rfl el56 yX wd rfl (fun _=>yD) hF (fun b1 hb1 hF=>?_)
 refine zf (zi ?_)
 refine zH yv hF (fun hc2 hF=>?_) (fun hc2 hF=>?_)
 ·refine zk (zd ?_)
  refine zc rfl (zg rfl rfl (xq el56)) yH ?_
  refine zf (zi (zJ (zA ?_)))
  obtain rfl:=Option.some.inj hF
  refine zB rfl (zC yz zD) (fin_own0 (row:=GItem.row) (L:=([]:List GItem)) ?_)
  exact ⟨rfl,rfl⟩
 ·refine zI (zi (zk (zd ?_)))
  refine zc rfl (yh (es:=([]:List GItem).map GItem.row) rfl el56 ze77 rfl rfl ye .nil rfl rfl rfl) xw ?_
  refine zc rfl (ze rfl yg (zb rfl)) xp ?_
  refine xG hF (fun hm3 hF=>?_)
  refine zc rfl (e_appN (m:=0) (T':=[((([]:List GItem)++s0)).length]) rfl rfl rfl rfl el56 el56 yP yS (zb rfl) (zb rfl) vY hm3 rfl rfl) xK ?_
  refine zc rfl (zg rfl xn (zb rfl)) yH ?_
  refine zf (zi (zJ ?_))
  obtain rfl:=Option.some.inj hF
  refine zB rfl (zC yz zD) (fin_own ?_)
  exact ⟨rfl,rfl⟩
/-! slices.Clone[[]varve/api.Dot,varve/api.Dot] -/
theorem ok81 {s0:(List GDot)} {res:(List GDot)} {h:AH}  (hF:qa s0=some res):Spec Tryz.prog 81 [.sl 3 (s0.map GDot.row)] h (OwnK h 3 res.length (res.map GDot.row)):=by
 unfold qa at hF
 refine zt Tryz.func81 rfl (by kernel_rfl) (env:=[.sl 3 (s0.map GDot.row),za,za,za,za,za,za,za]) (by rfl) ?_
 refine zk (zd ?_)
 refine zc rfl (zg rfl rfl (xq qf)) yH ?_
 refine zf (zi (zk (zk (zd ?_))))
 refine zc rfl (ze rfl yg (zb rfl)) xS ?_
 refine ops_nilqE rfl rfl qf yX wd rfl (fun _=>yD) hF (fun b1 hb1 hF=>?_)
 refine zf (zi ?_)
 refine zH yv hF (fun hc2 hF=>?_) (fun hc2 hF=>?_)
 ·refine zk (zd ?_)
  refine zc rfl (zg rfl rfl (xq qf)) yH ?_
  refine zf (zi (zJ (zA ?_)))
  obtain rfl:=Option.some.inj hF
  refine zB rfl (zC yz zD) (fin_own0 (row:=GDot.row) (L:=([]:List GDot)) ?_)
  exact ⟨rfl,rfl⟩
 ·refine zI (zi (zk (zd ?_)))
  refine zc rfl (yh (es:=([]:List GDot).map GDot.row) rfl qf ze55 rfl rfl ye .nil rfl rfl rfl) xw ?_
  refine zc rfl (ze rfl yg (zb rfl)) xp ?_
  refine xG hF (fun hm3 hF=>?_)
  refine zc rfl (e_appN (m:=0) (T':=[((([]:List GDot)++s0)).length]) rfl rfl rfl rfl qf qf yP yS (zb rfl) (zb rfl) vY hm3 rfl rfl) xK ?_
  refine zc rfl (zg rfl xn (zb rfl)) yH ?_
  refine zf (zi (zJ ?_))
  obtain rfl:=Option.some.inj hF
  refine zB rfl (zC yz zD) (fin_own ?_)
  exact ⟨rfl,rfl⟩
/-! varve/paths.own -/
theorem ok71 {l0:GLeaf} {res:GLeaf} {h:AH}  (hF:pathsXown l0=some res):Spec Tryz.prog 71 [.agg [.int .u8 l0.typ,.int .i64 l0.n,.int .u64 l0.time,.int .u8 l0.dot.actor.rep,.int .u32 l0.dot.actor.inc,.int .u64 l0.dot.seq,.str l0.text,.sl 5 (l0.items.map GItem.row),.sl 3 (l0.tombs.map GDot.row)]] h (fun rr hh=>rr=.agg [.int .u8 res.typ,.int .i64 res.n,.int .u64 res.time,.int .u8 res.dot.actor.rep,.int .u32 res.dot.actor.inc,.int .u64 res.dot.seq,.str res.text,.sl 5 (res.items.map GItem.row),.sl 3 (res.tombs.map GDot.row)]∧hh=h):=by
 unfold pathsXown at hF
 refine zt Tryz.func71 rfl (by kernel_rfl) (env:=[.agg [.int .u8 l0.typ,.int .i64 l0.n,.int .u64 l0.time,.int .u8 l0.dot.actor.rep,.int .u32 l0.dot.actor.inc,.int .u64 l0.dot.seq,.str l0.text,.sl 5 (l0.items.map GItem.row),.sl 3 (l0.tombs.map GDot.row)],za,za,za,za,za,za,za,za,za,za,za]) (by rfl) ?_
 refine zk (zd ?_)
 refine zc rfl (xy (n:=0) rfl yg (zb rfl) rfl rfl) qI ?_
 refine zc rfl (xf (n:=1) rfl ze58 rfl) yH ?_
 refine zf (zi (zk ?_))
 refine yI [] [] trivial mixed (by kernel_rfl) ?_
 refine zq rfl rfl (zj rfl w7 yw rfl) xS ?_
 refine zq rfl rfl (zw rfl ty56 yX rfl (zr rfl) (zb rfl)) yD ?_
 refine zS hF (fun v1 hv1 hF=>?_)
 refine qt rfl FOk.nil (by rfl) rfl (zE rfl rfl rfl (zo yv zy) (.cons (zb rfl) .nil)) (own_ext (T':=[(v1).length]) (ok80 hv1) (m:=0) rfl rfl) xw ?_
 refine zq rfl rfl (zj rfl vz yw rfl) xp ?_
 refine zq rfl rfl (zw rfl qL yS rfl (zr rfl) (zb rfl)) xK ?_
 refine zS hF (fun v2 hv2 hF=>?_)
 refine qt rfl FOk.nil (by rfl) rfl (zE rfl rfl rfl (zo xn zy) (.cons (zb rfl) .nil)) (own_ext (T':=[(v1).length,(v2).length]) (ok81 hv2) (m:=1) rfl rfl) xH ?_
 refine zq rfl rfl (zj rfl w7 yw rfl) x8 ?_
 refine wq rfl FOk.nil (by kernel_rfl) rfl (yk (cs':=[.int .u8 l0.typ,.int .i64 l0.n,.int .u64 l0.time,.int .u8 l0.dot.actor.rep,.int .u32 l0.dot.actor.inc,.int .u64 l0.dot.seq,.str l0.text,.osl (some (h.toks.length+0)) 5 (v1.map GItem.row),.sl 3 (l0.tombs.map GDot.row)]) rfl ty56 xl yP (zb rfl) rfl rfl rfl rfl rfl) rfl ?_
 refine zq rfl rfl (zj rfl vz yw rfl) yq ?_
 refine wq rfl FOk.nil (by kernel_rfl) rfl (yk (cs':=[.int .u8 l0.typ,.int .i64 l0.n,.int .u64 l0.time,.int .u8 l0.dot.actor.rep,.int .u32 l0.dot.actor.inc,.int .u64 l0.dot.seq,.str l0.text,.osl (some (h.toks.length+0)) 5 (v1.map GItem.row),.osl (some (h.toks.length+1)) 3 (v2.map GDot.row)]) rfl qL yi yV (zb rfl) rfl rfl rfl rfl rfl) rfl ?_
 refine yo ?_
 refine zi (zk (zd ?_))
 refine zc rfl (zw rfl ty58.choose_spec.1 yw rfl (zL (cs':=[.int .u8 l0.typ,.int .i64 l0.n,.int .u64 l0.time,.int .u8 l0.dot.actor.rep,.int .u32 l0.dot.actor.inc,.int .u64 l0.dot.seq,.str l0.text,.osl (some (h.toks.length+0)) 5 (v1.map GItem.row),.osl (some (h.toks.length+1)) 3 (v2.map GDot.row)]) ty58.choose_spec.2 rfl rfl) (zb rfl)) yy ?_
 refine zc rfl (yk (cs':=[.int .u8 l0.typ,.int .i64 l0.n,.int .u64 l0.time,.int .u8 l0.dot.actor.rep,.int .u32 l0.dot.actor.inc,.int .u64 l0.dot.seq,.str l0.text,.osl (some (h.toks.length+0)) 5 (v1.map GItem.row),.osl (some (h.toks.length+1)) 3 (v2.map GDot.row)]) rfl ty58.choose_spec.1 yz yl (zb rfl) rfl rfl rfl rfl rfl) rfl ?_
 refine zf (zi (zJ ?_))
 obtain rfl:=Option.some.inj hF
 refine zB rfl (rl_cell ty58.choose_spec.1 yz rfl (zL (cs':=[.int .u8 l0.typ,.int .i64 l0.n,.int .u64 l0.time,.int .u8 l0.dot.actor.rep,.int .u32 l0.dot.actor.inc,.int .u64 l0.dot.seq,.str l0.text,.osl (some (h.toks.length+0)) 5 (v1.map GItem.row),.osl (some (h.toks.length+1)) 3 (v2.map GDot.row)]) ty58.choose_spec.2 rfl rfl) (zb rfl) zD) (zz (leV.agg (.eq (.eq (.eq (.eq (.eq (.eq (.eq (.cons (leV.osl _ _ _) (.cons (leV.osl _ _ _) leL.nil))))))))) rfl) rfl ?_)
 exact ⟨rfl,rfl⟩
/-! varve/paths.rows 1 -/
theorem ok69N (n:Nat):∀ {S:Type} {Hy:S→AH} {nb nt:Nat} {yield0:S→GRow→Option (Bool×S)} {idy:Nat} {c0:(List GNode)} {i0:Nat} {c1:(List zR)} {i1:Nat} {s0:S} {res:S} (hN:∀ s,(Hy s).blks.length=nb) (hNt:∀ s,(Hy s).toks.length=nt) (hC:∀ s,(Hy s).closed nb nt) (hly:idy < nb) (hy:∀ s x b s' L M,yield0 s x=some (b,s')→SpecY Tryz.prog idy [.agg [.sl 1 (x.path.map zK),.int .u8 x.leaf.typ,.int .i64 x.leaf.n,.int .u64 x.leaf.time,.int .u8 x.leaf.dot.actor.rep,.int .u32 x.leaf.dot.actor.inc,.int .u64 x.leaf.dot.seq,.str x.leaf.text,.sl 5 (x.leaf.items.map GItem.row),.sl 3 (x.leaf.tombs.map GDot.row)]] ((Hy s).ext L M) (fun rr hh=>rr=.bool b∧hh=(Hy s').ext L M)) (hb0:∀ s,(Hy s).blk i0=some (.cells [.sl 3 (c0.map GNode.row)])) (hb1:∀ s,(Hy s).blk i1=some (.cells [.sl 1 (c1.map zK)])),vS n S yield0 c0 c1 s0=some res→Spec Tryz.prog 69 [.yld idy,.ptr i0 0,.ptr i1 0] (Hy s0) (fun rr hh=>rr=.tup []∧hh=Hy res):=by
 induction n with
 | zero=>intro S Hy nb nt yield0 idy c0 i0 c1 i1 s0 res hN hNt hC hly hy hb0 hb1 hF;simp [vS] at hF
 | succ n ih =>
  intro S Hy nb nt yield0 idy c0 i0 c1 i1 s0 res hN hNt hC hly hy hb0 hb1 hF
  unfold vS at hF
  refine zt Tryz.func69 rfl (by kernel_rfl) (env:=[.yld idy,.ptr i0 0,.ptr i1 0,za,za,za,za,za,za,za,za,za,za,za,za,za,za,za,za,za,za,za,za,za,za,za,za,za,za,za,za,za,za,za,za,za,za,za,za,za,za,za,za,za,za,za,za,za]) (by rfl) ?_
  have hly2:∀ k,idy < nb+k:=fun k=>Nat.lt_of_lt_of_le hly (Nat.le_add_right _ _)
  have hli0:=blk_lt (hb0 s0) (hN s0)
  have hli0b:∀ k,i0 < nb+k:=fun k=>Nat.lt_of_lt_of_le hli0 (Nat.le_add_right _ _)
  have hli1:=blk_lt (hb1 s0) (hN s0)
  have hli1b:∀ k,i1 < nb+k:=fun k=>Nat.lt_of_lt_of_le hli1 (Nat.le_add_right _ _)
  refine zk (zd ?_)
  refine zc rfl (n_box (hN _) (n:=0) rfl yg (zb rfl) rfl rfl) xS ?_
  refine zf (zi (zk (zd ?_)))
  refine zc rfl (b_load rfl ty28 yw (hb0 _) (zr rfl) (zb rfl)) yq ?_
  refine z7 rfl (zQ rfl rfl rfl rfl xa yi z0) yy fun hn1=>?_
  replace hn1:=xg hn1
  refine zc rfl (ze rfl rfl (zb rfl)) yE ?_
  refine zf (zi (zO ?_))
  refine ym (fun (n1:Nat) (s1:S)=>yB [0,1,4,5,6,7,8,9,13,14,15,16,17,18,19,20,21,22,23,24,25,26,27,28,29,30,31,32,33,34,35,36,37,38,39,40,41,42,43,44,45,46,47] [(12,.int .i64 (n1:Int))]) (fun s1=>(Hy s1).ext [.cells [.yld idy]] []) hF (fun _ _=>by simp only [yB,qw,List.set_cons_succ,List.set_cons_zero];try rfl) (wk.le (by exact (.drop (.drop (.eq (.eq (.d4 (.drop (.drop (.eq (.eq (.cons (leV.of_eq rfl) (.d16 (.d16 (.drop (.drop (.drop leL.nil))))))))))))))))) ?_
  intro n1 s1 hi1 hF
  refine zk (zd ?_)
  refine zc rfl (zu rfl yC yl rfl) yG ?_
  refine zf (zi (zk ?_))
  refine yJ yr hF (fun x1 o1 hl1 hx1 hF hK1=>?_) (fun hF=>?_)
  ·refine zI (zi (zk (zO (zk (zd ?_)))))
   refine zc rfl (xO rfl xa yi yC wd (yA hx1) (GNode.row_eq _)) yN ?_
   refine zc rfl (zY rfl ty74.choose_spec.1 yM (zL (cs':=[.str x1.name,.sl 9 (x1.leaves.map GLeaf.row),.sl 3 (x1.subs.map GNode.row)]) ty74.choose_spec.2 rfl rfl) (zb rfl)) yO ?_
   refine zc rfl (n_alloc (hN _) (n:=1) rfl ze74 rfl) xw ?_
   refine zc rfl (n_store (hN _) (cs':=[.str x1.name,.sl 9 (x1.leaves.map GLeaf.row),.sl 3 (x1.subs.map GNode.row)]) rfl ty74.choose_spec.1 yP yL (zb rfl) rfl rfl rfl rfl rfl) rfl ?_
   refine zf (zi (zk ?_))
   refine yI [] [] trivial mixed (by kernel_rfl) ?_
   refine zq rfl rfl (b_load rfl ty23 yz (hb1 _) (zr rfl) (zb rfl)) yT ?_
   refine zS hF (fun v37 hv37 hF=>?_)
   refine qt rfl FOk.nil (by rfl) rfl (zE rfl rfl rfl (zo yQ zy) (.cons (zb rfl) .nil)) (n_own (hNt _) (T':=[(v37).length]) (ok70 hv37) (m:=0) rfl rfl) yZ ?_
   refine zq rfl rfl (zj rfl q9 yP rfl) xd ?_
   refine zq rfl rfl (n_load (hN _) rfl vt xb rfl (zr rfl) (zb rfl)) xi ?_
   refine zq rfl rfl (yh (es:=([x1.name]:List zR).map zK) rfl xc ze9 rfl rfl (zT xh ye) (.cons (zb rfl) .nil) rfl rfl rfl) xA ?_
   refine xG hF (fun hm38 hF=>?_)
   refine vi rfl FOk.nil (by rfl) rfl (n_appT (hNt _) (j:=0) (T':=[((v37++([x1.name]:List zR))).length]) rfl rfl rfl rfl xc xc yY xz (zb rfl) (zb rfl) wo hm38 rfl rfl) xE ?_
   refine zq rfl rfl (zg rfl xB (zb rfl)) xp ?_
   refine yo ?_
   refine zi (zk (zk (zd ?_)))
   refine zc rfl (zj rfl xX yP rfl) xI ?_
   refine zc rfl (n_load (hN _) rfl qk xF rfl (zr rfl) (zb rfl)) xD ?_
   refine z7 rfl (zQ rfl rfl rfl rfl wr xu z0) xM fun hn39=>?_
   replace hn39:=xg hn39
   refine zc rfl (ze rfl rfl (zb rfl)) wa ?_
   refine zf (zi (zO ?_))
   refine ym (fun (n2:Nat) (s2:S)=>yB [0,1,4,7,8,9,13,14,15,16,17,18,19,20,21,22,26,27,28,29,30,31,32,33,34,35,36,37,38,39,40,41,42,43,44,45,46,47] [(25,.int .i64 (n2:Int))]) (fun s2=>(Hy s2).ext [.cells [.yld idy],.cells [.str x1.name,.sl 9 (x1.leaves.map GLeaf.row),.sl 3 (x1.subs.map GNode.row)]] [((v37++([x1.name]:List zR))).length]) hF (fun _ _=>by simp only [yB,qw,List.set_cons_succ,List.set_cons_zero];try rfl) (wk.le (by exact (.drop (.drop (.eq (.eq (.drop (.eq (.eq (.drop (.drop (.drop (.eq (.eq (.eq (.d4 (.d4 (.drop (.drop (.eq (.eq (.cons (leV.of_eq rfl) (.d16 (.d4 (.drop (.drop leL.nil)))))))))))))))))))))))))) ?_
   intro n2 s2 hi2 hF
   refine zk (zd ?_)
   refine zc rfl (zu rfl x9 xN rfl) wi ?_
   refine zf (zi (zk ?_))
   refine yJ wh hF (fun x2 o2 hl2 hx2 hF hK2=>?_) (fun hF=>?_)
   ·refine zI (zi (zk (zO (zk (zd ?_)))))
    refine zc rfl (yd rfl wr xu x9 wd (yA hx2)) wj ?_
    refine zc rfl (zY rfl ty58.choose_spec.1 wm (zL (cs':=[.int .u8 x2.typ,.int .i64 x2.n,.int .u64 x2.time,.int .u8 x2.dot.actor.rep,.int .u32 x2.dot.actor.inc,.int .u64 x2.dot.seq,.str x2.text,.sl 5 (x2.items.map GItem.row),.sl 3 (x2.tombs.map GDot.row)]) ty58.choose_spec.2 rfl rfl) (zb rfl)) wn ?_
    refine zc rfl (n_alloc (hN _) (n:=2) rfl ze58 rfl) xH ?_
    refine zc rfl (n_store (hN _) (cs':=[.int .u8 x2.typ,.int .i64 x2.n,.int .u64 x2.time,.int .u8 x2.dot.actor.rep,.int .u32 x2.dot.actor.inc,.int .u64 x2.dot.seq,.str x2.text,.sl 5 (x2.items.map GItem.row),.sl 3 (x2.tombs.map GDot.row)]) rfl ty58.choose_spec.1 yV wl (zb rfl) rfl rfl rfl rfl rfl) rfl ?_
    refine zf (zi (zk ?_))
    refine yI [4] [] trivial mixed (by kernel_rfl) ?_
    refine zq rfl rfl (n_load (hN _) rfl ty106 yX rfl (zr rfl) (zb rfl)) wD ?_
    refine zq rfl rfl (ze rfl yS (zb rfl)) wC ?_
    refine zS hF (fun v51 hv51 hF=>?_)
    refine qt rfl (FOk.cons (.inr (keepB trivial)) FOk.nil) (by rfl) rfl (zE rfl rfl rfl (zo wM zy) (.cons (zb rfl) .nil)) (n_own (hNt _) (T':=[((v37++([x1.name]:List zR))).length,(v51).length]) ((ok70 hv51).le (.cons (leV.osl _ _ _) leL.nil)) (m:=1) rfl rfl) wI ?_
    refine zq rfl rfl (n_load (hN _) rfl ty58.choose_spec.1 yV rfl (zL (cs':=[.int .u8 x2.typ,.int .i64 x2.n,.int .u64 x2.time,.int .u8 x2.dot.actor.rep,.int .u32 x2.dot.actor.inc,.int .u64 x2.dot.seq,.str x2.text,.sl 5 (x2.items.map GItem.row),.sl 3 (x2.tombs.map GDot.row)]) ty58.choose_spec.2 rfl rfl) (zb rfl)) wH ?_
    refine zS hF (fun v52 hv52 hF=>?_)
    refine yW rfl rfl (fun _=>zE rfl rfl rfl (zo wy zy) (.cons (zb rfl) .nil)) (by rintro _ ⟨B2,T2,rfl,hk2⟩;exact ok71 hv52) wP ?_
    refine zq rfl rfl (wR (cs':=[.osl (some (nt+1)) 1 (v51.map zK),.int .u8 v52.typ,.int .i64 v52.n,.int .u64 v52.time,.int .u8 v52.dot.actor.rep,.int .u32 v52.dot.actor.inc,.int .u64 v52.dot.seq,.str v52.text,.sl 5 (v52.items.map GItem.row),.sl 3 (v52.tombs.map GDot.row)]) rfl su60 ze60 pl60 (zT wL (zT wT ye)) (.cons (zb rfl) (.cons (zb rfl) .nil)) rfl rfl) wO ?_
    refine zS hF (fun v53 hv53 hF=>?_)
    refine draw_round rfl (FOk.cons (.inl (by kernel_rfl)) FOk.nil) (by kernel_rfl) rfl (s_yield rfl rfl wz (zo wK zy) (.cons (zb rfl) .nil)) ((hy _ _ _ _ _ _ hv53).le (.cons (leV.agg (.cons (leV.osl _ _ _) (.eq (.eq (.eq (.eq (.eq (.eq (.eq (.eq (.eq leL.nil)))))))))) rfl) leL.nil)) wN ?_
    refine zq rfl rfl (xV rfl wS rfl) wG ?_
    refine yo ?_
    refine zi ?_
    refine zH wu hF (fun hc54 hF=>?_) (fun hc54 hF=>?_)
    ·refine zJ ?_
     refine zF ?_
     refine zA ?_
     refine yf ?_
     obtain rfl:=Option.some.inj hF
     replace hF:=hK2
     refine zF ?_
     refine zA ?_
     refine zF ?_
     refine zA ?_
     refine yf ?_
     obtain rfl:=Option.some.inj hF
     replace hF:=hK1
     refine zF ?_
     obtain rfl:=Option.some.inj hF
     refine q_retL0 rfl zD (fin_exts (hN _) (hNt _) (hN _) (hNt _) (hC _) (leV.refl _) rfl ?_)
     exact ⟨rfl,rfl⟩
    ·refine zI (yb (zi (zd ?_)))
     refine zc rfl (zu rfl x9 rfl rfl) wF ?_
     refine zc rfl (ze rfl wJ (zb rfl)) wa ?_
     refine zf (yu ?_)
     obtain rfl:=Option.some.inj hF
     exact ⟨v53.2,hl2,hK2,wk.trans (wk.le (by exact (.drop (.drop (.eq (.eq (.drop (.eq (.eq (.drop (.drop (.drop (.eq (.eq (.eq (.d4 (.d4 (.drop (.drop (.eq (.eq (.cons (leV.of_eq (wx (by omega) (by omega))) (.d16 (.d4 (.drop (.drop leL.nil)))))))))))))))))))))))))) (wk_ext3s (hN _) (hNt _) (hN _) (hNt _) (hC _) (by simp [yj,AV.low,hly,hly2,hli0,hli0b,hli1,hli1b]) rfl rfl (by simp [Blk.low,yj,AV.low,hly,hly2,hli0,hli0b,hli1,hli1b]))⟩
   ·refine yF ?_
    refine zX ?_
    refine zU ?_
    refine zV ?_
    refine zi (zk (zd ?_))
    refine zc rfl (zj rfl q8 yP rfl) wZ ?_
    refine zc rfl (n_load (hN _) rfl ty28 w6 rfl (zr rfl) (zb rfl)) wY ?_
    refine zc rfl (ze rfl yS (zb rfl)) (sk qP) ?_
    refine zS hF (fun v55 hv55 hF=>?_)
    refine ops_callH rfl (zE rfl rfl rfl (zo w5 (zo (gk yg) zy)) (.cons (zb rfl) (.cons (zb rfl) .nil))) (clo_ext (hN _) (n:=2) (B':=[.cells [.yld idy],.cells [.str x1.name,.sl 9 (x1.leaves.map GLeaf.row),.sl 3 (x1.subs.map GNode.row)],.cells [.sl 3 (v55.1.map GNode.row)],.cells [.sl 1 (v55.2.map zK)]]) (caps:=[.ptr (nb+2) 0,.ptr (nb+3) 0]) ((ok45 hv55).le (.eq (.cons (leV.osl _ _ _) leL.nil))) rfl rfl rfl) (sk qI) ?_
    refine zf (zi (zO ?_))
    refine r_range (fun (s3:S)=>(Hy s3)) (fun (s3:S)=>[.cells [.yld idy],.cells [.str x1.name,.sl 9 (x1.leaves.map GLeaf.row),.sl 3 (x1.subs.map GNode.row)],.cells [.sl 3 (v55.1.map GNode.row)],.cells [.sl 1 (v55.2.map zK)]]) (fun (s3:S)=>[((v37++([x1.name]:List zR))).length]) s2 hF (wk.le (by exact (.drop (.drop (.eq (.eq (.d4 (.drop (.drop (.eq (.eq (.eq (.d16 (.d4 (.d4 (.d4 (.eq (.d4 (.drop (.drop leL.nil)))))))))))))))))))) (fun _=>(hN _)) rfl rfl rfl (fun _=>rfl) rfl (gk yw) rfl (fun lp3 hlp3 r3 hr3q=>?_) (fun s3 H1 hH hF=>?_) (fun j3 s3 H1 hH hF=>?_)
    ·have hlowlp3:∀ q1 q2,(lp3 q1 q2).low (nb+5) (nt+1)=true:=by intro q1 q2;rw [hlp3];simp [Blk.low,yj,AV.low,hly,hly2,hli0,hli0b,hli1,hli1b]
     refine Spec.mono (ih (Hy:=(fam (fun (s3:S)=>(Hy s3)) (fun (s3:S)=>[.cells [.yld idy],.cells [.str x1.name,.sl 9 (x1.leaves.map GLeaf.row),.sl 3 (x1.subs.map GNode.row)],.cells [.sl 3 (v55.1.map GNode.row)],.cells [.sl 1 (v55.2.map zK)]]) (fun (s3:S)=>[((v37++([x1.name]:List zR))).length]) lp3)) (nb:=nb+5) (nt:=nt+1) (fun _=>by simp only [fam];rw [ext_len (hN _)];rfl) (fun _=>by simp only [fam];rw [ext_tlen (hNt _)];rfl) (fun _=>closed_ext (hC _) (Nat.le_add_right _ _) (Nat.le_add_right _ _) (by simp only [List.all_append,List.all_cons,List.all_nil,Bool.and_true,List.length_cons,List.length_nil,Nat.reduceAdd,Nat.zero_add,hlowlp3] <;> simp [Blk.low,yj,AV.low,hly,hly2,hli0,hli0b,hli1,hli1b])) (Nat.lt_succ_self _) (y_body hlp3 (xs:=fun (x:GRow)=>[.agg [.sl 1 (x.path.map zK),.int .u8 x.leaf.typ,.int .i64 x.leaf.n,.int .u64 x.leaf.time,.int .u8 x.leaf.dot.actor.rep,.int .u32 x.leaf.dot.actor.inc,.int .u64 x.leaf.dot.seq,.str x.leaf.text,.sl 5 (x.leaf.items.map GItem.row),.sl 3 (x.leaf.tombs.map GDot.row)]]) (fun _=>(hN _)) (fun _=>rfl) rfl (fun _=>rfl) (fun _=>by simp only [setL,List.set_cons_succ,List.set_cons_zero];try rfl) (fun s3 x3 o3 L3 M3 H1 hH hF=>?_)) (fun _=>by simp only [fam];exact n_blk (j:=2) (hN _) rfl) (fun _=>by simp only [fam];exact n_blk (j:=3) (hN _) rfl) hr3q) (fun _ _ h=>h.2)
     obtain rfl:H1=(((Hy s3).ext ([.cells [.yld idy],.cells [.str x1.name,.sl 9 (x1.leaves.map GLeaf.row),.sl 3 (x1.subs.map GNode.row)],.cells [.sl 3 (v55.1.map GNode.row)],.cells [.sl 1 (v55.2.map zK)]]++[lp3 .ready none]) [((v37++([x1.name]:List zR))).length]).ext L3 M3).ext [] []:=hH
     refine zd ?_
     refine zc rfl (n_alloc (deep_len (hN _) rfl) (n:=0) rfl ze60 rfl) x8 ?_
     refine zc rfl (n_store (deep_len (hN _) rfl) (cs':=[.sl 1 (x3.path.map zK),.int .u8 x3.leaf.typ,.int .i64 x3.leaf.n,.int .u64 x3.leaf.time,.int .u8 x3.leaf.dot.actor.rep,.int .u32 x3.leaf.dot.actor.inc,.int .u64 x3.leaf.dot.seq,.str x3.leaf.text,.sl 5 (x3.leaf.items.map GItem.row),.sl 3 (x3.leaf.tombs.map GDot.row)]) rfl ty60.choose_spec.1 xl (gk yz) (zb rfl) rfl rfl rfl rfl rfl) rfl ?_
     refine zf ?_
     refine q_assign (hN _) rfl ?_
     refine zO (zk (zd ?_))
     refine zc rfl (d_load (hN _) rfl ty106 yX rfl (zr rfl) (zb rfl)) (sk xS) ?_
     refine zc rfl (n_load (deep_len (hN _) rfl) rfl ty60.choose_spec.1 xl rfl (zL (cs':=[.sl 1 (x3.path.map zK),.int .u8 x3.leaf.typ,.int .i64 x3.leaf.n,.int .u64 x3.leaf.time,.int .u8 x3.leaf.dot.actor.rep,.int .u32 x3.leaf.dot.actor.inc,.int .u64 x3.leaf.dot.seq,.str x3.leaf.text,.sl 5 (x3.leaf.items.map GItem.row),.sl 3 (x3.leaf.tombs.map GDot.row)]) ty60.choose_spec.2 rfl rfl) (zb rfl)) (sk yD) ?_
     refine zS hF (fun v64 hv64 hF=>?_)
     refine ops_round rfl (s_yield rfl rfl (gk yX) (zo (gk yv) zy) (.cons (zb rfl) .nil)) (SpecY.deep fun A B=>hy _ _ _ _ A B hv64) (sk xw) ?_
     refine zc rfl (xV rfl (gk yP) rfl) (sk xp) ?_
     refine zf (zi ?_)
     refine zH (gk yS) hF (fun hc65 hF=>?_) (fun hc65 hF=>?_)
     ·refine zJ ?_
      refine zF ?_
      obtain rfl:=Option.some.inj hF
      exact q_roundR (hC _) (hN _) (hNt _) (hN _) (hNt _) rfl rfl rfl rfl rfl rfl rfl (by simp only [List.all_append,List.all_cons,List.all_nil,Bool.and_true,List.length_cons,List.length_nil,Nat.reduceAdd,Nat.zero_add,hlowlp3] <;> simp [Blk.low,yj,AV.low,hly,hly2,hli0,hli0b,hli1,hli1b])
     ·refine zI (yb ?_)
      obtain rfl:=Option.some.inj hF
      exact q_roundN (hC _) (hN _) (hNt _) (hN _) (hNt _) rfl rfl rfl rfl rfl rfl rfl (by simp only [List.all_append,List.all_cons,List.all_nil,Bool.and_true,List.length_cons,List.length_nil,Nat.reduceAdd,Nat.zero_add,hlowlp3] <;> simp [Blk.low,yj,AV.low,hly,hly2,hli0,hli0b,hli1,hli1b])
    ·obtain rfl:H1=(Hy s3).ext [.cells [.yld idy],.cells [.str x1.name,.sl 9 (x1.leaves.map GLeaf.row),.sl 3 (x1.subs.map GNode.row)],.cells [.sl 3 (v55.1.map GNode.row)],.cells [.sl 1 (v55.2.map zK)],.dead] [((v37++([x1.name]:List zR))).length]:=hH
     refine yb (yb (zi (zd ?_)))
     refine zc rfl (zu rfl yC rfl rfl) (sk xK) ?_
     refine zc rfl (ze rfl (gk xn) (zb rfl)) yE ?_
     refine zf (yu ?_)
     obtain rfl:=Option.some.inj hF
     exact ⟨s3,hl1,hK1,wk.trans (wk.le (by exact (.drop (.drop (.eq (.eq (.d4 (.drop (.drop (.eq (.eq (.cons (leV.of_eq (wx (by omega) (by omega))) (.d16 (.d16 (.drop (.drop (.drop leL.nil))))))))))))))))) (wk_ext3s (hN _) (hNt _) (hN _) (hNt _) (hC _) (by simp [yj,AV.low,hly,hly2,hli0,hli0b,hli1,hli1b]) rfl rfl (by simp [Blk.low,yj,AV.low,hly,hly2,hli0,hli0b,hli1,hli1b]))⟩
    ·obtain rfl:H1=(Hy s3).ext [.cells [.yld idy],.cells [.str x1.name,.sl 9 (x1.leaves.map GLeaf.row),.sl 3 (x1.subs.map GNode.row)],.cells [.sl 3 (v55.1.map GNode.row)],.cells [.sl 1 (v55.2.map zK)],.dead] [((v37++([x1.name]:List zR))).length]:=hH
     refine jmp1 (G:=fun j=>jumpQ _ j _ _) hF (fun hF=>?_)
     refine jmp_ret ?_
     refine zF ?_
     refine zF ?_
     refine zA ?_
     refine yf ?_
     obtain rfl:=Option.some.inj hF
     replace hF:=hK1
     refine zF ?_
     obtain rfl:=Option.some.inj hF
     refine q_retL0 rfl zD (fin_exts (hN _) (hNt _) (hN _) (hNt _) (hC _) (leV.refl _) rfl ?_)
     exact ⟨rfl,rfl⟩
  ·refine yF ?_
   refine zX ?_
   refine zU ?_
   refine zV ?_
   refine q_end ?_
   obtain rfl:=Option.some.inj hF
   refine q_retL0 rfl zD (fin_exts (hN _) (hNt _) (hN _) (hNt _) (hC _) (leV.refl _) rfl ?_)
   exact ⟨rfl,rfl⟩
theorem ok69 {S:Type} {Hy:S→AH} {nb nt:Nat} {yield0:S→GRow→Option (Bool×S)} {idy:Nat} {c0:(List GNode)} {i0:Nat} {c1:(List zR)} {i1:Nat} {s0:S} {res:S} (hN:∀ s,(Hy s).blks.length=nb) (hNt:∀ s,(Hy s).toks.length=nt) (hC:∀ s,(Hy s).closed nb nt) (hly:idy < nb) (hy:∀ s x b s' L M,yield0 s x=some (b,s')→SpecY Tryz.prog idy [.agg [.sl 1 (x.path.map zK),.int .u8 x.leaf.typ,.int .i64 x.leaf.n,.int .u64 x.leaf.time,.int .u8 x.leaf.dot.actor.rep,.int .u32 x.leaf.dot.actor.inc,.int .u64 x.leaf.dot.seq,.str x.leaf.text,.sl 5 (x.leaf.items.map GItem.row),.sl 3 (x.leaf.tombs.map GDot.row)]] ((Hy s).ext L M) (fun rr hh=>rr=.bool b∧hh=(Hy s').ext L M)) (hb0:∀ s,(Hy s).blk i0=some (.cells [.sl 3 (c0.map GNode.row)])) (hb1:∀ s,(Hy s).blk i1=some (.cells [.sl 1 (c1.map zK)])) (hF:pathsXrowsC1 S yield0 c0 c1 s0=some res):Spec Tryz.prog 69 [.yld idy,.ptr i0 0,.ptr i1 0] (Hy s0) (fun rr hh=>rr=.tup []∧hh=Hy res):=by
 obtain ⟨n,hn⟩:=anyN_is hF
 exact ok69N n hN hNt hC hly hy hb0 hb1 hn
/-! slices.AppendSeq[[]varve/api.Row,varve/api.Row] -/
theorem ok68 {s0:(List GRow)} {seq1:(S:Type)→(S→GRow→Option (Bool×S))→S→Option S} {fseq1:FuncId} {aseq1 kseq1:List AV} {res:(List GRow)} {h:AH} (hseq1:∀ (S:Type) (Hy:S→AH) (nb nt:Nat),(∀ s,(Hy s).blks.length=nb)→(∀ s,(Hy s).toks.length=nt)→(∀ s,(Hy s).closed nb nt)→(∀ s,∃ L M,Hy s=h.ext L M)→∀ (y:S→GRow→Option (Bool×S)) (idy:Nat),idy < nb→(∀ s x b s' L M,y s x=some (b,s')→SpecY Tryz.prog idy [.agg [.sl 1 (x.path.map zK),.int .u8 x.leaf.typ,.int .i64 x.leaf.n,.int .u64 x.leaf.time,.int .u8 x.leaf.dot.actor.rep,.int .u32 x.leaf.dot.actor.inc,.int .u64 x.leaf.dot.seq,.str x.leaf.text,.sl 5 (x.leaf.items.map GItem.row),.sl 3 (x.leaf.tombs.map GDot.row)]] ((Hy s).ext L M) (fun rr hh=>rr=.bool b∧hh=(Hy s').ext L M))→∀ s s',seq1 S y s=some s'→Spec Tryz.prog fseq1 (aseq1++[.yld idy]++kseq1) (Hy s) (fun rr hh=>rr=.tup []∧hh=Hy s')) (hF:ql s0 seq1=some res):Spec Tryz.prog 68 [.osl none 10 (s0.map GRow.row),.fn (.func fseq1) aseq1 kseq1] h (fun rr hh=>rr=.sl 10 (res.map GRow.row)∧hh=h):=by
 unfold ql at hF
 refine yp Tryz.func68 rfl (by kernel_rfl) (env:=[.osl none 10 (s0.map GRow.row),.fn (.func fseq1) aseq1 kseq1,za,za,za,za,za,za,za,za,za,za,za]) (by rfl) (fun hlow hC=>?_)
 simp only [yj,AV.low,Bool.and_eq_true,Bool.true_and,and_true] at hlow
 have hlaseq1:∀ n m,h.blks.length≤n→h.toks.length≤m→yj n m aseq1=true:=fun n m h1 h2=>yR h1 h2 _ (by simp [hlow])
 have hlkseq1:∀ n m,h.blks.length≤n→h.toks.length≤m→yj n m kseq1=true:=fun n m h1 h2=>yR h1 h2 _ (by simp [hlow])
 refine zk (zd ?_)
 refine zc rfl (xy (n:=0) rfl yg (zb rfl) rfl rfl) yH ?_
 refine zc rfl (zg rfl rfl (xq el48)) yD ?_
 refine zf (zi (zk (zk (zd ?_))))
 refine zc rfl (ze rfl yw (zb rfl)) xp ?_
 refine zf (zi (zO ?_))
 refine r_range (fun (s1:(List GRow))=>h) (fun (s1:(List GRow))=>[.cells [.osl (some (h.toks.length+0)) 10 (s1.map GRow.row)]]) (fun (s1:(List GRow))=>[(s1).length]) s0 hF (wk.trans (wk_tokB (j:=0) rfl yg rfl qP rfl rfl) (wk.le (by exact (.drop (.drop (.eq (.drop (.drop (.drop (.eq (.d4 (.drop (.drop leL.nil))))))))))))) (fun _=>rfl) rfl rfl rfl (fun _=>rfl) rfl yS rfl (fun lp1 hlp1 r1 hr1q=>?_) (fun s1 H1 hH hF=>?_) (fun j1 s1 H1 hH hF=>?_)
 ·have hlowlp1:∀ q1 q2,(lp1 q1 q2).low (h.blks.length+2) (h.toks.length+1)=true:=by intro q1 q2;rw [hlp1];simp [Blk.low,yj,AV.low,hlaseq1,hlkseq1]
  refine Spec.mono (hseq1 _ (fam (fun (s1:(List GRow))=>h) (fun (s1:(List GRow))=>[.cells [.osl (some (h.toks.length+0)) 10 (s1.map GRow.row)]]) (fun (s1:(List GRow))=>[(s1).length]) lp1) (h.blks.length+2) (h.toks.length+1) (fun _=>by simp only [fam];rw [ext_len rfl];rfl) (fun _=>by simp only [fam];rw [ext_tlen rfl];rfl) (fun _=>closed_ext hC (Nat.le_add_right _ _) (Nat.le_add_right _ _) (by simp only [List.all_append,List.all_cons,List.all_nil,Bool.and_true,List.length_cons,List.length_nil,Nat.reduceAdd,Nat.zero_add,hlowlp1] <;> simp [Blk.low,yj,AV.low,hlaseq1,hlkseq1])) (fun _=>⟨_,_,rfl⟩) _ _ (Nat.lt_succ_self _) (y_body hlp1 (xs:=fun (x:GRow)=>[.agg [.sl 1 (x.path.map zK),.int .u8 x.leaf.typ,.int .i64 x.leaf.n,.int .u64 x.leaf.time,.int .u8 x.leaf.dot.actor.rep,.int .u32 x.leaf.dot.actor.inc,.int .u64 x.leaf.dot.seq,.str x.leaf.text,.sl 5 (x.leaf.items.map GItem.row),.sl 3 (x.leaf.tombs.map GDot.row)]]) (fun _=>rfl) (fun _=>rfl) rfl (fun _=>rfl) (fun _=>by simp only [setL,List.set_cons_succ,List.set_cons_zero];try rfl) (fun s1 x1 o1 L1 M1 H1 hH hF=>?_)) _ _ hr1q) (fun _ _ h=>h.2)
  obtain rfl:H1=((h.ext ([.cells [.osl (some (h.toks.length+0)) 10 (s1.map GRow.row)]]++[lp1 .ready none]) [(s1).length]).ext L1 M1).ext [] []:=hH
  refine zd ?_
  refine zc rfl (n_alloc (deep_len rfl rfl) (n:=0) rfl ze60 rfl) xw ?_
  refine zc rfl (n_store (deep_len rfl rfl) (cs':=[.sl 1 (x1.path.map zK),.int .u8 x1.leaf.typ,.int .i64 x1.leaf.n,.int .u64 x1.leaf.time,.int .u8 x1.leaf.dot.actor.rep,.int .u32 x1.leaf.dot.actor.inc,.int .u64 x1.leaf.dot.seq,.str x1.leaf.text,.sl 5 (x1.leaf.items.map GItem.row),.sl 3 (x1.leaf.tombs.map GDot.row)]) rfl ty60.choose_spec.1 yP xn (zb rfl) rfl rfl rfl rfl rfl) rfl ?_
  refine zf ?_
  refine q_assign rfl rfl ?_
  refine zO (zd ?_)
  refine zc rfl (d_load rfl rfl ty48 yz rfl (zr rfl) (zb rfl)) xH ?_
  refine zc rfl (n_load (deep_len rfl rfl) rfl ty60.choose_spec.1 yP rfl (zL (cs':=[.sl 1 (x1.path.map zK),.int .u8 x1.leaf.typ,.int .i64 x1.leaf.n,.int .u64 x1.leaf.time,.int .u8 x1.leaf.dot.actor.rep,.int .u32 x1.leaf.dot.actor.inc,.int .u64 x1.leaf.dot.seq,.str x1.leaf.text,.sl 5 (x1.leaf.items.map GItem.row),.sl 3 (x1.leaf.tombs.map GDot.row)]) ty60.choose_spec.2 rfl rfl) (zb rfl)) x8 ?_
  refine zc rfl (yh (es:=([x1]:List GRow).map GRow.row) rfl el48 ze60 rfl rfl (zT xl ye) (.cons (zb rfl) .nil) rfl rfl rfl) yq ?_
  refine xG hF (fun hm3 hF=>?_)
  refine zc rfl (d_appT (j:=0) (T':=[((s1++([x1]:List GRow))).length]) rfl rfl rfl rfl rfl el48 el48 yV yi (zb rfl) (zb rfl) wo hm3 rfl rfl) yy ?_
  refine zc rfl (d_store (A':=[.cells [.osl (some (h.toks.length+0)) 10 ((s1++([x1]:List GRow)).map GRow.row)]]++[lp1 .busy none]) (cs':=[.osl (some (h.toks.length+0)) 10 ((s1++([x1]:List GRow)).map GRow.row)]) rfl rfl ty48 yz yl (zb rfl) rfl rfl rfl rfl rfl rfl) rfl ?_
  refine zf (yb ?_)
  obtain rfl:=Option.some.inj hF
  exact q_roundN hC rfl rfl rfl rfl rfl rfl rfl rfl rfl rfl rfl (by simp only [List.all_append,List.all_cons,List.all_nil,Bool.and_true,List.length_cons,List.length_nil,Nat.reduceAdd,Nat.zero_add,hlowlp1] <;> simp [Blk.low,yj,AV.low,hlaseq1,hlkseq1])
 ·obtain rfl:H1=h.ext [.cells [.osl (some (h.toks.length+0)) 10 (s1.map GRow.row)],.dead] [(s1).length]:=hH
  refine yb (zi (zk (zd ?_)))
  refine zc rfl (zw rfl ty48 yz rfl (zr rfl) (zb rfl)) yE ?_
  refine zc rfl (zg rfl yC (zb rfl)) yD ?_
  refine zf (zi (zJ ?_))
  obtain rfl:=Option.some.inj hF
  refine zB rfl (zC yv zD) (zz (leV.osl _ _ _) rfl ?_)
  exact ⟨rfl,rfl⟩
 ·obtain rfl:H1=h.ext [.cells [.osl (some (h.toks.length+0)) 10 (s1.map GRow.row)],.dead] [(s1).length]:=hH
  cases hF
/-! slices.Collect[varve/api.Row] -/
theorem ok44 {seq0:(S:Type)→(S→GRow→Option (Bool×S))→S→Option S} {fseq0:FuncId} {aseq0 kseq0:List AV} {res:(List GRow)} {h:AH} (hseq0:∀ (S:Type) (Hy:S→AH) (nb nt:Nat),(∀ s,(Hy s).blks.length=nb)→(∀ s,(Hy s).toks.length=nt)→(∀ s,(Hy s).closed nb nt)→(∀ s,∃ L M,Hy s=h.ext L M)→∀ (y:S→GRow→Option (Bool×S)) (idy:Nat),idy < nb→(∀ s x b s' L M,y s x=some (b,s')→SpecY Tryz.prog idy [.agg [.sl 1 (x.path.map zK),.int .u8 x.leaf.typ,.int .i64 x.leaf.n,.int .u64 x.leaf.time,.int .u8 x.leaf.dot.actor.rep,.int .u32 x.leaf.dot.actor.inc,.int .u64 x.leaf.dot.seq,.str x.leaf.text,.sl 5 (x.leaf.items.map GItem.row),.sl 3 (x.leaf.tombs.map GDot.row)]] ((Hy s).ext L M) (fun rr hh=>rr=.bool b∧hh=(Hy s').ext L M))→∀ s s',seq0 S y s=some s'→Spec Tryz.prog fseq0 (aseq0++[.yld idy]++kseq0) (Hy s) (fun rr hh=>rr=.tup []∧hh=Hy s')) (hF:slicesCollectRow seq0=some res):Spec Tryz.prog 44 [.fn (.func fseq0) aseq0 kseq0] h (fun rr hh=>rr=.sl 10 (res.map GRow.row)∧hh=h):=by
 unfold slicesCollectRow at hF
 refine yp Tryz.func44 rfl (by kernel_rfl) (env:=[.fn (.func fseq0) aseq0 kseq0,za,za,za,za]) (by rfl) (fun hlow hC=>?_)
 simp only [yj,AV.low,Bool.and_eq_true,Bool.true_and,and_true] at hlow
 have hlaseq0:∀ n m,h.blks.length≤n→h.toks.length≤m→yj n m aseq0=true:=fun n m h1 h2=>yR h1 h2 _ (by simp [hlow])
 have hlkseq0:∀ n m,h.blks.length≤n→h.toks.length≤m→yj n m kseq0=true:=fun n m h1 h2=>yR h1 h2 _ (by simp [hlow])
 refine zk (zd ?_)
 refine zc rfl (zg rfl rfl (xq el48)) yH ?_
 refine zf (zi (zk (zd ?_)))
 refine zc rfl (ze rfl yg (zb rfl)) xS ?_
 refine zS hF (fun v1 hv1 hF=>?_)
 refine zM rfl (zE rfl rfl rfl (zo rfl (zo yX zy)) (.cons (xq el48) (.cons (zb rfl) .nil))) (ok68 (fun S Hy nb nt hN hNt hC hE y idy hly hy s s' hF=>hseq0 S Hy nb nt hN hNt hC (fun s=>by obtain ⟨L,M,e⟩:=hE s;exact ⟨_,_,by rw [e,vG]⟩) y idy hly hy s s' hF) hv1) yD ?_
 refine zc rfl (zg rfl yv (zb rfl)) yH ?_
 refine zf (zi (zJ ?_))
 obtain rfl:=Option.some.inj hF
 refine zB rfl (zC yz zD) (zz (leV.refl _) rfl ?_)
 exact ⟨rfl,rfl⟩
/-! varve/paths.Rows -/
theorem ok23 {t0:(List GNode)} {res:(List GRow)} {h:AH}  (hF:qJ t0=some res):Spec Tryz.prog 23 [.sl 3 (t0.map GNode.row)] h (fun rr hh=>rr=.sl 10 (res.map GRow.row)∧hh=h):=by
 unfold qJ at hF
 refine zt Tryz.func23 rfl (by kernel_rfl) (env:=[.sl 3 (t0.map GNode.row),za,za,za,za,za,za,za,za]) (by rfl) ?_
 refine zk (zd ?_)
 refine zc rfl (zg rfl rfl (xq el48)) yH ?_
 refine zf (zi (zk (zk (zd ?_))))
 refine zc rfl (ze rfl yg (zb rfl)) xS ?_
 refine zS hF (fun v1 hv1 hF=>?_)
 refine zM rfl (zE rfl rfl rfl (zo yX zy) (.cons (zb rfl) .nil)) (ok22 hv1) yD ?_
 refine zc rfl (xV rfl yv rfl) xw ?_
 refine zf (zi ?_)
 refine zH yP hF (fun hc2 hF=>?_) (fun hc2 hF=>?_)
 ·refine zk (zd ?_)
  refine zc rfl (zg rfl rfl (xq el48)) yH ?_
  refine zf (zi (zJ (zA ?_)))
  obtain rfl:=Option.some.inj hF
  refine zB rfl (zC yz zD) (zz (leV.osl _ _ _) rfl ?_)
  exact ⟨rfl,rfl⟩
 ·refine zI (zi (zk (zd ?_)))
  refine zc rfl (ze rfl yg (zb rfl)) xp ?_
  refine zS hF (fun v3 hv3 hF=>?_)
  refine ops_callH rfl (zE rfl rfl rfl (zo yS (zo rfl zy)) (.cons (zb rfl) (.cons (xq xc) .nil))) (clo_ext rfl (n:=0) (B':=[.cells [.sl 3 (v3.1.map GNode.row)],.cells [.sl 1 (v3.2.map zK)]]) (caps:=[.ptr (h.blks.length+0) 0,.ptr (h.blks.length+1) 0]) ((ok45 hv3).le (.eq (.cons (leV.osl _ _ _) leL.nil))) rfl rfl rfl) xK ?_
  refine zS hF (fun v4 hv4 hF=>?_)
  refine zM rfl (zE rfl rfl rfl (zo xn zy) (.cons (zb rfl) .nil)) (ok44 (fun S Hy nb nt hN hNt hC hE y idy hly hy s s' hF=>ok69 hN hNt hC hly hy (fun s=>by obtain ⟨L,M,e⟩:=hE s;rw [e];exact n_blk2 (j:=0) rfl rfl) (fun s=>by obtain ⟨L,M,e⟩:=hE s;rw [e];exact n_blk2 (j:=1) rfl rfl) hF) hv4) xH ?_
  refine zc rfl (zg rfl yV (zb rfl)) yH ?_
  refine zf (zi (zJ ?_))
  obtain rfl:=Option.some.inj hF
  refine zB rfl (zC yz zD) (zz (leV.refl _) rfl ?_)
  exact ⟨rfl,rfl⟩
/-! varve/diff.side -/
theorem ok72 {there0:Bool} {l1:GLeaf} {kind2:Int} {res:Bool} {h:AH}  (hF:diffXside there0 l1 kind2=some res):Spec Tryz.prog 72 [.bool there0,.agg [.int .u8 l1.typ,.int .i64 l1.n,.int .u64 l1.time,.int .u8 l1.dot.actor.rep,.int .u32 l1.dot.actor.inc,.int .u64 l1.dot.seq,.str l1.text,.sl 5 (l1.items.map GItem.row),.sl 3 (l1.tombs.map GDot.row)],.int .u8 kind2] h (fun rr hh=>rr=.bool res∧hh=h):=by
 unfold diffXside at hF
 refine zt Tryz.func72 rfl (by kernel_rfl) (env:=[.bool there0,.agg [.int .u8 l1.typ,.int .i64 l1.n,.int .u64 l1.time,.int .u8 l1.dot.actor.rep,.int .u32 l1.dot.actor.inc,.int .u64 l1.dot.seq,.str l1.text,.sl 5 (l1.items.map GItem.row),.sl 3 (l1.tombs.map GDot.row)],.int .u8 kind2,za,za,za,za,za,za,za,za,za,za,za,za,za,za,za,za,za]) (by rfl) ?_
 refine zk (zd ?_)
 refine zc rfl (xy (n:=0) rfl yw (zb rfl) rfl rfl) yD ?_
 refine zc rfl (zg rfl rfl (zb rfl)) xp ?_
 refine zf (zi (zk (zk (zd ?_))))
 refine zc rfl (ze rfl yg (zb rfl)) xK ?_
 refine zc rfl (xV rfl xn rfl) xH ?_
 refine zf (zi ?_)
 refine zH yV hF (fun hc1 hF=>?_) (fun hc1 hF=>?_)
 ·refine zk (zd ?_)
  refine zc rfl (zw rfl ty58.choose_spec.1 yv rfl (zL (cs':=[.int .u8 l1.typ,.int .i64 l1.n,.int .u64 l1.time,.int .u8 l1.dot.actor.rep,.int .u32 l1.dot.actor.inc,.int .u64 l1.dot.seq,.str l1.text,.sl 5 (l1.items.map GItem.row),.sl 3 (l1.tombs.map GDot.row)]) ty58.choose_spec.2 rfl rfl) (zb rfl)) x8 ?_
  refine zc rfl (wR (cs':=[.int .u8 (0:Int),.int .i64 (0:Int),.int .u64 (0:Int),.int .u8 (0:Int),.int .u32 (0:Int),.int .u64 (0:Int),.str ([]:zR),.osl none 5 (([]:List GItem).map GItem.row),.osl none 3 (([]:List GDot).map GDot.row)]) rfl su58 ze58 pl58 ye .nil rfl rfl) yq ?_
  refine zS hF (fun v2 hv2 hF=>?_)
  refine zM rfl (zE rfl rfl rfl (zo xl (zo yi zy)) (.cons (zb rfl) (.cons (zb rfl) .nil))) ((ok49 hv2).le (.eq (.cons (leV.agg (.eq (.eq (.eq (.eq (.eq (.eq (.eq (.cons (leV.osl _ _ _) (.cons (leV.osl _ _ _) leL.nil))))))))) rfl) leL.nil))) yy ?_
  refine zc rfl (zg rfl yl (zb rfl)) xp ?_
  refine zf (zi (zJ (zA ?_)))
  obtain rfl:=Option.some.inj hF
  refine zB rfl (zC yS zD) (zz (leV.refl _) rfl ?_)
  exact ⟨rfl,rfl⟩
 ·refine zI (zi (zk (zd ?_)))
  refine zc rfl (zj rfl wU yv rfl) yE ?_
  refine zc rfl (zw rfl vb yC rfl (zr rfl) (zb rfl)) yG ?_
  refine zc rfl (ze rfl yz (zb rfl)) yN ?_
  refine zc rfl (zu rfl yr yM rfl) yO ?_
  refine zc rfl (ze rfl yL (zb rfl)) yT ?_
  refine zp rfl (fun hb=>zw rfl ty58.choose_spec.1 yv rfl (zL (cs':=[.int .u8 l1.typ,.int .i64 l1.n,.int .u64 l1.time,.int .u8 l1.dot.actor.rep,.int .u32 l1.dot.actor.inc,.int .u64 l1.dot.seq,.str l1.text,.sl 5 (l1.items.map GItem.row),.sl 3 (l1.tombs.map GDot.row)]) ty58.choose_spec.2 rfl rfl) (zb rfl)) yZ ?_
  refine yn hF (fun v3 hv3 hF=>?_)
  refine z8 rfl (fun hb=>zE rfl rfl rfl (zo (zn yY hb) zy) (.cons (zb rfl) .nil)) (fun hb=>ok67 (hv3 hb)) xd ?_
  refine zc rfl (zG rfl yQ xb rfl (zN (fun ht=>gT ht))) xi ?_
  refine zc rfl (zg rfl xh (zb rfl)) xp ?_
  refine zf (zi (zJ ?_))
  obtain rfl:=Option.some.inj hF
  refine zB rfl (zC yS zD) (zz (leV.refl _) rfl ?_)
  exact ⟨rfl,rfl⟩
/-! cmp.isNaN[string] -/
theorem ok147 {x0:zR} {res:Bool} {h:AH}  (hF:vL x0=some res):Spec Tryz.prog 147 [.str x0] h (fun rr hh=>rr=.bool res∧hh=h):=by
 unfold vL at hF
 refine zt Tryz.func147 rfl (by kernel_rfl) (env:=[.str x0,za,za,za,za,za]) (by rfl) ?_
 refine zk (zd ?_)
 refine zc rfl (zg rfl rfl (zb rfl)) yH ?_
 refine zf (zi (zk (zd ?_)))
 refine zc rfl (ze rfl yg (zb rfl)) xS ?_
 refine zc rfl (ze rfl yg (zb rfl)) yD ?_
 refine zc rfl (zu rfl yX yv rfl) xw ?_
 refine zc rfl (zg rfl yP (zb rfl)) yH ?_
 refine zf (zi (zJ ?_))
 obtain rfl:=Option.some.inj hF
 refine zB rfl (zC yz zD) (zz (leV.refl _) rfl ?_)
 exact ⟨rfl,rfl⟩
/-! cmp.Compare[string] -/
theorem ok129 {x0:zR} {y1:zR} {res:Int} {h:AH}  (hF:wA x0 y1=some res):Spec Tryz.prog 129 [.str x0,.str y1] h (fun rr hh=>rr=.int .i64 res∧hh=h):=by
 unfold wA at hF
 refine zt Tryz.func129 rfl (by kernel_rfl) (env:=[.str x0,.str y1,za,za,za,za,za,za,za,za,za,za,za,za,za,za,za,za,za,za]) (by rfl) ?_
 refine zk (zd ?_)
 refine zc rfl (zg rfl rfl (zb rfl)) yD ?_
 refine zf (zi (zk (zd ?_)))
 refine zc rfl (ze rfl yg (zb rfl)) xK ?_
 refine zS hF (fun v1 hv1 hF=>?_)
 refine zM rfl (zE rfl rfl rfl (zo xn zy) (.cons (zb rfl) .nil)) (ok147 hv1) xH ?_
 refine zc rfl (zg rfl yV (zb rfl)) xw ?_
 refine zf (zi (zk (zd ?_)))
 refine zc rfl (ze rfl yw (zb rfl)) x8 ?_
 refine zS hF (fun v2 hv2 hF=>?_)
 refine zM rfl (zE rfl rfl rfl (zo xl zy) (.cons (zb rfl) .nil)) (ok147 hv2) yq ?_
 refine zc rfl (zg rfl yi (zb rfl)) xp ?_
 refine zf (zi (zk (zk (zd ?_))))
 refine zc rfl (ze rfl yP (zb rfl)) yy ?_
 refine zf (zi ?_)
 refine zH yl hF (fun hc3 hF=>?_) (fun hc3 hF=>?_)
 ·refine zk (zk (zd ?_))
  refine zc rfl (ze rfl yS (zb rfl)) yE ?_
  refine zf (zi ?_)
  refine zH yC hF (fun hc4 hF=>?_) (fun hc4 hF=>?_)
  ·refine zk (zd ?_)
   refine zc rfl (zg rfl rfl (zb rfl)) yD ?_
   refine zf (zi (zJ (zA (zA ?_))))
   obtain rfl:=Option.some.inj hF
   refine zB rfl (zC yv zD) (zz (leV.refl _) rfl ?_)
   exact ⟨rfl,rfl⟩
  ·refine zI (zi (zk (zd ?_)))
   refine zc rfl (zg rfl rfl (zb rfl)) yD ?_
   refine zf (zi (zJ (zA ?_)))
   obtain rfl:=Option.some.inj hF
   refine zB rfl (zC yv zD) (zz (leV.refl _) rfl ?_)
   exact ⟨rfl,rfl⟩
 ·refine zI (zi (zk (zk (zd ?_))))
  refine zc rfl (ze rfl yS (zb rfl)) yG ?_
  refine zf (zi ?_)
  refine zH yr hF (fun hc5 hF=>?_) (fun hc5 hF=>?_)
  ·refine zk (zd ?_)
   refine zc rfl (zg rfl rfl (zb rfl)) yD ?_
   refine zf (zi (zJ (zA ?_)))
   obtain rfl:=Option.some.inj hF
   refine zB rfl (zC yv zD) (zz (leV.refl _) rfl ?_)
   exact ⟨rfl,rfl⟩
  ·refine zI (zi (zk (zk (zd ?_))))
   refine zc rfl (ze rfl yg (zb rfl)) yN ?_
   refine zc rfl (ze rfl yw (zb rfl)) yO ?_
   refine zc rfl (zu rfl yM yL rfl) yT ?_
   refine zf (zi ?_)
   refine zH yQ hF (fun hc6 hF=>?_) (fun hc6 hF=>?_)
   ·refine zk (zd ?_)
    refine zc rfl (zg rfl rfl (zb rfl)) yD ?_
    refine zf (zi (zJ (zA ?_)))
    obtain rfl:=Option.some.inj hF
    refine zB rfl (zC yv zD) (zz (leV.refl _) rfl ?_)
    exact ⟨rfl,rfl⟩
   ·refine zI (zi (zk (zk (zd ?_))))
    refine zc rfl (ze rfl yg (zb rfl)) yZ ?_
    refine zc rfl (ze rfl yw (zb rfl)) xd ?_
    refine zc rfl (zu rfl yY xb rfl) xi ?_
    refine zf (zi ?_)
    refine zH xh hF (fun hc7 hF=>?_) (fun hc7 hF=>?_)
    ·refine zk (zd ?_)
     refine zc rfl (zg rfl rfl (zb rfl)) yD ?_
     refine zf (zi (zJ (zA ?_)))
     obtain rfl:=Option.some.inj hF
     refine zB rfl (zC yv zD) (zz (leV.refl _) rfl ?_)
     exact ⟨rfl,rfl⟩
    ·refine zI (zi (zk (zd ?_)))
     refine zc rfl (zg rfl rfl (zb rfl)) yD ?_
     refine zf (zi (zJ ?_))
     obtain rfl:=Option.some.inj hF
     refine zB rfl (zC yv zD) (zz (leV.refl _) rfl ?_)
     exact ⟨rfl,rfl⟩
/-! slices.Compare[[]string,string] -/
theorem ok112 {s10:(List zR)} {s21:(List zR)} {res:Int} {h:AH}  (hF:wW s10 s21=some res):Spec Tryz.prog 112 [.sl 1 (s10.map zK),.sl 1 (s21.map zK)] h (fun rr hh=>rr=.int .i64 res∧hh=h):=by
 unfold wW at hF
 refine zt Tryz.func112 rfl (by kernel_rfl) (env:=[.sl 1 (s10.map zK),.sl 1 (s21.map zK),za,za,za,za,za,za,za,za,za,za,za,za,za,za,za,za,za,za,za,za,za,za,za,za,za,za,za,za,za,za,za,za,za,za]) (by rfl) ?_
 refine zk (zd ?_)
 refine zc rfl (zg rfl rfl (zb rfl)) yD ?_
 refine zf (zi (zk (zk (zd ?_))))
 refine zc rfl (ze rfl yg (zb rfl)) x8 ?_
 refine z7 rfl (zQ rfl rfl rfl rfl xc xl z0) yq fun hn1=>?_
 replace hn1:=xg hn1
 refine zc rfl (ze rfl rfl (zb rfl)) yy ?_
 refine zf (zi (zO ?_))
 refine ym (fun (n1:Nat) (s1:Unit)=>yB [2,3,4,5,6,7,8,12,13,14,15,16,17,18,19,20,21,22,23,24,25,26,27,28,29,30,31,32,33,34,35] [(11,.int .i64 (n1:Int))]) (fun s1=>h.ext [] []) hF (fun _ _=>by simp only [yB,qw,List.set_cons_succ,List.set_cons_zero];try rfl) (wk.le (by exact (.eq (.eq (.d4 (.drop (.drop (.drop (.eq (.eq (.cons (leV.of_eq rfl) (.d16 (.d4 (.d4 leL.nil)))))))))))))) ?_
 intro n1 s1 hi1 hF
 refine zk (zd ?_)
 refine zc rfl (zu rfl yl yi rfl) yE ?_
 refine zf (zi (zk ?_))
 refine yJ yC hF (fun x1 o1 hl1 hx1 hF hK1=>?_) (fun hF=>?_)
 ·refine zI (zi (zk (zO (zk (zd ?_)))))
  refine zc rfl (ze rfl yl (zb rfl)) yG ?_
  refine zc rfl (yd rfl xc xl yl wd (yA hx1)) yN ?_
  refine zc rfl (zY rfl vt yM (zr rfl) (zb rfl)) yO ?_
  refine zc rfl (zg rfl yr (zb rfl)) xw ?_
  refine zc rfl (zg rfl yL (zb rfl)) xp ?_
  refine zf (zi (zk (zk (zd ?_))))
  refine zc rfl (ze rfl yP (zb rfl)) yT ?_
  refine zc rfl (ze rfl yw (zb rfl)) yZ ?_
  refine z7 rfl (zQ rfl rfl rfl rfl xc yY z0) xd fun hn10=>?_
  replace hn10:=xg hn10
  refine zc rfl (zu rfl yQ xb rfl) xi ?_
  refine zf (zi ?_)
  refine zH xh hF (fun hc11 hF=>?_) (fun hc11 hF=>?_)
  ·refine zk (zd ?_)
   refine zc rfl (zg rfl rfl (zb rfl)) yD ?_
   refine zf (zi (zJ (zA ?_)))
   refine zF ?_
   refine zA ?_
   refine yf ?_
   obtain rfl:=Option.some.inj hF
   replace hF:=hK1
   refine zF ?_
   refine zA ?_
   obtain rfl:=Option.some.inj hF
   refine zB rfl (zC yv zD) (zz (leV.refl _) rfl ?_)
   exact ⟨rfl,rfl⟩
  ·refine zI (zi (zk (zd ?_)))
   refine zc rfl (ze rfl yw (zb rfl)) xA ?_
   refine zc rfl (ze rfl yP (zb rfl)) xE ?_
   refine zS hF (fun y12 hy12 hF=>?_)
   refine zc rfl (yd rfl xc xz xB wd hy12) xI ?_
   refine zc rfl (zY rfl vt xF (zr rfl) (zb rfl)) xD ?_
   refine zc rfl (zg rfl xu (zb rfl)) xK ?_
   refine zf (zi (zk (zd ?_)))
   refine zc rfl (ze rfl yS (zb rfl)) xM ?_
   refine zc rfl (ze rfl xn (zb rfl)) wa ?_
   refine zS hF (fun v13 hv13 hF=>?_)
   refine zM rfl (zE rfl rfl rfl (zo xN (zo x9 zy)) (.cons (zb rfl) (.cons (zb rfl) .nil))) (ok129 hv13) wi ?_
   refine zc rfl (zg rfl wh (zb rfl)) xH ?_
   refine zf (zi (zk (zd ?_)))
   refine zc rfl (ze rfl yV (zb rfl)) wj ?_
   refine zc rfl (zu rfl wm rfl rfl) wn ?_
   refine zf (zi ?_)
   refine zH wl hF (fun hc14 hF=>?_) (fun hc14 hF=>?_)
   ·refine zk (zd ?_)
    refine zc rfl (ze rfl yV (zb rfl)) wD ?_
    refine zc rfl (zg rfl wz (zb rfl)) yD ?_
    refine zf (zi (zJ ?_))
    refine zF ?_
    refine zA ?_
    refine yf ?_
    obtain rfl:=Option.some.inj hF
    replace hF:=hK1
    refine zF ?_
    refine zA ?_
    obtain rfl:=Option.some.inj hF
    refine zB rfl (zC yv zD) (zz (leV.refl _) rfl ?_)
    exact ⟨rfl,rfl⟩
   ·refine zI (yb (zi (zd ?_)))
    refine zc rfl (zu rfl yl rfl rfl) wC ?_
    refine zc rfl (ze rfl wM (zb rfl)) yy ?_
    refine zf (yu ?_)
    obtain rfl:=Option.some.inj hF
    exact ⟨(),hl1,hK1,wk.le (by exact (.eq (.eq (.d4 (.drop (.drop (.drop (.eq (.eq (.cons (leV.of_eq (wx (by omega) (by omega))) (.d16 (.d4 (.d4 leL.nil)))))))))))))⟩
 ·refine yF ?_
  refine zX ?_
  refine zU ?_
  refine zV ?_
  refine zi (zk (zk (zd ?_)))
  refine zc rfl (ze rfl yg (zb rfl)) wI ?_
  refine z7 rfl (zQ rfl rfl rfl rfl xc wL z0) wH fun hn15=>?_
  replace hn15:=xg hn15
  refine zc rfl (ze rfl yw (zb rfl)) wP ?_
  refine z7 rfl (zQ rfl rfl rfl rfl xc wT z0) wO fun hn16=>?_
  replace hn16:=xg hn16
  refine zc rfl (zu rfl wy wK rfl) wN ?_
  refine zf (zi ?_)
  refine zH wS hF (fun hc17 hF=>?_) (fun hc17 hF=>?_)
  ·refine zk (zd ?_)
   refine zc rfl (zg rfl rfl (zb rfl)) yD ?_
   refine zf (zi (zJ (zA ?_)))
   obtain rfl:=Option.some.inj hF
   refine zB rfl (zC yv zD) (zz (leV.refl _) rfl ?_)
   exact ⟨rfl,rfl⟩
  ·refine zI (zi (zk (zd ?_)))
   refine zc rfl (zg rfl rfl (zb rfl)) yD ?_
   refine zf (zi (zJ ?_))
   obtain rfl:=Option.some.inj hF
   refine zB rfl (zC yv zD) (zz (leV.refl _) rfl ?_)
   exact ⟨rfl,rfl⟩
/-! varve/diff.order -/
theorem ok73 {a0:GEdit} {b1:GEdit} {res:Int} {h:AH}  (hF:diffXorder a0 b1=some res):Spec Tryz.prog 73 [.agg [.sl 1 (a0.path.map zK),.int .u8 a0.typ,.bool a0.had,.bool a0.has,.int .u8 a0.was.typ,.int .i64 a0.was.n,.int .u64 a0.was.time,.int .u8 a0.was.dot.actor.rep,.int .u32 a0.was.dot.actor.inc,.int .u64 a0.was.dot.seq,.str a0.was.text,.sl 5 (a0.was.items.map GItem.row),.sl 3 (a0.was.tombs.map GDot.row),.int .u8 a0.is.typ,.int .i64 a0.is.n,.int .u64 a0.is.time,.int .u8 a0.is.dot.actor.rep,.int .u32 a0.is.dot.actor.inc,.int .u64 a0.is.dot.seq,.str a0.is.text,.sl 5 (a0.is.items.map GItem.row),.sl 3 (a0.is.tombs.map GDot.row)],.agg [.sl 1 (b1.path.map zK),.int .u8 b1.typ,.bool b1.had,.bool b1.has,.int .u8 b1.was.typ,.int .i64 b1.was.n,.int .u64 b1.was.time,.int .u8 b1.was.dot.actor.rep,.int .u32 b1.was.dot.actor.inc,.int .u64 b1.was.dot.seq,.str b1.was.text,.sl 5 (b1.was.items.map GItem.row),.sl 3 (b1.was.tombs.map GDot.row),.int .u8 b1.is.typ,.int .i64 b1.is.n,.int .u64 b1.is.time,.int .u8 b1.is.dot.actor.rep,.int .u32 b1.is.dot.actor.inc,.int .u64 b1.is.dot.seq,.str b1.is.text,.sl 5 (b1.is.items.map GItem.row),.sl 3 (b1.is.tombs.map GDot.row)]] h (fun rr hh=>rr=.int .i64 res∧hh=h):=by
 unfold diffXorder at hF
 refine zt Tryz.func73 rfl (by kernel_rfl) (env:=[.agg [.sl 1 (a0.path.map zK),.int .u8 a0.typ,.bool a0.had,.bool a0.has,.int .u8 a0.was.typ,.int .i64 a0.was.n,.int .u64 a0.was.time,.int .u8 a0.was.dot.actor.rep,.int .u32 a0.was.dot.actor.inc,.int .u64 a0.was.dot.seq,.str a0.was.text,.sl 5 (a0.was.items.map GItem.row),.sl 3 (a0.was.tombs.map GDot.row),.int .u8 a0.is.typ,.int .i64 a0.is.n,.int .u64 a0.is.time,.int .u8 a0.is.dot.actor.rep,.int .u32 a0.is.dot.actor.inc,.int .u64 a0.is.dot.seq,.str a0.is.text,.sl 5 (a0.is.items.map GItem.row),.sl 3 (a0.is.tombs.map GDot.row)],.agg [.sl 1 (b1.path.map zK),.int .u8 b1.typ,.bool b1.had,.bool b1.has,.int .u8 b1.was.typ,.int .i64 b1.was.n,.int .u64 b1.was.time,.int .u8 b1.was.dot.actor.rep,.int .u32 b1.was.dot.actor.inc,.int .u64 b1.was.dot.seq,.str b1.was.text,.sl 5 (b1.was.items.map GItem.row),.sl 3 (b1.was.tombs.map GDot.row),.int .u8 b1.is.typ,.int .i64 b1.is.n,.int .u64 b1.is.time,.int .u8 b1.is.dot.actor.rep,.int .u32 b1.is.dot.actor.inc,.int .u64 b1.is.dot.seq,.str b1.is.text,.sl 5 (b1.is.items.map GItem.row),.sl 3 (b1.is.tombs.map GDot.row)],za,za,za,za,za,za,za,za,za,za,za,za,za,za,za]) (by rfl) ?_
 refine zk (zd ?_)
 refine zc rfl (xy (n:=0) rfl yg (zb rfl) rfl rfl) yH ?_
 refine zc rfl (xy (n:=1) rfl yw (zb rfl) rfl rfl) xS ?_
 refine zc rfl (zg rfl rfl (zb rfl)) yD ?_
 refine zf (zi (zk ?_))
 refine yI [4,9,11] [] trivial mixed (by kernel_rfl) ?_
 refine zq rfl rfl (zj rfl fo62x0 yz rfl) xw ?_
 refine zq rfl rfl (zw rfl ty23 yP rfl (zr rfl) (zb rfl)) xp ?_
 refine zq rfl rfl (zj rfl fo62x0 yX rfl) xK ?_
 refine zq rfl rfl (zw rfl ty23 xn rfl (zr rfl) (zb rfl)) xH ?_
 refine zS hF (fun v1 hv1 hF=>?_)
 refine yW rfl rfl (fun _=>zE rfl rfl rfl (zo yS (zo yV zy)) (.cons (zb rfl) (.cons (zb rfl) .nil))) (by rintro _ ⟨B2,T2,rfl,hk2⟩;exact ok112 hv1) x8 ?_
 refine zq rfl rfl (zj rfl fo62x1 yz rfl) yq ?_
 refine zq rfl rfl (zw rfl vb yi rfl (zr rfl) (zb rfl)) yy ?_
 refine zq rfl rfl (zj rfl fo62x1 yX rfl) yE ?_
 refine zq rfl rfl (zw rfl vb yC rfl (zr rfl) (zb rfl)) yG ?_
 refine zS hF (fun v2 hv2 hF=>?_)
 refine yW rfl rfl (fun _=>zE rfl rfl rfl (zo yl (zo yr zy)) (.cons (zb rfl) (.cons (zb rfl) .nil))) (by rintro _ ⟨B2,T2,rfl,hk2⟩;exact ok93 hv2) yN ?_
 refine zq rfl rfl (yh (es:=([v1,v2]:List Int).map (q7 .i64)) rfl el43 ze3 rfl rfl (zT xl (zT yM ye)) (.cons (zb rfl) (.cons (zb rfl) .nil)) rfl rfl rfl) yO ?_
 refine zS hF (fun v3 hv3 hF=>?_)
 refine yW rfl rfl (fun _=>zE rfl rfl rfl (zo yL zy) (.cons (zb rfl) .nil)) (by rintro _ ⟨B2,T2,rfl,hk2⟩;exact (ok111 hv3).le (.cons (leV.osl _ _ _) leL.nil)) yT ?_
 refine zq rfl rfl (zg rfl yQ (zb rfl)) yD ?_
 refine yo ?_
 refine zi (zJ ?_)
 obtain rfl:=Option.some.inj hF
 refine zB rfl (zC yv zD) (zz (leV.refl _) rfl ?_)
 exact ⟨rfl,rfl⟩
/-! varve/diff.May -/
theorem ok46 {l0:(List GEdit)} {res:Bool} {h:AH}  (hF:diffMay l0=some res):Spec Tryz.prog 46 [.sl 22 (l0.map GEdit.row)] h (fun rr hh=>rr=.bool res∧hh=h):=by
 unfold diffMay at hF
 refine zt Tryz.func46 rfl (by kernel_rfl) (env:=[.sl 22 (l0.map GEdit.row),za,za,za,za,za,za,za,za,za,za,za,za,za,za,za,za,za,za,za,za,za,za,za,za,za,za,za,za,za,za,za,za,za,za,za,za,za,za,za,za,za,za,za,za,za,za,za,za,za,za,za,za,za,za,za,za,za,za,za,za,za,za,za,za,za,za,za,za,za,za,za,za,za,za,za,za,za,za,za,za,za,za,za,za,za,za,za,za]) (by rfl) ?_
 refine zk (zd ?_)
 refine zc rfl (zg rfl rfl (zb rfl)) yH ?_
 refine zf (zi (zk (zk (zd ?_))))
 refine zc rfl (ze rfl yg (zb rfl)) xK ?_
 refine z7 rfl (zQ rfl rfl rfl rfl el47 xn z0) xH fun hn1=>?_
 replace hn1:=xg hn1
 refine zc rfl (ze rfl rfl (zb rfl)) x8 ?_
 refine zf (zi (zO ?_))
 refine ym (fun (n1:Nat) (s1:Unit)=>yB [1,2,3,4,5,6,10,11,12,13,14,15,16,17,18,19,20,21,22,23,24,25,26,27,28,29,30,31,32,33,34,35,36,37,38,39,40,41,42,43,44,45,46,47,48,49,50,51,52,53,54,55,56,57,58,59,60,61,62,63,64,65,66,67,68,69,70,71,72,73,74,75,76,77,78,79,80,81,82,83,84,85,86,87,88] [(9,.int .i64 (n1:Int))]) (fun s1=>h.ext [] []) hF (fun _ _=>by simp only [yB,qw,List.set_cons_succ,List.set_cons_zero];try rfl) (wk.le (by exact (.eq (.d4 (.drop (.drop (.eq (.eq (.cons (leV.of_eq rfl) (.d16 (.d16 (.d16 (.d16 (.d4 (.d4 (.d4 (.drop (.drop (.drop leL.nil))))))))))))))))))) ?_
 intro n1 s1 hi1 hF
 refine zk (zd ?_)
 refine zc rfl (zu rfl xl yV rfl) yq ?_
 refine zf (zi (zk ?_))
 refine yJ yi hF (fun x1 o1 hl1 hx1 hF hK1=>?_) (fun hF=>?_)
 ·refine zI (zi (zk (zO (zk (zd ?_)))))
  refine zc rfl (ze rfl xl (zb rfl)) yy ?_
  refine zc rfl (yd rfl el47 xn xl wd (yA hx1)) yE ?_
  refine zc rfl (zY rfl ty62.choose_spec.1 yC (zL (cs':=[.sl 1 (x1.path.map zK),.int .u8 x1.typ,.bool x1.had,.bool x1.has,.int .u8 x1.was.typ,.int .i64 x1.was.n,.int .u64 x1.was.time,.int .u8 x1.was.dot.actor.rep,.int .u32 x1.was.dot.actor.inc,.int .u64 x1.was.dot.seq,.str x1.was.text,.sl 5 (x1.was.items.map GItem.row),.sl 3 (x1.was.tombs.map GDot.row),.int .u8 x1.is.typ,.int .i64 x1.is.n,.int .u64 x1.is.time,.int .u8 x1.is.dot.actor.rep,.int .u32 x1.is.dot.actor.inc,.int .u64 x1.is.dot.seq,.str x1.is.text,.sl 5 (x1.is.items.map GItem.row),.sl 3 (x1.is.tombs.map GDot.row)]) ty62.choose_spec.2 rfl rfl) (zb rfl)) yG ?_
  refine zc rfl (xf (n:=0) rfl ze62 rfl) yD ?_
  refine zc rfl (zg rfl yl (zb rfl)) xS ?_
  refine zc rfl (yk (cs':=[.sl 1 (x1.path.map zK),.int .u8 x1.typ,.bool x1.had,.bool x1.has,.int .u8 x1.was.typ,.int .i64 x1.was.n,.int .u64 x1.was.time,.int .u8 x1.was.dot.actor.rep,.int .u32 x1.was.dot.actor.inc,.int .u64 x1.was.dot.seq,.str x1.was.text,.sl 5 (x1.was.items.map GItem.row),.sl 3 (x1.was.tombs.map GDot.row),.int .u8 x1.is.typ,.int .i64 x1.is.n,.int .u64 x1.is.time,.int .u8 x1.is.dot.actor.rep,.int .u32 x1.is.dot.actor.inc,.int .u64 x1.is.dot.seq,.str x1.is.text,.sl 5 (x1.is.items.map GItem.row),.sl 3 (x1.is.tombs.map GDot.row)]) rfl ty62.choose_spec.1 yv yr (zb rfl) rfl rfl rfl rfl rfl) rfl ?_
  refine zf (zi (zk (zd ?_)))
  refine zc rfl (zj rfl fo62x1 yv rfl) yN ?_
  refine zc rfl (zw rfl vb yM rfl (zr rfl) (zb rfl)) yO ?_
  refine zc rfl (zu rfl yL rfl rfl) yT ?_
  refine zc rfl (ze rfl yQ (zb rfl)) yZ ?_
  refine zp rfl (fun hb=>zj rfl fo62x1 yv rfl) xd ?_
  refine zp rfl (fun hb=>zw rfl vb (zn xb hb) rfl (zr rfl) (zb rfl)) xi ?_
  refine zp rfl (fun hb=>zu rfl (zn xh hb) rfl rfl) xA ?_
  refine zc rfl (zG rfl yY xz rfl (zN (fun ht=>gT ht))) xE ?_
  refine zc rfl (zg rfl xB (zb rfl)) xw ?_
  refine zf (zi (zk (zd ?_)))
  refine zc rfl (zj rfl fo62x2 yv rfl) xI ?_
  refine zc rfl (zw rfl ty4 xF rfl (zr rfl) (zb rfl)) xD ?_
  refine zc rfl (ze rfl xu (zb rfl)) xM ?_
  refine zp rfl (fun hb=>zj rfl fo62x3 yv rfl) wa ?_
  refine zp rfl (fun hb=>zw rfl ty4 (zn x9 hb) rfl (zr rfl) (zb rfl)) wi ?_
  refine zc rfl (zG rfl xN wh rfl (zN (fun ht=>gT ht))) wj ?_
  refine zc rfl (ze rfl wm (zb rfl)) wn ?_
  refine zp rfl (fun hb=>zj rfl fo62x4 yv rfl) wD ?_
  refine zp rfl (fun hb=>zw rfl ty58.choose_spec.1 (zn wz hb) rfl (zL (cs':=[.int .u8 x1.was.typ,.int .i64 x1.was.n,.int .u64 x1.was.time,.int .u8 x1.was.dot.actor.rep,.int .u32 x1.was.dot.actor.inc,.int .u64 x1.was.dot.seq,.str x1.was.text,.sl 5 (x1.was.items.map GItem.row),.sl 3 (x1.was.tombs.map GDot.row)]) ty58.choose_spec.2 rfl rfl) (zb rfl)) wC ?_
  refine zp rfl (fun hb=>zj rfl fo62x5 yv rfl) wI ?_
  refine zp rfl (fun hb=>zw rfl ty58.choose_spec.1 (zn wL hb) rfl (zL (cs':=[.int .u8 x1.is.typ,.int .i64 x1.is.n,.int .u64 x1.is.time,.int .u8 x1.is.dot.actor.rep,.int .u32 x1.is.dot.actor.inc,.int .u64 x1.is.dot.seq,.str x1.is.text,.sl 5 (x1.is.items.map GItem.row),.sl 3 (x1.is.tombs.map GDot.row)]) ty58.choose_spec.2 rfl rfl) (zb rfl)) wH ?_
  refine yn hF (fun v13 hv13 hF=>?_)
  refine z8 rfl (fun hb=>zE rfl rfl rfl (zo (zn wM hb) (zo (zn wy hb) zy)) (.cons (zb rfl) (.cons (zb rfl) .nil))) (fun hb=>ok49 (hv13 hb)) wP ?_
  refine zc rfl (zG rfl wl wT rfl (zN (fun ht=>gT ht))) wO ?_
  refine zc rfl (zg rfl wK (zb rfl)) xp ?_
  refine zf (zi (zk (zk (zd ?_))))
  refine zc rfl (zj rfl fo62x0 yv rfl) wN ?_
  refine zc rfl (zw rfl ty23 wS rfl (zr rfl) (zb rfl)) wG ?_
  refine zS hF (fun v14 hv14 hF=>?_)
  refine zM rfl (zE rfl rfl rfl (zo wu zy) (.cons (zb rfl) .nil)) (ok63 hv14) wF ?_
  refine zc rfl (xV rfl wJ rfl) wZ ?_
  refine zc rfl (ze rfl w6 (zb rfl)) wY ?_
  refine zp rfl (fun hb=>ze rfl yP (zb rfl)) (sk qP) ?_
  refine zp rfl (fun hb=>xV rfl (zn (gk yg) hb) rfl) (sk qI) ?_
  refine zc rfl (zG rfl w5 rfl (gk yw) (zZ (fun ht=>gF ht))) (sk yH) ?_
  refine zc rfl (ze rfl (gk yz) (zb rfl)) (sk xS) ?_
  refine zp rfl (fun hb=>zj rfl fo62x2 yv rfl) (sk yD) ?_
  refine zp rfl (fun hb=>zw rfl ty4 (zn (gk yv) hb) rfl (zr rfl) (zb rfl)) (sk xw) ?_
  refine zp rfl (fun hb=>xV rfl (zn (gk yP) hb) rfl) (sk xp) ?_
  refine zp rfl (fun hb=>ze rfl (zn (gk yS) hb) (zb rfl)) (sk xK) ?_
  refine zp (zP rfl rfl rfl) (fun hb=>zj rfl fo62x3 yv rfl) (sk xH) ?_
  refine zp (zP rfl rfl rfl) (fun hb=>zw rfl ty4 (zn (gk yV) hb) rfl (zr rfl) (zb rfl)) (sk x8) ?_
  refine zp (zP rfl rfl rfl) (fun hb=>xV rfl (zn (gk xl) hb) rfl) (sk yq) ?_
  refine zp rfl (fun hb=>zG rfl (zn (gk xn) hb) (gk yi) rfl (zN (fun ht=>gT2 hb ht))) (sk yy) ?_
  refine zc rfl (zG rfl (gk yX) rfl (gk yl) (zZ (fun ht=>gF ht))) (sk yE) ?_
  refine zc rfl (ze rfl (gk yC) (zb rfl)) (sk yG) ?_
  refine zp rfl (fun hb=>ze rfl yS (zb rfl)) (sk yN) ?_
  refine zc rfl (zG rfl (gk yr) rfl (gk yM) (zZ (fun ht=>gF ht))) (sk yO) ?_
  refine zc rfl (ze rfl (gk yL) (zb rfl)) (sk yT) ?_
  refine zp rfl (fun hb=>zj rfl fo62x2 yv rfl) (sk yZ) ?_
  refine zp rfl (fun hb=>zw rfl ty4 (zn (gk yY) hb) rfl (zr rfl) (zb rfl)) (sk xd) ?_
  refine zp rfl (fun hb=>zj rfl fo62x4 yv rfl) (sk xi) ?_
  refine zp rfl (fun hb=>zw rfl ty58.choose_spec.1 (zn (gk xh) hb) rfl (zL (cs':=[.int .u8 x1.was.typ,.int .i64 x1.was.n,.int .u64 x1.was.time,.int .u8 x1.was.dot.actor.rep,.int .u32 x1.was.dot.actor.inc,.int .u64 x1.was.dot.seq,.str x1.was.text,.sl 5 (x1.was.items.map GItem.row),.sl 3 (x1.was.tombs.map GDot.row)]) ty58.choose_spec.2 rfl rfl) (zb rfl)) (sk xA) ?_
  refine zp rfl (fun hb=>zj rfl fo62x1 yv rfl) (sk xE) ?_
  refine zp rfl (fun hb=>zw rfl vb (zn (gk xB) hb) rfl (zr rfl) (zb rfl)) (sk xI) ?_
  refine yn hF (fun v15 hv15 hF=>?_)
  refine z8 rfl (fun hb=>zE rfl rfl rfl (zo (zn (gk xb) hb) (zo (zn (gk xz) hb) (zo (zn (gk xF) hb) zy))) (.cons (zb rfl) (.cons (zb rfl) (.cons (zb rfl) .nil)))) (fun hb=>ok72 (hv15 hb)) (sk xD) ?_
  refine zp rfl (fun hb=>xV rfl (zn (gk xu) hb) rfl) (sk xM) ?_
  refine zc rfl (zG rfl (gk yQ) rfl (gk xN) (zZ (fun ht=>gF ht))) (sk wa) ?_
  refine zc rfl (ze rfl (gk x9) (zb rfl)) (sk wi) ?_
  refine zp rfl (fun hb=>zj rfl fo62x3 yv rfl) (sk wj) ?_
  refine zp rfl (fun hb=>zw rfl ty4 (zn (gk wm) hb) rfl (zr rfl) (zb rfl)) (sk wn) ?_
  refine zp rfl (fun hb=>zj rfl fo62x5 yv rfl) (sk wD) ?_
  refine zp rfl (fun hb=>zw rfl ty58.choose_spec.1 (zn (gk wz) hb) rfl (zL (cs':=[.int .u8 x1.is.typ,.int .i64 x1.is.n,.int .u64 x1.is.time,.int .u8 x1.is.dot.actor.rep,.int .u32 x1.is.dot.actor.inc,.int .u64 x1.is.dot.seq,.str x1.is.text,.sl 5 (x1.is.items.map GItem.row),.sl 3 (x1.is.tombs.map GDot.row)]) ty58.choose_spec.2 rfl rfl) (zb rfl)) (sk wC) ?_
  refine zp rfl (fun hb=>zj rfl fo62x1 yv rfl) (sk wI) ?_
  refine zp rfl (fun hb=>zw rfl vb (zn (gk wL) hb) rfl (zr rfl) (zb rfl)) (sk wH) ?_
  refine yn hF (fun v16 hv16 hF=>?_)
  refine z8 rfl (fun hb=>zE rfl rfl rfl (zo (zn (gk wl) hb) (zo (zn (gk wM) hb) (zo (zn (gk wy) hb) zy))) (.cons (zb rfl) (.cons (zb rfl) (.cons (zb rfl) .nil)))) (fun hb=>ok72 (hv16 hb)) (sk wP) ?_
  refine zp rfl (fun hb=>xV rfl (zn (gk wT) hb) rfl) (sk wO) ?_
  refine zc rfl (zG rfl (gk wh) rfl (gk wK) (zZ (fun ht=>gF ht))) (sk wN) ?_
  refine zf (zi ?_)
  refine zH (gk wS) hF (fun hc17 hF=>?_) (fun hc17 hF=>?_)
  ·refine zk (zd ?_)
   refine zc rfl (zg rfl rfl (zb rfl)) yH ?_
   refine zf (zi (zJ (zA ?_)))
   refine zF ?_
   refine zA ?_
   refine yf ?_
   obtain rfl:=Option.some.inj hF
   replace hF:=hK1
   refine zF ?_
   refine zA ?_
   obtain rfl:=Option.some.inj hF
   refine zB rfl (zC yz zD) (zz (leV.refl _) rfl ?_)
   exact ⟨rfl,rfl⟩
  ·refine zI (zi (zk ?_))
   refine yI [] [] trivial mixed (by kernel_rfl) ?_
   refine zq rfl rfl (ze rfl yX (zb rfl)) (sk wG) ?_
   refine zq rfl rfl (zu rfl (gk wu) rfl rfl) (sk wF) ?_
   refine zq rfl rfl (ze rfl (gk wJ) (zb rfl)) (sk wZ) ?_
   refine zx rfl rfl (fun hb=>ze rfl yg (zb rfl)) (sk wY) ?_
   refine zx rfl rfl (fun hb=>ze rfl yX (zb rfl)) (sk (sk qP)) ?_
   refine zx rfl rfl (fun hb=>zu rfl (zn (gk (gk yg)) hb) rfl rfl) (sk (sk qI)) ?_
   refine xG hF (fun hg18 hF=>?_)
   refine zx rfl rfl (fun hb=>yK default rfl el47 (zn (gk w5) hb) (zn (gk (gk yw)) hb) wd (hg18 hb)) (sk (sk yH)) ?_
   refine zx rfl rfl (fun hb=>zY rfl ty62.choose_spec.1 (zn (gk (gk yz)) hb) (zL (cs':=[.sl 1 ((((l0).getD (IntKind.wrap .i64 ((n1:Int) - (1:Int))).toNat default).path).map zK),.int .u8 (((l0).getD (IntKind.wrap .i64 ((n1:Int) - (1:Int))).toNat default).typ),.bool (((l0).getD (IntKind.wrap .i64 ((n1:Int) - (1:Int))).toNat default).had),.bool (((l0).getD (IntKind.wrap .i64 ((n1:Int) - (1:Int))).toNat default).has),.int .u8 (((l0).getD (IntKind.wrap .i64 ((n1:Int) - (1:Int))).toNat default).was.typ),.int .i64 (((l0).getD (IntKind.wrap .i64 ((n1:Int) - (1:Int))).toNat default).was.n),.int .u64 (((l0).getD (IntKind.wrap .i64 ((n1:Int) - (1:Int))).toNat default).was.time),.int .u8 (((l0).getD (IntKind.wrap .i64 ((n1:Int) - (1:Int))).toNat default).was.dot.actor.rep),.int .u32 (((l0).getD (IntKind.wrap .i64 ((n1:Int) - (1:Int))).toNat default).was.dot.actor.inc),.int .u64 (((l0).getD (IntKind.wrap .i64 ((n1:Int) - (1:Int))).toNat default).was.dot.seq),.str (((l0).getD (IntKind.wrap .i64 ((n1:Int) - (1:Int))).toNat default).was.text),.sl 5 ((((l0).getD (IntKind.wrap .i64 ((n1:Int) - (1:Int))).toNat default).was.items).map GItem.row),.sl 3 ((((l0).getD (IntKind.wrap .i64 ((n1:Int) - (1:Int))).toNat default).was.tombs).map GDot.row),.int .u8 (((l0).getD (IntKind.wrap .i64 ((n1:Int) - (1:Int))).toNat default).is.typ),.int .i64 (((l0).getD (IntKind.wrap .i64 ((n1:Int) - (1:Int))).toNat default).is.n),.int .u64 (((l0).getD (IntKind.wrap .i64 ((n1:Int) - (1:Int))).toNat default).is.time),.int .u8 (((l0).getD (IntKind.wrap .i64 ((n1:Int) - (1:Int))).toNat default).is.dot.actor.rep),.int .u32 (((l0).getD (IntKind.wrap .i64 ((n1:Int) - (1:Int))).toNat default).is.dot.actor.inc),.int .u64 (((l0).getD (IntKind.wrap .i64 ((n1:Int) - (1:Int))).toNat default).is.dot.seq),.str (((l0).getD (IntKind.wrap .i64 ((n1:Int) - (1:Int))).toNat default).is.text),.sl 5 ((((l0).getD (IntKind.wrap .i64 ((n1:Int) - (1:Int))).toNat default).is.items).map GItem.row),.sl 3 ((((l0).getD (IntKind.wrap .i64 ((n1:Int) - (1:Int))).toNat default).is.tombs).map GDot.row)]) ty62.choose_spec.2 rfl rfl) (zb rfl)) (sk (sk xS)) ?_
   refine zx rfl rfl (fun hb=>zw rfl ty62.choose_spec.1 yv rfl (zL (cs':=[.sl 1 (x1.path.map zK),.int .u8 x1.typ,.bool x1.had,.bool x1.has,.int .u8 x1.was.typ,.int .i64 x1.was.n,.int .u64 x1.was.time,.int .u8 x1.was.dot.actor.rep,.int .u32 x1.was.dot.actor.inc,.int .u64 x1.was.dot.seq,.str x1.was.text,.sl 5 (x1.was.items.map GItem.row),.sl 3 (x1.was.tombs.map GDot.row),.int .u8 x1.is.typ,.int .i64 x1.is.n,.int .u64 x1.is.time,.int .u8 x1.is.dot.actor.rep,.int .u32 x1.is.dot.actor.inc,.int .u64 x1.is.dot.seq,.str x1.is.text,.sl 5 (x1.is.items.map GItem.row),.sl 3 (x1.is.tombs.map GDot.row)]) ty62.choose_spec.2 rfl rfl) (zb rfl)) (sk (sk yD)) ?_
   refine yn hF (fun v19 hv19 hF=>?_)
   refine ww rfl rfl (fun hb=>zE rfl rfl rfl (zo (zn (gk (gk yX)) hb) (zo (zn (gk (gk yv)) hb) zy)) (.cons (zb rfl) (.cons (zb rfl) .nil))) (fun hb=>ok73 (hv19 hb)) (sk (sk xw)) ?_
   refine zx rfl rfl (fun hb=>zu rfl (zn (gk (gk yP)) hb) rfl rfl) (sk (sk xp)) ?_
   refine zq rfl rfl (zG rfl (gk w6) (gk (gk yS)) rfl (zN (fun ht=>gT ht))) (sk (sk xK)) ?_
   refine yo ?_
   refine zi ?_
   refine zH (gk (gk xn)) hF (fun hc20 hF=>?_) (fun hc20 hF=>?_)
   ·refine zk (zd ?_)
    refine zc rfl (zg rfl rfl (zb rfl)) yH ?_
    refine zf (zi (zJ ?_))
    refine zF ?_
    refine zA ?_
    refine yf ?_
    obtain rfl:=Option.some.inj hF
    replace hF:=hK1
    refine zF ?_
    refine zA ?_
    obtain rfl:=Option.some.inj hF
    refine zB rfl (zC yz zD) (zz (leV.refl _) rfl ?_)
    exact ⟨rfl,rfl⟩
   ·refine zI (yb (zi (zd ?_)))
    refine zc rfl (zu rfl xl rfl rfl) (sk (sk xH)) ?_
    refine zc rfl (ze rfl (gk (gk yV)) (zb rfl)) x8 ?_
    refine zf (yu ?_)
    obtain rfl:=Option.some.inj hF
    exact ⟨(),hl1,hK1,wk.trans (wk.le (by exact (.eq (.d4 (.drop (.drop (.eq (.eq (.cons (leV.of_eq (wx (by omega) (by omega))) (.d16 (.d16 (.d16 (.d16 (.d4 (.d4 (.d4 (.drop (.drop (.drop leL.nil))))))))))))))))))) (xY (by simp [yj,AV.low]) rfl rfl (by simp [Blk.low,yj,AV.low]))⟩
 ·refine yF ?_
  refine zX ?_
  refine zU ?_
  refine zV ?_
  refine zi (zk (zd ?_))
  refine zc rfl (zg rfl rfl (zb rfl)) yH ?_
  refine zf (zi (zJ ?_))
  obtain rfl:=Option.some.inj hF
  refine zB rfl (zC yz zD) (zz (leV.refl _) rfl ?_)
  exact ⟨rfl,rfl⟩
/-! varve/paths.kept -/
theorem ok74N (n:Nat):∀ {t0:(List GNode)} {ahead1:(List zR)} {is2:((List zR)→Option Bool)} {fis2:FuncId} {ais2 kis2:List AV} {res:(List GNode)} {h:AH} (his2:∀ x0 v (L:List Blk) (M:List Nat),is2 x0=some v→Spec Tryz.prog fis2 (ais2++[.sl 1 (x0.map zK)]++kis2) (h.ext L M) (fun rr hh=>rr=.bool v∧hh=h.ext L M)),qX n t0 ahead1 is2=some res→Spec Tryz.prog 74 [.sl 3 (t0.map GNode.row),.sl 1 (ahead1.map zK),.fn (.func fis2) ais2 kis2] h (fun rr hh=>rr=.sl 3 (res.map GNode.row)∧hh=h):=by
 induction n with
 | zero=>intro t0 ahead1 is2 fis2 ais2 kis2 res h his2 hF;simp [qX] at hF
 | succ n ih =>
  intro t0 ahead1 is2 fis2 ais2 kis2 res h his2 hF
  unfold qX at hF
  refine yp Tryz.func74 rfl (by kernel_rfl) (env:=[.sl 3 (t0.map GNode.row),.sl 1 (ahead1.map zK),.fn (.func fis2) ais2 kis2,za,za,za,za,za,za,za,za,za,za,za,za,za,za,za,za,za,za,za,za,za,za,za,za,za,za,za,za,za,za,za,za,za,za,za,za,za,za,za,za,za,za,za,za,za,za,za,za,za,za,za,za,za,za,za,za,za,za,za,za,za,za]) (by rfl) (fun hlow hC=>?_)
  simp only [yj,AV.low,Bool.and_eq_true,Bool.true_and,and_true] at hlow
  have hlais2:∀ n m,h.blks.length≤n→h.toks.length≤m→yj n m ais2=true:=fun n m h1 h2=>yR h1 h2 _ (by simp [hlow])
  have hlkis2:∀ n m,h.blks.length≤n→h.toks.length≤m→yj n m kis2=true:=fun n m h1 h2=>yR h1 h2 _ (by simp [hlow])
  refine zk (zd ?_)
  refine zc rfl (zg rfl rfl (xq xa)) xp ?_
  refine zf (zi (zk (zk (zd ?_))))
  refine zc rfl (ze rfl yg (zb rfl)) yG ?_
  refine z7 rfl (zQ rfl rfl rfl rfl xa yr z0) yN fun hn1=>?_
  replace hn1:=xg hn1
  refine zc rfl (ze rfl rfl (zb rfl)) yO ?_
  refine zf (zi (zO ?_))
  refine ym (fun (n1:Nat) (s1:(List GNode))=>yB [0,3,4,5,7,8,9,10,11,12,16,17,18,19,20,21,22,23,24,25,26,27,28,29,30,31,32,33,34,35,36,37,38,39,40,41,42,43,44,45,46,47,48,49,50,51,52,53,54,55,56,57,58,59,60,61,62,63,64] [(6,.osl (some (h.toks.length+0)) 3 (s1.map GNode.row)),(15,.int .i64 (n1:Int))]) (fun s1=>h.ext [] [(s1).length]) hF (fun _ _=>by simp only [yB,qw,List.set_cons_succ,List.set_cons_zero];try rfl) (wk.trans (wk_tok yS rfl xp rfl) (wk.le (by exact (.drop (.eq (.eq (.drop (.drop (.drop (.cons (leV.of_eq rfl) (.d4 (.drop (.drop (.eq (.eq (.cons (leV.of_eq rfl) (.d16 (.d16 (.d16 (.drop leL.nil)))))))))))))))))))) ?_
  intro n1 s1 hi1 hF
  refine zk (zd ?_)
  refine zc rfl (zu rfl yL yM rfl) yT ?_
  refine zf (zi (zk ?_))
  refine yJ yQ hF (fun x1 o1 hl1 hx1 hF hK1=>?_) (fun hF=>?_)
  ·refine zI (zi (zk (zO (zk (zd ?_)))))
   refine zc rfl (xO rfl xa yr yL wd (yA hx1) (GNode.row_eq _)) yZ ?_
   refine zc rfl (zY rfl ty74.choose_spec.1 yY (zL (cs':=[.str x1.name,.sl 9 (x1.leaves.map GLeaf.row),.sl 3 (x1.subs.map GNode.row)]) ty74.choose_spec.2 rfl rfl) (zb rfl)) xd ?_
   refine zc rfl (xf (n:=0) rfl ze74 rfl) xH ?_
   refine zc rfl (yk (cs':=[.str x1.name,.sl 9 (x1.leaves.map GLeaf.row),.sl 3 (x1.subs.map GNode.row)]) rfl ty74.choose_spec.1 yV xb (zb rfl) rfl rfl rfl rfl rfl) rfl ?_
   refine zf (zi (zk ?_))
   refine yI [] [] trivial mixed (by kernel_rfl) ?_
   refine zq rfl rfl (ze rfl yw (zb rfl)) xi ?_
   refine zS hF (fun v32 hv32 hF=>?_)
   refine qt rfl FOk.nil (by rfl) rfl (zE rfl rfl rfl (zo xh zy) (.cons (zb rfl) .nil)) (own_ext (T':=[(s1).length,(v32).length]) (ok70 hv32) (m:=1) rfl rfl) xA ?_
   refine zq rfl rfl (zj rfl q9 yV rfl) xE ?_
   refine zq rfl rfl (zw rfl vt xB rfl (zr rfl) (zb rfl)) xI ?_
   refine zq rfl rfl (yh (es:=([x1.name]:List zR).map zK) rfl xc ze9 rfl rfl (zT xF ye) (.cons (zb rfl) .nil) rfl rfl rfl) xD ?_
   refine xG hF (fun hm33 hF=>?_)
   refine vi rfl FOk.nil (by rfl) rfl (wv (j:=1) (T':=[(s1).length,((v32++([x1.name]:List zR))).length]) rfl rfl rfl rfl xc xc xz xu (zb rfl) (zb rfl) wo hm33 rfl rfl) xM ?_
   refine zq rfl rfl (zg rfl xN (zb rfl)) x8 ?_
   refine yo ?_
   refine zi (zk ?_)
   refine yI [1,3,6] [(1,[(0,.cells [.str x1.name,.sl 9 (x1.leaves.map GLeaf.row),.sl 3 (x1.subs.map GNode.row)])]),(3,[(0,.cells [.str x1.name,.sl 9 (x1.leaves.map GLeaf.row),.sl 3 (x1.subs.map GNode.row)])])] ⟨⟨rfl,trivial⟩,⟨rfl,trivial⟩,trivial⟩ mixed (by kernel_rfl) ?_
   refine zq rfl rfl (zj rfl q9 yV rfl) wa ?_
   refine draw_okN rfl rfl (by rintro _ ⟨B2,T2,rfl,hk2⟩;exact zw rfl vt x9 (keeps1 hk2) (zr rfl) (zb rfl)) wi ?_
   refine zq rfl rfl (zj rfl q8 yV rfl) wj ?_
   refine draw_okN rfl rfl (by rintro _ ⟨B2,T2,rfl,hk2⟩;exact zw rfl ty28 wm (keeps1 hk2) (zr rfl) (zb rfl)) wn ?_
   refine zq rfl rfl (ze rfl xl (zb rfl)) wD ?_
   refine zq rfl rfl (ze rfl yz (zb rfl)) wC ?_
   refine zS hF (fun v34 hv34 hF=>?_)
   refine yW rfl rfl (fun _=>zE rfl rfl rfl (zo wl (zo wz (zo wM zy))) (.cons (zb rfl) (.cons (zb rfl) (.cons (zb rfl) .nil)))) (by rintro _ ⟨B2,T2,rfl,hk2⟩;exact (ih (fun x0 v L M hv=>by rw [vG];exact his2 x0 v _ _ hv) hv34).le (.eq (.cons (leV.osl _ _ _) (.eq leL.nil)))) wI ?_
   refine zq rfl rfl (wR (cs':=[.str x1.name,.osl none 9 (([]:List GLeaf).map GLeaf.row),.sl 3 (v34.map GNode.row)]) rfl su74 ze74 pl74 (zT wh (zT wL ye)) (.cons (zb rfl) (.cons (zb rfl) .nil)) rfl rfl) wH ?_
   refine wq rfl (FOk.cons (.inr (keepB ⟨rfl,trivial⟩)) (FOk.cons (.inr (keepB ⟨rfl,trivial⟩)) (FOk.cons (.inr (keepB trivial)) FOk.nil))) (by kernel_rfl) rfl (xf (n:=1) rfl ze74 rfl) yq ?_
   refine wq rfl (FOk.cons (.inr (keepB ⟨rfl,trivial⟩)) (FOk.cons (.inr (keepB ⟨rfl,trivial⟩)) (FOk.cons (.inr (keepB trivial)) FOk.nil))) (by kernel_rfl) rfl (yk (cs':=[.str x1.name,.osl none 9 (([]:List GLeaf).map GLeaf.row),.sl 3 (v34.map GNode.row)]) rfl ty74.choose_spec.1 yi wy (zb rfl) rfl rfl rfl rfl rfl) rfl ?_
   refine yo ?_
   refine zi (zk (zk (zd ?_)))
   refine zc rfl (zj rfl xX yV rfl) wP ?_
   refine zc rfl (zw rfl qk wT rfl (zr rfl) (zb rfl)) wO ?_
   refine z7 rfl (zQ rfl rfl rfl rfl wr wK z0) wN fun hn35=>?_
   replace hn35:=xg hn35
   refine zc rfl (ze rfl rfl (zb rfl)) wG ?_
   refine zf (zi (zO ?_))
   refine ym (fun (n2:Nat) (s2:(List GLeaf))=>yB [0,3,4,5,7,8,11,12,16,17,18,19,20,21,22,23,24,25,26,27,28,29,30,31,32,33,37,38,39,40,41,42,43,44,45,46,47,48,49,50,51,52,53,54,55,56,57,58,59,60,61,62,63,64] [(36,.int .i64 (n2:Int))]) (fun s2=>h.ext [.cells [.str x1.name,.sl 9 (x1.leaves.map GLeaf.row),.sl 3 (x1.subs.map GNode.row)],.cells [.str x1.name,.osl (some (h.toks.length+2)) 9 (s2.map GLeaf.row),.sl 3 (v34.map GNode.row)]] [(s1).length,((v32++([x1.name]:List zR))).length,(s2).length]) hF (fun _ _=>by simp only [yB,qw,List.set_cons_succ,List.set_cons_zero];try rfl) (wk.trans (wk_tokB (j:=1) rfl yw rfl qI rfl rfl) (wk.le (by exact (.drop (.eq (.eq (.drop (.drop (.drop (.eq (.drop (.drop (.eq (.eq (.drop (.drop (.eq (.eq (.eq (.d16 (.drop (.drop (.eq (.eq (.cons (leV.of_eq rfl) (.d16 (.d4 (.d4 (.d4 leL.nil))))))))))))))))))))))))))))) ?_
   intro n2 s2 hi2 hF
   refine zk (zd ?_)
   refine zc rfl (zu rfl wu wS rfl) wF ?_
   refine zf (zi (zk ?_))
   refine yJ wJ hF (fun x2 o2 hl2 hx2 hF hK2=>?_) (fun hF=>?_)
   ·refine zI (zi (zk (zO (zk (zd ?_)))))
    refine zc rfl (yd rfl wr wK wu wd (yA hx2)) wZ ?_
    refine zc rfl (zY rfl ty58.choose_spec.1 w6 (zL (cs':=[.int .u8 x2.typ,.int .i64 x2.n,.int .u64 x2.time,.int .u8 x2.dot.actor.rep,.int .u32 x2.dot.actor.inc,.int .u64 x2.dot.seq,.str x2.text,.sl 5 (x2.items.map GItem.row),.sl 3 (x2.tombs.map GDot.row)]) ty58.choose_spec.2 rfl rfl) (zb rfl)) wY ?_
    refine zc rfl (xf (n:=2) rfl ze58 rfl) yE ?_
    refine zc rfl (yk (cs':=[.int .u8 x2.typ,.int .i64 x2.n,.int .u64 x2.time,.int .u8 x2.dot.actor.rep,.int .u32 x2.dot.actor.inc,.int .u64 x2.dot.seq,.str x2.text,.sl 5 (x2.items.map GItem.row),.sl 3 (x2.tombs.map GDot.row)]) rfl ty58.choose_spec.1 yC w5 (zb rfl) rfl rfl rfl rfl rfl) rfl ?_
    refine zf (zi (zk (zd ?_)))
    refine zc rfl (ze rfl yz (zb rfl)) (sk qP) ?_
    refine zc rfl (ze rfl xl (zb rfl)) (sk qI) ?_
    refine zS hF (fun v49 hv49 hF=>?_)
    refine zM rfl (s_callC rfl rfl (gk yg) (zo (gk yw) zy) (.cons (zb rfl) .nil) rfl) ((his2 _ _ _ _ hv49).le (leL.app (leL.pre (.cons (leV.osl _ _ _) leL.nil)))) (sk yH) ?_
    refine zf (zi ?_)
    refine zH (gk yz) hF (fun hc50 hF=>?_) (fun hc50 hF=>?_)
    ·refine yI [3] [] trivial mixed (by kernel_rfl) ?_
     refine zq rfl rfl (zj rfl xX yi rfl) (sk xS) ?_
     refine zq rfl rfl (zw rfl qk (gk yX) rfl (zr rfl) (zb rfl)) (sk yD) ?_
     refine zq rfl rfl (zw rfl ty58.choose_spec.1 yC rfl (zL (cs':=[.int .u8 x2.typ,.int .i64 x2.n,.int .u64 x2.time,.int .u8 x2.dot.actor.rep,.int .u32 x2.dot.actor.inc,.int .u64 x2.dot.seq,.str x2.text,.sl 5 (x2.items.map GItem.row),.sl 3 (x2.tombs.map GDot.row)]) ty58.choose_spec.2 rfl rfl) (zb rfl)) (sk xw) ?_
     refine zS hF (fun v51 hv51 hF=>?_)
     refine yW rfl rfl (fun _=>zE rfl rfl rfl (zo (gk yP) zy) (.cons (zb rfl) .nil)) (by rintro _ ⟨B2,T2,rfl,hk2⟩;exact ok71 hv51) (sk xp) ?_
     refine zq rfl rfl (yh (es:=([v51]:List GLeaf).map GLeaf.row) rfl wr ze58 rfl rfl (zT (gk yS) ye) (.cons (zb rfl) .nil) rfl rfl rfl) (sk xK) ?_
     refine xG hF (fun hm52 hF=>?_)
     refine vi rfl (FOk.cons (.inr (keepB trivial)) FOk.nil) (by rfl) rfl (wv (j:=2) (T':=[(s1).length,((v32++([x1.name]:List zR))).length,((s2++([v51]:List GLeaf))).length]) rfl rfl rfl rfl wr wr (gk yv) (gk xn) (zb rfl) (zb rfl) wo hm52 rfl rfl) (sk xH) ?_
     refine zq rfl rfl (zj rfl xX yi rfl) (sk x8) ?_
     refine wq rfl (FOk.cons (.inr (keepB trivial)) FOk.nil) (by kernel_rfl) rfl (yk (cs':=[.str x1.name,.osl (some (h.toks.length+2)) 9 ((s2++([v51]:List GLeaf)).map GLeaf.row),.sl 3 (v34.map GNode.row)]) rfl qk (gk xl) (gk yV) (zb rfl) rfl rfl rfl rfl rfl) rfl ?_
     refine yo ?_
     refine yb (zi (zd ?_))
     refine zc rfl (zu rfl wu rfl rfl) (sk yq) ?_
     refine zc rfl (ze rfl (gk yi) (zb rfl)) wG ?_
     refine zf (yu ?_)
     obtain rfl:=Option.some.inj hF
     exact ⟨(s2++([v51]:List GLeaf)),hl2,hK2,wk.trans (wk.le (by exact (.drop (.eq (.eq (.drop (.drop (.drop (.eq (.drop (.drop (.eq (.eq (.drop (.drop (.eq (.eq (.eq (.d16 (.drop (.drop (.eq (.eq (.cons (leV.of_eq (wx (by omega) (by omega))) (.d16 (.d4 (.d4 (.d4 leL.nil)))))))))))))))))))))))))))) (xY (by simp [yj,AV.low,hlais2,hlkis2]) rfl rfl (by simp [Blk.low,yj,AV.low,hlais2,hlkis2]))⟩
    ·refine zI (yb (zi (zd ?_)))
     refine zc rfl (zu rfl wu rfl rfl) (sk yq) ?_
     refine zc rfl (ze rfl (gk yi) (zb rfl)) wG ?_
     refine zf (yu ?_)
     obtain rfl:=Option.some.inj hF
     exact ⟨s2,hl2,hK2,wk.trans (wk.le (by exact (.drop (.eq (.eq (.drop (.drop (.drop (.eq (.drop (.drop (.eq (.eq (.drop (.drop (.eq (.eq (.eq (.d16 (.drop (.drop (.eq (.eq (.cons (leV.of_eq (wx (by omega) (by omega))) (.d16 (.d4 (.d4 (.d4 leL.nil)))))))))))))))))))))))))))) (xY (by simp [yj,AV.low,hlais2,hlkis2]) rfl rfl (by simp [Blk.low,yj,AV.low,hlais2,hlkis2]))⟩
   ·refine yF ?_
    refine zX ?_
    refine zU ?_
    refine zV ?_
    refine zi (zk (zd ?_))
    refine zc rfl (zj rfl xX yi rfl) (sk yy) ?_
    refine zc rfl (zw rfl qk (gk yl) rfl (zr rfl) (zb rfl)) (sk yE) ?_
    refine z7 rfl (zQ rfl rfl rfl rfl wr (gk yC) lenMapO) (sk yG) fun hn53=>?_
    replace hn53:=xg hn53
    refine zc rfl (zj rfl q8 yi rfl) (sk yN) ?_
    refine zc rfl (zw rfl ty28 (gk yM) rfl (zr rfl) (zb rfl)) (sk yO) ?_
    refine z7 rfl (zQ rfl rfl rfl rfl xa (gk yL) z0) (sk yT) fun hn54=>?_
    replace hn54:=xg hn54
    refine zc rfl (zu rfl (gk yr) (gk yQ) rfl) (sk yZ) ?_
    refine zc rfl (zu rfl (gk yY) rfl rfl) (sk xd) ?_
    refine zf (zi ?_)
    refine zH (gk xb) hF (fun hc55 hF=>?_) (fun hc55 hF=>?_)
    ·refine zd ?_
     refine zc rfl (ze rfl yS (zb rfl)) (sk xi) ?_
     refine zc rfl (zw rfl ty74.choose_spec.1 yi rfl (zL (cs':=[.str x1.name,.osl (some (h.toks.length+2)) 9 (s2.map GLeaf.row),.sl 3 (v34.map GNode.row)]) ty74.choose_spec.2 rfl rfl) (zb rfl)) (sk xA) ?_
     refine zc rfl (yh (es:=([(GNode.mk x1.name s2 v34)]:List GNode).map GNode.row) rfl xa ze74 rfl rfl (zT (gk xz) ye) (.cons (zb rfl) .nil) rfl rfl (by simp only [List.map_cons,List.map_nil,GNode.row_eq];rfl)) (sk xE) ?_
     refine xG hF (fun hm56 hF=>?_)
     refine zc rfl (wv (j:=0) (T':=[((s1++([(GNode.mk x1.name s2 v34)]:List GNode))).length,((v32++([x1.name]:List zR))).length,(s2).length]) rfl rfl rfl rfl xa xa (gk xh) (gk xB) (zb rfl) (zb rfl) wo hm56 rfl rfl) (sk xI) ?_
     refine zc rfl (zg rfl (gk xF) (zb rfl)) xp ?_
     refine zf (yb (zi (zd ?_)))
     refine zc rfl (zu rfl yL rfl rfl) (sk xD) ?_
     refine zc rfl (ze rfl (gk xu) (zb rfl)) yO ?_
     refine zf (yu ?_)
     obtain rfl:=Option.some.inj hF
     exact ⟨(s1++([(GNode.mk x1.name s2 v34)]:List GNode)),hl1,hK1,wk.trans (wk.le (by exact (.drop (.eq (.eq (.drop (.drop (.drop (.cons (leV.of_eq rfl) (.d4 (.drop (.drop (.eq (.eq (.cons (leV.of_eq (wx (by omega) (by omega))) (.d16 (.d16 (.d16 (.drop leL.nil))))))))))))))))))) (xY (by simp [yj,AV.low,hlais2,hlkis2]) rfl rfl (by simp [Blk.low,yj,AV.low,hlais2,hlkis2]))⟩
    ·refine zI (yb (zi (zd ?_)))
     refine zc rfl (zu rfl yL rfl rfl) (sk xD) ?_
     refine zc rfl (ze rfl (gk xu) (zb rfl)) yO ?_
     refine zf (yu ?_)
     obtain rfl:=Option.some.inj hF
     exact ⟨s1,hl1,hK1,wk.trans (wk.le (by exact (.drop (.eq (.eq (.drop (.drop (.drop (.cons (leV.of_eq rfl) (.d4 (.drop (.drop (.eq (.eq (.cons (leV.of_eq (wx (by omega) (by omega))) (.d16 (.d16 (.d16 (.drop leL.nil))))))))))))))))))) (xY (by simp [yj,AV.low,hlais2,hlkis2]) rfl rfl (by simp [Blk.low,yj,AV.low,hlais2,hlkis2]))⟩
  ·refine yF ?_
   refine zX ?_
   refine zU ?_
   refine zV ?_
   refine zi (zk (zd ?_))
   refine zc rfl (ze rfl yS (zb rfl)) (sk xM) ?_
   refine zc rfl (zg rfl (gk xN) (zb rfl)) xp ?_
   refine zf (zi (zJ ?_))
   obtain rfl:=Option.some.inj hF
   refine zB rfl (zC yS zD) (zz (leV.osl _ _ _) rfl ?_)
   exact ⟨rfl,rfl⟩
theorem ok74 {t0:(List GNode)} {ahead1:(List zR)} {is2:((List zR)→Option Bool)} {fis2:FuncId} {ais2 kis2:List AV} {res:(List GNode)} {h:AH} (his2:∀ x0 v (L:List Blk) (M:List Nat),is2 x0=some v→Spec Tryz.prog fis2 (ais2++[.sl 1 (x0.map zK)]++kis2) (h.ext L M) (fun rr hh=>rr=.bool v∧hh=h.ext L M)) (hF:pathsXkept t0 ahead1 is2=some res):Spec Tryz.prog 74 [.sl 3 (t0.map GNode.row),.sl 1 (ahead1.map zK),.fn (.func fis2) ais2 kis2] h (fun rr hh=>rr=.sl 3 (res.map GNode.row)∧hh=h):=by
 obtain ⟨n,hn⟩:=anyN_is hF
 exact ok74N n his2 hn
/-! varve/paths.Select 1 -/
theorem ok75 {path0:(List zR)} {c0:(List zR)} {i0:Nat} {res:Bool} {h:AH} (hb0:h.blk i0=some (.cells [.sl 1 (c0.map zK)])) (hF:pathsSelectC1 path0 c0=some res):Spec Tryz.prog 75 [.sl 1 (path0.map zK),.ptr i0 0] h (fun rr hh=>rr=.bool res∧hh=h):=by
 unfold pathsSelectC1 at hF
 refine zt Tryz.func75 rfl (by kernel_rfl) (env:=[.sl 1 (path0.map zK),.ptr i0 0,za,za,za,za,za]) (by rfl) ?_
 refine zk (zd ?_)
 refine zc rfl (zg rfl rfl (zb rfl)) xS ?_
 refine zf (zi (zk (zd ?_)))
 refine zc rfl (b_load rfl ty23 yw hb0 (zr rfl) (zb rfl)) yD ?_
 refine zc rfl (ze rfl yg (zb rfl)) xw ?_
 refine zS hF (fun v1 hv1 hF=>?_)
 refine zM rfl (zE rfl rfl rfl (zo yv (zo yP zy)) (.cons (zb rfl) (.cons (zb rfl) .nil))) (ok64 hv1) xp ?_
 refine zc rfl (zg rfl yS (zb rfl)) xS ?_
 refine zf (zi (zJ ?_))
 obtain rfl:=Option.some.inj hF
 refine zB rfl (zC yX zD) (zz (leV.refl _) rfl ?_)
 exact ⟨rfl,rfl⟩
/-! varve/paths.Select -/
theorem ok47 {t0:(List GNode)} {p1:(List zR)} {res:((List GNode)×Int)} {h:AH}  (hF:qY t0 p1=some res):Spec Tryz.prog 47 [.sl 3 (t0.map GNode.row),.sl 1 (p1.map zK)] h (fun rr hh=>rr=.tup [.sl 3 (res.1.map GNode.row),.int .i64 res.2]∧hh=h):=by
 unfold qY at hF
 refine zt Tryz.func47 rfl (by kernel_rfl) (env:=[.sl 3 (t0.map GNode.row),.sl 1 (p1.map zK),za,za,za,za,za,za,za,za,za,za,za,za,za,za,za]) (by rfl) ?_
 refine zk (zd ?_)
 refine zc rfl (xy (n:=0) rfl yw (zb rfl) rfl rfl) xS ?_
 refine zc rfl (zg rfl rfl (xq xa)) yD ?_
 refine zc rfl (zg rfl rfl (zb rfl)) xw ?_
 refine zf (zi (zk (zk (zd ?_))))
 refine zc rfl (ze rfl yg (zb rfl)) xp ?_
 refine zS hF (fun v1 hv1 hF=>?_)
 refine zM rfl (zE rfl rfl rfl (zo yS zy) (.cons (zb rfl) .nil)) (ok22 hv1) xK ?_
 refine zc rfl (xV rfl xn rfl) xH ?_
 refine zc rfl (ze rfl yV (zb rfl)) x8 ?_
 refine zp rfl (fun hb=>zw rfl ty23 yX rfl (zr rfl) (zb rfl)) yq ?_
 refine yn hF (fun v2 hv2 hF=>?_)
 refine z8 rfl (fun hb=>zE rfl rfl rfl (zo (zn yi hb) zy) (.cons (zb rfl) .nil)) (fun hb=>ok60 (hv2 hb)) yy ?_
 refine zp rfl (fun hb=>xV rfl (zn yl hb) rfl) yE ?_
 refine zc rfl (zG rfl xl rfl yC (zZ (fun ht=>gF ht))) yG ?_
 refine zf (zi ?_)
 refine zH yr hF (fun hc3 hF=>?_) (fun hc3 hF=>?_)
 ·refine zk (zd ?_)
  refine zc rfl (zg rfl rfl (xq xa)) yD ?_
  refine zc rfl (zg rfl rfl (zb rfl)) xw ?_
  refine zf (zi (zJ (zA ?_)))
  obtain rfl:=Option.some.inj hF
  refine qe rfl (zC yv (zC yP zD)) (zz (leV.tup (.cons (leV.osl _ _ _) (.eq leL.nil))) rfl ?_)
  exact ⟨rfl,rfl⟩
 ·refine zI (zi (zk (zd ?_)))
  refine zc rfl (ze rfl yg (zb rfl)) yN ?_
  refine zc rfl (qS rfl rfl rfl) yO ?_
  refine zS hF (fun v4 hv4 hF=>?_)
  refine zM rfl (zE rfl rfl rfl (zo yM (zo rfl (zo yL zy))) (.cons (zb rfl) (.cons (xq xc) (.cons (zb rfl) .nil)))) ((ok74 (fun _ v L M hv=>ok75 (blk_ext2 (j:=0) rfl) hv) hv4).le (.eq (.cons (leV.osl _ _ _) (.eq leL.nil)))) yT ?_
  refine zc rfl (zg rfl yQ (zb rfl)) yD ?_
  refine zc rfl (zg rfl rfl (zb rfl)) xw ?_
  refine zf (zi (zJ ?_))
  obtain rfl:=Option.some.inj hF
  refine qe rfl (zC yv (zC yP zD)) (zz (leV.refl _) rfl ?_)
  exact ⟨rfl,rfl⟩
/-! slices.IndexFunc[varve/api.Tree,varve/api.Node] -/
theorem ok113 {s0:(List GNode)} {f1:(GNode→Option Bool)} {ff1:FuncId} {af1 kf1:List AV} {res:Int} {h:AH} (hf1:∀ x0 v (L:List Blk) (M:List Nat),f1 x0=some v→Spec Tryz.prog ff1 (af1++[.agg [.str x0.name,.sl 9 (x0.leaves.map GLeaf.row),.sl 3 (x0.subs.map GNode.row)]]++kf1) (h.ext L M) (fun rr hh=>rr=.bool v∧hh=h.ext L M)) (hF:vZ s0 f1=some res):Spec Tryz.prog 113 [.sl 3 (s0.map GNode.row),.fn (.func ff1) af1 kf1] h (fun rr hh=>rr=.int .i64 res∧hh=h):=by
 unfold vZ at hF
 refine yp Tryz.func113 rfl (by kernel_rfl) (env:=[.sl 3 (s0.map GNode.row),.fn (.func ff1) af1 kf1,za,za,za,za,za,za,za,za,za,za,za,za,za,za,za,za,za]) (by rfl) (fun hlow hC=>?_)
 simp only [yj,AV.low,Bool.and_eq_true,Bool.true_and,and_true] at hlow
 have hlaf1:∀ n m,h.blks.length≤n→h.toks.length≤m→yj n m af1=true:=fun n m h1 h2=>yR h1 h2 _ (by simp [hlow])
 have hlkf1:∀ n m,h.blks.length≤n→h.toks.length≤m→yj n m kf1=true:=fun n m h1 h2=>yR h1 h2 _ (by simp [hlow])
 refine zk (zd ?_)
 refine zc rfl (zg rfl rfl (zb rfl)) yD ?_
 refine zf (zi (zk (zk (zd ?_))))
 refine zc rfl (ze rfl yg (zb rfl)) xp ?_
 refine z7 rfl (zQ rfl rfl rfl rfl xa yS z0) xK fun hn1=>?_
 replace hn1:=xg hn1
 refine zc rfl (ze rfl rfl (zb rfl)) xH ?_
 refine zf (zi (zO ?_))
 refine ym (fun (n1:Nat) (s1:Unit)=>yB [2,3,4,5,6,9,10,11,12,13,14,15,16,17,18] [(8,.int .i64 (n1:Int))]) (fun s1=>h.ext [] []) hF (fun _ _=>by simp only [yB,qw,List.set_cons_succ,List.set_cons_zero];try rfl) (wk.le (by exact (.eq (.eq (.d4 (.drop (.eq (.cons (leV.of_eq rfl) (.d4 (.d4 (.drop (.drop leL.nil)))))))))))) ?_
 intro n1 s1 hi1 hF
 refine zk (zd ?_)
 refine zc rfl (zu rfl yV xn rfl) x8 ?_
 refine zf (zi (zk ?_))
 refine yJ xl hF (fun x1 o1 hl1 hx1 hF hK1=>?_) (fun hF=>?_)
 ·refine zI (zi (zk (zO (zk (zd ?_)))))
  refine zc rfl (ze rfl yV (zb rfl)) yq ?_
  refine zc rfl (zg rfl yi (zb rfl)) xw ?_
  refine zf (zi (zk (zd ?_)))
  refine zc rfl (ze rfl yw (zb rfl)) yy ?_
  refine zc rfl (ze rfl yg (zb rfl)) yE ?_
  refine zc rfl (ze rfl yP (zb rfl)) yG ?_
  refine zc rfl (xO rfl xa yC yr wd (yA hx1) (GNode.row_eq _)) yN ?_
  refine zc rfl (zY rfl ty74.choose_spec.1 yM (zL (cs':=[.str x1.name,.sl 9 (x1.leaves.map GLeaf.row),.sl 3 (x1.subs.map GNode.row)]) ty74.choose_spec.2 rfl rfl) (zb rfl)) yO ?_
  refine zS hF (fun v7 hv7 hF=>?_)
  refine zM rfl (s_callC rfl rfl yl (zo yL zy) (.cons (zb rfl) .nil) rfl) (hf1 _ _ _ _ hv7) yT ?_
  refine zf (zi ?_)
  refine zH yQ hF (fun hc8 hF=>?_) (fun hc8 hF=>?_)
  ·refine zk (zd ?_)
   refine zc rfl (ze rfl yP (zb rfl)) yZ ?_
   refine zc rfl (zg rfl yY (zb rfl)) yD ?_
   refine zf (zi (zJ ?_))
   refine zF ?_
   refine zA ?_
   refine yf ?_
   obtain rfl:=Option.some.inj hF
   replace hF:=hK1
   refine zF ?_
   refine zA ?_
   obtain rfl:=Option.some.inj hF
   refine zB rfl (zC yv zD) (zz (leV.refl _) rfl ?_)
   exact ⟨rfl,rfl⟩
  ·refine zI (yb (zi (zd ?_)))
   refine zc rfl (zu rfl yV rfl rfl) xd ?_
   refine zc rfl (ze rfl xb (zb rfl)) xH ?_
   refine zf (yu ?_)
   obtain rfl:=Option.some.inj hF
   exact ⟨(),hl1,hK1,wk.le (by exact (.eq (.eq (.d4 (.drop (.eq (.cons (leV.of_eq (wx (by omega) (by omega))) (.d4 (.d4 (.drop (.drop leL.nil)))))))))))⟩
 ·refine yF ?_
  refine zX ?_
  refine zU ?_
  refine zV ?_
  refine zi (zk (zd ?_))
  refine zc rfl (zg rfl rfl (zb rfl)) yD ?_
  refine zf (zi (zJ ?_))
  obtain rfl:=Option.some.inj hF
  refine zB rfl (zC yv zD) (zz (leV.refl _) rfl ?_)
  exact ⟨rfl,rfl⟩
/-! varve/tree.linear 1 -/
theorem ok114 {n0:GNode} {c0:zR} {i0:Nat} {res:Bool} {h:AH} (hb0:h.blk i0=some (.cells [.str c0])) (hF:treeXlinearC1 n0 c0=some res):Spec Tryz.prog 114 [.agg [.str n0.name,.sl 9 (n0.leaves.map GLeaf.row),.sl 3 (n0.subs.map GNode.row)],.ptr i0 0] h (fun rr hh=>rr=.bool res∧hh=h):=by
 unfold treeXlinearC1 at hF
 refine zt Tryz.func114 rfl (by kernel_rfl) (env:=[.agg [.str n0.name,.sl 9 (n0.leaves.map GLeaf.row),.sl 3 (n0.subs.map GNode.row)],.ptr i0 0,za,za,za,za,za,za]) (by rfl) ?_
 refine zk (zd ?_)
 refine zc rfl (xy (n:=0) rfl yg (zb rfl) rfl rfl) yH ?_
 refine zc rfl (zg rfl rfl (zb rfl)) xS ?_
 refine zf (zi (zk (zd ?_)))
 refine zc rfl (zj rfl q9 yz rfl) yD ?_
 refine zc rfl (zw rfl vt yv rfl (zr rfl) (zb rfl)) xw ?_
 refine zc rfl (b_load rfl vt yw hb0 (zr rfl) (zb rfl)) xp ?_
 refine zc rfl (zu rfl yP yS rfl) xK ?_
 refine zc rfl (zg rfl xn (zb rfl)) xS ?_
 refine zf (zi (zJ ?_))
 obtain rfl:=Option.some.inj hF
 refine zB rfl (zC yX zD) (zz (leV.refl _) rfl ?_)
 exact ⟨rfl,rfl⟩
/-! varve/tree.linear -/
theorem ok76 {t0:(List GNode)} {name1:zR} {res:(GNode×Bool)} {h:AH}  (hF:treeXlinear t0 name1=some res):Spec Tryz.prog 76 [.sl 3 (t0.map GNode.row),.str name1] h (fun rr hh=>rr=.tup [.agg [.str res.1.name,.sl 9 (res.1.leaves.map GLeaf.row),.sl 3 (res.1.subs.map GNode.row)],.bool res.2]∧hh=h):=by
 unfold treeXlinear at hF
 refine zt Tryz.func76 rfl (by kernel_rfl) (env:=[.sl 3 (t0.map GNode.row),.str name1,za,za,za,za,za,za,za,za,za,za,za,za,za,za,za]) (by rfl) ?_
 refine zk (zd ?_)
 refine zc rfl (xy (n:=0) rfl yw (zb rfl) rfl rfl) xS ?_
 refine zc rfl (xf (n:=1) rfl ze74 rfl) yD ?_
 refine zc rfl (zg rfl rfl (zb rfl)) xw ?_
 refine zf (zi (zk (zd ?_)))
 refine zc rfl (ze rfl yg (zb rfl)) xK ?_
 refine zc rfl (qS rfl rfl rfl) xH ?_
 refine zS hF (fun v1 hv1 hF=>?_)
 refine zM rfl (zE rfl rfl rfl (zo xn (zo yV zy)) (.cons (zb rfl) (.cons (zb rfl) .nil))) (ok113 (fun _ v L M hv=>ok114 (blk_ext2 (j:=0) rfl) hv) hv1) x8 ?_
 refine zc rfl (zg rfl xl (zb rfl)) xp ?_
 refine zf (zi (zk (zk (zd ?_))))
 refine zc rfl (ze rfl yS (zb rfl)) yq ?_
 refine zc rfl (zu rfl yi rfl rfl) yy ?_
 refine zf (zi ?_)
 refine zH yl hF (fun hc2 hF=>?_) (fun hc2 hF=>?_)
 ·refine zk (zd ?_)
  refine zc rfl (wR (cs':=[.str ([]:zR),.osl none 9 (([]:List GLeaf).map GLeaf.row),.osl none 3 (([]:List GNode).map GNode.row)]) rfl su74 ze74 pl74 ye .nil rfl rfl) yE ?_
  refine zc rfl (yk (cs':=[.str ([]:zR),.osl none 9 (([]:List GLeaf).map GLeaf.row),.osl none 3 (([]:List GNode).map GNode.row)]) rfl ty74.choose_spec.1 yv yC (zb rfl) rfl rfl rfl rfl rfl) rfl ?_
  refine zc rfl (zg rfl rfl (zb rfl)) xw ?_
  refine zf (zi (zJ (zA ?_)))
  obtain rfl:=Option.some.inj hF
  refine qe rfl (rl_cell ty74.choose_spec.1 yv rfl (zL (cs':=[.str ([]:zR),.osl none 9 (([]:List GLeaf).map GLeaf.row),.osl none 3 (([]:List GNode).map GNode.row)]) ty74.choose_spec.2 rfl rfl) (zb rfl) (zC yP zD)) (zz (leV.tup (.cons (leV.agg (.eq (.cons (leV.osl _ _ _) (.cons (leV.osl _ _ _) leL.nil))) rfl) (.eq leL.nil))) rfl ?_)
  exact ⟨rfl,rfl⟩
 ·refine zI (zi (zk (zd ?_)))
  refine zc rfl (ze rfl yg (zb rfl)) yG ?_
  refine zc rfl (ze rfl yS (zb rfl)) yN ?_
  refine zS hF (fun y3 hy3 hF=>?_)
  refine zc rfl (xO rfl xa yr yM wd hy3 (GNode.row_eq _)) yO ?_
  refine zc rfl (zY rfl ty74.choose_spec.1 yL (zL (cs':=[.str y3.name,.sl 9 (y3.leaves.map GLeaf.row),.sl 3 (y3.subs.map GNode.row)]) ty74.choose_spec.2 rfl rfl) (zb rfl)) yT ?_
  refine zc rfl (yk (cs':=[.str y3.name,.sl 9 (y3.leaves.map GLeaf.row),.sl 3 (y3.subs.map GNode.row)]) rfl ty74.choose_spec.1 yv yQ (zb rfl) rfl rfl rfl rfl rfl) rfl ?_
  refine zc rfl (zg rfl rfl (zb rfl)) xw ?_
  refine zf (zi (zJ ?_))
  obtain rfl:=Option.some.inj hF
  refine qe rfl (rl_cell ty74.choose_spec.1 yv rfl (zL (cs':=[.str y3.name,.sl 9 (y3.leaves.map GLeaf.row),.sl 3 (y3.subs.map GNode.row)]) ty74.choose_spec.2 rfl rfl) (zb rfl) (zC yP zD)) (zz (leV.refl _) rfl ?_)
  exact ⟨rfl,rfl⟩
/-! slices.IndexFunc[[]varve/api.Leaf,varve/api.Leaf] -/
theorem ok77 {s0:(List GLeaf)} {f1:(GLeaf→Option Bool)} {ff1:FuncId} {af1 kf1:List AV} {res:Int} {h:AH} (hf1:∀ x0 v (L:List Blk) (M:List Nat),f1 x0=some v→Spec Tryz.prog ff1 (af1++[.agg [.int .u8 x0.typ,.int .i64 x0.n,.int .u64 x0.time,.int .u8 x0.dot.actor.rep,.int .u32 x0.dot.actor.inc,.int .u64 x0.dot.seq,.str x0.text,.sl 5 (x0.items.map GItem.row),.sl 3 (x0.tombs.map GDot.row)]]++kf1) (h.ext L M) (fun rr hh=>rr=.bool v∧hh=h.ext L M)) (hF:wV s0 f1=some res):Spec Tryz.prog 77 [.sl 9 (s0.map GLeaf.row),.fn (.func ff1) af1 kf1] h (fun rr hh=>rr=.int .i64 res∧hh=h):=by
 unfold wV at hF
 refine yp Tryz.func77 rfl (by kernel_rfl) (env:=[.sl 9 (s0.map GLeaf.row),.fn (.func ff1) af1 kf1,za,za,za,za,za,za,za,za,za,za,za,za,za,za,za,za,za]) (by rfl) (fun hlow hC=>?_)
 simp only [yj,AV.low,Bool.and_eq_true,Bool.true_and,and_true] at hlow
 have hlaf1:∀ n m,h.blks.length≤n→h.toks.length≤m→yj n m af1=true:=fun n m h1 h2=>yR h1 h2 _ (by simp [hlow])
 have hlkf1:∀ n m,h.blks.length≤n→h.toks.length≤m→yj n m kf1=true:=fun n m h1 h2=>yR h1 h2 _ (by simp [hlow])
 refine zk (zd ?_)
 refine zc rfl (zg rfl rfl (zb rfl)) yD ?_
 refine zf (zi (zk (zk (zd ?_))))
 refine zc rfl (ze rfl yg (zb rfl)) xp ?_
 refine z7 rfl (zQ rfl rfl rfl rfl wr yS z0) xK fun hn1=>?_
 replace hn1:=xg hn1
 refine zc rfl (ze rfl rfl (zb rfl)) xH ?_
 refine zf (zi (zO ?_))
 refine ym (fun (n1:Nat) (s1:Unit)=>yB [2,3,4,5,6,9,10,11,12,13,14,15,16,17,18] [(8,.int .i64 (n1:Int))]) (fun s1=>h.ext [] []) hF (fun _ _=>by simp only [yB,qw,List.set_cons_succ,List.set_cons_zero];try rfl) (wk.le (by exact (.eq (.eq (.d4 (.drop (.eq (.cons (leV.of_eq rfl) (.d4 (.d4 (.drop (.drop leL.nil)))))))))))) ?_
 intro n1 s1 hi1 hF
 refine zk (zd ?_)
 refine zc rfl (zu rfl yV xn rfl) x8 ?_
 refine zf (zi (zk ?_))
 refine yJ xl hF (fun x1 o1 hl1 hx1 hF hK1=>?_) (fun hF=>?_)
 ·refine zI (zi (zk (zO (zk (zd ?_)))))
  refine zc rfl (ze rfl yV (zb rfl)) yq ?_
  refine zc rfl (zg rfl yi (zb rfl)) xw ?_
  refine zf (zi (zk (zd ?_)))
  refine zc rfl (ze rfl yw (zb rfl)) yy ?_
  refine zc rfl (ze rfl yg (zb rfl)) yE ?_
  refine zc rfl (ze rfl yP (zb rfl)) yG ?_
  refine zc rfl (yd rfl wr yC yr wd (yA hx1)) yN ?_
  refine zc rfl (zY rfl ty58.choose_spec.1 yM (zL (cs':=[.int .u8 x1.typ,.int .i64 x1.n,.int .u64 x1.time,.int .u8 x1.dot.actor.rep,.int .u32 x1.dot.actor.inc,.int .u64 x1.dot.seq,.str x1.text,.sl 5 (x1.items.map GItem.row),.sl 3 (x1.tombs.map GDot.row)]) ty58.choose_spec.2 rfl rfl) (zb rfl)) yO ?_
  refine zS hF (fun v7 hv7 hF=>?_)
  refine zM rfl (s_callC rfl rfl yl (zo yL zy) (.cons (zb rfl) .nil) rfl) (hf1 _ _ _ _ hv7) yT ?_
  refine zf (zi ?_)
  refine zH yQ hF (fun hc8 hF=>?_) (fun hc8 hF=>?_)
  ·refine zk (zd ?_)
   refine zc rfl (ze rfl yP (zb rfl)) yZ ?_
   refine zc rfl (zg rfl yY (zb rfl)) yD ?_
   refine zf (zi (zJ ?_))
   refine zF ?_
   refine zA ?_
   refine yf ?_
   obtain rfl:=Option.some.inj hF
   replace hF:=hK1
   refine zF ?_
   refine zA ?_
   obtain rfl:=Option.some.inj hF
   refine zB rfl (zC yv zD) (zz (leV.refl _) rfl ?_)
   exact ⟨rfl,rfl⟩
  ·refine zI (yb (zi (zd ?_)))
   refine zc rfl (zu rfl yV rfl rfl) xd ?_
   refine zc rfl (ze rfl xb (zb rfl)) xH ?_
   refine zf (yu ?_)
   obtain rfl:=Option.some.inj hF
   exact ⟨(),hl1,hK1,wk.le (by exact (.eq (.eq (.d4 (.drop (.eq (.cons (leV.of_eq (wx (by omega) (by omega))) (.d4 (.d4 (.drop (.drop leL.nil)))))))))))⟩
 ·refine yF ?_
  refine zX ?_
  refine zU ?_
  refine zV ?_
  refine zi (zk (zd ?_))
  refine zc rfl (zg rfl rfl (zb rfl)) yD ?_
  refine zf (zi (zJ ?_))
  obtain rfl:=Option.some.inj hF
  refine zB rfl (zC yv zD) (zz (leV.refl _) rfl ?_)
  exact ⟨rfl,rfl⟩
/-! varve/tree.Leaf 1 -/
theorem ok78 {l0:GLeaf} {c0:Int} {i0:Nat} {res:Bool} {h:AH} (hb0:h.blk i0=some (.cells [.int .u8 c0])) (hF:treeLeafC1 l0 c0=some res):Spec Tryz.prog 78 [.agg [.int .u8 l0.typ,.int .i64 l0.n,.int .u64 l0.time,.int .u8 l0.dot.actor.rep,.int .u32 l0.dot.actor.inc,.int .u64 l0.dot.seq,.str l0.text,.sl 5 (l0.items.map GItem.row),.sl 3 (l0.tombs.map GDot.row)],.ptr i0 0] h (fun rr hh=>rr=.bool res∧hh=h):=by
 unfold treeLeafC1 at hF
 refine zt Tryz.func78 rfl (by kernel_rfl) (env:=[.agg [.int .u8 l0.typ,.int .i64 l0.n,.int .u64 l0.time,.int .u8 l0.dot.actor.rep,.int .u32 l0.dot.actor.inc,.int .u64 l0.dot.seq,.str l0.text,.sl 5 (l0.items.map GItem.row),.sl 3 (l0.tombs.map GDot.row)],.ptr i0 0,za,za,za,za,za,za]) (by rfl) ?_
 refine zk (zd ?_)
 refine zc rfl (xy (n:=0) rfl yg (zb rfl) rfl rfl) yH ?_
 refine zc rfl (zg rfl rfl (zb rfl)) xS ?_
 refine zf (zi (zk (zd ?_)))
 refine zc rfl (zj rfl wU yz rfl) yD ?_
 refine zc rfl (zw rfl vb yv rfl (zr rfl) (zb rfl)) xw ?_
 refine zc rfl (b_load rfl vb yw hb0 (zr rfl) (zb rfl)) xp ?_
 refine zc rfl (zu rfl yP yS rfl) xK ?_
 refine zc rfl (zg rfl xn (zb rfl)) xS ?_
 refine zf (zi (zJ ?_))
 obtain rfl:=Option.some.inj hF
 refine zB rfl (zC yX zD) (zz (leV.refl _) rfl ?_)
 exact ⟨rfl,rfl⟩
/-! varve/leaf.New -/
theorem ok79 {kind0:Int} {res:GLeaf} {h:AH}  (hF:leafNew kind0=some res):Spec Tryz.prog 79 [.int .u8 kind0] h (fun rr hh=>rr=.agg [.int .u8 res.typ,.int .i64 res.n,.int .u64 res.time,.int .u8 res.dot.actor.rep,.int .u32 res.dot.actor.inc,.int .u64 res.dot.seq,.str res.text,.sl 5 (res.items.map GItem.row),.sl 3 (res.tombs.map GDot.row)]∧hh=h):=by
 unfold leafNew at hF
 refine zt Tryz.func79 rfl (by kernel_rfl) (env:=[.int .u8 kind0,za,za,za,za,za,za,za,za,za,za,za]) (by rfl) ?_
 refine zk (zd ?_)
 refine zc rfl (xf (n:=0) rfl ze58 rfl) yH ?_
 refine zf (zi (zk (zk (zd ?_))))
 refine zc rfl (ze rfl yg (zb rfl)) xS ?_
 refine zc rfl (zu rfl yX rfl rfl) yD ?_
 refine zc rfl (ze rfl yv (zb rfl)) xw ?_
 refine zp rfl (fun hb=>ze rfl yg (zb rfl)) xp ?_
 refine zp rfl (fun hb=>zu rfl (zn yS hb) rfl rfl) xK ?_
 refine zc rfl (zG rfl yP rfl xn (zZ (fun ht=>gF ht))) xH ?_
 refine zf (zi ?_)
 refine zH yV hF (fun hc1 hF=>?_) (fun hc1 hF=>?_)
 ·refine zk (zd ?_)
  refine zc rfl (wR (cs':=[.int .u8 (0:Int),.int .i64 (0:Int),.int .u64 (0:Int),.int .u8 (0:Int),.int .u32 (0:Int),.int .u64 (0:Int),.str ([]:zR),.osl none 5 (([]:List GItem).map GItem.row),.osl none 3 (([]:List GDot).map GDot.row)]) rfl su58 ze58 pl58 ye .nil rfl rfl) x8 ?_
  refine zc rfl (yk (cs':=[.int .u8 (0:Int),.int .i64 (0:Int),.int .u64 (0:Int),.int .u8 (0:Int),.int .u32 (0:Int),.int .u64 (0:Int),.str ([]:zR),.osl none 5 (([]:List GItem).map GItem.row),.osl none 3 (([]:List GDot).map GDot.row)]) rfl ty58.choose_spec.1 yz xl (zb rfl) rfl rfl rfl rfl rfl) rfl ?_
  refine zf (zi (zJ (zA ?_)))
  obtain rfl:=Option.some.inj hF
  refine zB rfl (rl_cell ty58.choose_spec.1 yz rfl (zL (cs':=[.int .u8 (0:Int),.int .i64 (0:Int),.int .u64 (0:Int),.int .u8 (0:Int),.int .u32 (0:Int),.int .u64 (0:Int),.str ([]:zR),.osl none 5 (([]:List GItem).map GItem.row),.osl none 3 (([]:List GDot).map GDot.row)]) ty58.choose_spec.2 rfl rfl) (zb rfl) zD) (zz (leV.agg (.eq (.eq (.eq (.eq (.eq (.eq (.eq (.cons (leV.osl _ _ _) (.cons (leV.osl _ _ _) leL.nil))))))))) rfl) rfl ?_)
  exact ⟨rfl,rfl⟩
 ·refine zI (zi (zk (zd ?_)))
  refine zc rfl (ze rfl yg (zb rfl)) yq ?_
  refine zc rfl (wR (cs':=[.int .u8 kind0,.int .i64 (0:Int),.int .u64 (0:Int),.int .u8 (0:Int),.int .u32 (0:Int),.int .u64 (0:Int),.str ([]:zR),.osl none 5 (([]:List GItem).map GItem.row),.osl none 3 (([]:List GDot).map GDot.row)]) rfl su58 ze58 pl58 (zT yi ye) (.cons (zb rfl) .nil) rfl rfl) yy ?_
  refine zc rfl (yk (cs':=[.int .u8 kind0,.int .i64 (0:Int),.int .u64 (0:Int),.int .u8 (0:Int),.int .u32 (0:Int),.int .u64 (0:Int),.str ([]:zR),.osl none 5 (([]:List GItem).map GItem.row),.osl none 3 (([]:List GDot).map GDot.row)]) rfl ty58.choose_spec.1 yz yl (zb rfl) rfl rfl rfl rfl rfl) rfl ?_
  refine zf (zi (zJ ?_))
  obtain rfl:=Option.some.inj hF
  refine zB rfl (rl_cell ty58.choose_spec.1 yz rfl (zL (cs':=[.int .u8 kind0,.int .i64 (0:Int),.int .u64 (0:Int),.int .u8 (0:Int),.int .u32 (0:Int),.int .u64 (0:Int),.str ([]:zR),.osl none 5 (([]:List GItem).map GItem.row),.osl none 3 (([]:List GDot).map GDot.row)]) ty58.choose_spec.2 rfl rfl) (zb rfl) zD) (zz (leV.agg (.eq (.eq (.eq (.eq (.eq (.eq (.eq (.cons (leV.osl _ _ _) (.cons (leV.osl _ _ _) leL.nil))))))))) rfl) rfl ?_)
  exact ⟨rfl,rfl⟩
/-! varve/tree.Leaf -/
theorem ok48 {t0:(List GNode)} {path1:(List zR)} {kind2:Int} {res:(GLeaf×Bool)} {h:AH}  (hF:treeLeaf t0 path1 kind2=some res):Spec Tryz.prog 48 [.sl 3 (t0.map GNode.row),.sl 1 (path1.map zK),.int .u8 kind2] h (fun rr hh=>rr=.tup [.agg [.int .u8 res.1.typ,.int .i64 res.1.n,.int .u64 res.1.time,.int .u8 res.1.dot.actor.rep,.int .u32 res.1.dot.actor.inc,.int .u64 res.1.dot.seq,.str res.1.text,.sl 5 (res.1.items.map GItem.row),.sl 3 (res.1.tombs.map GDot.row)],.bool res.2]∧hh=h):=by
 unfold treeLeaf at hF
 refine zt Tryz.func48 rfl (by kernel_rfl) (env:=[.sl 3 (t0.map GNode.row),.sl 1 (path1.map zK),.int .u8 kind2,za,za,za,za,za,za,za,za,za,za,za,za,za,za,za,za,za,za,za,za,za,za,za,za,za,za,za,za,za,za,za,za,za,za,za,za,za,za,za,za,za,za,za,za,za,za,za,za,za,za,za,za,za,za,za,za,za,za,za,za,za,za,za]) (by rfl) ?_
 refine zk (zd ?_)
 refine zc rfl (xy (n:=0) rfl yz (zb rfl) rfl rfl) xw ?_
 refine zc rfl (xf (n:=1) rfl ze58 rfl) xp ?_
 refine zc rfl (zg rfl rfl (zb rfl)) xK ?_
 refine zf (zi (zk (zd ?_)))
 refine zc rfl (xf (n:=2) rfl ze74 rfl) xH ?_
 refine zf (zi (zk (zd ?_)))
 refine zc rfl (ze rfl yw (zb rfl)) yN ?_
 refine z7 rfl (zQ rfl rfl rfl rfl xc yM z0) yO fun hn1=>?_
 replace hn1:=xg hn1
 refine zc rfl (zu rfl yL rfl rfl) yT ?_
 refine zc rfl (zg rfl yQ (zb rfl)) x8 ?_
 refine zf (zi ?_)
 refine r_join (fun (s1:Bool×zR×(List GLeaf)×(List GNode))=>yB [0,1,2,3,4,7,10,11,12,13,14,15,16,17,18,19,20,21,22,23,24,25,26,27,28,29,30,31,32,33,34,35,36,37,38,39,40,41,42,43,44,45,46,47,48,49,50,51,52,53,54,55,56,57,58,59,60,61,62,63,64,65] [(9,.bool s1.1)]) (fun s1=>h.ext [.cells [.int .u8 kind2],.cells [.int .u8 (0:Int),.int .i64 (0:Int),.int .u64 (0:Int),.int .u8 (0:Int),.int .u32 (0:Int),.int .u64 (0:Int),.str ([]:zR),.osl none 5 (([]:List GItem).map GItem.row),.osl none 3 (([]:List GDot).map GDot.row)],.cells [.str s1.2.1,.sl 9 (s1.2.2.1.map GLeaf.row),.sl 3 (s1.2.2.2.map GNode.row)]] []) hF (fun _=>by simp only [yB,qw,List.set_cons_succ,List.set_cons_zero];try rfl) (fun o1 hF hK1=>?_) (fun s1 hF=>?_)
 ·refine zk (zd ?_)
  refine zc rfl (ze rfl yw (zb rfl)) yZ ?_
  refine z7 rfl (zQ rfl rfl rfl rfl xc yY z0) xd fun hn26=>?_
  replace hn26:=xg hn26
  refine zc rfl (ze rfl rfl (zb rfl)) xi ?_
  refine zf (zi (zO ?_))
  refine ym (fun (n2:Nat) (s2:(List GNode)×Bool×zR×(List GLeaf)×(List GNode))=>yB [1,2,3,4,7,10,11,12,13,14,15,16,20,21,22,23,24,25,26,27,28,29,30,31,32,33,34,35,36,37,38,39,40,41,42,43,44,45,46,47,48,49,50,51,52,53,54,55,56,57,58,59,60,61,62,63,64,65] [(0,.sl 3 (s2.1.map GNode.row)),(9,.bool s2.2.1),(19,.int .i64 (n2:Int))]) (fun s2=>h.ext [.cells [.int .u8 kind2],.cells [.int .u8 (0:Int),.int .i64 (0:Int),.int .u64 (0:Int),.int .u8 (0:Int),.int .u32 (0:Int),.int .u64 (0:Int),.str ([]:zR),.osl none 5 (([]:List GItem).map GItem.row),.osl none 3 (([]:List GDot).map GDot.row)],.cells [.str s2.2.2.1,.sl 9 (s2.2.2.2.1.map GLeaf.row),.sl 3 (s2.2.2.2.2.map GNode.row)]] []) hF (fun _ _=>by simp only [yB,qw,List.set_cons_succ,List.set_cons_zero];try rfl) (wk.trans (wk_leB (j:=2) rfl (by exact (.eq (.cons (leV.osl _ _ _) (.cons (leV.osl _ _ _) leL.nil)))) rfl rfl) (wk.le (by exact (.cons (leV.of_eq rfl) (.d4 (.eq (.eq (.drop (.eq (.cons (leV.of_eq rfl) (.d4 (.drop (.drop (.drop (.eq (.eq (.cons (leV.of_eq rfl) (.d16 (.d16 (.d4 (.d4 (.d4 (.drop (.drop leL.nil)))))))))))))))))))))))) ?_
  intro n2 s2 hi2 hF
  refine zk (zd ?_)
  refine zc rfl (zu rfl xh xb rfl) xA ?_
  refine zf (zi (zk ?_))
  refine yJ xz hF (fun x2 o2 hl2 hx2 hF hK2=>?_) (fun hF=>?_)
  ·refine zI (zi (zk (zO (zk (zd ?_)))))
   refine zc rfl (yd rfl xc yY xh wd (yA hx2)) xE ?_
   refine zc rfl (zY rfl vt xB (zr rfl) (zb rfl)) xI ?_
   refine zc rfl (zg rfl xF (zb rfl)) yy ?_
   refine zf (zi (zk (zk (zd ?_))))
   refine zc rfl (ze rfl yg (zb rfl)) xM ?_
   refine zc rfl (ze rfl yl (zb rfl)) wa ?_
   refine zS hF (fun v47 hv47 hF=>?_)
   refine zM rfl (zE rfl rfl rfl (zo xN (zo x9 zy)) (.cons (zb rfl) (.cons (zb rfl) .nil))) (ok76 hv47) wi ?_
   refine zc rfl (ze rfl wh (zb rfl)) xD ?_
   refine zc rfl (xe rfl xu rfl (zb rfl)) wj ?_
   refine zc rfl (xe rfl xu rfl (zb rfl)) wn ?_
   refine zc rfl (yk (cs':=[.str v47.1.name,.sl 9 (v47.1.leaves.map GLeaf.row),.sl 3 (v47.1.subs.map GNode.row)]) rfl ty74.choose_spec.1 yV wm (zb rfl) rfl rfl rfl rfl rfl) rfl ?_
   refine zc rfl (zg rfl wl (zb rfl)) x8 ?_
   refine zf (zi (zk (zd ?_)))
   refine zc rfl (ze rfl xl (zb rfl)) wD ?_
   refine zc rfl (xV rfl wz rfl) wC ?_
   refine zf (zi ?_)
   refine zH wM hF (fun hc48 hF=>?_) (fun hc48 hF=>?_)
   ·refine yF ?_
    refine zX ?_
    refine q_block_miss (by decide) ?_
    refine zX ?_
    refine zU ?_
    obtain rfl:=Option.some.inj hF
    replace hF:=hK2
    refine zV ?_
    refine q_join ?_
    obtain rfl:=Option.some.inj hF
    exact ⟨(v47.2,v47.1.name,v47.1.leaves,v47.1.subs),hK1,wk.le (by exact (.d4 (.drop (.eq (.eq (.drop (.eq (.cons (leV.of_eq rfl) (.d16 (.d16 (.d16 (.d4 (.d4 leL.nil)))))))))))))⟩
   ·refine zI (zi (zd ?_))
    refine zc rfl (zj rfl q8 yV rfl) wI ?_
    refine zc rfl (zw rfl ty28 wL rfl (zr rfl) (zb rfl)) wH ?_
    refine zc rfl (zg rfl wy (zb rfl)) qP ?_
    refine zf (yb (zi (zd ?_)))
    refine zc rfl (zu rfl xh rfl rfl) wP ?_
    refine zc rfl (ze rfl wT (zb rfl)) xi ?_
    refine zf (yu ?_)
    obtain rfl:=Option.some.inj hF
    exact ⟨(v47.1.subs,v47.2,v47.1.name,v47.1.leaves,v47.1.subs),hl2,hK2,wk.le (by exact (.cons (leV.of_eq rfl) (.d4 (.eq (.eq (.drop (.eq (.cons (leV.of_eq rfl) (.d4 (.drop (.drop (.drop (.eq (.eq (.cons (leV.of_eq (wx (by omega) (by omega))) (.d16 (.d16 (.d4 (.d4 (.d4 (.drop (.drop leL.nil))))))))))))))))))))))⟩
  ·refine yF ?_
   refine zX ?_
   refine zU ?_
   refine zV ?_
   refine q_join ?_
   obtain rfl:=Option.some.inj hF
   exact ⟨(s2.2.1,s2.2.2.1,s2.2.2.2.1,s2.2.2.2.2),hK1,wk.le (by exact (.d4 (.drop (.eq (.eq (.drop (.eq (.cons (leV.of_eq rfl) (.d16 (.d16 (.d16 (.d4 (.d4 leL.nil)))))))))))))⟩
 ·refine zk (zd ?_)
  refine zc rfl (zj rfl xX yV rfl) wO ?_
  refine zc rfl (zw rfl qk wK rfl (zr rfl) (zb rfl)) wN ?_
  refine zc rfl (qS rfl rfl rfl) wG ?_
  refine zS hF (fun v49 hv49 hF=>?_)
  refine zM rfl (zE rfl rfl rfl (zo wS (zo wu zy)) (.cons (zb rfl) (.cons (zb rfl) .nil))) (ok77 (fun _ v L M hv=>ok78 (blk_ext2 (j:=0) rfl) hv) hv49) wF ?_
  refine zc rfl (zg rfl wJ (zb rfl)) yE ?_
  refine zf (zi (zk (zk (zd ?_))))
  refine zc rfl (ze rfl xl (zb rfl)) wZ ?_
  refine zc rfl (xV rfl w6 rfl) wY ?_
  refine zc rfl (ze rfl w5 (zb rfl)) (sk qP) ?_
  refine zp rfl (fun hb=>ze rfl yC (zb rfl)) (sk qI) ?_
  refine zp rfl (fun hb=>zu rfl (zn (gk yw) hb) rfl rfl) (sk yH) ?_
  refine zc rfl (zG rfl (gk yg) rfl (gk yz) (zZ (fun ht=>gF ht))) (sk xS) ?_
  refine zc rfl (ze rfl (gk yX) (zb rfl)) (sk yD) ?_
  refine zp rfl (fun hb=>zw rfl vb yP rfl (zr rfl) (zb rfl)) (sk xw) ?_
  refine yn hF (fun v50 hv50 hF=>?_)
  refine z8 rfl (fun hb=>zE rfl rfl rfl (zo (zn (gk yP) hb) zy) (.cons (zb rfl) .nil)) (fun hb=>ok79 (hv50 hb)) (sk xp) ?_
  refine zp rfl (fun hb=>s_field rfl wU vb (zn (gk yS) hb) rfl (zb rfl)) (sk xK) ?_
  refine zp rfl (fun hb=>zu rfl (zn (gk xn) hb) rfl rfl) (sk xH) ?_
  refine zc rfl (zG rfl (gk yv) rfl (gk yV) (zZ (fun ht=>gF ht))) (sk x8) ?_
  refine zf (zi ?_)
  refine zH (gk xl) hF (fun hc51 hF=>?_) (fun hc51 hF=>?_)
  ·refine zk (zd ?_)
   refine zc rfl (zw rfl vb yP rfl (zr rfl) (zb rfl)) (sk yq) ?_
   refine zS hF (fun v52 hv52 hF=>?_)
   refine zM rfl (zE rfl rfl rfl (zo (gk yi) zy) (.cons (zb rfl) .nil)) (ok79 hv52) (sk yy) ?_
   refine zc rfl (yk (cs':=[.int .u8 v52.typ,.int .i64 v52.n,.int .u64 v52.time,.int .u8 v52.dot.actor.rep,.int .u32 v52.dot.actor.inc,.int .u64 v52.dot.seq,.str v52.text,.sl 5 (v52.items.map GItem.row),.sl 3 (v52.tombs.map GDot.row)]) rfl ty58.choose_spec.1 yS (gk yl) (zb rfl) rfl rfl rfl rfl rfl) rfl ?_
   refine zc rfl (zg rfl rfl (zb rfl)) xK ?_
   refine zf (zi (zJ (zA ?_)))
   obtain rfl:=Option.some.inj hF
   refine qe rfl (rl_cell ty58.choose_spec.1 yS rfl (zL (cs':=[.int .u8 v52.typ,.int .i64 v52.n,.int .u64 v52.time,.int .u8 v52.dot.actor.rep,.int .u32 v52.dot.actor.inc,.int .u64 v52.dot.seq,.str v52.text,.sl 5 (v52.items.map GItem.row),.sl 3 (v52.tombs.map GDot.row)]) ty58.choose_spec.2 rfl rfl) (zb rfl) (zC xn zD)) (zz (leV.refl _) rfl ?_)
   exact ⟨rfl,rfl⟩
  ·refine zI (zi (zk (zd ?_)))
   refine zc rfl (zj rfl xX yV rfl) (sk yE) ?_
   refine zc rfl (zw rfl qk (gk yC) rfl (zr rfl) (zb rfl)) (sk yG) ?_
   refine zc rfl (ze rfl yC (zb rfl)) (sk yN) ?_
   refine zS hF (fun y53 hy53 hF=>?_)
   refine zc rfl (yd rfl wr (gk yr) (gk yM) wd hy53) (sk yO) ?_
   refine zc rfl (zY rfl ty58.choose_spec.1 (gk yL) (zL (cs':=[.int .u8 y53.typ,.int .i64 y53.n,.int .u64 y53.time,.int .u8 y53.dot.actor.rep,.int .u32 y53.dot.actor.inc,.int .u64 y53.dot.seq,.str y53.text,.sl 5 (y53.items.map GItem.row),.sl 3 (y53.tombs.map GDot.row)]) ty58.choose_spec.2 rfl rfl) (zb rfl)) (sk yT) ?_
   refine zc rfl (xf (n:=3) rfl ze58 rfl) yG ?_
   refine zc rfl (yk (cs':=[.int .u8 y53.typ,.int .i64 y53.n,.int .u64 y53.time,.int .u8 y53.dot.actor.rep,.int .u32 y53.dot.actor.inc,.int .u64 y53.dot.seq,.str y53.text,.sl 5 (y53.items.map GItem.row),.sl 3 (y53.tombs.map GDot.row)]) rfl ty58.choose_spec.1 yr (gk yQ) (zb rfl) rfl rfl rfl rfl rfl) rfl ?_
   refine zf (zi (zk ?_))
   refine yI [] [] trivial mixed (by kernel_rfl) ?_
   refine zq rfl rfl (zj rfl w7 yr rfl) (sk yZ) ?_
   refine zq rfl rfl (zw rfl ty56 (gk yY) rfl (zr rfl) (zb rfl)) (sk xd) ?_
   refine zS hF (fun v54 hv54 hF=>?_)
   refine qt rfl FOk.nil (by rfl) rfl (zE rfl rfl rfl (zo (gk xb) zy) (.cons (zb rfl) .nil)) (own_ext (T':=[(v54).length]) (ok80 hv54) (m:=0) rfl rfl) (sk xi) ?_
   refine zq rfl rfl (zj rfl vz yr rfl) (sk xA) ?_
   refine zq rfl rfl (zw rfl qL (gk xz) rfl (zr rfl) (zb rfl)) (sk xE) ?_
   refine zS hF (fun v55 hv55 hF=>?_)
   refine qt rfl FOk.nil (by rfl) rfl (zE rfl rfl rfl (zo (gk xB) zy) (.cons (zb rfl) .nil)) (own_ext (T':=[(v54).length,(v55).length]) (ok81 hv55) (m:=1) rfl rfl) (sk xI) ?_
   refine zq rfl rfl (zj rfl w7 yr rfl) (sk xD) ?_
   refine wq rfl FOk.nil (by kernel_rfl) rfl (yk (cs':=[.int .u8 y53.typ,.int .i64 y53.n,.int .u64 y53.time,.int .u8 y53.dot.actor.rep,.int .u32 y53.dot.actor.inc,.int .u64 y53.dot.seq,.str y53.text,.osl (some (h.toks.length+0)) 5 (v54.map GItem.row),.sl 3 (y53.tombs.map GDot.row)]) rfl ty56 (gk xu) (gk xh) (zb rfl) rfl rfl rfl rfl rfl) rfl ?_
   refine zq rfl rfl (zj rfl vz yr rfl) (sk xM) ?_
   refine wq rfl FOk.nil (by kernel_rfl) rfl (yk (cs':=[.int .u8 y53.typ,.int .i64 y53.n,.int .u64 y53.time,.int .u8 y53.dot.actor.rep,.int .u32 y53.dot.actor.inc,.int .u64 y53.dot.seq,.str y53.text,.osl (some (h.toks.length+0)) 5 (v54.map GItem.row),.osl (some (h.toks.length+1)) 3 (v55.map GDot.row)]) rfl qL (gk xN) (gk xF) (zb rfl) rfl rfl rfl rfl rfl) rfl ?_
   refine yo ?_
   refine zi (zk (zd ?_))
   refine zc rfl (zw rfl ty58.choose_spec.1 yr rfl (zL (cs':=[.int .u8 y53.typ,.int .i64 y53.n,.int .u64 y53.time,.int .u8 y53.dot.actor.rep,.int .u32 y53.dot.actor.inc,.int .u64 y53.dot.seq,.str y53.text,.osl (some (h.toks.length+0)) 5 (v54.map GItem.row),.osl (some (h.toks.length+1)) 3 (v55.map GDot.row)]) ty58.choose_spec.2 rfl rfl) (zb rfl)) (sk wa) ?_
   refine zc rfl (yk (cs':=[.int .u8 y53.typ,.int .i64 y53.n,.int .u64 y53.time,.int .u8 y53.dot.actor.rep,.int .u32 y53.dot.actor.inc,.int .u64 y53.dot.seq,.str y53.text,.osl (some (h.toks.length+0)) 5 (v54.map GItem.row),.osl (some (h.toks.length+1)) 3 (v55.map GDot.row)]) rfl ty58.choose_spec.1 yS (gk x9) (zb rfl) rfl rfl rfl rfl rfl) rfl ?_
   refine zc rfl (zg rfl rfl (zb rfl)) xK ?_
   refine zf (zi (zJ ?_))
   obtain rfl:=Option.some.inj hF
   refine qe rfl (rl_cell ty58.choose_spec.1 yS rfl (zL (cs':=[.int .u8 y53.typ,.int .i64 y53.n,.int .u64 y53.time,.int .u8 y53.dot.actor.rep,.int .u32 y53.dot.actor.inc,.int .u64 y53.dot.seq,.str y53.text,.osl (some (h.toks.length+0)) 5 (v54.map GItem.row),.osl (some (h.toks.length+1)) 3 (v55.map GDot.row)]) ty58.choose_spec.2 rfl rfl) (zb rfl) (zC xn zD)) (zz (leV.tup (.cons (leV.agg (.eq (.eq (.eq (.eq (.eq (.eq (.eq (.cons (leV.osl _ _ _) (.cons (leV.osl _ _ _) leL.nil))))))))) rfl) (.eq leL.nil))) rfl ?_)
   exact ⟨rfl,rfl⟩
end Go.Vv
