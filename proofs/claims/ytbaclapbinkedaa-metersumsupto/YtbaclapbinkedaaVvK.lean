/- The abstract step is sound: every operation. -/
import Derived.Test.YtbaclapbinkedaaVvJ
import Derived.Lib.OthersKept
namespace Go.Vv
open Go Go.RowKit Go.Lib
section
variable {P:Program} {w:World} {g:Gh} {h:AH} {B:Nat} {w0:World}

theorem stay {a:Act} {o:Oper} (r:Rel B w0 g h w) {v:AV} {u:Value} (h1:(execOp a.eval o).run P w=.ok (.value u) w) (h2:V g v u):qn P B w0 g a o w v h:=⟨u,w,g,.inl h1,Gh.le.refl g,r,h2⟩

theorem recv_sound (r:Rel B w0 g h w) {t:TypeId} {v b:AV} {u:Value} {name:String} {f:FuncId} (hr:aRecv P h t v name=some (f,b)) (hv:V g v u) (args:Array Value) :
  ∃ x,(callMethod (.iface t u) name args).run P w=(callFunc f (#[x]++args)).run P w∧V g b x:=by
 unfold aRecv at hr
 split at hr
 case h_2=>cases hr
 rename_i i hi
 split at hr
 case h_2=>cases hr
 rename_i m hm
 split at hr
 case isFalse=>cases hr
 rename_i hp
 have hp':m.path=#[]:=by simpa using hp
 rw [Array.find?_toList] at hm
 have key : ∀ x p, (receiverAt t (.val u) p (some ((name.splitOn ".").getLastD name))).run P w = .ok x w → m.func = some (f, p) →
   (callMethod (.iface t u) name args).run P w=(callFunc f (#[x]++args)).run P w:=fun x p hx hf=>by
  have hn:P.types.size+Made.depth=(P.types.size+99)+1:=rfl
  simp only [callMethod,Sem.run_bind,run_program,Result.andThen_ok]
  rw [hn]
  generalize P.types.size+99=n
  rw [method]
  have hti:(typeInfo t).run P w=.ok i w:=by simp [typeInfo,hi]
  simp only [Sem.run_bind,hti,Result.andThen_ok,hm,hp',hf]
  have h0:(follow (#[]:Array FieldStep).toList t (.val u)).run P w=.ok (t,.val u) w:=rfl
  simp only [Sem.run_bind,h0,Result.andThen_ok]
  have h1:((#[]:Array FieldStep).isEmpty)=true:=rfl
  simp only [h1,if_true,Sem.run_bind,hx,Result.andThen_ok,Sem.run_pure]
 split at hr
 case h_2=>cases hr
 rename_i f' p hf
 split at hr
 ·rename_i e ht
  simp only [Option.some.injEq,Prod.mk.injEq] at hr
  obtain ⟨rfl,rfl⟩:=hr
  exact ⟨u,key u _ (by simp [receiverAt,run_underlying ht,Place.get]) hf,hv⟩
 ·rename_i e ht
  split at hr
  ·rename_i id off d j hd hj
   rw [Option.map_eq_some_iff] at hr
   obtain ⟨x,hx,hr⟩:=hr
   simp only [Prod.mk.injEq] at hr
   obtain ⟨rfl,rfl⟩:=hr
   obtain ⟨y,h1,h2⟩:=load_sound r hd hj hv hx
   simp only [V] at hv
   obtain ⟨c,hc,rfl⟩:=hv
   refine ⟨y,key y _ ?_ hf,h2.tyfix⟩
   simp only [Instr.loadAt,Instr.sureAddr] at h1
   have hw : ∀ nm, (Builtin.ssaWrapNilChk_ #[t] t #[.pointer (some ⟨c, off, none⟩), strVal "", strVal nm]).run P w = .ok (.pointer (some ⟨c, off, none⟩)) w := fun _ => rfl
   simp only [receiverAt,Sem.run_bind,run_underlying ht,Result.andThen_ok,Place.get,Sem.run_pure,hw,asAddr]
   simpa using h1
  ·cases hr
 ·rename_i d hne ht
  simp only [Option.some.injEq,Prod.mk.injEq] at hr
  obtain ⟨rfl,rfl⟩:=hr
  refine ⟨u,key u _ ?_ hf,hv⟩
  simp only [receiverAt,Sem.run_bind,run_underlying ht,Result.andThen_ok]
  simp [Place.get]
 ·cases hr
theorem astep_fits (r:Rel B w0 g h w) {a:Act} {env:List AV} (he:VL g env a.tmps.toList) (o:Oper):Fits P B w0 g a o w (zN P o env h):=by
 unfold zN
 split
 ·-- move
  rename_i x ho
  split
  ·rename_i hok;exact stay r (by simp [execOp,ho]) (V.ev he hok).tyfix
  ·trivial
 ·-- assign
  rename_i x ho
  split
  ·rename_i hok;exact stay r (by simp [execOp,ho]) (V.ev he hok).tyfix
  ·trivial
 ·-- pick
  rename_i c x y ho
  split
  ·rename_i hok
   simp only [Bool.and_eq_true] at hok
   split
   ·rename_i t ht
    have hc:=V.ev he hok.2
    rw [ht] at hc
    simp only [V] at hc
    refine stay r (u:=if t then a.eval x else a.eval y) (by simp [execOp,ho,hc,asBool]) ?_
    cases t
    ·exact V.ev he hok.1.2
    ·exact V.ev he hok.1.1
   ·trivial
  ·trivial
 ·-- alloc
  rename_i t ho
  split
  ·rename_i cs hz
   obtain ⟨i,z,hi,hzz,hva⟩:=qB (g:=g) hz
   have hsl:=r.slen
   refine ⟨.pointer (some ⟨w.heap.size,0,none⟩),w.alloc (.cells z.cells t),g.addS w.heap.size,.inl ?_,g.le_addS _,r.newCells t hva,?_⟩
   ·simp [execOp,ho,Instr.alloc,run_zero hi hzz,newVar,newRow]
   ·simp only [V,Gh.addS]
    exact ⟨w.heap.size,by rw [← hsl];simp,rfl⟩
  ·trivial
 ·-- box
  rename_i t x ho
  split
  ·rename_i hok
   split
   ·rename_i cs hc
    have hva:=((V.ev he hok).tyfix (P:=P) (t:=t)).cells hc
    have hsl:=r.slen
    refine ⟨.pointer (some ⟨w.heap.size,0,none⟩),w.alloc (.cells (a.eval x).cells t),g.addS w.heap.size,.inl ?_,g.le_addS _,r.newCells t hva,?_⟩
    ·simp [execOp,ho,Instr.box,newVar,newRow]
    ·simp only [V,Gh.addS]
     exact ⟨w.heap.size,by rw [← hsl];simp,rfl⟩
   ·trivial
  ·trivial
 ·-- build
  rename_i t parts ho
  split
  ·rename_i hok
   have run:∀ out,(∃ u,(Instr.build t (parts.map fun (i,x)=>(i,a.eval x))).run P w=.ok u w∧V g (.agg out) u)→qn P B w0 g a o w (.agg out) h:=by
    rintro out ⟨u,h1,h2⟩
    exact stay r (by simp [execOp,ho,h1]) h2
   split
   ·rename_i fs z hu hz
    split
    ·rename_i pl hpl
     refine Fits.oo fun v hv=>?_
     rcases hf:qx (fun i=>pl[i]?) z (xQ P (.struct fs) env parts) with _ | out
     ·simp [hf] at hv
     ·simp [hf] at hv;subst hv
      exact run out (build_sound he hok hz (.inl ⟨fs,pl,hu,hpl,hf⟩))
    ·trivial
   ·rename_i n e z hu hz
    split
    ·rename_i j hj
     refine Fits.oo fun v hv=>?_
     rcases hf:qx (fun i=>some (i * j.size,j.size)) z (xQ P (.array n e) env parts) with _ | out
     ·simp [hf] at hv
     ·simp [hf] at hv;subst hv
      exact run out (build_sound he hok hz (.inr ⟨n,e,j,hu,hj,hf⟩))
    ·trivial
   ·trivial
  ·trivial
 ·-- load
  rename_i t x ho
  split
  ·rename_i d i hd hi
   refine Fits.oo fun v hv=>?_
   obtain ⟨v',hv',rfl⟩:=V.map_tyfix hv
   obtain ⟨u,h1,h2⟩:=load_sound r hd hi (p:=ev env x) (pv:=a.eval x) (by
    cases x with
    | tmp t=>exact V.ev he rfl
    | const c =>
     -- a constant is no address
     simp only [ev] at hv'
     exfalso
     unfold aLoad at hv'
     unfold cv at hv'
     split at hv' <;> first
      | (rename_i hh;split at hh <;> first | cases hh | (unfold cv1 at hh;split at hh <;> cases hh))
      | cases hv'
    | global n=>exact V.ev he rfl
    | func f=>exact V.ev he rfl) hv'
   exact stay r (by simp [execOp,ho,h1]) h2.tyfix
  ·trivial
 ·-- store
  rename_i t x y ho
  split
  ·rename_i hok
   split
   ·rename_i i hi
    rcases hs:aStore h i.size (ev env x) (tyfix P t (ev env y)) with _ | h'
    ·trivial
    ·show qn P B w0 g a o w za h'
     have hp:V g (ev env x) (a.eval x):=by
      cases x with
      | tmp t=>exact V.ev he rfl
      | const c =>
       simp only [ev] at hs
       exfalso
       unfold aStore at hs
       unfold cv at hs
       split at hs <;> first
        | (rename_i hh _;split at hh <;> first | cases hh | (unfold cv1 at hh;split at hh <;> cases hh))
        | cases hs
      | global n=>exact V.ev he rfl
      | func f=>exact V.ev he rfl
     obtain ⟨w',h1,h2⟩:=store_sound r hi hp (V.ev he hok).tyfix hs
     exact ⟨undef,w',g,.inr ⟨by simp [execOp,ho,h1],rfl⟩,Gh.le.refl g,h2,V.ofUndef⟩
   ·trivial
  ·trivial
 ·-- nilCheck
  rename_i x ho
  split
  ·rename_i hok
   have hV:=V.ev he hok
   split
   ·rename_i id off hx
    rw [hx] at hV
    have hV':=hV
    simp only [V] at hV
    obtain ⟨c,hc,hx'⟩:=hV
    exact stay r (u:=a.eval x) (by simp [execOp,ho,hx']) hV'
   ·rename_i cs hx
    rw [hx] at hV
    have hV':=hV
    simp only [V] at hV
    obtain ⟨b,oo,hx',_⟩:=hV
    exact stay r (u:=a.eval x) (by simp [execOp,ho,hx']) hV'
   ·rename_i id q k n p hx
    rw [hx] at hV
    have hV':=hV
    simp only [V] at hV
    obtain ⟨b,oo,hx',_⟩:=hV
    exact stay r (u:=a.eval x) (by simp [execOp,ho,hx']) hV'
   ·rename_i m hx
    rw [hx] at hV
    have hV':=hV
    simp only [V] at hV
    obtain ⟨b,oo,s,hx',_⟩:=hV
    exact stay r (u:=a.eval x) (by simp [execOp,ho,hx']) hV'
   ·rename_i f as bs hx
    rw [hx] at hV
    have hV':=hV
    simp only [V] at hV
    obtain ⟨fs,cs,hx',_⟩:=hV
    exact stay r (u:=a.eval x) (by simp [execOp,ho,hx']) hV'
   ·trivial
  ·trivial
 ·-- binOp
  rename_i op t x y yt ho
  split
  ·rename_i hok
   simp only [Bool.and_eq_true] at hok
   split
   ·rename_i S hS
    obtain ⟨b,h1,h2⟩:=nilq_sound (w:=w) (ox:=x) (oy:=y) (V.ev he hok.1) (V.ev he hok.2) hS
    exact ⟨_,_,h2,stay r (u:=.bool b) (by simp only [execOp,ho,Sem.run_bind] at h1 ⊢;rw [h1];rfl) (by simp only [V])⟩
   refine Fits.oo fun v hv=>?_
   obtain ⟨u,h1,h2⟩:=bin_sound (w:=w) (ox:=x) (oy:=y) (V.ev he hok.1) (V.ev he hok.2) hv
   exact stay r (by simp only [execOp,ho,Sem.run_bind] at h1 ⊢;rw [h1];rfl) h2
  ·trivial
 ·-- unOp
  rename_i op t x ho
  split
  ·rename_i hok
   refine Fits.oo fun v hv=>?_
   obtain ⟨u,h1,h2⟩:=un_sound (P:=P) (w:=w) (V.ev he hok) hv
   exact stay r (by simp [execOp,ho,h1]) h2
  ·trivial
 ·-- convert
  rename_i s t x ho
  split
  ·rename_i hok
   split
   ·rename_i ds d hs hd
    refine Fits.oo fun v hv=>?_
    obtain ⟨u,h1,h2⟩:=convert_sound (w:=w) hs hd (V.ev he hok) hv
    exact stay r (by simp [execOp,ho,h1]) h2
   ·trivial
  ·trivial
 ·-- makeFunc
  rename_i f as bs ho
  split
  ·rename_i hok
   simp only [Bool.and_eq_true] at hok
   refine stay r (u:=.func f (as.map a.eval) (bs.map a.eval)) (by simp [execOp,ho,Instr.makeFunc]) ?_
   simp only [V]
   exact ⟨_,_,rfl,by simpa using VL.evs he (by simpa using hok.1),by simpa using VL.evs he (by simpa using hok.2)⟩
  ·trivial
 ·-- slice
  rename_i t x lo hi mx ho
  split
  ·rename_i hok
   simp only [Bool.and_eq_true] at hok
   obtain ⟨⟨⟨hok1,hok2⟩,hok3⟩,hok4⟩:=hok
   have hV:=V.ev he hok1
   have run:∀ v,(∃ y,(Instr.sliceAt t (a.eval x) (lo.map a.eval) (hi.map a.eval) (mx.map a.eval)).run P w=.ok y w∧V g v y)→qn P B w0 g a o w v h:=by
    rintro v ⟨u,h1,h2⟩
    exact stay r (by simp [execOp,ho,h1]) h2
   split
   ·rename_i hu
    split
    ·rename_i s hs
     rw [hs] at hV
     exact Fits.oo fun v hv=>run v (slice_str_sound hu hV (VO.ev he hok2) (VO.ev he hok3) (VO.ev he hok4) hv)
    ·trivial
   ·rename_i e hu
    split
    ·rename_i i hi'
     have hV2:=hV.tyfix (P:=P) (t:=t)
     split
     ·rename_i k es hs
      rw [hs] at hV2
      split
      ·rename_i hk
       subst hk
       refine Fits.oo fun v hv=>run v ?_
       simp only [V] at hV2
       obtain ⟨ad,c,hev,h1,h2,h3⟩:=hV2
       rw [hev]
       exact slice_sl_sound hu hi' h1 h2 h3 (fun h=>by cases h) (VO.ev he hok2) (VO.ev he hok3) (VO.ev he hok4) hv
      ·trivial
     ·rename_i q k es hs
      rw [hs] at hV2
      split
      ·rename_i hk
       subst hk
       refine Fits.oo fun v hv=>run v ?_
       simp only [V] at hV2
       obtain ⟨ad,c,hev,h1,h2,h3,h4⟩:=hV2
       rw [hev]
       refine slice_sl_sound hu hi' h1 h2 h3 (fun h=>?_) (VO.ev he hok2) (VO.ev he hok3) (VO.ev he hok4) hv
       cases q with
       | none=>exact h4
       | some id=>cases h
      ·trivial
     ·trivial
    ·trivial
   ·trivial
  ·trivial
 ·-- fieldAddr
  rename_i t x f ho
  split
  ·rename_i off u hf
   split
   ·rename_i i hi
    split
    ·trivial
    ·rename_i hz
     simp only [not_or,Bool.not_eq_false] at hz
     refine Fits.oo fun v hv=>?_
     obtain ⟨y,h1,h2⟩:=fieldAddr_sound (w:=w) hf hi hz.1 (V.ev he hz.2) hv
     exact stay r (by simp [execOp,ho,h1]) h2
   ·trivial
  ·trivial
 ·-- field
  rename_i t x f ho
  split
  ·rename_i off u hf
   split
   ·rename_i d i hd hi
    split
    ·rename_i hok
     refine Fits.oo fun v hv=>?_
     obtain ⟨v',hv',rfl⟩:=V.map_tyfix hv
     obtain ⟨y,h1,h2⟩:=field_sound (w:=w) hf hd hi (V.ev he hok) hv'
     exact stay r (by simp [execOp,ho,h1]) h2.tyfix
    ·trivial
   ·trivial
  ·trivial
 ·-- indexAddr
  rename_i t x i ho
  split
  ·rename_i hok
   simp only [Bool.and_eq_true] at hok
   split
   ·rename_i e hu
    split
    ·rename_i j hj
     refine Fits.oo fun v hv=>?_
     obtain ⟨y,h1,h2⟩:=indexAddr_slice_sound (w:=w) hu hj (V.ev he hok.1) (V.ev he hok.2) hv
     exact stay r (by simp [execOp,ho,h1]) h2
    ·trivial
   ·rename_i n e hu
    split
    ·rename_i j hj
     refine Fits.oo fun v hv=>?_
     obtain ⟨y,h1,h2⟩:=indexAddr_array_sound (w:=w) hu hj (V.ev he hok.1) (V.ev he hok.2) hv
     exact stay r (by simp [execOp,ho,h1]) h2
    ·trivial
   ·trivial
  ·trivial
 ·-- index
  rename_i t x i ho
  split
  ·rename_i hok
   simp only [Bool.and_eq_true] at hok
   split
   ·rename_i hu
    refine Fits.oo fun v hv=>?_
    obtain ⟨y,h1,h2⟩:=index_str_sound (w:=w) hu (V.ev he hok.1) (V.ev he hok.2) hv
    exact stay r (by simp [execOp,ho,h1]) h2
   ·rename_i n e hu
    split
    ·rename_i d j hd hj
     refine Fits.oo fun v hv=>?_
     obtain ⟨v',hv',rfl⟩:=V.map_tyfix hv
     obtain ⟨y,h1,h2⟩:=index_agg_sound (w:=w) hu hd hj (V.ev he hok.1) (V.ev he hok.2) hv'
     exact stay r (by simp [execOp,ho,h1]) h2.tyfix
    ·trivial
   ·trivial
  ·trivial
 ·-- extract
  rename_i t i ho
  split
  ·rename_i hok
   have hV:=V.ev he hok
   split
   ·rename_i vs hx
    rw [hx] at hV
    refine Fits.oo fun v hv=>?_
    obtain ⟨v',hv',rfl⟩:=V.map_tyfix hv
    simp only [V] at hV
    obtain ⟨us,hu,hVL⟩:=hV
    obtain ⟨u,h1,h2⟩:=hVL.get _ _ hv'
    rw [Array.getElem?_toList] at h1
    exact stay r (by simp [execOp,ho,hu,Instr.extract,h1]) h2.tyfix
   ·trivial
  ·trivial
 ·-- buildSlice
  rename_i t n parts ho
  split
  ·rename_i hok
   split
   ·rename_i e hu
    split
    ·rename_i i z hi hz
     split
     ·rename_i hc
      split
      ·rename_i cs hf
       split
       ·rename_i out hcl
        obtain ⟨u,w',g',h1,h2,h3,h4⟩:=buildSlice_sound r he hok hu hi hz hc.1 hc.2.1 hc.2.2 hf hcl
        exact ⟨u,w',g',.inl (by simp [execOp,ho,h1]),h2,h3,h4⟩
       ·trivial
      ·trivial
     ·trivial
    ·trivial
   ·trivial
  ·trivial
 ·-- call
  rename_i c ho
  split
  ·rename_i hok
   simp only [Bool.and_eq_true,beq_iff_eq] at hok
   split
   ·rename_i b hc
    exact builtin_fits r he ho hc hok.1
   ·rename_i f hc
    split
    ·trivial
    ·rename_i hf
     have hV:=V.ev he (x:=f) (by simpa using hf)
     split
     ·rename_i gg first caps hx
      rw [hx] at hV
      simp only [V] at hV
      obtain ⟨fs,cs,hev,h1,h2⟩:=hV
      refine ⟨fs++c.args.map a.eval++cs,?_,?_⟩
      ·simp [execOp,ho,resolve,hc,hev,Deferred.ofValue,invoke]
      ·simp only [Array.toList_append]
       have h3:=VL.evs_fix (P:=P) he (xs:=c.args.toList) (ts:=c.argTypes.toList) (by simpa using hok.1) (by simpa using hok.2)
       exact VL.append (VL.append h1 (by simpa using h3)) h2
     ·rename_i id hx
      rw [hx] at hV
      simp only [V] at hV
      obtain ⟨cc,hc1,hev⟩:=hV
      refine ⟨cc,c.args.map a.eval,hc1,?_,?_⟩
      ·simp [execOp,ho,resolve,hc,hev,Deferred.ofValue,invoke]
      ·have h3:=VL.evs_fix (P:=P) he (xs:=c.args.toList) (ts:=c.argTypes.toList) (by simpa using hok.1) (by simpa using hok.2)
       simpa using h3
     ·trivial
   ·rename_i x name hc
    split
    ·trivial
    ·rename_i hf
     have hV:=V.ev he (x:=x) (by simpa using hf)
     split
     ·rename_i t v hx
      rw [hx] at hV
      simp only [V] at hV
      obtain ⟨u,hev,hv⟩:=hV
      split
      ·rename_i gg b hr
       obtain ⟨y,h1,h2⟩:=recv_sound r hr hv (c.args.map a.eval)
       refine ⟨#[y]++c.args.map a.eval,?_,?_⟩
       ·have hx2:((#[Value.iface t u]++c.args.map a.eval).extract 1 (#[Value.iface t u]++c.args.map a.eval).size)=c.args.map a.eval:=by
         apply Array.toList_inj.1;simp [List.take_of_length_le]
        have hx1:(#[Value.iface t u]++c.args.map a.eval)[0]?=some (.iface t u):=by
         rw [← Array.getElem?_toList];simp
        rw [← h1]
        simp only [execOp,ho,resolve,hc,hev,Sem.run_bind,Sem.run_pure,Result.andThen_ok,invoke]
        rw [hx1,hx2]
       ·have h3:=VL.evs_fix (P:=P) he (xs:=c.args.toList) (ts:=c.argTypes.toList) (by simpa using hok.1) (by simpa using hok.2)
        simp only [Array.toList_append,List.cons_append,List.nil_append]
        exact VL.cons h2 (by simpa using h3)
      ·trivial
     ·trivial
  ·trivial
 ·-- range
  rename_i t x ho
  split
  ·rename_i hok
   split
   ·rename_i s hu hx
    have hV:=V.ev he hok
    rw [hx] at hV
    simp only [V] at hV
    have hsl:g.σ.length=h.blks.length:=r.slen
    refine ⟨.pointer (some ⟨w.heap.size,0,none⟩),w.alloc (.stringIter ⟨s.toArray⟩ 0),g.addS w.heap.size,.inl ?_,g.le_addS _,r.newBlk _ _ (heap_alloc_new w _),?_⟩
    ·have:=run_range_string (P:=P) w t ⟨s.toArray⟩ hu
     simp [execOp,ho,hV.1,this,World.iter]
    ·simp only [V,Gh.addS]
     exact ⟨w.heap.size,by rw [← hsl];simp,rfl⟩
   ·trivial
  ·trivial
 ·-- next
  rename_i x str ho
  split
  ·rename_i hok
   simp only [Bool.and_eq_true] at hok
   have hV:=V.ev he hok.1
   unfold aNext
   split
   ·rename_i id hx
    rw [hx] at hV
    simp only [V] at hV
    obtain ⟨c,hc,hpv⟩:=hV
    split
    ·rename_i s pos hb
     obtain ⟨hB,hlt,hok2,_⟩:=r.blk id c _ hc hb
     have hk:w.heap[c]?=some (.stringIter ⟨s.toArray⟩ pos):=hok2
     have hsz:(⟨s.toArray⟩:ByteArray).size=s.length:=by simp [ByteArray.size]
     split
     ·rename_i hp
      have h1:=run_next_any_at (P:=P) w c ⟨s.toArray⟩ pos o.type hk (by rw [hsz];exact hp)
      refine ⟨_,_,g,.inl (by simp only [execOp,ho,hok.2,hpv,Sem.run_bind,h1,Result.andThen_ok,Sem.run_pure];rfl),Gh.le.refl g,?_,?_⟩
      ·exact r.putObj hc hb (by simp) rfl rfl rfl (iterAt_size _ _ _ _) (fun b hb'=>iterAt_other w c b _ _ hb') (iterAt_heap w c _ pos _ hk)
      ·simp only [V]
       refine ⟨_,rfl,?_⟩
       simp only [VL]
       exact ⟨_,_,rfl,by simp only [V],_,_,rfl,by simp only [V],_,_,rfl,by simp only [V,dec],rfl⟩
     ·rename_i hp
      have h1:=run_next_end_at (P:=P) w c ⟨s.toArray⟩ pos o.type hk (by rw [hsz];exact hp)
      refine stay r (u:=.tuple #[.bool false]) (by simp only [execOp,ho,hok.2,hpv,Sem.run_bind,h1,Result.andThen_ok,Sem.run_pure]) ?_
      simp only [V]
      exact ⟨_,rfl,by simp only [VL];exact ⟨_,_,rfl,by simp only [V],rfl⟩⟩
    ·trivial
   ·trivial
  ·trivial
 ·-- makeMap
  rename_i t ho
  have hsl:g.σ.length=h.blks.length:=r.slen
  refine ⟨.map (some w.heap.size),w.alloc (.map #[] 0),g.addS w.heap.size,.inl ?_,g.le_addS _,r.newBlk _ _ ⟨#[],0,heap_alloc_new w _,by simp [ME],fun _=>⟨rfl,fun i e h=>by simp at h⟩⟩,?_⟩
  ·simp [execOp,ho,run_makeMap]
  ·simp only [V,Gh.addS]
   exact ⟨w.heap.size,by rw [← hsl];simp,rfl⟩
 ·-- lookup
  rename_i t x i ok ho
  split
  ·rename_i hok
   simp only [Bool.and_eq_true] at hok
   split
   ·rename_i kt et hu
    refine Fits.oo fun v hv=>?_
    obtain ⟨u,h1,h2⟩:=lookup_sound r hu (V.ev he hok.1) (V.ev he hok.2) hv
    exact stay r (by simp [execOp,ho,h1]) h2
   ·trivial
  ·trivial
 ·-- mapEntry
  rename_i t x i ho
  split
  ·rename_i hok
   simp only [Bool.and_eq_true] at hok
   split
   ·rename_i kt et hu
    rcases hs:aEntry P h kt et (ev env x) (ev env i) with _ | ⟨v,h'⟩
    ·trivial
    ·obtain ⟨u,w',h1,h2,h3⟩:=entry_sound r hu (V.ev he hok.1) (V.ev he hok.2) hs
     exact ⟨u,w',g,.inl (by simp [execOp,ho,h1]),Gh.le.refl g,h3,h2⟩
   ·trivial
  ·trivial
 ·-- entryStore
  rename_i t x i y ho
  split
  ·rename_i hok
   simp only [Bool.and_eq_true] at hok
   rcases hs:aEntryStore h (ev env x) (ev env i) (ev env y) with _ | h'
   ·trivial
   ·obtain ⟨w',h1,h3⟩:=entryStore_sound (P:=P) (t:=t) r (V.ev he hok.1.1) (V.ev he hok.1.2) (V.ev he hok.2) hs
    exact ⟨undef,w',g,.inr ⟨by simp [execOp,ho,h1],rfl⟩,Gh.le.refl g,h3,V.ofUndef⟩
  ·trivial
 ·-- mapUpdate
  rename_i t x i y ho
  split
  ·rename_i hok
   simp only [Bool.and_eq_true] at hok
   split
   ·rename_i kt et hu
    rcases hs:aMapPut P h kt (ev env x) (ev env i) (ev env y) with _ | h'
    ·trivial
    ·obtain ⟨w',h1,h3⟩:=mapPut_sound r hu (V.ev he hok.1.1) (V.ev he hok.1.2) (V.ev he hok.2) hs
     exact ⟨undef,w',g,.inr ⟨by simp [execOp,ho,h1],rfl⟩,Gh.le.refl g,h3,V.ofUndef⟩
   ·trivial
  ·trivial
 ·trivial
end
end Go.Vv
