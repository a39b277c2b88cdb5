/- The abstract step is sound: every operation. -/
import Derived.Test.YtdgbnljehpacjaaGreatVvG
import Derived.Lib.OthersKept
set_option linter.all false
namespace Go.Vv
open Go Go.RowKit Go.Lib
section
variable {P:Program} {w:World} {g:Gh} {h:AH} {B:Nat} {w0:World}

theorem stay {a:Act} {o:Oper} (r:Rel B w0 g h w) {v:AV} {u:Value} (h1:(execOp a.eval o).run P w=.ok (.value u) w) (h2:V g v u):vO P B w0 g a o w v h:=⟨u,w,g,.inl h1,Gh.le.refl g,r,h2⟩

theorem recv_sound (r:Rel B w0 g h w) {t:TypeId} {v b:AV} {u:Value} {name:String} {f:FuncId} (hr:aRecv P h t v name=some (f,b)) (hv:V g v u) (args:Array Value) :
  ∃x,(callMethod (.iface t u) name args).run P w=(callFunc f (#[x]++args)).run P w/\V g b x:=by
 unfold aRecv at hr;split at hr
 case h_2=>cases hr
 rename_i i hi;split at hr
 case h_2=>cases hr
 rename_i m hm;split at hr
 case isFalse=>cases hr
 rename_i hp;have hp':m.path=#[]:=by simp_all
 rw [Array.find?_toList] at hm;have key : ∀ x p, (receiverAt t (.val u) p (some ((name.splitOn ".").getLastD name))).run P w = .ok x w → m.func = some (f, p) →
   (callMethod (.iface t u) name args).run P w=(callFunc f (#[x]++args)).run P w:=λx p hx hf=>by
  have hn:P.types.size+Made.depth=(P.types.size+99)+1:=rfl;simp only [callMethod,Sem.run_bind,run_program,Result.andThen_ok];rw [hn];generalize P.types.size+99=n;rw [method];have hti:(typeInfo t).run P w=.ok i w:=by simp [typeInfo,hi]
  simp only [Sem.run_bind,hti,Result.andThen_ok,hm,hp',hf];have h0:(follow (#[]:Array FieldStep).toList t (.val u)).run P w=.ok (t,.val u) w:=rfl
  simp_all
 split at hr
 case h_2=>cases hr
 rename_i f' p hf;split at hr
 ·rename_i e ht;simp only [ui,t7] at hr;obtain ⟨rfl,rfl⟩:=hr;exact ⟨u,key u _ (by simp [receiverAt,run_underlying ht,Place.get]) hf,hv⟩
 ·rename_i e ht;split at hr
  ·rename_i id off d j hd hj;rw [sj] at hr;obtain ⟨x,hx,hr⟩:=hr;simp only [t7] at hr;obtain ⟨rfl,rfl⟩:=hr;obtain ⟨y,h1,h2⟩:=load_sound r hd hj hv hx;simp only [V] at hv;obtain ⟨c,hc,rfl⟩:=hv;refine ⟨y,key y _ ?_ hf,h2.tyfix⟩;simp only [Instr.loadAt,Instr.sureAddr] at h1;have hw : ∀ nm, (Builtin.ssaWrapNilChk_ #[t] t #[.pointer (some ⟨c, off, none⟩), strVal "", strVal nm]).run P w = .ok (.pointer (some ⟨c, off, none⟩)) w := fun _ => rfl;simp only [receiverAt,Sem.run_bind,run_underlying ht,Result.andThen_ok,Place.get,Sem.run_pure,hw,asAddr]
   simp_all
  ·cases hr
 ·rename_i d hne ht;simp only [ui,t7] at hr;obtain ⟨rfl,rfl⟩:=hr;refine ⟨u,key u _ ?_ hf,hv⟩;simp only [receiverAt,Sem.run_bind,run_underlying ht,Result.andThen_ok];rfl
 ·cases hr
theorem astep_fits (r:Rel B w0 g h w) {a:Act} {env:List AV} (D:VL g env a.tmps.toList) (o:Oper):Fits P B w0 g a o w (zt P o env h):=by
 unfold zt;split
 ·-- move
  rename_i x C;split
  ·rename_i A;exact stay r (by simp [execOp,C]) (V.ev D A).tyfix
  ·trivial
 ·-- assign
  rename_i x C;split
  ·rename_i A;exact stay r (by simp [execOp,C]) (V.ev D A).tyfix
  ·trivial
 ·-- pick
  rename_i c x y C;split
  ·rename_i A;simp only [ud] at A;split
   ·rename_i t ht;have L:=V.ev D A.2;rw [ht] at L;simp only [V] at L;refine stay r (u:=if t then a.eval x else a.eval y) (by simp [execOp,C,L,asBool]) ?_;cases t
    ·exact V.ev D A.1.2
    ·exact V.ev D A.1.1
   ·trivial
  ·trivial
 ·-- alloc
  rename_i t C;split
  ·rename_i cs Y;obtain ⟨i,z,hi,hzz,hva⟩:=wH (g:=g) Y;have hsl:=r.slen;refine ⟨.pointer (some ⟨w.heap.size,0,none⟩),w.alloc (.cells z.cells t),g.addS w.heap.size,.inl ?_,g.le_addS _,r.newCells t hva,?_⟩
   ·simp [execOp,C,Instr.alloc,run_zero hi hzz,newVar,newRow]
   ·simp only [V,Gh.addS]
    simp_all
  ·trivial
 ·-- box
  rename_i t x C;split
  ·rename_i A;split
   ·rename_i cs L;have hva:=((V.ev D A).tyfix (P:=P) (t:=t)).cells L;have hsl:=r.slen;refine ⟨.pointer (some ⟨w.heap.size,0,none⟩),w.alloc (.cells (a.eval x).cells t),g.addS w.heap.size,.inl ?_,g.le_addS _,r.newCells t hva,?_⟩
    ·simp [execOp,C,Instr.box,newVar,newRow]
    ·simp only [V,Gh.addS]
     simp_all
   ·trivial
  ·trivial
 ·-- build
  rename_i t parts C;split
  ·rename_i A;have T:∀out,(∃u,(Instr.build t (parts.map λ(i,x)=>(i,a.eval x))).run P w=.ok u w/\V g (.agg out) u)->vO P B w0 g a o w (.agg out) h:=by
    rintro out ⟨u,E,G⟩
    exact stay r (by simp [execOp,C,E]) G
   split
   ·rename_i fs z I Y;split
    ·rename_i pl hpl;refine Fits.oo λv H=>?_;rcases U:vN (λi=>pl[i]?) z (xw P (.struct fs) env parts) with _ | out
     ·simp_all
     ·simp [U] at H;subst H;exact T out (build_sound D A Y (.inl ⟨fs,pl,I,hpl,U⟩))
    ·trivial
   ·rename_i n e z I Y;split
    ·rename_i j hj;refine Fits.oo λv H=>?_;rcases U:vN (λi=>some (i * j.size,j.size)) z (xw P (.array n e) env parts) with _ | out
     ·simp_all
     ·simp [U] at H;subst H;exact T out (build_sound D A Y (.inr ⟨n,e,j,I,hj,U⟩))
    ·trivial
   ·trivial
  ·trivial
 ·-- load
  rename_i t x C;split
  ·rename_i d i hd hi;refine Fits.oo λv H=>?_;obtain ⟨v',J,rfl⟩:=V.map_tyfix H;obtain ⟨u,E,G⟩:=load_sound r hd hi (p:=ev env x) (pv:=a.eval x) (by
    cases x with
    | tmp t=>exact V.ev D rfl
    | const c =>
     -- a constant is no address
     simp only [ev] at J;exfalso;unfold qZ at J;unfold cv at J;split at J <;> first
      | (rename_i hh;split at hh <;> first | cases hh | (unfold cv1 at hh;split at hh <;> cases hh))
      | cases J
    | global n=>exact V.ev D rfl
    | func f=>exact V.ev D rfl) J
   exact stay r (by simp [execOp,C,E]) G.tyfix
  ·trivial
 ·-- store
  rename_i t x y C;split
  ·rename_i A;split
   ·rename_i i hi;rcases hs:aStore h i.size (ev env x) (tyfix P t (ev env y)) with _ | h'
    ·trivial
    ·show vO P B w0 g a o w aundef h';have hp:V g (ev env x) (a.eval x):=by
      cases x with
      | tmp t=>exact V.ev D rfl
      | const c =>
       simp only [ev] at hs;exfalso;unfold aStore at hs;unfold cv at hs;split at hs <;> first
        | (rename_i hh _;split at hh <;> first | cases hh | (unfold cv1 at hh;split at hh <;> cases hh))
        | cases hs
      | global n=>exact V.ev D rfl
      | func f=>exact V.ev D rfl
     obtain ⟨w',E,G⟩:=store_sound r hi hp (V.ev D A).tyfix hs;exact ⟨undef,w',g,.inr ⟨by simp [execOp,C,E],rfl⟩,Gh.le.refl g,G,V.ofUndef⟩
   ·trivial
  ·trivial
 ·-- nilCheck
  rename_i x C;split
  ·rename_i A;have F:=V.ev D A;split
   ·rename_i id off M;rw [M] at F;have O:=F;simp only [V] at F;obtain ⟨c,L,Q⟩:=F;exact stay r (u:=a.eval x) (by simp [execOp,C,Q]) O
   ·rename_i cs M;rw [M] at F;have O:=F;simp only [V] at F;obtain ⟨b,oo,Q,_⟩:=F;exact stay r (u:=a.eval x) (by simp [execOp,C,Q]) O
   ·rename_i id q k n p M;rw [M] at F;have O:=F;simp only [V] at F;obtain ⟨b,oo,Q,_⟩:=F;exact stay r (u:=a.eval x) (by simp [execOp,C,Q]) O
   ·rename_i m M;rw [M] at F;have O:=F;simp only [V] at F;obtain ⟨b,oo,s,Q,_⟩:=F;exact stay r (u:=a.eval x) (by simp [execOp,C,Q]) O
   ·rename_i f a5 bs M;rw [M] at F;have O:=F;simp only [V] at F;obtain ⟨fs,cs,Q,_⟩:=F;exact stay r (u:=a.eval x) (by simp [execOp,C,Q]) O
   ·trivial
  ·trivial
 ·-- binOp
  rename_i op t x y yt C;split
  ·rename_i A;simp only [ud] at A;split
   ·rename_i S hS;obtain ⟨b,E,G⟩:=nilq_sound (w:=w) (ox:=x) (oy:=y) (V.ev D A.1) (V.ev D A.2) hS;exact ⟨_,_,G,stay r (u:=.bool b) (by simp only [execOp,C,Sem.run_bind] at E ⊢;rw [E];rfl) (by simp only [V])⟩
   refine Fits.oo λv H=>?_;obtain ⟨u,E,G⟩:∃u,(do eqGuard op t x y (a.eval x) (a.eval y);binOp op t (a.eval x) (a.eval y):Sem Value).run P w=.ok u w/\V g v u:=by
    rcases Option.or_eq_some_iff.1 H with H | ⟨_,H⟩
    ·exact bin_sound (V.ev D A.1) (V.ev D A.2) H
    ·exact ifc_sound (V.ev D A.1) (V.ev D A.2) H
   exact stay r (by simp only [execOp,C,Sem.run_bind] at E ⊢;rw [E];rfl) G
  ·trivial
 ·-- unOp
  rename_i op t x C;split
  ·rename_i A;refine Fits.oo λv H=>?_;obtain ⟨u,E,G⟩:=un_sound (P:=P) (w:=w) (V.ev D A) H;exact stay r (by simp [execOp,C,E]) G
  ·trivial
 ·-- convert
  rename_i s t x C;split
  ·rename_i A;split
   ·rename_i ds d hs hd;refine Fits.oo λv H=>?_;obtain ⟨u,E,G⟩:=convert_sound (w:=w) hs hd (V.ev D A) H;exact stay r (by simp [execOp,C,E]) G
   ·trivial
  ·trivial
 ·-- makeFunc
  rename_i f a5 bs C;split
  ·rename_i A;simp only [ud] at A;refine stay r (u:=.func f (a5.map a.eval) (bs.map a.eval)) (by simp [execOp,C,Instr.makeFunc]) ?_;simp only [V];exact ⟨_,_,rfl,by simpa using VL.evs D (by simp_all),by simpa using VL.evs D (by simp_all)⟩
  ·trivial
 ·-- slice
  rename_i t x lo hi mx C;split
  ·rename_i A;simp only [ud] at A;obtain ⟨⟨⟨hok1,N⟩,hok3⟩,Z⟩:=A;have F:=V.ev D hok1;have T:∀v,(∃y,(Instr.sliceAt t (a.eval x) (lo.map a.eval) (hi.map a.eval) (mx.map a.eval)).run P w=.ok y w/\V g v y)->vO P B w0 g a o w v h:=by
    rintro v ⟨u,E,G⟩
    exact stay r (by simp [execOp,C,E]) G
   split
   ·rename_i I;split
    ·rename_i s hs;rw [hs] at F;exact Fits.oo λv H=>T v (slice_str_sound I F (VO.ev D N) (VO.ev D hok3) (VO.ev D Z) H)
    ·trivial
   ·rename_i e I;split
    ·rename_i i hi';have X:=F.tyfix (P:=P) (t:=t);split
     ·rename_i k es hs;rw [hs] at X;split
      ·rename_i hk;subst hk;refine Fits.oo λv H=>T v ?_;simp only [V] at X;obtain ⟨ad,c,K,E,G,R⟩:=X;rw [K];exact slice_sl_sound I hi' E G R (λh=>by cases h) (VO.ev D N) (VO.ev D hok3) (VO.ev D Z) H
      ·trivial
     ·rename_i q k es hs;rw [hs] at X;split
      ·rename_i hk;subst hk;refine Fits.oo λv H=>T v ?_;simp only [V] at X;obtain ⟨ad,c,K,E,G,R,h4⟩:=X;rw [K];refine slice_sl_sound I hi' E G R (λh=>?_) (VO.ev D N) (VO.ev D hok3) (VO.ev D Z) H
       simp_all
      ·trivial
     ·trivial
    ·trivial
   ·rename_i n e I;split
    ·rename_i i hi';split
     ·rename_i id off kl l hs hlo;split
      ·rename_i L;obtain ⟨h0,E,hm⟩:=L;rw [hs] at F;simp only [V] at F;obtain ⟨c,hσ,K⟩:=F;obtain ⟨W,rfl,hl⟩:∃W,lo=some W/\ev env W=.int kl l:=by
        cases lo with
        | none=>cases hlo
        | some W=>exact ⟨W,rfl,by simpa using hlo⟩
       have hV3:=V.ev D (by simpa using N:yr W=true);rw [hl] at hV3;simp only [V] at hV3;have hal:P.arrayLen t=n:=by simp [Program.arrayLen,I]
       have hel:P.elem t=e:=by simp [Program.elem,I]
       have:=run_sliceAt_array_l (P:=P) w t ⟨c,off,none⟩ (by rw [hal,hel];exact I) kl l h0 (by rw [hal];omega);rw [hel,hal,xB hi',Result.andThen_ok] at this;refine stay r (u:=slicedAt ⟨c,off,none⟩ l.toNat n n i.size) (by simp [execOp,C,K,hV3,this]) ?_;simp only [V,slicedAt,uC (show ¬ n=l.toNat by omega)];exact ⟨c,n - l.toNat,hσ,by simp [Addr.add],by omega,by omega⟩
      ·trivial
     ·trivial
    ·trivial
   ·trivial
  ·trivial
 ·-- fieldAddr
  rename_i t x f C;split
  ·rename_i off u U;split
   ·rename_i i hi;split
    ·trivial
    ·rename_i Y;simp only [not_or,Bool.not_eq_false] at Y;refine Fits.oo λv H=>?_;obtain ⟨y,E,G⟩:=fieldAddr_sound (w:=w) U hi Y.1 (V.ev D Y.2) H;exact stay r (by simp [execOp,C,E]) G
   ·trivial
  ·trivial
 ·-- field
  rename_i t x f C;split
  ·rename_i off u U;split
   ·rename_i d i hd hi;split
    ·rename_i A;refine Fits.oo λv H=>?_;obtain ⟨v',J,rfl⟩:=V.map_tyfix H;obtain ⟨y,E,G⟩:=field_sound (w:=w) U hd hi (V.ev D A) J;exact stay r (by simp [execOp,C,E]) G.tyfix
    ·trivial
   ·trivial
  ·trivial
 ·-- indexAddr
  rename_i t x i C;split
  ·rename_i A;simp only [ud] at A;split
   ·rename_i e I;split
    ·rename_i j hj;refine Fits.oo λv H=>?_;obtain ⟨y,E,G⟩:=indexAddr_slice_sound (w:=w) I hj (V.ev D A.1) (V.ev D A.2) H;exact stay r (by simp [execOp,C,E]) G
    ·trivial
   ·rename_i n e I;split
    ·rename_i j hj;refine Fits.oo λv H=>?_;obtain ⟨y,E,G⟩:=indexAddr_array_sound (w:=w) I hj (V.ev D A.1) (V.ev D A.2) H;exact stay r (by simp [execOp,C,E]) G
    ·trivial
   ·trivial
  ·trivial
 ·-- index
  rename_i t x i C;split
  ·rename_i A;simp only [ud] at A;split
   ·rename_i I;refine Fits.oo λv H=>?_;obtain ⟨y,E,G⟩:=index_str_sound (w:=w) I (V.ev D A.1) (V.ev D A.2) H;exact stay r (by simp [execOp,C,E]) G
   ·rename_i n e I;split
    ·rename_i d j hd hj;refine Fits.oo λv H=>?_;obtain ⟨v',J,rfl⟩:=V.map_tyfix H;obtain ⟨y,E,G⟩:=index_agg_sound (w:=w) I hd hj (V.ev D A.1) (V.ev D A.2) J;exact stay r (by simp [execOp,C,E]) G.tyfix
    ·trivial
   ·trivial
  ·trivial
 ·-- extract
  rename_i t i C;split
  ·rename_i A;have F:=V.ev D A;split
   ·rename_i vs M;rw [M] at F;refine Fits.oo λv H=>?_;obtain ⟨v',J,rfl⟩:=V.map_tyfix H;simp only [V] at F;obtain ⟨us,I,hVL⟩:=F;obtain ⟨u,E,G⟩:=hVL.get _ _ J;rw [uK] at E;exact stay r (by simp [execOp,C,I,Instr.extract,E]) G.tyfix
   ·trivial
  ·trivial
 ·-- buildSlice
  rename_i t n parts C;split
  ·rename_i A;split
   ·rename_i e I;split
    ·rename_i i z hi Y;split
     ·rename_i L;split
      ·rename_i cs U;split
       ·rename_i out hcl;obtain ⟨u,w',g',E,G,R,h4⟩:=buildSlice_sound r D A I hi Y L.1 L.2.1 L.2.2 U hcl;exact ⟨u,w',g',.inl (by simp [execOp,C,E]),G,R,h4⟩
       ·trivial
      ·trivial
     ·trivial
    ·trivial
   ·trivial
  ·trivial
 ·-- call
  rename_i c C;split
  ·rename_i A;simp only [ud,s7] at A;split
   ·rename_i b L;exact builtin_fits r D C L A.1
   ·rename_i f L;split
    ·trivial
    ·rename_i U;have F:=V.ev D (x:=f) (by simp_all);split
     ·rename_i gg first caps M
      rw [M] at F;simp only [V] at F;obtain ⟨fs,cs,K,E,G⟩:=F;refine ⟨fs++c.args.map a.eval++cs,?_,?_⟩
      ·simp [execOp,C,resolve,L,K,Deferred.ofValue,invoke]
      ·simp only [tK];have R:=VL.evs_fix (P:=P) D (xs:=c.args.toList) (ts:=c.argTypes.toList) (by grind) (by simp_all);exact VL.append (VL.append E (by simp_all)) G
     ·rename_i id M;rw [M] at F;simp only [V] at F;obtain ⟨cc,hc1,K⟩:=F;refine ⟨cc,c.args.map a.eval,hc1,?_,?_⟩
      ·simp [execOp,C,resolve,L,K,Deferred.ofValue,invoke]
      ·have R:=VL.evs_fix (P:=P) D (xs:=c.args.toList) (ts:=c.argTypes.toList) (by grind) (by simp_all)
       simp_all
     ·trivial
   ·rename_i x name L;split
    ·trivial
    ·rename_i U;have F:=V.ev D (x:=x) (by simp_all);split
     ·rename_i t v M;rw [M] at F;simp only [V] at F;obtain ⟨u,K,H⟩:=F;split
      ·rename_i gg b hr;obtain ⟨y,E,G⟩:=recv_sound r hr H (c.args.map a.eval);refine ⟨#[y]++c.args.map a.eval,?_,?_⟩
       ·have hx2:((#[Value.iface t u]++c.args.map a.eval).extract 1 (#[Value.iface t u]++c.args.map a.eval).size)=c.args.map a.eval:=by
         simp_all
        have hx1:(#[Value.iface t u]++c.args.map a.eval)[0]?=some (.iface t u):=by
         rw [<- uK];simp
        rw [<- E];simp only [execOp,C,resolve,L,K,Sem.run_bind,Sem.run_pure,Result.andThen_ok,invoke]
        grind
       ·have R:=VL.evs_fix (P:=P) D (xs:=c.args.toList) (ts:=c.argTypes.toList) (by grind) (by simp_all);simp only [tK,tP,uR];exact VL.cons G (by simp_all)
      ·trivial
     ·trivial
  ·trivial
 ·-- range
  rename_i t x C;split
  ·rename_i A;split
   ·rename_i s I M;have F:=V.ev D A;rw [M] at F;simp only [V] at F;have hsl:g.σ.length=h.blks.length:=r.slen;refine ⟨.pointer (some ⟨w.heap.size,0,none⟩),w.alloc (.stringIter ⟨s.toArray⟩ 0),g.addS w.heap.size,.inl ?_,g.le_addS _,r.newBlk _ _ (heap_alloc_new w _),?_⟩
    ·have:=run_range_string (P:=P) w t ⟨s.toArray⟩ I;simp [execOp,C,F.1,this,World.iter]
    ·simp only [V,Gh.addS]
     simp_all
   ·trivial
  ·trivial
 ·-- next
  rename_i x str C;split
  ·rename_i A;simp only [ud] at A;have F:=V.ev D A.1;unfold aNext;split
   ·rename_i id M;rw [M] at F;simp only [V] at F;obtain ⟨c,L,hpv⟩:=F;split
    ·rename_i s pos hb;obtain ⟨hB,hlt,N,_⟩:=r.blk id c _ L hb;have hk:w.heap[c]?=some (.stringIter ⟨s.toArray⟩ pos):=N;have hsz:(⟨s.toArray⟩:ByteArray).size=s.length:=by rfl
     split
     ·rename_i hp;have E:=run_next_any_at (P:=P) w c ⟨s.toArray⟩ pos o.type hk (by omega);refine ⟨_,_,g,.inl (by simp only [execOp,C,A.2,hpv,Sem.run_bind,E,Result.andThen_ok,Sem.run_pure];rfl),Gh.le.refl g,?_,?_⟩
      ·exact r.putObj L hb (by simp) rfl rfl rfl (iterAt_size _ _ _ _) (λb hb'=>iterAt_other w c b _ _ hb') (iterAt_heap w c _ pos _ hk)
      ·simp only [V];refine ⟨_,rfl,?_⟩;simp only [VL];exact ⟨_,_,rfl,by simp only [V],_,_,rfl,by simp only [V],_,_,rfl,by rfl,rfl⟩
     ·rename_i hp;have E:=run_next_end_at (P:=P) w c ⟨s.toArray⟩ pos o.type hk (by omega);refine stay r (u:=.tuple #[.bool false]) (by simp only [execOp,C,A.2,hpv,Sem.run_bind,E,Result.andThen_ok,Sem.run_pure]) ?_;simp only [V];exact ⟨_,rfl,by simp only [VL];exact ⟨_,_,rfl,by simp only [V],rfl⟩⟩
    ·trivial
   ·trivial
  ·trivial
 ·-- makeMap
  rename_i t C;have hsl:g.σ.length=h.blks.length:=r.slen;refine ⟨.map (some w.heap.size),w.alloc (.map #[] 0),g.addS w.heap.size,.inl ?_,g.le_addS _,r.newBlk _ _ ⟨#[],0,heap_alloc_new w _,by simp [ME],λ_=>⟨rfl,λi e h=>by simp at h⟩⟩,?_⟩
  ·simp [execOp,C,run_makeMap]
  ·simp only [V,Gh.addS]
   simp_all
 ·-- lookup
  rename_i t x i ok C;split
  ·rename_i A;simp only [ud] at A;split
   ·rename_i kt et I;refine Fits.oo λv H=>?_;obtain ⟨u,E,G⟩:=lookup_sound r I (V.ev D A.1) (V.ev D A.2) H;exact stay r (by simp [execOp,C,E]) G
   ·trivial
  ·trivial
 ·-- mapEntry
  rename_i t x i C;split
  ·rename_i A;simp only [ud] at A;split
   ·rename_i kt et I;rcases hs:aEntry P h kt et (ev env x) (ev env i) with _ | ⟨v,h'⟩
    ·trivial
    ·obtain ⟨u,w',E,G,R⟩:=entry_sound r I (V.ev D A.1) (V.ev D A.2) hs;exact ⟨u,w',g,.inl (by simp [execOp,C,E]),Gh.le.refl g,R,G⟩
   ·trivial
  ·trivial
 ·-- entryStore
  rename_i t x i y C;split
  ·rename_i A;simp only [ud] at A;rcases hs:aEntryStore h (ev env x) (ev env i) (ev env y) with _ | h'
   ·trivial
   ·obtain ⟨w',E,R⟩:=entryStore_sound (P:=P) (t:=t) r (V.ev D A.1.1) (V.ev D A.1.2) (V.ev D A.2) hs;exact ⟨undef,w',g,.inr ⟨by simp [execOp,C,E],rfl⟩,Gh.le.refl g,R,V.ofUndef⟩
  ·trivial
 ·-- mapUpdate
  rename_i t x i y C;split
  ·rename_i A;simp only [ud] at A;split
   ·rename_i kt et I;rcases hs:aMapPut P h kt (ev env x) (ev env i) (ev env y) with _ | h'
    ·trivial
    ·obtain ⟨w',E,R⟩:=mapPut_sound r I (V.ev D A.1.1) (V.ev D A.1.2) (V.ev D A.2) hs;exact ⟨undef,w',g,.inr ⟨by simp [execOp,C,E],rfl⟩,Gh.le.refl g,R,V.ofUndef⟩
   ·trivial
  ·trivial
 ·trivial
end
end Go.Vv
namespace Go.Vv
open Go Go.RowKit Go.Lib
variable {n:Nat}

mutual
def AV.low (n m:Nat):AV->Bool
 | .ptr id _ | .msl _ id _ _ | .map id | .yld id=>decide (id < n)
 | .osl (some t) _ _=>decide (t < m)
 | .rsl _ t _ _ | .rptr _ t _ _ _ | .rsuf _ t _ _ _=>decide (t < m)
 | .fn _ a b=>zD n m a&&zD n m b
 | .iface _ v=>v.low n m
 | .agg cs=>zD n m cs
 | .tup vs=>zD n m vs
 | _=>true
def zD (n m:Nat):List AV->Bool
 | []=>true
 | a::r=>a.low n m&&zD n m r
end
theorem AV.low_of_pure {m:Nat} {a:AV} (h:a.pure=true):a.low n m=true:=by
 unfold AV.pure at h;split at h <;> first | rfl | cases h

def Gh.cut (g:Gh) (n m:Nat):Gh:={ g with σ:=g.σ.take n,τ:=g.τ.take m }
theorem take_sub {α:Type} {l:List α} {i:Nat} {x:α} (e:(l.take n)[i]?=some x):l[i]?=some x:=by
 grind
theorem xY {α:Type} {l:List α} {i:Nat} {x:α} (h:i < n) (e:l[i]?=some x):(l.take n)[i]?=some x:=by simp_all

mutual
theorem V.cut {g:Gh} {n m:Nat}:∀(a:AV) (v:Value),a.low n m=true->V g a v->V (g.cut n m) a v
 | .bool _,_,_,hv=>by simpa only [V] using hv
 | .int _ _,_,_,hv=>by simpa only [V] using hv
 | .str _,_,_,hv=>by simpa only [V] using hv
 | .nilp,_,_,hv=>by simpa only [V] using hv
 | .nilm,_,_,hv=>by simpa only [V] using hv
 | .nilf,_,_,hv=>by simpa only [V] using hv
 | .nili,_,_,hv=>by simpa only [V] using hv
 | .nilsl,_,_,hv=>by simpa only [V] using hv
 | .ptr id off,_,hl,hv=>by
  simp only [V] at hv ⊢;simp only [AV.low,uj] at hl;obtain ⟨c,j,e⟩:=hv;exact ⟨c,xY hl j,e⟩
 | .fptr cs,_,_,hv=>by
  simp only [V] at hv ⊢;obtain ⟨b,o,e,j⟩:=hv;exact ⟨b,o,e,VC.cut b o cs j⟩
 | .sl k es,_,_,hv=>by
  simp only [V] at hv ⊢;obtain ⟨a,c,e,d,h,i⟩:=hv;exact ⟨a,c,e,d,h,i.imp id λ⟨b,o,e,hh⟩=>⟨b,o,e,VE.cut b k o es hh⟩⟩
 | .osl q k es,_,hl,hv=>by
  simp only [V] at hv ⊢;obtain ⟨a,c,e,d,h,i,w⟩:=hv;refine ⟨a,c,e,d,h,i.imp id λ⟨b,o,e,hh⟩=>⟨b,o,e,VE.cut b k o es hh⟩,?_⟩;cases q with
  | none=>exact w
  | some id =>
   simp only [AV.low,uj] at hl;obtain ⟨t,l,y⟩:=w;exact ⟨t,xY hl l,y⟩
 | .msl _ id _ _,_,hl,hv=>by
  simp only [V] at hv ⊢;simp only [AV.low,uj] at hl;obtain ⟨c,cap,j,e⟩:=hv;exact ⟨c,cap,xY hl j,e⟩
 | .rsl _ _ _ _,_,hl,hv=>by
  simp only [V] at hv ⊢;simp only [AV.low,uj] at hl;obtain ⟨a,c,e,d,h,t,l,i⟩:=hv;exact ⟨a,c,e,d,h,t,xY hl l,i⟩
 | .rsuf _ _ _ _ _,_,hl,hv=>by
  simp only [V] at hv ⊢;simp only [AV.low,uj] at hl;obtain ⟨a,c,e,d,t,l,i⟩:=hv;exact ⟨a,c,e,d,t,xY hl l,i⟩
 | .rptr _ _ _ _ _,_,hl,hv=>by
  simp only [V] at hv ⊢;simp only [AV.low,uj] at hl;obtain ⟨b,q,e,t,l,i⟩:=hv;exact ⟨b,q,e,t,xY hl l,i⟩
 | .map id,_,hl,hv=>by
  simp only [V] at hv ⊢;simp only [AV.low,uj] at hl;obtain ⟨c,j,e⟩:=hv;exact ⟨c,xY hl j,e⟩
 | .fn f a5 bs,_,hl,hv=>by
  simp only [V] at hv ⊢;simp only [AV.low,ud] at hl;obtain ⟨fs,cs,e,d,h⟩:=hv;exact ⟨fs,cs,e,VL.cut a5 _ hl.1 d,VL.cut bs _ hl.2 h⟩
 | .iface t x,_,hl,hv=>by
  simp only [V] at hv ⊢;simp only [AV.low] at hl;obtain ⟨u,e,d⟩:=hv;exact ⟨u,e,V.cut x u hl d⟩
 | .agg cs,_,hl,hv=>by
  simp only [V] at hv ⊢;simp only [AV.low] at hl;obtain ⟨vs,e,d⟩:=hv;exact ⟨vs,e,VA.cut cs _ hl d⟩
 | .tup xs,_,hl,hv=>by
  simp only [V] at hv ⊢;simp only [AV.low] at hl;obtain ⟨vs,e,d⟩:=hv;exact ⟨vs,e,VL.cut xs _ hl d⟩
 | .glob _,_,_,hv=>by simpa only [V] using hv
 | .yld id,_,hl,hv=>by
  simp only [V] at hv ⊢;simp only [AV.low,uj] at hl;obtain ⟨c,j,e⟩:=hv;exact ⟨c,xY hl j,e⟩
 | .bsl k es,_,_,hv=>by
  simp only [V] at hv ⊢;obtain ⟨a,c,e,d,h,i⟩:=hv;exact ⟨a,c,e,d,h,i.imp id λ⟨b,o,e,hh,p⟩=>⟨b,o,e,VE.cut b k o es hh,p⟩⟩
 | .nsl k es,_,_,hv=>by
  simp only [V] at hv ⊢;obtain ⟨a,c,e,d,h,i⟩:=hv;exact ⟨a,c,e,d,h,i.imp id λ⟨b,o,e,hh,p⟩=>⟨b,o,e,VE.cut b k o es hh,p⟩⟩
 | .gsl k n,_,_,hv=>by simp only [V] at hv ⊢;exact hv
 | .gptr m,_,_,hv=>by simp only [V] at hv ⊢;exact hv
 | .any,_,_,_=>by simp only [V]
 | .opq,_,_,hv=>by simpa only [V] using hv
theorem VL.cut {g:Gh} {n m:Nat}:∀(a5:List AV) (vs:List Value),zD n m a5=true->VL g a5 vs->VL (g.cut n m) a5 vs
 | [],_,_,hv=>by simpa only [VL] using hv
 | a::r,_,hl,hv=>by
  simp only [VL] at hv ⊢;simp only [zD,ud] at hl;obtain ⟨v,s,e,d,h⟩:=hv;exact ⟨v,s,e,V.cut a v hl.1 d,VL.cut r s hl.2 h⟩
theorem VA.cut {g:Gh} {n m:Nat}:∀(a5:List AV) (vs:List Value),zD n m a5=true->VA g a5 vs->VA (g.cut n m) a5 vs
 | [],_,_,hv=>by simpa only [VA] using hv
 | a::r,_,hl,hv=>by
  simp only [VA] at hv ⊢;simp only [zD,ud] at hl;obtain ⟨v,s,e,⟨h0,d⟩,h⟩:=hv;exact ⟨v,s,e,⟨h0,V.cut a v hl.1 d⟩,VA.cut r s hl.2 h⟩
theorem VC.cut {g:Gh} {n m:Nat} (b:Nat):∀(o:Nat) (a5:List AV),VC g b o a5->VC (g.cut n m) b o a5
 | _,[],_=>by simp only [VC]
 | o,a::r,hv=>by
  simp only [VC] at hv ⊢;obtain ⟨⟨v,h0,d,h⟩,i⟩:=hv;exact ⟨⟨v,h0,d,V.cut a v (AV.low_of_pure d) h⟩,VC.cut b (o+1) r i⟩
theorem VE.cut {g:Gh} {n m:Nat} (b k:Nat):∀(o:Nat) (a5:List (List AV)),VE g b k o a5->VE (g.cut n m) b k o a5
 | _,[],_=>by simp only [VE]
 | o,e::r,hv=>by
  simp only [VE] at hv ⊢;obtain ⟨⟨h0,d⟩,h⟩:=hv;exact ⟨⟨h0,VC.cut b o e d⟩,VE.cut b k (o+k) r h⟩
end

mutual
theorem V.isLow {g:Gh}:∀(a:AV) (v:Value),V g a v->a.low g.σ.length g.τ.length=true
 | .ptr id off,_,hv=>by
  simp only [V] at hv;obtain ⟨c,j,_⟩:=hv;simpa [AV.low] using (uc.1 j).1
 | .msl _ id _ _,_,hv=>by
  simp only [V] at hv;obtain ⟨c,cap,j,_⟩:=hv;simpa [AV.low] using (uc.1 j).1
 | .map id,_,hv=>by
  simp only [V] at hv;obtain ⟨c,j,_⟩:=hv;simpa [AV.low] using (uc.1 j).1
 | .yld id,_,hv=>by
  simp only [V] at hv;obtain ⟨c,j,_⟩:=hv;simpa [AV.low] using (uc.1 j).1
 | .osl q k es,_,hv=>by
  simp only [V] at hv;obtain ⟨a,c,e,d,l,m,o⟩:=hv;cases q with
  | none=>rfl
  | some id =>
   obtain ⟨t,h,_⟩:=o;simpa [AV.low] using (uc.1 h).1
 | .rsl _ i k n,_,hv=>by
  simp only [V] at hv;obtain ⟨a,c,e,d,l,t,h,m⟩:=hv;simpa [AV.low] using (uc.1 h).1
 | .rsuf _ i k n p,_,hv=>by
  simp only [V] at hv;obtain ⟨a,c,e,d,t,h,m⟩:=hv;simpa [AV.low] using (uc.1 h).1
 | .rptr _ i k n p,_,hv=>by
  simp only [V] at hv;obtain ⟨b,q,e,t,h,m⟩:=hv;simpa [AV.low] using (uc.1 h).1
 | .fn f a5 bs,_,hv=>by
  simp only [V] at hv;obtain ⟨fs,cs,e,d,l⟩:=hv;simp [AV.low,VL.isLow a5 _ d,VL.isLow bs _ l]
 | .iface t x,_,hv=>by
  simp only [V] at hv;obtain ⟨u,e,d⟩:=hv;simp [AV.low,V.isLow x u d]
 | .agg cs,_,hv=>by
  simp only [V] at hv;obtain ⟨vs,e,d⟩:=hv;simp [AV.low,VL.isLow cs _ d.toVL]
 | .tup xs,_,hv=>by
  simp only [V] at hv;obtain ⟨vs,e,d⟩:=hv;simp [AV.low,VL.isLow xs _ d]
 | .bool _,_,_ | .int _ _,_,_ | .str _,_,_ | .nilp,_,_ | .nilm,_,_ | .nilf,_,_ | .nili,_,_ | .nilsl,_,_ | .fptr _,_,_ | .sl _ _,_,_ | .glob _,_,_ | .any,_,_ | .opq,_,_ | .bsl _ _,_,_ | .nsl _ _,_,_ | .gsl _ _,_,_ | .gptr _,_,_=>rfl
theorem VL.isLow {g:Gh}:∀(a5:List AV) (vs:List Value),VL g a5 vs->zD g.σ.length g.τ.length a5=true
 | [],_,_=>rfl
 | a::r,_,hv=>by
  simp only [VL] at hv;obtain ⟨v,s,e,d,l⟩:=hv;simp [zD,V.isLow a v d,VL.isLow r s l]
end

def Blk.low (n m:Nat):Blk->Bool
 | .cells cs=>zD n m cs
 | .mapo es _=>es.all λp=>p.1.low n m&&p.2.low n m
 | .loop _ _ env _ _ _=>zD n m env
 | .row t _ _=>decide (t < m)
 | .miter id _ _=>decide (id < n)
 | .bld _ x=>x.low n m
 | _=>true

theorem ME.cut {g:Gh} {n m:Nat}:∀(a5:List (AV×AV)) (vs:List MapEntry),(a5.all λp=>p.1.low n m&&p.2.low n m)=true->ME g a5 vs->ME (g.cut n m) a5 vs
 | [],_,_,hv=>by simpa only [ME] using hv
 | (k,x)::r,_,hl,hv=>by
  simp only [ME] at hv ⊢;simp only [tI,ud] at hl;obtain ⟨e,s,rfl,b,a,c⟩:=hv;exact ⟨e,s,rfl,V.cut k _ hl.1.1 b,V.cut x _ hl.1.2 a,ME.cut r s hl.2 c⟩
theorem ME.isLow {g:Gh}:∀(a5:List (AV×AV)) (vs:List MapEntry),ME g a5 vs->(a5.all λp=>p.1.low g.σ.length g.τ.length&&p.2.low g.σ.length g.τ.length)=true
 | [],_,_=>rfl
 | (k,x)::r,_,hv=>by
  simp only [ME] at hv;obtain ⟨e,s,rfl,b,a,c⟩:=hv;simp [V.isLow k _ b,V.isLow x _ a,ME.isLow r s c]
theorem BlkOk.cut {g:Gh} {w:World} {c n m:Nat} {k:Blk} (h:k.low n m=true) (f:BlkOk g w c k):BlkOk (g.cut n m) w c k:=by
 cases k with
 | cells cs=>obtain ⟨vs,t,e,b⟩:=f;exact ⟨vs,t,e,VA.cut _ _ h b⟩
 | bld T x=>obtain ⟨a,v,e,b,i,l⟩:=f;exact ⟨a,v,e,b,i,V.cut _ _ h l⟩
 | siter s pos=>exact f
 | mapo es clock=>obtain ⟨ents,n,e,b,i⟩:=f;exact ⟨ents,n,e,ME.cut _ _ h b,i⟩
 | loop st pe env ps assign body=>obtain ⟨fn,tmps,d,e,b⟩:=f;exact ⟨fn,tmps,d,e,VL.cut _ _ h b⟩
 | row _ _ _=>exact f
 | miter id n2 seen=>obtain ⟨j,e,b⟩:=f;exact ⟨j,xY (by simpa [Blk.low] using h) e,b⟩
 | miter0=>exact f
 | other=>trivial
 | dead=>trivial
theorem BlkOk.isLow {g:Gh} {w:World} {c:Nat} {k:Blk} (e:BlkOk g w c k):k.low g.σ.length g.τ.length=true:=by
 cases k with
 | cells cs=>obtain ⟨vs,t,f,b⟩:=e;exact VL.isLow _ _ b.toVL
 | bld T x=>obtain ⟨a,v,f,b,i,h⟩:=e;exact V.isLow _ _ h
 | siter s pos=>rfl
 | mapo es clock=>obtain ⟨ents,n,f,b,_⟩:=e;exact ME.isLow _ _ b
 | loop st pe env ps assign body=>obtain ⟨fn,tmps,d,f,b⟩:=e;exact VL.isLow _ _ b
 | row _ _ _=>exact e.elim
 | miter id n seen=>obtain ⟨m,f,b⟩:=e;simpa [Blk.low] using (uc.1 f).1
 | miter0=>rfl
 | other=>rfl
 | dead=>rfl
theorem wM {n m:Nat}:∀{a5:List AV},a5.all AV.pure=true->zD n m a5=true
 | [],_=>rfl
 | a::r,h=>by
  simp only [tI,ud] at h;simp [zD,AV.low_of_pure h.1,wM h.2]
theorem RowB.cut {g:Gh} {w:World} {n m:Nat} {k:Blk} (r:k.low n m=true) (a:RowB g w k):RowB (g.cut n m) w k:=by
 cases k with
 | row i k es =>
  obtain ⟨t,p,f,s,l,c,u⟩:=a;refine ⟨t,xY (by simpa [Blk.low] using r) p,f,s,l,c,u.imp (λh=>h) ?_⟩
  rintro ⟨b,o,e,cs,ty,d,k2,j,v,q⟩
  exact ⟨b,o,e,cs,ty,d,k2,VA.cut _ _ (wM c) j,v,q⟩
 | dead=>trivial
 | _=>exact a.elim
theorem RowB.isLow {g:Gh} {w:World} {k:Blk} (a:RowB g w k):k.low g.σ.length g.τ.length=true:=by
 cases k with
 | row i k es =>
  obtain ⟨t,b,_⟩:=a;simpa [Blk.low] using (uc.1 b).1
 | dead=>rfl
 | _=>exact a.elim
theorem Rel.isLow {B:Nat} {w0 w:World} {g:Gh} {h:AH} (r:Rel B w0 g h w) {i:Nat} {k:Blk} (a:h.blks[i]?=some k):k.low g.σ.length g.τ.length=true:=by
 have b:i < g.σ.length:=by rw [r.slen];exact (uc.1 a).1
 rcases hc:g.σ[i] with _ | c
 ·exact (r.row i k (by simp_all) a).isLow
 ·exact (r.blk i c k (by simp_all) a).2.2.1.isLow
def AH.cut (h:AH) (n m:Nat):AH:={ blks:=h.blks.take n,toks:=h.toks.take m }

theorem Rel.cut {B:Nat} {w0 w:World} {g:Gh} {h:AH} (r:Rel B w0 g h w) (n m:Nat) (v:∀(i:Nat) (k:Blk),i < n->h.blks[i]?=some k->k.low n m=true):Rel B w0 (g.cut n m) (h.cut n m) w :=
 by
 refine ⟨r.below,r.bsz,r.phi,by simp [Gh.cut,AH.cut,r.slen],λi c k f d=>?_,by simp [Gh.cut,AH.cut,r.tlen],λi t e=>?_,λi j c hi a=>?_,λi j t t' b x y hi a s A=>?_,λi c j t b x hi a s=>?_,λc f=>⟨(r.dfr c f).1,(r.dfr c f).2.1,λi hi=>by
  simp only [Gh.cut] at hi;rw [uw] at hi;split at hi
  ·exact (r.dfr c f).2.2 i hi
  ·cases hi⟩,λi k hi d=>?_,λi j t k k' es es' hi a=>?_,λb x l=>(r.nb b x l).mono λ_ _ u=>⟨rfl,⟨λi hi=>u.1 i (take_sub hi),u.2.1,λi t y e=>u.2.2 i t y (take_sub e)⟩,λh=>h⟩,r.ob,λb l=>⟨λi hi=>(r.oa b l).1 i (take_sub hi),(r.oa b l).2.1,λi t y e=>(r.oa b l).2.2 i t y (take_sub e)⟩⟩
 ·simp only [Gh.cut,AH.cut] at f d;rw [uw] at f d;split at f
  ·rename_i hi;rw [uv hi] at d;obtain ⟨q,p,C,z⟩:=r.blk i c k f d;exact ⟨q,p,C.cut (v i k hi d),z⟩
  ·cases f
 ·simp only [Gh.cut,AH.cut] at e ⊢;rw [uw] at e;split at e
  ·rename_i hi;obtain ⟨q,p⟩:=r.tok i t e;exact ⟨xY hi q,p⟩
  ·cases e
 ·simp only [Gh.cut] at hi a;rw [uw] at hi a;split at hi
  ·split at a
   ·exact r.sinj i j c hi a
   ·cases a
  ·cases hi
 ·simp only [Gh.cut] at hi a;rw [uw] at hi a;split at hi
  ·split at a
   ·exact r.tinj i j t t' b x y hi a s A
   ·cases a
  ·cases hi
 ·simp only [Gh.cut] at hi a;rw [uw] at hi a;split at hi
  ·split at a
   ·exact r.sep i c j t b x hi a s
   ·cases a
  ·cases hi
 ·simp only [Gh.cut,AH.cut] at hi d;rw [uw] at hi d;split at hi
  ·rename_i o;rw [uv o] at d;exact (r.row i k hi d).cut (v i k o d)
  ·cases hi
 ·simp only [AH.cut] at hi a;rw [uw] at hi a;split at hi
  ·split at a
   ·exact r.rinj _ _ _ _ _ _ _ hi a
   ·cases a
  ·cases hi

theorem Gh.le_cut {g g':Gh} (h:g.le g'):g.le (g'.cut g.σ.length g.τ.length) :=
 ⟨h.phi,λi c e=>xY (uc.1 e).1 (h.sig i c e),λi t e=>by
  obtain ⟨t',b,a,d⟩:=h.tau i t e;exact ⟨t',xY (uc.1 e).1 b,a,d⟩,h.del,h.new,h.old⟩
mutual
theorem AV.low_mono {n m c:Nat} (h:m<=c):∀a:AV,a.low n m=true->a.low n c=true
 | .bool _,_ | .int _ _,_ | .str _,_ | .nilp,_ | .nilm,_ | .nilf,_ | .nili,_ | .nilsl,_ | .fptr _,_ | .sl _ _,_ | .glob _,_ | .any,_ | .opq,_ | .bsl _ _,_ | .nsl _ _,_ | .gsl _ _,_ | .gptr _,_=>rfl
 | .osl none _ _,_=>rfl
 | .osl (some t) _ _,hl=>by simp only [AV.low,uj] at hl ⊢;omega
 | .ptr _ _,hl=>hl
 | .msl _ _ _ _,hl=>hl
 | .rsl _ _ _ _,hl=>by simp only [AV.low,uj] at hl ⊢;omega
 | .rsuf _ _ _ _ _,hl=>by simp only [AV.low,uj] at hl ⊢;omega
 | .rptr _ _ _ _ _,hl=>by simp only [AV.low,uj] at hl ⊢;omega
 | .map _,hl=>hl
 | .yld _,hl=>hl
 | .fn _ a b,hl=>by
  simp only [AV.low,ud] at hl ⊢;exact ⟨lowL_mono h a hl.1,lowL_mono h b hl.2⟩
 | .iface _ v,hl=>by simp only [AV.low] at hl ⊢;exact AV.low_mono h v hl
 | .agg cs,hl=>by simp only [AV.low] at hl ⊢;exact lowL_mono h cs hl
 | .tup cs,hl=>by simp only [AV.low] at hl ⊢;exact lowL_mono h cs hl
theorem lowL_mono {n m c:Nat} (h:m<=c):∀l:List AV,zD n m l=true->zD n c l=true
 | [],_=>rfl
 | a::r,hl=>by
  simp only [zD,ud] at hl ⊢;exact ⟨AV.low_mono h a hl.1,lowL_mono h r hl.2⟩
end
theorem Blk.low_mono {n m d:Nat} (h:m<=d):∀b:Blk,b.low n m=true->b.low n d=true
 | .cells cs,hl=>lowL_mono h cs hl
 | .bld _ x,hl=>AV.low_mono h x hl
 | .mapo es c,hl=>by
  simp only [Blk.low,uq,ud] at hl ⊢;exact λp a=>⟨AV.low_mono h _ (hl p a).1,AV.low_mono h _ (hl p a).2⟩
 | .loop _ _ env _ _ _,hl=>lowL_mono h env hl
 | .row _ _ _,hl=>by simp only [Blk.low,uj] at hl ⊢;omega
 | .miter _ _ _,hl=>hl
 | .siter _ _,_ | .miter0,_ | .other,_ | .dead,_=>rfl
theorem Gh.le_cut2 {g g':Gh} (h:g.le g') {n m:Nat} (j:g.σ.length<=n) (a:g.τ.length<=m):g.le (g'.cut n m) :=
 ⟨h.phi,λi c e=>xY (sg (uc.1 e).1 j) (h.sig i c e),λi t e=>by
  obtain ⟨t',d,b,f⟩:=h.tau i t e;exact ⟨t',xY (sg (uc.1 e).1 a) d,b,f⟩,h.del,h.new,h.old⟩
end Go.Vv
namespace Go.Vv
open Go Go.RowKit
section
variable {B:Nat} {w0 w:World} {g:Gh} {h:AH}
theorem Rel.adoptN (r:Rel B w0 g h w) (k:Blk) (y:RowB (g.addS none) w k) (G:∀t s es,k=.row t s es->∀(i k2:Nat) (p:List (List AV)),h.blks[i]? ≠ some (.row t k2 p)) :
  Rel B w0 (g.addS none) (h.new k) w:=by
 have key:∀(i:Nat) (x:Blk),(h.blks++[k])[i]?=some x->(h.blks[i]?=some x/\i < h.blks.length) \/ (i=h.blks.length/\x=k):=by
  grind
 refine ⟨r.below,r.bsz,r.phi,by simp [Gh.addS,AH.new,r.slen],λi c q d f=>?_,r.tlen,r.tok,λi j c hi l=>?_,r.tinj,λi c j t b x hi l E=>?_,λc d=>⟨(r.dfr c d).1,(r.dfr c d).2.1,λi hi=>?_⟩,
  λi q hi f=>?_,λi j t s k2 es es' hi l=>?_,λb x m=>(r.nb b x m).mono λ_ _ u=>⟨rfl,⟨λi hi=>(addS_get hi).elim (λhi=>u.1 i hi) (λa=>nomatch a.2),u.2⟩,λh=>h⟩,r.ob,λb m=>⟨λi hi=>(addS_get hi).elim (λhi=>(r.oa b m).1 i hi) (λa=>nomatch a.2),(r.oa b m).2⟩⟩
 ·rcases addS_get d with d | ⟨_,a⟩
  ·have C:i < h.blks.length:=by rw [<- r.slen];exact (uc.1 d).1
   rcases key i q f with ⟨f,_⟩ | ⟨rfl,_⟩
   ·obtain ⟨A,v,D,z⟩:=r.blk i c q d f;exact ⟨A,v,D.mono (g.le_addS _) rfl,z⟩
   ·omega
  ·cases a
 ·rcases addS_get hi with hi | ⟨_,a⟩
  ·rcases addS_get l with l | ⟨_,a⟩
   ·exact r.sinj i j c hi l
   ·cases a
  ·cases a
 ·rcases addS_get hi with hi | ⟨_,a⟩
  ·exact r.sep i c j t b x hi l E
  ·cases a
 ·rcases addS_get hi with hi | ⟨_,a⟩
  ·exact (r.dfr c d).2.2 i hi
  ·cases a
 ·rcases key i q f with ⟨f,C⟩ | ⟨_,rfl⟩
  ·rcases addS_get hi with hi | ⟨e,_⟩
   ·exact (r.row i q hi f).mono (g.le_addS _) (λ_ _ h _=>h) (λ_ _ _ _ _ _ _=>⟨rfl,λ_=>rfl⟩)
   ·rw [r.slen] at e;omega
  ·exact y
 ·rcases key i _ hi with ⟨n,_⟩ | ⟨rfl,H⟩ <;> rcases key j _ l with ⟨o,_⟩ | ⟨rfl,F⟩
  ·exact r.rinj _ _ _ _ _ _ _ n o
  ·grind
  ·grind
  ·rfl
theorem Rel.row_lt (r:Rel B w0 g h w) {i t k:Nat} {es:List (List AV)} (a:h.blks[i]?=some (.row t k es)):t < g.τ.length:=by
 obtain ⟨_,u,b,_⟩:=r.rowAt a
 grind
theorem Rel.newRowT (r:Rel B w0 g h w) (t:TI) (k:Nat) (es:List (List AV)) (a:∀b l e,t.loc=some (b,l,e)->LocOk g.Φ B w b l e)
  (hd:∀b x,t.loc=some (b,x)->(∀(j:Nat) (u:TI) (y:Nat×Nat),g.τ[j]?=some u->u.loc ≠ some (b,y))/\(∀(j c:Nat),g.σ[j]?=some (some c)->b ≠ c)/\g.N b=none/\¬ g.O b)
  (d:RowOk ((g.addT t).addS none) w g.τ.length k es) :
  Rel B w0 ((g.addT t).addS none) (({ h with toks:=h.toks++[t.n] }:AH).new (.row g.τ.length k es)) w:=by
 refine (r.addTok t a hd).adoptN _ d λt' p f e i k2 o hi=>?_;injection e with m _ _;subst m;exact tW _ (r.row_lt hi)

theorem Rel.setRowG (r:Rel B w0 g h w) {i q k:Nat} {t t':TI} {es:List (List AV)} {nb:Blk} (hi:g.τ[i]?=some t) (hn:t.n < t'.n) (hf:t.row=true) (V:t'.row=true)
  (hq:g.σ[q]?=some none) (m:h.blks[q]?=some (.row i k es)) (hrow:RowB (g.setT i t') w nb) (J:∀t k es,nb=.row t k es->t=i)
  (H:∀b l e,t'.loc=some (b,l,e)->LocOk g.Φ B w b l e)
  (hd:∀b x,t'.loc=some (b,x)->(∃y,t.loc=some (b,y)) \/ ((∀(j:Nat) (u:TI) (y:Nat×Nat),g.τ[j]?=some u->u.loc ≠ some (b,y))/\(∀(j c:Nat),g.σ[j]?=some (some c)->b ≠ c)/\g.N b=none/\¬ g.O b)) :
  Rel B w0 (g.setT i t') { h.put q nb with toks:=h.toks.set i t'.n } w:=by
 have S:i < g.τ.length:=(uc.1 hi).1;have K:=Gh.le_setT hi hn (V.trans hf.symm);have key:∀(j:Nat) (u:TI),(g.setT i t').τ[j]?=some u->(j=i/\u=t') \/ (j ≠ i/\g.τ[j]?=some u):=by
  intro j u e;simp only [Gh.setT] at e
  grind
 have hql:q < h.blks.length:=(uc.1 m).1;have d:∀(j:Nat) (b:Blk),(h.blks.set q nb)[j]?=some b->(j=q/\b=nb) \/ (j ≠ q/\h.blks[j]?=some b):=by
  grind
 refine ⟨r.below,r.bsz,r.phi,by simp [AH.put,Gh.setT,r.slen],λZ c b C G=>?_,by simp [Gh.setT,r.tlen],λj u a=>?_,r.sinj,λj L u u' b x y R s D W=>?_,λj c L u b x C a D=>?_,r.dfr,
  λj b R G=>?_,λj1 j2 t1 k1 k2 e1 e2 T A=>?_,λb x m=>?_,r.ob,λb m=>?_⟩
 rotate_right
 rotate_right
 ·exact (r.nb b x m).mono λ_ _ v=>⟨rfl,⟨v.1,v.2.1,λj u y a I=>by
    rcases key j u a with ⟨rfl,rfl⟩ | ⟨_,a⟩
    ·rcases hd b y I with ⟨z,p⟩ | ⟨_,_,Q,_⟩
     ·exact v.2.2 _ _ z hi p
     ·have m:g.N b=some x:=m
      grind
    ·exact v.2.2 j u y a I⟩,λh=>h⟩
 ·have v:=r.oa b m;refine ⟨v.1,v.2.1,λj u y a I=>?_⟩;rcases key j u a with ⟨rfl,rfl⟩ | ⟨_,a⟩
  ·rcases hd b y I with ⟨z,p⟩ | ⟨_,_,_,Q⟩
   ·exact v.2.2 _ _ z hi p
   ·exact Q m
  ·exact v.2.2 j u y a I
 ·have C:g.σ[Z]?=some (some c):=C;rcases d Z b G with ⟨rfl,rfl⟩ | ⟨o,G⟩
  ·simp_all
  ·obtain ⟨M,E,Q,h4⟩:=r.blk Z c b C G;exact ⟨M,E,Q.mono K rfl,h4⟩
 ·rcases key j u a with ⟨rfl,rfl⟩ | ⟨R,a⟩
  ·exact ⟨uE (by rw [<- r.tlen];exact S),H⟩
  ·obtain ⟨M,E⟩:=r.tok j u a;exact ⟨by grind,E⟩
 ·rcases key j u R with ⟨rfl,rfl⟩ | ⟨o,A⟩ <;> rcases key L u' s with ⟨rfl,rfl⟩ | ⟨hne',s⟩
  ·rfl
  ·rcases hd b x D with ⟨z,p⟩ | ⟨M,_⟩
   ·exact r.tinj _ _ _ _ b z y hi s p W
   ·grind
  ·rcases hd b y W with ⟨z,p⟩ | ⟨M,_⟩
   ·exact r.tinj _ _ _ _ b x z A hi D p
   ·grind
  ·exact r.tinj _ _ _ _ b x y A s D W
 ·rcases key L u a with ⟨rfl,rfl⟩ | ⟨o,a⟩
  ·rcases hd b x D with ⟨z,p⟩ | ⟨_,E,_⟩
   ·exact r.sep j c _ t b z C hi p
   ·exact E j c C
  ·exact r.sep j c L u b x C a D
 ·rcases d j b G with ⟨rfl,rfl⟩ | ⟨o,f⟩
  ·omega
  ·have P:=r.row j b R f;cases b with
   | row i2 k2 e2 =>
    have P:RowOk g w i2 k2 e2:=P;have U:i2 ≠ i:=by rintro rfl;exact o (r.rinj _ _ _ _ _ _ _ f m)
    exact P.mono K (by simp only [Gh.setT];exact u7 (λe=>U e.symm)) (λ_ _ _ _ _ _=>⟨rfl,λ_=>rfl⟩)
   | dead=>trivial
   | _=>exact P.elim
 ·rcases d j1 _ T with ⟨rfl,Y⟩ | ⟨hne1,F⟩ <;> rcases d j2 _ A with ⟨rfl,X⟩ | ⟨hne2,f⟩
  ·rfl
  ·have:=J _ _ _ Y.symm;subst this;exact r.rinj _ _ _ _ _ _ _ m f
  ·have:=J _ _ _ X.symm;subst this;exact r.rinj _ _ _ _ _ _ _ F m
  ·exact r.rinj _ _ _ _ _ _ _ F f

def AH.shr (h:AH) (id tk k n:Nat) (es:List (List AV)):AH:=({ h.put id .dead with toks:=h.toks.set tk (es.length+1)++[n] }:AH).new (.row h.toks.length k (es.take n))
theorem flat_takeN {k:Nat}:∀(n:Nat) (es:List (List AV)),(∀e ∈ es,e.length=k)->n<=es.length->(es.take n).flatten=es.flatten.take (n * k)
 | 0,_,_,_=>by simp
 | n+1,[],_,h=>by simp at h
 | n+1,e::r,hk,h=>by
  have b:=hk e tT;simp only [sF,te];rw [flat_takeN n r (λx d=>hk x (tF _ d)) (by simpa using h),tX,b];have a:(n+1) * k - k=n * k:=by grind
  have c:e.take ((n+1) * k)=e:=uM (by grind);rw [a,c]
def locOf (a:Option Addr) (n c k:Nat):Option (Nat×Nat×Nat):=match a with
 | some ⟨b,o,none⟩=>if c=0 then none else some (b,o+n * k,o+c * k)
 | _=>none
theorem Rel.shrink (r:Rel B w0 g h w) {id i k n c:Nat} {es:List (List AV)} (hb:h.blk id=some (.row i k es)) (S:n<=es.length) {a a':Option Addr} (ha:a'=a \/ a'=a.map (·.add 0))
  (hV:V g (.rsl id i k es.length) (.slice a es.length c)) :
  ∃g',g.le g'/\Rel B w0 g' (h.shr id i k n es) w/\V g' (.rsl h.blks.length h.toks.length k n) (.slice a' n c):=by
 obtain ⟨hq,t,m,I,U,q,hpure,z⟩:=r.rowAt hb;simp only [V] at hV;obtain ⟨ad,cc,R,hnc,W,u,Q,hur,hun,K⟩:=hV;simp only [Value.slice.injEq] at R;obtain ⟨rfl,_,rfl⟩:=R;rw [m] at Q;injection Q with Q;subst Q;have Z:h.blks[id]?=some (.row i k es):=hb
 let d:TI:=⟨es.length+1,none,true⟩
 have r1:=r.setRowG (t':=d) (nb:=.dead) m (by grind) I rfl hq Z trivial (λ_ _ _ e=>by cases e) (λ_ _ _ e=>by cases e) (λ_ _ e=>by cases e);have hlt:i < g.τ.length:=(uc.1 m).1;have s:g.le (g.setT i d):=Gh.le_setT m (by grind) I.symm;have hloc:t.loc=t.loc:=rfl
 -- where the new one lies
 let f:TI:=⟨n,locOf a n c k,true⟩
 have other:∀(j:Nat) (v:TI),(g.setT i d).τ[j]?=some v->(j=i/\v=d) \/ (j ≠ i/\g.τ[j]?=some v):=by
  intro j v e;simp only [Gh.setT] at e
  grind
 have L:∀b l e,f.loc=some (b,l,e)->∃o,a=some ⟨b,o,none⟩/\l=o+n * k/\e=o+c * k/\t.loc=some (b,o+es.length * k,o+c * k):=by
  intro b l e E;simp only [f,locOf] at E
  grind
 have free:∀b o,t.loc=some (b,o+es.length * k,o+c * k)->∀j,o+n * k<=j->g.Φ b j=none:=by
  intro b o E j p;rcases z with rfl | ⟨b2,P,e2,cs,ty,k1,k2,k3,k4,k5⟩
  ·have:=(r.tok i t m).2 _ _ _ E;exact this.free j (by simp_all)
  ·grind
 have F:∀b l e,f.loc=some (b,l,e)->LocOk (g.setT i d).Φ B w b l e:=by
  intro b l e E;obtain ⟨o,_,rfl,rfl,D⟩:=L b l e E;have M:=(r.tok i t m).2 _ _ _ D;exact ⟨M.lo,M.lt,M.cells,λj p=>free b o D j p⟩
 have hdN:∀b x,f.loc=some (b,x)->(∀(j:Nat) (u:TI) (y:Nat×Nat),(g.setT i d).τ[j]?=some u->u.loc ≠ some (b,y))/\(∀(j c:Nat),(g.setT i d).σ[j]?=some (some c)->b ≠ c)/\(g.setT i d).N b=none/\¬ (g.setT i d).O b:=by
  rintro b ⟨l,e⟩ E
  obtain ⟨o,_,_,_,D⟩:=L b l e E;refine ⟨λj v y p hv=>?_,λj c' p=>r.sep j c' i t b _ p m D,r.ntok m D,r.otok m D⟩;rcases other j v p with ⟨rfl,rfl⟩ | ⟨T,p⟩
  ·cases hv
  ·exact T (r.tinj _ _ _ _ b _ _ p m hv D)
 have A:(g.setT i d).τ.length=h.toks.length:=by simp [Gh.setT,r.tlen]
 have J:(((g.setT i d).addT f).addS none).τ[h.toks.length]?=some f:=by
  simp only [Gh.addS,Gh.addT]
  simp_all
 have Y:es ≠ []->c ≠ 0:=by
  grind
 have C:RowOk (((g.setT i d).addT f).addS none) w (g.setT i d).τ.length k (es.take n):=by
  rw [A];refine ⟨f,J,rfl,by grind,λe R=>q e (List.mem_of_mem_take R),?_,?_⟩
  ·grind
  ·by_cases hes:es=[]
   ·grind
   ·right;rcases z with h0 | ⟨b2,P,e2,cs,ty,k1,k2,k3,k4,k5⟩
    ·simp_all
    ·rcases K with ⟨h1,_⟩ | ⟨b,o,H,G⟩
     ·grind
     ·have G:=G U.symm;rw [k1] at G;simp only [ui,t7] at G;obtain ⟨rfl,M,rfl⟩:=G;have:P=o:=by omega
      subst this;have X:n * k<=es.length * k:=tg k S;refine ⟨b2,P,P+c * k,cs,ty,?_,k2,?_,?_,λj p=>k5 j p⟩
      ·simp only [f,locOf,H,uC (Y hes),th,ra S]
      ·rw [flat_takeN n es q S,th,ra S];have:=VA.take (n * k) k3;rw [pQ,ra X] at this;exact VA.mono ((s.trans (Gh.le_addT _ _)).trans (Gh.le_addS _ _)) _ _ this
      ·grind
 have r2:=r1.newRowT f k (es.take n) F hdN C;refine ⟨((g.setT i d).addT f).addS none,(s.trans (Gh.le_addT _ _)).trans (Gh.le_addS _ _),?_,?_⟩
 ·have e1:h.shr id i k n es=(({ ({ h.put id .dead with toks:=h.toks.set i d.n }:AH) with toks:=(h.toks.set i d.n)++[f.n] }:AH).new (.row (g.setT i d).τ.length k (es.take n))):=by
   unfold AH.shr
   grind
  simp_all
 ·simp only [V];refine ⟨a',c,rfl,by omega,W,f,J,rfl,uh _,?_⟩;rcases K with ⟨h1,H⟩ | ⟨b,o,H,G⟩
  ·omega
  ·by_cases hc0:c=0
   ·omega
   ·right;refine ⟨b,o,?_,λ_=>?_⟩
    ·rcases ha with rfl | rfl
     ·exact H
     ·rw [H];simp [Addr.add]
    ·simp only [f,locOf,H,uC hc0]
end
end Go.Vv
namespace Go.Vv
open Go Go.RowKit Go.Lib
section
variable {P:Program} {w:World} {g:Gh} {h:AH} {B:Nat} {w0:World}
theorem row_write (r:Rel B w0 g h w) {id q k p:Nat} {es:List (List AV)} (A:h.blk id=some (.row q k es)) (u:es ≠ []) {t:TI} {b E:Nat} (U:g.τ[q]?=some t) (l:rowPt t b E es.length k p) {us:List Value} {vs:List AV}
  (i:VA g vs us) (L:vs.all AV.pure=true) (D:p+us.length<=es.flatten.length) :
  ∃w',(storeCells ⟨b,E,none⟩ us).run P w=.ok () w'/\Rel B w0 g (h.put id (.row q k (rows k es.length (yX es.flatten p vs)))) w':=by
 obtain ⟨T,R,l⟩:=l;obtain ⟨_,N,z,K,x,n,F,v⟩:=r.rowAt A;obtain rfl:N=t:=by simp_all
 obtain ⟨c,I,rfl,a⟩:=l x.symm;have y:es.flatten.length=es.length * k:=yJ n;have G:vs.length=us.length:=i.length;obtain ⟨Y,J,X,cs,ty2,d,k2,H,V,W⟩:=v.resolve_left u;rw [a] at d;injection d with d;injection d with O d;injection d with d _;obtain rfl:c=J:=by omega
 subst O;have f:=run_storeCells_at P b (c+p) ty2 us 0 cs w k2 (by omega) i.one';simp only [tS] at f;generalize hnew:(cs.toList.take (c+p)++us++cs.toList.drop (c+p+us.length)).toArray=new at f;have s:(yX es.flatten p vs).length=es.length * k:=by unfold yX;rw [uo,uo,th,sZ,y];omega
 obtain ⟨C,M,Q⟩:=rows_flat (k:=k) es.length (yX es.flatten p vs) s;have S:cs.toList.length=cs.size:=by simp
 refine ⟨w.setRow b new,f,r.storeRow (e:=I) (cur:=cs) (ty:=ty2) (o:=c) A z a k2 (by grind) (λj Z=>?_) M Q ?_ ?_ u⟩
 ·rw [<- hnew,sM,uB,un (by simp;omega),uw,uv (by omega),uK]
 ·rw [C];unfold yX
  grind
 ·rw [C];have m:(new.toList.drop c).take (es.length * k)=((cs.toList.drop c).take (es.length * k)).take p++us++((cs.toList.drop c).take (es.length * k)).drop (p+us.length):=by
   rw [<- hnew];apply tc;intro j;by_cases h1:j < p
   ·rw [uw,uv (by omega),uG,uB,un (by simp;omega),uw,uv (by omega)];rw [uB,un (by simp;omega),uw,uv h1,uw,uv (by omega),uG]
   ·by_cases h2:j < p+us.length
    ·rw [uw,uv (by omega),uG,uB,um (by simp;omega),un (by simp;omega)];rw [uB,um (by simp;omega),un (by simp;omega)]
     grind
    ·by_cases h3:j < es.length * k
     ·rw [uw,uv h3,uG,um (by simp;omega),uG];rw [um (by simp;omega),uG,uw,uv (by simp;omega),uG]
      grind
     ·rw [uw,uC h3,tJ]
      grind
  rw [m];exact splice_VA (off:=p) H i
def zsuf (z:List AV) (n i:Nat):List AV:=(List.replicate (n - i) z).flatten
def AH.clr (h:AH) (id tk k i:Nat) (es:List (List AV)) (z:List AV):AH:=h.put id (.row tk k (rows k es.length (yX es.flatten (i * k) (zsuf z es.length i))))
theorem put_same {h:AH} {id:Nat} {b:Blk} (a:h.blk id=some b):h.put id b=h:=by
 cases h with
 | mk B T =>
  simp only [AH.put,AH.mk.injEq,tQ];refine tc λj=>?_;by_cases hj:j=id
  ·subst hj;rw [uE (uc.1 a).1];exact a.symm
  ·grind
theorem clear_sound (r:Rel B w0 g h w) {t e ty:TypeId} {id s k n i:Nat} {es:List (List AV)} {z o:List AV} {x:Value} (F:P.underlying t=some (.slice e)) (hz:xl P e=some z) (X:xy z=some o) (I:z.length=k) (hkp:0 < k) (C:h.blk id=some (.row s k es)) (hn:es.length=n)
  (U:V g (.rsuf id s k n i) x):∃w',(Builtin.clear_ #[t] ty #[x]).run P w=.ok (.tuple #[]) w'/\Rel B w0 g (h.clr id s k i es o) w':=by
 subst hn;simp only [V] at U;obtain ⟨a,c,rfl,hin,t2,L,h3⟩:=U;obtain ⟨_,ti,hti,htr,htn,f,Z,W⟩:=r.rowAt C;have y:es.flatten.length=es.length * k:=yJ f;rcases h3 with h0 | ⟨b,q,rfl,M⟩
 ·have hi:i=es.length:=by omega
  subst hi;have O:h.clr id s k es.length es o=h:=by
   unfold AH.clr zsuf;have:yX es.flatten (es.length * k) (List.replicate (es.length - es.length) o).flatten=es.flatten:=by
    simp [yX,<- y]
   rw [this];have J:rows k es.length es.flatten=es:=by
    have:∀(l:List (List AV)),(∀e ∈ l,e.length=k)->rows k l.length l.flatten=l:=by
     intro l
     induction l with
     | nil=>intro _;rfl
     | cons x r ih =>
      intro j;simp only [uu,rows,te];rw [pP (j x tT),r6 (j x tT),ih λe R=>j e (tF _ R)]
    exact this es f
   rw [J];exact put_same C
  rw [O];refine ⟨w,?_,r⟩;rw [h0];cases a <;> simp [Builtin.clear_,run_underlying F]
 ·by_cases h0:es.length - i=0
  ·-- a5 above
   have hi:i=es.length:=by omega
   subst hi;have O:h.clr id s k es.length es o=h:=by
    unfold AH.clr zsuf;have:yX es.flatten (es.length * k) (List.replicate (es.length - es.length) o).flatten=es.flatten:=by
     simp [yX,<- y]
    rw [this];have J:rows k es.length es.flatten=es:=by
     have:∀(l:List (List AV)),(∀e ∈ l,e.length=k)->rows k l.length l.flatten=l:=by
      intro l
      induction l with
      | nil=>intro _;rfl
      | cons x r ih =>
       intro j;simp only [uu,rows,te];rw [pP (j x tT),r6 (j x tT),ih λe R=>j e (tF _ R)]
     exact this es f
    rw [J];exact put_same C
   rw [O];refine ⟨w,?_,r⟩;rw [h0];simp [Builtin.clear_,run_underlying F]
  ·have Q:es ≠ []:=by rintro rfl;simp at h0
   obtain ⟨iz,p,G,K,u⟩:=wH (g:=g) hz;have A:VA g o p.cells.toList:=qs u X;have N:p.cells.size=k:=by rw [<- I,u.length];rfl
   have v:∀w,(zeroValue e).run P w=.ok p w:=λw=>by simp [zeroValue,typeInfo,G,K]
   have d:(Builtin.zeroCells p.cells (es.length - i)).toList=(List.replicate (es.length - i) p.cells.toList).flatten:=by
    unfold Builtin.zeroCells;rw [rp,rE];exact range_rep p.cells (es.length - i)
   have H:VA g (zsuf o es.length i) (Builtin.zeroCells p.cells (es.length - i)).toList:=by
    rw [d];exact VA.flatten A _
   have hul:(Builtin.zeroCells p.cells (es.length - i)).toList.length=(es.length - i) * k:=by
    rw [d];simp [N]
   have S:i * k+(es.length - i) * k=es.length * k:=by rw [<- tu];congr 1;omega
   obtain ⟨w',T,Y⟩:=row_write (P:=P) r C Q L M H (by
    unfold zsuf;rw [uq];intro a D;obtain ⟨l,j,D⟩:=pF.1 D;rw [rB j] at D;have:=clean_pure X;rw [uq] at this;exact this a D) (by omega)
   refine ⟨w',?_,Y⟩;have E:∃m,es.length - i=m+1:=⟨es.length - i - 1,by omega⟩
   obtain ⟨m,hm⟩:=E;rw [hm] at T ⊢;simp only [Builtin.clear_];simp [run_underlying F,v,T]
end
end Go.Vv
