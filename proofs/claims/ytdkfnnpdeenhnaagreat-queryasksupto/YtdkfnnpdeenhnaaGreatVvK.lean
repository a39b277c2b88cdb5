/- The abstract step is sound: every operation. -/
import Derived.Test.YtdkfnnpdeenhnaaGreatVvJ
import Derived.Lib.OthersKept
namespace Go.Vv
open Go Go.RowKit Go.Lib
section
variable {P:Program} {w:World} {g:Gh} {h:AH} {B:Nat} {w0:World}

theorem vV {a:Act} {o:Oper} (r:Rel B w0 g h w) {v:AV} {u:Value} (h1:(execOp a.eval o).run P w=.ok (.value u) w) (h2:V g v u):wC P B w0 g a o w v h:=⟨u,w,g,.inl h1,Gh.le.refl g,r,h2⟩

theorem recv_sound (r:Rel B w0 g h w) {t:TypeId} {v b:AV} {u:Value} {name:String} {f:FuncId} (hr:aRecv P h t v name=some (f,b)) (hv:V g v u) (args:Array Value) :
  ∃x,(callMethod (.iface t u) name args).run P w=(callFunc f (#[x]++args)).run P w/\V g b x:=by
 unfold aRecv at hr;split at hr
 case h_2=>cases hr
 rename_i i hi;split at hr
 case h_2=>cases hr
 rename_i m hm;split at hr
 case isFalse=>cases hr
 rename_i hp;have hp':m.path=#[]:=by simpa using hp
 rw [Array.find?_toList] at hm;have key : ∀ x p, (receiverAt t (.val u) p (some ((name.splitOn ".").getLastD name))).run P w = .ok x w → m.func = some (f, p) →
   (callMethod (.iface t u) name args).run P w=(callFunc f (#[x]++args)).run P w:=λx p hx hf=>by
  have hn:P.types.size+Made.depth=(P.types.size+99)+1:=rfl;simp only [callMethod,Sem.run_bind,run_program,Result.andThen_ok];rw [hn];generalize P.types.size+99=n;rw [method];have hti:(typeInfo t).run P w=.ok i w:=by simp [typeInfo,hi]
  simp only [Sem.run_bind,hti,Result.andThen_ok,hm,hp',hf];have h0:(follow (#[]:Array FieldStep).toList t (.val u)).run P w=.ok (t,.val u) w:=rfl;simp only [Sem.run_bind,h0,Result.andThen_ok];have h1:((#[]:Array FieldStep).isEmpty)=true:=rfl;simp only [h1,if_true,Sem.run_bind,hx,Result.andThen_ok,Sem.run_pure]
 split at hr
 case h_2=>cases hr
 rename_i f' p hf;split at hr
 ·rename_i e ht;simp only [Option.some.injEq,Prod.mk.injEq] at hr;obtain ⟨rfl,rfl⟩:=hr;exact ⟨u,key u _ (by simp [receiverAt,run_underlying ht,Place.get]) hf,hv⟩
 ·rename_i e ht;split at hr
  ·rename_i id off d j hd hj;rw [Option.map_eq_some_iff] at hr;obtain ⟨x,hx,hr⟩:=hr;simp only [Prod.mk.injEq] at hr;obtain ⟨rfl,rfl⟩:=hr;obtain ⟨y,h1,h2⟩:=load_sound r hd hj hv hx;simp only [V] at hv;obtain ⟨c,hc,rfl⟩:=hv;refine ⟨y,key y _ ?_ hf,h2.tyfix⟩;simp only [Instr.loadAt,Instr.sureAddr] at h1;have hw : ∀ nm, (Builtin.ssaWrapNilChk_ #[t] t #[.pointer (some ⟨c, off, none⟩), strVal "", strVal nm]).run P w = .ok (.pointer (some ⟨c, off, none⟩)) w := fun _ => rfl;simp only [receiverAt,Sem.run_bind,run_underlying ht,Result.andThen_ok,Place.get,Sem.run_pure,hw,asAddr];simpa using h1
  ·cases hr
 ·rename_i d hne ht;simp only [Option.some.injEq,Prod.mk.injEq] at hr;obtain ⟨rfl,rfl⟩:=hr;refine ⟨u,key u _ ?_ hf,hv⟩;simp only [receiverAt,Sem.run_bind,run_underlying ht,Result.andThen_ok];simp [Place.get]
 ·cases hr
theorem astep_fits (r:Rel B w0 g h w) {a:Act} {env:List AV} (A:VL g env a.tmps.toList) (o:Oper):Fits P B w0 g a o w (zn P o env h):=by
 unfold zn;split
 ·-- move
  rename_i x m;split
  ·rename_i l;exact vV r (by simp [execOp,m]) (V.ev A l).tyfix
  ·trivial
 ·-- assign
  rename_i x m;split
  ·rename_i l;exact vV r (by simp [execOp,m]) (V.ev A l).tyfix
  ·trivial
 ·-- pick
  rename_i c x y m;split
  ·rename_i l;simp only [Bool.and_eq_true] at l;split
   ·rename_i t ht;have I:=V.ev A l.2;rw [ht] at I;simp only [V] at I;refine vV r (u:=if t then a.eval x else a.eval y) (by simp [execOp,m,I,asBool]) ?_;cases t
    ·exact V.ev A l.1.2
    ·exact V.ev A l.1.1
   ·trivial
  ·trivial
 ·-- alloc
  rename_i t m;split
  ·rename_i cs Y;obtain ⟨i,z,hi,hzz,hva⟩:=wD (g:=g) Y;have O:=r.slen;refine ⟨.pointer (some ⟨w.heap.size,0,none⟩),w.alloc (.cells z.cells t),g.addS w.heap.size,.inl ?_,g.le_addS _,r.newCells t hva,?_⟩
   ·simp [execOp,m,Instr.alloc,run_zero hi hzz,newVar,newRow]
   ·simp only [V,Gh.addS];exact ⟨w.heap.size,by rw [<- O];simp,rfl⟩
  ·trivial
 ·-- box
  rename_i t x m;split
  ·rename_i l;split
   ·rename_i cs I;have hva:=((V.ev A l).tyfix (P:=P) (t:=t)).cells I;have O:=r.slen;refine ⟨.pointer (some ⟨w.heap.size,0,none⟩),w.alloc (.cells (a.eval x).cells t),g.addS w.heap.size,.inl ?_,g.le_addS _,r.newCells t hva,?_⟩
    ·simp [execOp,m,Instr.box,newVar,newRow]
    ·simp only [V,Gh.addS];exact ⟨w.heap.size,by rw [<- O];simp,rfl⟩
   ·trivial
  ·trivial
 ·-- build
  rename_i t parts m;split
  ·rename_i l;have T:∀out,(∃u,(Instr.build t (parts.map λ(i,x)=>(i,a.eval x))).run P w=.ok u w/\V g (.agg out) u)->wC P B w0 g a o w (.agg out) h:=by
    rintro out ⟨u,C,D⟩
    exact vV r (by simp [execOp,m,C]) D
   split
   ·rename_i fs z G Y;split
    ·rename_i pl hpl;refine Fits.oo λv F=>?_;rcases M:wi (λi=>pl[i]?) z (yu P (.struct fs) env parts) with _ | out
     ·simp [M] at F
     ·simp [M] at F;subst F;exact T out (build_sound A l Y (.inl ⟨fs,pl,G,hpl,M⟩))
    ·trivial
   ·rename_i n e z G Y;split
    ·rename_i j hj;refine Fits.oo λv F=>?_;rcases M:wi (λi=>some (i * j.size,j.size)) z (yu P (.array n e) env parts) with _ | out
     ·simp [M] at F
     ·simp [M] at F;subst F;exact T out (build_sound A l Y (.inr ⟨n,e,j,G,hj,M⟩))
    ·trivial
   ·trivial
  ·trivial
 ·-- load
  rename_i t x m;split
  ·rename_i d i hd hi;refine Fits.oo λv F=>?_;obtain ⟨v',H,rfl⟩:=V.map_tyfix F;obtain ⟨u,C,D⟩:=load_sound r hd hi (p:=ev env x) (pv:=a.eval x) (by
    cases x with
    | tmp t=>exact V.ev A rfl
    | const c =>
     -- a constant is no address
     simp only [ev] at H;exfalso;unfold qG at H;unfold cv at H;split at H <;> first
      | (rename_i hh;split at hh <;> first | cases hh | (unfold cv1 at hh;split at hh <;> cases hh))
      | cases H
    | global n=>exact V.ev A rfl
    | func f=>exact V.ev A rfl) H
   exact vV r (by simp [execOp,m,C]) D.tyfix
  ·trivial
 ·-- store
  rename_i t x y m;split
  ·rename_i l;split
   ·rename_i i hi;rcases hs:aStore h i.size (ev env x) (tyfix P t (ev env y)) with _ | h'
    ·trivial
    ·show wC P B w0 g a o w aundef h';have hp:V g (ev env x) (a.eval x):=by
      cases x with
      | tmp t=>exact V.ev A rfl
      | const c =>
       simp only [ev] at hs;exfalso;unfold aStore at hs;unfold cv at hs;split at hs <;> first
        | (rename_i hh _;split at hh <;> first | cases hh | (unfold cv1 at hh;split at hh <;> cases hh))
        | cases hs
      | global n=>exact V.ev A rfl
      | func f=>exact V.ev A rfl
     obtain ⟨w',C,D⟩:=store_sound r hi hp (V.ev A l).tyfix hs;exact ⟨undef,w',g,.inr ⟨by simp [execOp,m,C],rfl⟩,Gh.le.refl g,D,V.ofUndef⟩
   ·trivial
  ·trivial
 ·-- nilCheck
  rename_i x m;split
  ·rename_i l;have E:=V.ev A l;split
   ·rename_i id off K;rw [K] at E;have R:=E;simp only [V] at E;obtain ⟨c,I,Q⟩:=E;exact vV r (u:=a.eval x) (by simp [execOp,m,Q]) R
   ·rename_i cs K;rw [K] at E;have R:=E;simp only [V] at E;obtain ⟨b,oo,Q,_⟩:=E;exact vV r (u:=a.eval x) (by simp [execOp,m,Q]) R
   ·rename_i id q k n p K;rw [K] at E;have R:=E;simp only [V] at E;obtain ⟨b,oo,Q,_⟩:=E;exact vV r (u:=a.eval x) (by simp [execOp,m,Q]) R
   ·rename_i f as bs K;rw [K] at E;have R:=E;simp only [V] at E;obtain ⟨fs,cs,Q,_⟩:=E;exact vV r (u:=a.eval x) (by simp [execOp,m,Q]) R
   ·trivial
  ·trivial
 ·-- binOp
  rename_i op t x y yt m;split
  ·rename_i l;simp only [Bool.and_eq_true] at l;split
   ·rename_i S hS;obtain ⟨b,C,D⟩:=nilq_sound (w:=w) (ox:=x) (oy:=y) (V.ev A l.1) (V.ev A l.2) hS;exact ⟨_,_,D,vV r (u:=.bool b) (by simp only [execOp,m,Sem.run_bind] at C ⊢;rw [C];rfl) (by simp only [V])⟩
   refine Fits.oo λv F=>?_;obtain ⟨u,C,D⟩:=bin_sound (w:=w) (ox:=x) (oy:=y) (V.ev A l.1) (V.ev A l.2) F;exact vV r (by simp only [execOp,m,Sem.run_bind] at C ⊢;rw [C];rfl) D
  ·trivial
 ·-- unOp
  rename_i op t x m;split
  ·rename_i l;refine Fits.oo λv F=>?_;obtain ⟨u,C,D⟩:=un_sound (P:=P) (w:=w) (V.ev A l) F;exact vV r (by simp [execOp,m,C]) D
  ·trivial
 ·-- convert
  rename_i s t x m;split
  ·rename_i l;split
   ·rename_i ds d hs hd;refine Fits.oo λv F=>?_;obtain ⟨u,C,D⟩:=convert_sound (w:=w) hs hd (V.ev A l) F;exact vV r (by simp [execOp,m,C]) D
   ·trivial
  ·trivial
 ·-- makeFunc
  rename_i f as bs m;split
  ·rename_i l;simp only [Bool.and_eq_true] at l;refine vV r (u:=.func f (as.map a.eval) (bs.map a.eval)) (by simp [execOp,m,Instr.makeFunc]) ?_;simp only [V];exact ⟨_,_,rfl,by simpa using VL.evs A (by simpa using l.1),by simpa using VL.evs A (by simpa using l.2)⟩
  ·trivial
 ·-- slice
  rename_i t x lo hi mx m;split
  ·rename_i l;simp only [Bool.and_eq_true] at l;obtain ⟨⟨⟨hok1,N⟩,W⟩,X⟩:=l;have E:=V.ev A hok1;have T:∀v,(∃y,(Instr.sliceAt t (a.eval x) (lo.map a.eval) (hi.map a.eval) (mx.map a.eval)).run P w=.ok y w/\V g v y)->wC P B w0 g a o w v h:=by
    rintro v ⟨u,C,D⟩
    exact vV r (by simp [execOp,m,C]) D
   split
   ·rename_i G;split
    ·rename_i s hs;rw [hs] at E;exact Fits.oo λv F=>T v (slice_str_sound G E (VO.ev A N) (VO.ev A W) (VO.ev A X) F)
    ·trivial
   ·rename_i e G;split
    ·rename_i i hi';have U:=E.tyfix (P:=P) (t:=t);split
     ·rename_i k es hs;rw [hs] at U;split
      ·rename_i hk;subst hk;refine Fits.oo λv F=>T v ?_;simp only [V] at U;obtain ⟨ad,c,J,C,D,L⟩:=U;rw [J];exact slice_sl_sound G hi' C D L (λh=>by cases h) (VO.ev A N) (VO.ev A W) (VO.ev A X) F
      ·trivial
     ·rename_i q k es hs;rw [hs] at U;split
      ·rename_i hk;subst hk;refine Fits.oo λv F=>T v ?_;simp only [V] at U;obtain ⟨ad,c,J,C,D,L,h4⟩:=U;rw [J];refine slice_sl_sound G hi' C D L (λh=>?_) (VO.ev A N) (VO.ev A W) (VO.ev A X) F;cases q with
       | none=>exact h4
       | some id=>cases h
      ·trivial
     ·trivial
    ·trivial
   ·trivial
  ·trivial
 ·-- fieldAddr
  rename_i t x f m;split
  ·rename_i off u M;split
   ·rename_i i hi;split
    ·trivial
    ·rename_i Y;simp only [not_or,Bool.not_eq_false] at Y;refine Fits.oo λv F=>?_;obtain ⟨y,C,D⟩:=fieldAddr_sound (w:=w) M hi Y.1 (V.ev A Y.2) F;exact vV r (by simp [execOp,m,C]) D
   ·trivial
  ·trivial
 ·-- field
  rename_i t x f m;split
  ·rename_i off u M;split
   ·rename_i d i hd hi;split
    ·rename_i l;refine Fits.oo λv F=>?_;obtain ⟨v',H,rfl⟩:=V.map_tyfix F;obtain ⟨y,C,D⟩:=field_sound (w:=w) M hd hi (V.ev A l) H;exact vV r (by simp [execOp,m,C]) D.tyfix
    ·trivial
   ·trivial
  ·trivial
 ·-- indexAddr
  rename_i t x i m;split
  ·rename_i l;simp only [Bool.and_eq_true] at l;split
   ·rename_i e G;split
    ·rename_i j hj;refine Fits.oo λv F=>?_;obtain ⟨y,C,D⟩:=indexAddr_slice_sound (w:=w) G hj (V.ev A l.1) (V.ev A l.2) F;exact vV r (by simp [execOp,m,C]) D
    ·trivial
   ·rename_i n e G;split
    ·rename_i j hj;refine Fits.oo λv F=>?_;obtain ⟨y,C,D⟩:=indexAddr_array_sound (w:=w) G hj (V.ev A l.1) (V.ev A l.2) F;exact vV r (by simp [execOp,m,C]) D
    ·trivial
   ·trivial
  ·trivial
 ·-- index
  rename_i t x i m;split
  ·rename_i l;simp only [Bool.and_eq_true] at l;split
   ·rename_i G;refine Fits.oo λv F=>?_;obtain ⟨y,C,D⟩:=index_str_sound (w:=w) G (V.ev A l.1) (V.ev A l.2) F;exact vV r (by simp [execOp,m,C]) D
   ·rename_i n e G;split
    ·rename_i d j hd hj;refine Fits.oo λv F=>?_;obtain ⟨v',H,rfl⟩:=V.map_tyfix F;obtain ⟨y,C,D⟩:=index_agg_sound (w:=w) G hd hj (V.ev A l.1) (V.ev A l.2) H;exact vV r (by simp [execOp,m,C]) D.tyfix
    ·trivial
   ·trivial
  ·trivial
 ·-- extract
  rename_i t i m;split
  ·rename_i l;have E:=V.ev A l;split
   ·rename_i vs K;rw [K] at E;refine Fits.oo λv F=>?_;obtain ⟨v',H,rfl⟩:=V.map_tyfix F;simp only [V] at E;obtain ⟨us,G,hVL⟩:=E;obtain ⟨u,C,D⟩:=hVL.get _ _ H;rw [Array.getElem?_toList] at C;exact vV r (by simp [execOp,m,G,Instr.extract,C]) D.tyfix
   ·trivial
  ·trivial
 ·-- buildSlice
  rename_i t n parts m;split
  ·rename_i l;split
   ·rename_i e G;split
    ·rename_i i z hi Y;split
     ·rename_i I;split
      ·rename_i cs M;split
       ·rename_i out hcl;obtain ⟨u,w',g',C,D,L,h4⟩:=buildSlice_sound r A l G hi Y I.1 I.2.1 I.2.2 M hcl;exact ⟨u,w',g',.inl (by simp [execOp,m,C]),D,L,h4⟩
       ·trivial
      ·trivial
     ·trivial
    ·trivial
   ·trivial
  ·trivial
 ·-- call
  rename_i c m;split
  ·rename_i l;simp only [Bool.and_eq_true,beq_iff_eq] at l;split
   ·rename_i b I;exact builtin_fits r A m I l.1
   ·rename_i f I;split
    ·trivial
    ·rename_i M;have E:=V.ev A (x:=f) (by simpa using M);split
     ·rename_i gg first caps K
      rw [K] at E;simp only [V] at E;obtain ⟨fs,cs,J,C,D⟩:=E;refine ⟨fs++c.args.map a.eval++cs,?_,?_⟩
      ·simp [execOp,m,resolve,I,J,Deferred.ofValue,invoke]
      ·simp only [Array.toList_append];have L:=VL.evs_fix (P:=P) A (xs:=c.args.toList) (ts:=c.argTypes.toList) (by simpa using l.1) (by simpa using l.2);exact VL.append (VL.append C (by simpa using L)) D
     ·rename_i id K;rw [K] at E;simp only [V] at E;obtain ⟨cc,hc1,J⟩:=E;refine ⟨cc,c.args.map a.eval,hc1,?_,?_⟩
      ·simp [execOp,m,resolve,I,J,Deferred.ofValue,invoke]
      ·have L:=VL.evs_fix (P:=P) A (xs:=c.args.toList) (ts:=c.argTypes.toList) (by simpa using l.1) (by simpa using l.2);simpa using L
     ·trivial
   ·rename_i x name I;split
    ·trivial
    ·rename_i M;have E:=V.ev A (x:=x) (by simpa using M);split
     ·rename_i t v K;rw [K] at E;simp only [V] at E;obtain ⟨u,J,F⟩:=E;split
      ·rename_i gg b hr;obtain ⟨y,C,D⟩:=recv_sound r hr F (c.args.map a.eval);refine ⟨#[y]++c.args.map a.eval,?_,?_⟩
       ·have hx2:((#[Value.iface t u]++c.args.map a.eval).extract 1 (#[Value.iface t u]++c.args.map a.eval).size)=c.args.map a.eval:=by
         apply Array.toList_inj.1;simp [List.take_of_length_le]
        have hx1:(#[Value.iface t u]++c.args.map a.eval)[0]?=some (.iface t u):=by
         rw [<- Array.getElem?_toList];simp
        rw [<- C];simp only [execOp,m,resolve,I,J,Sem.run_bind,Sem.run_pure,Result.andThen_ok,invoke];rw [hx1,hx2]
       ·have L:=VL.evs_fix (P:=P) A (xs:=c.args.toList) (ts:=c.argTypes.toList) (by simpa using l.1) (by simpa using l.2);simp only [Array.toList_append,List.cons_append,List.nil_append];exact VL.cons D (by simpa using L)
      ·trivial
     ·trivial
  ·trivial
 ·-- range
  rename_i t x m;split
  ·rename_i l;split
   ·rename_i s G K;have E:=V.ev A l;rw [K] at E;simp only [V] at E;have O:g.σ.length=h.blks.length:=r.slen;refine ⟨.pointer (some ⟨w.heap.size,0,none⟩),w.alloc (.stringIter ⟨s.toArray⟩ 0),g.addS w.heap.size,.inl ?_,g.le_addS _,r.newBlk _ _ (heap_alloc_new w _),?_⟩
    ·have:=run_range_string (P:=P) w t ⟨s.toArray⟩ G;simp [execOp,m,E.1,this,World.iter]
    ·simp only [V,Gh.addS];exact ⟨w.heap.size,by rw [<- O];simp,rfl⟩
   ·trivial
  ·trivial
 ·-- next
  rename_i x str m;split
  ·rename_i l;simp only [Bool.and_eq_true] at l;have E:=V.ev A l.1;unfold aNext;split
   ·rename_i id K;rw [K] at E;simp only [V] at E;obtain ⟨c,I,hpv⟩:=E;split
    ·rename_i s Z hb;obtain ⟨hB,hlt,N,_⟩:=r.blk id c _ I hb;have hk:w.heap[c]?=some (.stringIter ⟨s.toArray⟩ Z):=N;have hsz:(⟨s.toArray⟩:ByteArray).size=s.length:=by simp [ByteArray.size]
     split
     ·rename_i hp;have C:=run_next_any_at (P:=P) w c ⟨s.toArray⟩ Z o.type hk (by rw [hsz];exact hp);refine ⟨_,_,g,.inl (by simp only [execOp,m,l.2,hpv,Sem.run_bind,C,Result.andThen_ok,Sem.run_pure];rfl),Gh.le.refl g,?_,?_⟩
      ·exact r.putObj I hb (by simp) rfl rfl rfl (iterAt_size _ _ _ _) (λb hb'=>iterAt_other w c b _ _ hb') (iterAt_heap w c _ Z _ hk)
      ·simp only [V];refine ⟨_,rfl,?_⟩;simp only [VL];exact ⟨_,_,rfl,by simp only [V],_,_,rfl,by simp only [V],_,_,rfl,by simp only [V,dec],rfl⟩
     ·rename_i hp;have C:=run_next_end_at (P:=P) w c ⟨s.toArray⟩ Z o.type hk (by rw [hsz];exact hp);refine vV r (u:=.tuple #[.bool false]) (by simp only [execOp,m,l.2,hpv,Sem.run_bind,C,Result.andThen_ok,Sem.run_pure]) ?_;simp only [V];exact ⟨_,rfl,by simp only [VL];exact ⟨_,_,rfl,by simp only [V],rfl⟩⟩
    ·trivial
   ·trivial
  ·trivial
 ·-- makeMap
  rename_i t m;have O:g.σ.length=h.blks.length:=r.slen;refine ⟨.map (some w.heap.size),w.alloc (.map #[] 0),g.addS w.heap.size,.inl ?_,g.le_addS _,r.newBlk _ _ ⟨#[],0,heap_alloc_new w _,by simp [ME],λ_=>⟨rfl,λi e h=>by simp at h⟩⟩,?_⟩
  ·simp [execOp,m,run_makeMap]
  ·simp only [V,Gh.addS];exact ⟨w.heap.size,by rw [<- O];simp,rfl⟩
 ·-- lookup
  rename_i t x i ok m;split
  ·rename_i l;simp only [Bool.and_eq_true] at l;split
   ·rename_i kt et G;refine Fits.oo λv F=>?_;obtain ⟨u,C,D⟩:=lookup_sound r G (V.ev A l.1) (V.ev A l.2) F;exact vV r (by simp [execOp,m,C]) D
   ·trivial
  ·trivial
 ·-- mapEntry
  rename_i t x i m;split
  ·rename_i l;simp only [Bool.and_eq_true] at l;split
   ·rename_i kt et G;rcases hs:aEntry P h kt et (ev env x) (ev env i) with _ | ⟨v,h'⟩
    ·trivial
    ·obtain ⟨u,w',C,D,L⟩:=entry_sound r G (V.ev A l.1) (V.ev A l.2) hs;exact ⟨u,w',g,.inl (by simp [execOp,m,C]),Gh.le.refl g,L,D⟩
   ·trivial
  ·trivial
 ·-- entryStore
  rename_i t x i y m;split
  ·rename_i l;simp only [Bool.and_eq_true] at l;rcases hs:vN h (ev env x) (ev env i) (ev env y) with _ | h'
   ·trivial
   ·obtain ⟨w',C,L⟩:=entryStore_sound (P:=P) (t:=t) r (V.ev A l.1.1) (V.ev A l.1.2) (V.ev A l.2) hs;exact ⟨undef,w',g,.inr ⟨by simp [execOp,m,C],rfl⟩,Gh.le.refl g,L,V.ofUndef⟩
  ·trivial
 ·-- mapUpdate
  rename_i t x i y m;split
  ·rename_i l;simp only [Bool.and_eq_true] at l;split
   ·rename_i kt et G;rcases hs:aMapPut P h kt (ev env x) (ev env i) (ev env y) with _ | h'
    ·trivial
    ·obtain ⟨w',C,L⟩:=mapPut_sound r G (V.ev A l.1.1) (V.ev A l.1.2) (V.ev A l.2) hs;exact ⟨undef,w',g,.inr ⟨by simp [execOp,m,C],rfl⟩,Gh.le.refl g,L,V.ofUndef⟩
   ·trivial
  ·trivial
 ·trivial
end
end Go.Vv
