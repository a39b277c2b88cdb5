/- The abstract step is sound: every operation. -/
import Derived.Test.YtcdgimmdofbjdaaGreatVvH
import Derived.Lib.OthersKept
import Derived.Test.YtcdgimmdofbjdaaGreatVvD
set_option linter.all false
open Option renaming some→aa
open Option renaming none→ac
namespace Go.Vv
open Go Go.RowKit Go.Lib
section
variable{P:Program}{w:World}{g:Gh}{h:AH}{B:Nat}{w0:World}

theorem pd{a:Act}{o:Oper}(r:Rel B w0 g h w){v:AV}{u:Value}(h1:(execOp a.eval o).run P w=.ok (.value u) w)(h2:V g v u):tC P B w0 g a o w v h:=⟨u,w,g,.inl h1,Gh.le.refl g,r,h2⟩

theorem zkV(r:Rel B w0 g h w){t:TypeId}{v b:AV}{u:Value}{name:String}{f:FuncId}(hr:zhV P h t v name=aa (f,b))(hv:V g v u)(args:Array Value) :
  ∃x,(callMethod (.iface t u) name args).run P w=(callFunc f (#[x]++args)).run P w/\V g b x:=by
 unfold zhV at hr;split at hr
 case h_2=>cases hr
 rename_i i hi;split at hr
 case h_2=>cases hr
 rename_i m hm;split at hr
 case isFalse=>cases hr
 rename_i hp;have hp':m.path=#[]:=by simp_all
 rw[Array.find?_toList]at hm;have key : ∀ x p, (receiverAt t (.val u) p (aa ((name.splitOn ".").getLastD name))).run P w = .ok x w→m.func = aa (f, p)→
   (callMethod (.iface t u) name args).run P w=(callFunc f (#[x]++args)).run P w:=λx p hx hf=>by
  have hn:P.types.size+Made.depth=(P.types.size+99)+1:=rfl;simp only[callMethod,Sem.run_bind,run_program,Result.andThen_ok];rw[hn];generalize P.types.size+99=n;rw[method];have hti:(typeInfo t).run P w=.ok i w:=by simp[typeInfo,hi]
  simp only[Sem.run_bind,hti,Result.andThen_ok,hm,hp',hf];have h0:(follow (#[]:Array FieldStep).toList t (.val u)).run P w=.ok (t,.val u) w:=rfl
  simp_all
 split at hr
 case h_2=>cases hr
 rename_i f' p hf;split at hr
 ·rename_i e ht;simp only[p5,kG]at hr;obtain⟨rfl,rfl⟩:=hr;exact⟨u,key u _ (by simp[receiverAt,run_underlying ht,Place.get]) hf,hv⟩
 ·rename_i e ht;split at hr
  ·rename_i id off d j hd hj;rw[j7]at hr;obtain⟨x,hx,hr⟩:=hr;simp only[kG]at hr;obtain⟨rfl,rfl⟩:=hr;obtain⟨y,h1,h2⟩:=zbr r hd hj hv hx;simp only[V]at hv;obtain⟨c,hc,rfl⟩:=hv;refine⟨y,key y _ ?_ hf,h2.w5⟩;simp only[Instr.loadAt,Instr.sureAddr]at h1;have hw : ∀ nm, (Builtin.ssaWrapNilChk_ #[t] t #[.pointer (aa ⟨c, off, ac⟩), strVal "", strVal nm]).run P w = .ok (.pointer (aa ⟨c, off, ac⟩)) w := fun _ => rfl;simp only[receiverAt,Sem.run_bind,run_underlying ht,Result.andThen_ok,Place.get,Sem.run_pure,hw,asAddr]
   simp_all
  ·cases hr
 ·rename_i d hne ht;simp only[p5,kG]at hr;obtain⟨rfl,rfl⟩:=hr;refine⟨u,key u _ ?_ hf,hv⟩;simp only[receiverAt,Sem.run_bind,run_underlying ht,Result.andThen_ok];rfl
 ·cases hr
theorem zeY(r:Rel B w0 g h w){a:Act}{env:List AV}(A:VL g env a.tmps.toList)(o:Oper):Fits P B w0 g a o w (zj P o env h):=by
 unfold zj;split
 ·-- move
  rename_i x C;split
  ·rename_i m;exact pd r (by simp[execOp,C]) (V.ev A m).w5
  ·trivial
 ·-- assign
  rename_i x C;split
  ·rename_i m;exact pd r (by simp[execOp,C]) (V.ev A m).w5
  ·trivial
 ·-- pick
  rename_i c x y C;split
  ·rename_i m;simp only[tx]at m;split
   ·rename_i t ht;have K:=V.ev A m.2;rw[ht]at K;simp only[V]at K;refine pd r (u:=if t then a.eval x else a.eval y) (by simp[execOp,C,K,asBool]) ?_;cases t
    ·exact V.ev A m.1.2
    ·exact V.ev A m.1.1
   ·trivial
  ·trivial
 ·-- alloc
  rename_i t C;split
  ·rename_i cs W;obtain⟨i,z,hi,hzz,hva⟩:=qX (g:=g) W;have hsl:=r.fi;refine⟨.pointer (aa ⟨w.heap.size,0,ac⟩),w.alloc (.cells z.cells t),g.ft w.heap.size,.inl ?_,g.fd _,r.d6 t hva,?_⟩
   ·simp[execOp,C,Instr.alloc,zoj hi hzz,newVar,newRow]
   ·simp only[V,Gh.ft]
    simp_all
  ·trivial
 ·-- box
  rename_i t x C;split
  ·rename_i m;split
   ·rename_i cs K;have hva:=((V.ev A m).w5 (P:=P) (t:=t)).cells K;have hsl:=r.fi;refine⟨.pointer (aa ⟨w.heap.size,0,ac⟩),w.alloc (.cells (a.eval x).cells t),g.ft w.heap.size,.inl ?_,g.fd _,r.d6 t hva,?_⟩
    ·simp[execOp,C,Instr.box,newVar,newRow]
    ·simp only[V,Gh.ft]
     simp_all
   ·trivial
  ·trivial
 ·-- build
  rename_i t parts C;split
  ·rename_i m;have run:∀out,(∃u,(Instr.build t (parts.map λ(i,x)=>(i,a.eval x))).run P w=.ok u w/\V g (.agg out) u)->tC P B w0 g a o w (.agg out) h:=by
    rintro out ⟨u,D,F⟩
    exact pd r (by simp[execOp,C,D]) F
   split
   ·rename_i fs z H W;split
    ·rename_i pl hpl;refine Fits.oo λv G=>?_;rcases R:qJ (λi=>pl[i]?) z (xS P (.struct fs) env parts)with _|out
     ·simp_all
     ·simp[R]at G;subst G;exact run out (zdE A m W (.inl ⟨fs,pl,H,hpl,R⟩))
    ·trivial
   ·rename_i n e z H W;split
    ·rename_i j hj;refine Fits.oo λv G=>?_;rcases R:qJ (λi=>aa (i*j.size,j.size)) z (xS P (.array n e) env parts)with _|out
     ·simp_all
     ·simp[R]at G;subst G;exact run out (zdE A m W (.inr ⟨n,e,j,H,hj,R⟩))
    ·trivial
   ·trivial
  ·trivial
 ·-- load
  rename_i t x C;split
  ·rename_i d i hd hi;refine Fits.oo λv G=>?_;obtain⟨v',I,rfl⟩:=V.e8 G;obtain⟨u,D,F⟩:=zbr r hd hi (p:=ev env x) (pv:=a.eval x) (by
    cases x with
    |tmp t=>exact V.ev A rfl
    |const c =>
     -- a constant is no address
     simp only[ev]at I;exfalso;unfold sJ at I;unfold cv at I;split at I<;>first
      |(rename_i hh;split at hh<;>first|cases hh|(unfold b6 at hh;split at hh<;>cases hh))
      |cases I
    |global n=>exact V.ev A rfl
    |func f=>exact V.ev A rfl) I
   exact pd r (by simp[execOp,C,D]) F.w5
  ·trivial
 ·-- store
  rename_i t x y C;split
  ·rename_i m;split
   ·rename_i i hi;rcases hs:mI h i.size (ev env x) (w5 P t (ev env y))with _|h'
    ·trivial
    ·show tC P B w0 g a o w wb h';have hp:V g (ev env x) (a.eval x):=by
      cases x with
      |tmp t=>exact V.ev A rfl
      |const c =>
       simp only[ev]at hs;exfalso;unfold mI at hs;unfold cv at hs;split at hs<;>first
        |(rename_i hh _;split at hh<;>first|cases hh|(unfold b6 at hh;split at hh<;>cases hh))
        |cases hs
      |global n=>exact V.ev A rfl
      |func f=>exact V.ev A rfl
     obtain⟨w',D,F⟩:=zh5 r hi hp (V.ev A m).w5 hs;exact⟨undef,w',g,.inr ⟨by simp[execOp,C,D],rfl⟩,Gh.le.refl g,F,V.f5⟩
   ·trivial
  ·trivial
 ·-- nilCheck
  rename_i x C;split
  ·rename_i m;have E:=V.ev A m;split
   ·rename_i id off M;rw[M]at E;have N:=E;simp only[V]at E;obtain⟨c,K,O⟩:=E;exact pd r (u:=a.eval x) (by simp[execOp,C,O]) N
   ·rename_i cs M;rw[M]at E;have N:=E;simp only[V]at E;obtain⟨b,oo,O,_⟩:=E;exact pd r (u:=a.eval x) (by simp[execOp,C,O]) N
   ·rename_i id q k n p M;rw[M]at E;have N:=E;simp only[V]at E;obtain⟨b,oo,O,_⟩:=E;exact pd r (u:=a.eval x) (by simp[execOp,C,O]) N
   ·rename_i f a5 bs M;rw[M]at E;have N:=E;simp only[V]at E;obtain⟨fs,cs,O,_⟩:=E;exact pd r (u:=a.eval x) (by simp[execOp,C,O]) N
   ·trivial
  ·trivial
 ·-- binOp
  rename_i op t x y yt C;split
  ·rename_i m;simp only[tx]at m;split
   ·rename_i S hS;obtain⟨b,D,F⟩:=zk3 (w:=w) (ox:=x) (oy:=y) (V.ev A m.1) (V.ev A m.2) hS;exact⟨_,_,F,pd r (u:=.bool b) (by simp only[execOp,C,Sem.run_bind]at D ⊢;rw[D];rfl) (by simp only[V])⟩
   refine Fits.oo λv G=>?_;obtain⟨u,D,F⟩:∃u,(do eqGuard op t x y (a.eval x) (a.eval y);binOp op t (a.eval x) (a.eval y):Sem Value).run P w=.ok u w/\V g v u:=by
    rcases Option.or_eq_some_iff.1 G with G|⟨_,G⟩
    ·exact znN (V.ev A m.1) (V.ev A m.2) G
    ·exact zm6 (V.ev A m.1) (V.ev A m.2) G
   exact pd r (by simp only[execOp,C,Sem.run_bind]at D ⊢;rw[D];rfl) F
  ·trivial
 ·-- unOp
  rename_i op t x C;split
  ·rename_i m;refine Fits.oo λv G=>?_;obtain⟨u,D,F⟩:=zn3 (P:=P) (w:=w) (V.ev A m) G;exact pd r (by simp[execOp,C,D]) F
  ·trivial
 ·-- convert
  rename_i s t x C;split
  ·rename_i m;split
   ·rename_i ds d hs hd;refine Fits.oo λv G=>?_;obtain⟨u,D,F⟩:=zgh (w:=w) hs hd (V.ev A m) G;exact pd r (by simp[execOp,C,D]) F
   ·trivial
  ·trivial
 ·-- makeFunc
  rename_i f a5 bs C;split
  ·rename_i m;simp only[tx]at m;refine pd r (u:=.func f (a5.map a.eval) (bs.map a.eval)) (by simp[execOp,C,Instr.makeFunc]) ?_;simp only[V];exact⟨_,_,rfl,by simpa using VL.evs A (by simp_all),by simpa using VL.evs A (by simp_all)⟩
  ·trivial
 ·-- slice
  rename_i t x lo hi mx C;split
  ·rename_i m;simp only[tx]at m;obtain⟨⟨⟨hok1,L⟩,Y⟩,X⟩:=m;have E:=V.ev A hok1;have run:∀v,(∃y,(Instr.sliceAt t (a.eval x) (lo.map a.eval) (hi.map a.eval) (mx.map a.eval)).run P w=.ok y w/\V g v y)->tC P B w0 g a o w v h:=by
    rintro v ⟨u,D,F⟩
    exact pd r (by simp[execOp,C,D]) F
   split
   ·rename_i H;split
    ·rename_i s hs;rw[hs]at E;exact Fits.oo λv G=>run v (zcI H E (VO.ev A L) (VO.ev A Y) (VO.ev A X) G)
    ·trivial
   ·rename_i e H;split
    ·rename_i i Z;have U:=E.w5 (P:=P) (t:=t);split
     ·rename_i k es hs;rw[hs]at U;split
      ·rename_i hk;subst hk;refine Fits.oo λv G=>run v ?_;simp only[V]at U;obtain⟨ad,c,J,D,F,Q⟩:=U;rw[J];exact zac H Z D F Q (λh=>by cases h) (VO.ev A L) (VO.ev A Y) (VO.ev A X) G
      ·trivial
     ·rename_i q k es hs;rw[hs]at U;split
      ·rename_i hk;subst hk;refine Fits.oo λv G=>run v ?_;simp only[V]at U;obtain⟨ad,c,J,D,F,Q,h4⟩:=U;rw[J];refine zac H Z D F Q (λh=>?_) (VO.ev A L) (VO.ev A Y) (VO.ev A X) G
       simp_all
      ·trivial
     ·trivial
    ·trivial
   ·rename_i n e H;split
    ·rename_i i Z;split
     ·rename_i id off kl l hs hlo;split
      ·rename_i K;obtain⟨h0,D,hm⟩:=K;rw[hs]at E;simp only[V]at E;obtain⟨c,hσ,J⟩:=E;obtain⟨T,rfl,hl⟩:∃T,lo=aa T/\ev env T=.int kl l:=by
        cases lo with
        |none=>cases hlo
        |some T=>exact⟨T,rfl,by simpa using hlo⟩
       have hV3:=V.ev A (by simpa using L:yo T=true);rw[hl]at hV3;simp only[V]at hV3;have hal:P.arrayLen t=n:=by simp[Program.arrayLen,H]
       have hel:P.elem t=e:=by simp[Program.elem,H]
       have:=run_sliceAt_array_l (P:=P) w t ⟨c,off,ac⟩ (by rw[hal,hel];exact H) kl l h0 (by rw[hal];omega);rw[hel,hal,wF Z,Result.andThen_ok]at this;refine pd r (u:=slicedAt ⟨c,off,ac⟩ l.toNat n n i.size) (by simp[execOp,C,J,hV3,this]) ?_;simp only[V,slicedAt,n4 (show ¬n=l.toNat by omega)];exact⟨c,n-l.toNat,hσ,by simp[Addr.add],by omega,by omega⟩
      ·trivial
     ·trivial
    ·trivial
   ·trivial
  ·trivial
 ·-- fieldAddr
  rename_i t x f C;split
  ·rename_i off u R;split
   ·rename_i i hi;split
    ·trivial
    ·rename_i W;simp only[not_or,gn]at W;refine Fits.oo λv G=>?_;obtain⟨y,D,F⟩:=zdp (w:=w) R hi W.1 (V.ev A W.2) G;exact pd r (by simp[execOp,C,D]) F
   ·trivial
  ·trivial
 ·-- field
  rename_i t x f C;split
  ·rename_i off u R;split
   ·rename_i d i hd hi;split
    ·rename_i m;refine Fits.oo λv G=>?_;obtain⟨v',I,rfl⟩:=V.e8 G;obtain⟨y,D,F⟩:=ziQ (w:=w) R hd hi (V.ev A m) I;exact pd r (by simp[execOp,C,D]) F.w5
    ·trivial
   ·trivial
  ·trivial
 ·-- indexAddr
  rename_i t x i C;split
  ·rename_i m;simp only[tx]at m;split
   ·rename_i e H;split
    ·rename_i j hj;refine Fits.oo λv G=>?_;obtain⟨y,D,F⟩:=mY (w:=w) H hj (V.ev A m.1) (V.ev A m.2) G;exact pd r (by simp[execOp,C,D]) F
    ·trivial
   ·rename_i n e H;split
    ·rename_i j hj;refine Fits.oo λv G=>?_;obtain⟨y,D,F⟩:=mZ (w:=w) H hj (V.ev A m.1) (V.ev A m.2) G;exact pd r (by simp[execOp,C,D]) F
    ·trivial
   ·trivial
  ·trivial
 ·-- index
  rename_i t x i C;split
  ·rename_i m;simp only[tx]at m;split
   ·rename_i H;refine Fits.oo λv G=>?_;obtain⟨y,D,F⟩:=zdg (w:=w) H (V.ev A m.1) (V.ev A m.2) G;exact pd r (by simp[execOp,C,D]) F
   ·rename_i n e H;split
    ·rename_i d j hd hj;refine Fits.oo λv G=>?_;obtain⟨v',I,rfl⟩:=V.e8 G;obtain⟨y,D,F⟩:=zdh (w:=w) H hd hj (V.ev A m.1) (V.ev A m.2) I;exact pd r (by simp[execOp,C,D]) F.w5
    ·trivial
   ·trivial
  ·trivial
 ·-- extract
  rename_i t i C;split
  ·rename_i m;have E:=V.ev A m;split
   ·rename_i vs M;rw[M]at E;refine Fits.oo λv G=>?_;obtain⟨v',I,rfl⟩:=V.e8 G;simp only[V]at E;obtain⟨us,H,hVL⟩:=E;obtain⟨u,D,F⟩:=hVL.get _ _ I;rw[lr]at D;exact pd r (by simp[execOp,C,H,Instr.extract,D]) F.w5
   ·trivial
  ·trivial
 ·-- buildSlice
  rename_i t n parts C;split
  ·rename_i m;split
   ·rename_i e H;split
    ·rename_i i z hi W;split
     ·rename_i K;split
      ·rename_i cs R;split
       ·rename_i out hcl;obtain⟨u,w',g',D,F,Q,h4⟩:=zb7 r A m H hi W K.1 K.2.1 K.2.2 R hcl;exact⟨u,w',g',.inl (by simp[execOp,C,D]),F,Q,h4⟩
       ·trivial
      ·trivial
     ·trivial
    ·trivial
   ·trivial
  ·trivial
 ·-- call
  rename_i c C;split
  ·rename_i m;simp only[tx,jo]at m;split
   ·rename_i b K;exact zhH r A C K m.1
   ·rename_i f K;split
    ·trivial
    ·rename_i R;have E:=V.ev A (x:=f) (by simp_all);split
     ·rename_i gg first caps M
      rw[M]at E;simp only[V]at E;obtain⟨fs,cs,J,D,F⟩:=E;refine⟨fs++c.args.map a.eval++cs,?_,?_⟩
      ·simp[execOp,C,resolve,K,J,Deferred.ofValue,invoke]
      ·simp only[kU];have Q:=VL.dV (P:=P) A (xs:=c.args.toList) (ts:=c.argTypes.toList) (by grind) (by simp_all);exact VL.append (VL.append D (by simp_all)) F
     ·rename_i id M;rw[M]at E;simp only[V]at E;obtain⟨cc,hc1,J⟩:=E;refine⟨cc,c.args.map a.eval,hc1,?_,?_⟩
      ·simp[execOp,C,resolve,K,J,Deferred.ofValue,invoke]
      ·have Q:=VL.dV (P:=P) A (xs:=c.args.toList) (ts:=c.argTypes.toList) (by grind) (by simp_all)
       simp_all
     ·trivial
   ·rename_i x name K;split
    ·trivial
    ·rename_i R;have E:=V.ev A (x:=x) (by simp_all);split
     ·rename_i t v M;rw[M]at E;simp only[V]at E;obtain⟨u,J,G⟩:=E;split
      ·rename_i gg b hr;obtain⟨y,D,F⟩:=zkV r hr G (c.args.map a.eval);refine⟨#[y]++c.args.map a.eval,?_,?_⟩
       ·have hx2:((#[Value.iface t u]++c.args.map a.eval).extract 1 (#[Value.iface t u]++c.args.map a.eval).size)=c.args.map a.eval:=by
         simp_all
        have hx1:(#[Value.iface t u]++c.args.map a.eval)[0]?=aa (.iface t u):=by
         rw[<- lr];simp
        rw[<- D];simp only[execOp,C,resolve,K,J,Sem.run_bind,Sem.run_pure,Result.andThen_ok,invoke]
        grind
       ·have Q:=VL.dV (P:=P) A (xs:=c.args.toList) (ts:=c.argTypes.toList) (by grind) (by simp_all);simp only[kU,kc,ll];exact VL.cons F (by simp_all)
      ·trivial
     ·trivial
  ·trivial
 ·-- range
  rename_i t x C;split
  ·rename_i m;split
   ·rename_i s H M;have E:=V.ev A m;rw[M]at E;simp only[V]at E;have hsl:g.σ.length=h.zh.length:=r.fi;refine⟨.pointer (aa ⟨w.heap.size,0,ac⟩),w.alloc (.stringIter ⟨s.toArray⟩ 0),g.ft w.heap.size,.inl ?_,g.fd _,r.dD _ _ (heap_alloc_new w _),?_⟩
    ·have:=run_range_string (P:=P) w t ⟨s.toArray⟩ H;simp[execOp,C,E.1,this,World.iter]
    ·simp only[V,Gh.ft]
     simp_all
   ·trivial
  ·trivial
 ·-- next
  rename_i x str C;split
  ·rename_i m;simp only[tx]at m;have E:=V.ev A m.1;unfold zpL;split
   ·rename_i id M;rw[M]at E;simp only[V]at E;obtain⟨c,K,hpv⟩:=E;split
    ·rename_i s pos hb;obtain⟨hB,hlt,L,_⟩:=r.g7 id c _ K hb;have hk:w.heap[c]?=aa (.stringIter ⟨s.toArray⟩ pos):=L;have hsz:(⟨s.toArray⟩:ByteArray).size=s.length:=by rfl
     split
     ·rename_i hp;have D:=run_next_any_at (P:=P) w c ⟨s.toArray⟩ pos o.type hk (by omega);refine⟨_,_,g,.inl (by simp only[execOp,C,m.2,hpv,Sem.run_bind,D,Result.andThen_ok,Sem.run_pure];rfl),Gh.le.refl g,?_,?_⟩
      ·exact r.putObj K hb (by simp) rfl rfl rfl (iterAt_size _ _ _ _) (λb hb'=>iterAt_other w c b _ _ hb') (iterAt_heap w c _ pos _ hk)
      ·simp only[V];refine⟨_,rfl,?_⟩;simp only[VL];exact⟨_,_,rfl,by simp only[V],_,_,rfl,by simp only[V],_,_,rfl,by rfl,rfl⟩
     ·rename_i hp;have D:=run_next_end_at (P:=P) w c ⟨s.toArray⟩ pos o.type hk (by omega);refine pd r (u:=.tuple #[.bool false]) (by simp only[execOp,C,m.2,hpv,Sem.run_bind,D,Result.andThen_ok,Sem.run_pure]) ?_;simp only[V];exact⟨_,rfl,by simp only[VL];exact⟨_,_,rfl,by simp only[V],rfl⟩⟩
    ·trivial
   ·trivial
  ·trivial
 ·-- makeMap
  rename_i t C;have hsl:g.σ.length=h.zh.length:=r.fi;refine⟨.map (aa w.heap.size),w.alloc (.map #[] 0),g.ft w.heap.size,.inl ?_,g.fd _,r.dD _ _ ⟨#[],0,heap_alloc_new w _,by simp[ME],λ_=>⟨rfl,λi e h=>by simp at h⟩⟩,?_⟩
  ·simp[execOp,C,run_makeMap]
  ·simp only[V,Gh.ft]
   simp_all
 ·-- lookup
  rename_i t x i ok C;split
  ·rename_i m;simp only[tx]at m;split
   ·rename_i kt et H;refine Fits.oo λv G=>?_;obtain⟨u,D,F⟩:=zhd r H (V.ev A m.1) (V.ev A m.2) G;exact pd r (by simp[execOp,C,D]) F
   ·trivial
  ·trivial
 ·-- mapEntry
  rename_i t x i C;split
  ·rename_i m;simp only[tx]at m;split
   ·rename_i kt et H;rcases hs:zhW P h kt et (ev env x) (ev env i)with _|⟨v,h'⟩
    ·trivial
    ·obtain⟨u,w',D,F,Q⟩:=ziT r H (V.ev A m.1) (V.ev A m.2) hs;exact⟨u,w',g,.inl (by simp[execOp,C,D]),Gh.le.refl g,Q,F⟩
   ·trivial
  ·trivial
 ·-- entryStore
  rename_i t x i y C;split
  ·rename_i m;simp only[tx]at m;rcases hs:pb h (ev env x) (ev env i) (ev env y)with _|h'
   ·trivial
   ·obtain⟨w',D,Q⟩:=zb6 (P:=P) (t:=t) r (V.ev A m.1.1) (V.ev A m.1.2) (V.ev A m.2) hs;exact⟨undef,w',g,.inr ⟨by simp[execOp,C,D],rfl⟩,Gh.le.refl g,Q,V.f5⟩
  ·trivial
 ·-- mapUpdate
  rename_i t x i y C;split
  ·rename_i m;simp only[tx]at m;split
   ·rename_i kt et H;rcases hs:zbJ P h kt (ev env x) (ev env i) (ev env y)with _|h'
    ·trivial
    ·obtain⟨w',D,Q⟩:=zg9 r H (V.ev A m.1.1) (V.ev A m.1.2) (V.ev A m.2) hs;exact⟨undef,w',g,.inr ⟨by simp[execOp,C,D],rfl⟩,Gh.le.refl g,Q,V.f5⟩
   ·trivial
  ·trivial
 ·trivial
end
end Go.Vv
namespace Go.Vv
open Go Go.RowKit Go.Lib

mutual
def AV.low(n m:Nat):AV->Bool
 |.ptr id _|.cu _ id _ _|.map id|.ca id=>decide (id<n)
 |.gW (aa t) _ _=>decide (t<m)
 |.fo _ t _ _|.fW _ t _ _ _|.ep _ t _ _ _=>decide (t<m)
 |.fn _ a b=>zB n m a&&zB n m b
 |.iface _ v=>v.low n m
 |.agg cs=>zB n m cs
 |.fl vs=>zB n m vs
 |_=>true
def zB(n m:Nat):List AV->Bool
 |[]=>true
 |a::r=>a.low n m&&zB n m r
end
theorem AV.dM{n m:Nat}{a:AV}(h:a.pure=true):a.low n m=true:=by
 unfold AV.pure at h;split at h<;>first|rfl|cases h

def Gh.cut(g:Gh)(n m:Nat):Gh:={ g with σ:=g.σ.take n,τ:=g.τ.take m }
theorem wK{α:Type}{l:List α}{n i:Nat}{x:α}(h:i<n)(e:l[i]?=aa x):(l.take n)[i]?=aa x:=by simp_all

mutual
theorem V.cut{g:Gh}{n m:Nat}:∀(a:AV)(v:Value),a.low n m=true->V g a v->V (g.cut n m) a v
 |.bool _,_,_,hv=>by simpa only[V]using hv
 |.int _ _,_,_,hv=>by simpa only[V]using hv
 |.str _,_,_,hv=>by simpa only[V]using hv
 |.er,_,_,hv=>by simpa only[V]using hv
 |.ef,_,_,hv=>by simpa only[V]using hv
 |.fC,_,_,hv=>by simpa only[V]using hv
 |.eX,_,_,hv=>by simpa only[V]using hv
 |.fT,_,_,hv=>by simpa only[V]using hv
 |.ptr id off,_,hl,hv=>by
  simp only[V]at hv ⊢;simp only[AV.low,so]at hl;obtain⟨c,j,e⟩:=hv;exact⟨c,wK hl j,e⟩
 |.fK cs,_,_,hv=>by
  simp only[V]at hv ⊢;obtain⟨b,o,e,j⟩:=hv;exact⟨b,o,e,VC.cut b o cs j⟩
 |.sl k es,_,_,hv=>by
  simp only[V]at hv ⊢;obtain⟨a,c,e,d,h,i⟩:=hv;exact⟨a,c,e,d,h,i.imp id λ⟨b,o,e,hh⟩=>⟨b,o,e,VE.cut b k o es hh⟩⟩
 |.gW q k es,_,hl,hv=>by
  simp only[V]at hv ⊢;obtain⟨a,c,e,d,h,i,p⟩:=hv;refine⟨a,c,e,d,h,i.imp id λ⟨b,o,e,hh⟩=>⟨b,o,e,VE.cut b k o es hh⟩,?_⟩;cases q with
  |none=>exact p
  |some id =>
   simp only[AV.low,so]at hl;obtain⟨t,l,w⟩:=p;exact⟨t,wK hl l,w⟩
 |.cu _ id _ _,_,hl,hv=>by
  simp only[V]at hv ⊢;simp only[AV.low,so]at hl;obtain⟨c,cap,j,e⟩:=hv;exact⟨c,cap,wK hl j,e⟩
 |.fo _ _ _ _,_,hl,hv=>by
  simp only[V]at hv ⊢;simp only[AV.low,so]at hl;obtain⟨a,c,e,d,h,t,l,i⟩:=hv;exact⟨a,c,e,d,h,t,wK hl l,i⟩
 |.ep _ _ _ _ _,_,hl,hv=>by
  simp only[V]at hv ⊢;simp only[AV.low,so]at hl;obtain⟨a,c,e,d,t,l,i⟩:=hv;exact⟨a,c,e,d,t,wK hl l,i⟩
 |.fW _ _ _ _ _,_,hl,hv=>by
  simp only[V]at hv ⊢;simp only[AV.low,so]at hl;obtain⟨b,q,e,t,l,i⟩:=hv;exact⟨b,q,e,t,wK hl l,i⟩
 |.map id,_,hl,hv=>by
  simp only[V]at hv ⊢;simp only[AV.low,so]at hl;obtain⟨c,j,e⟩:=hv;exact⟨c,wK hl j,e⟩
 |.fn f a5 bs,_,hl,hv=>by
  simp only[V]at hv ⊢;simp only[AV.low,tx]at hl;obtain⟨fs,cs,e,d,h⟩:=hv;exact⟨fs,cs,e,VL.cut a5 _ hl.1 d,VL.cut bs _ hl.2 h⟩
 |.iface t x,_,hl,hv=>by
  simp only[V]at hv ⊢;simp only[AV.low]at hl;obtain⟨u,e,d⟩:=hv;exact⟨u,e,V.cut x u hl d⟩
 |.agg cs,_,hl,hv=>by
  simp only[V]at hv ⊢;simp only[AV.low]at hl;obtain⟨vs,e,d⟩:=hv;exact⟨vs,e,VA.cut cs _ hl d⟩
 |.fl xs,_,hl,hv=>by
  simp only[V]at hv ⊢;simp only[AV.low]at hl;obtain⟨vs,e,d⟩:=hv;exact⟨vs,e,VL.cut xs _ hl d⟩
 |.de _,_,_,hv=>by simpa only[V]using hv
 |.ca id,_,hl,hv=>by
  simp only[V]at hv ⊢;simp only[AV.low,so]at hl;obtain⟨c,j,e⟩:=hv;exact⟨c,wK hl j,e⟩
 |.any,_,_,_=>by simp only[V]
 |.ct,_,_,hv=>by simpa only[V]using hv
theorem VL.cut{g:Gh}{n m:Nat}:∀(a5:List AV)(vs:List Value),zB n m a5=true->VL g a5 vs->VL (g.cut n m) a5 vs
 |[],_,_,hv=>by simpa only[VL]using hv
 |a::r,_,hl,hv=>by
  simp only[VL]at hv ⊢;simp only[zB,tx]at hl;obtain⟨v,s,e,d,h⟩:=hv;exact⟨v,s,e,V.cut a v hl.1 d,VL.cut r s hl.2 h⟩
theorem VA.cut{g:Gh}{n m:Nat}:∀(a5:List AV)(vs:List Value),zB n m a5=true->VA g a5 vs->VA (g.cut n m) a5 vs
 |[],_,_,hv=>by simpa only[VA]using hv
 |a::r,_,hl,hv=>by
  simp only[VA]at hv ⊢;simp only[zB,tx]at hl;obtain⟨v,s,e,⟨h0,d⟩,h⟩:=hv;exact⟨v,s,e,⟨h0,V.cut a v hl.1 d⟩,VA.cut r s hl.2 h⟩
theorem VC.cut{g:Gh}{n m:Nat}(b:Nat):∀(o:Nat)(a5:List AV),VC g b o a5->VC (g.cut n m) b o a5
 |_,[],_=>by simp only[VC]
 |o,a::r,hv=>by
  simp only[VC]at hv ⊢;obtain⟨⟨v,h0,d,h⟩,i⟩:=hv;exact⟨⟨v,h0,d,V.cut a v (AV.dM d) h⟩,VC.cut b (o+1) r i⟩
theorem VE.cut{g:Gh}{n m:Nat}(b k:Nat):∀(o:Nat)(a5:List (List AV)),VE g b k o a5->VE (g.cut n m) b k o a5
 |_,[],_=>by simp only[VE]
 |o,e::r,hv=>by
  simp only[VE]at hv ⊢;obtain⟨⟨h0,d⟩,h⟩:=hv;exact⟨⟨h0,VC.cut b o e d⟩,VE.cut b k (o+k) r h⟩
end

mutual
theorem V.fJ{g:Gh}:∀(a:AV)(v:Value),V g a v->a.low g.σ.length g.τ.length=true
 |.ptr id off,_,hv=>by
  simp only[V]at hv;obtain⟨c,j,_⟩:=hv;simpa[AV.low]using (tu.1 j).1
 |.cu _ id _ _,_,hv=>by
  simp only[V]at hv;obtain⟨c,cap,j,_⟩:=hv;simpa[AV.low]using (tu.1 j).1
 |.map id,_,hv=>by
  simp only[V]at hv;obtain⟨c,j,_⟩:=hv;simpa[AV.low]using (tu.1 j).1
 |.ca id,_,hv=>by
  simp only[V]at hv;obtain⟨c,j,_⟩:=hv;simpa[AV.low]using (tu.1 j).1
 |.gW q k es,_,hv=>by
  simp only[V]at hv;obtain⟨a,c,e,d,l,m,o⟩:=hv;cases q with
  |none=>rfl
  |some id =>
   obtain⟨t,h,_⟩:=o;simpa[AV.low]using (tu.1 h).1
 |.fo _ i k n,_,hv=>by
  simp only[V]at hv;obtain⟨a,c,e,d,l,t,h,m⟩:=hv;simpa[AV.low]using (tu.1 h).1
 |.ep _ i k n p,_,hv=>by
  simp only[V]at hv;obtain⟨a,c,e,d,t,h,m⟩:=hv;simpa[AV.low]using (tu.1 h).1
 |.fW _ i k n p,_,hv=>by
  simp only[V]at hv;obtain⟨b,q,e,t,h,m⟩:=hv;simpa[AV.low]using (tu.1 h).1
 |.fn f a5 bs,_,hv=>by
  simp only[V]at hv;obtain⟨fs,cs,e,d,l⟩:=hv;simp[AV.low,VL.fJ a5 _ d,VL.fJ bs _ l]
 |.iface t x,_,hv=>by
  simp only[V]at hv;obtain⟨u,e,d⟩:=hv;simp[AV.low,V.fJ x u d]
 |.agg cs,_,hv=>by
  simp only[V]at hv;obtain⟨vs,e,d⟩:=hv;simp[AV.low,VL.fJ cs _ d.f8]
 |.fl xs,_,hv=>by
  simp only[V]at hv;obtain⟨vs,e,d⟩:=hv;simp[AV.low,VL.fJ xs _ d]
 |.bool _,_,_|.int _ _,_,_|.str _,_,_|.er,_,_|.ef,_,_|.fC,_,_|.eX,_,_|.fT,_,_|.fK _,_,_|.sl _ _,_,_|.de _,_,_|.any,_,_|.ct,_,_=>rfl
theorem VL.fJ{g:Gh}:∀(a5:List AV)(vs:List Value),VL g a5 vs->zB g.σ.length g.τ.length a5=true
 |[],_,_=>rfl
 |a::r,_,hv=>by
  simp only[VL]at hv;obtain⟨v,s,e,d,l⟩:=hv;simp[zB,V.fJ a v d,VL.fJ r s l]
end

def q6.low(n m:Nat):q6->Bool
 |.cells cs=>zB n m cs
 |.q7 es _=>es.all λp=>p.1.low n m&&p.2.low n m
 |.loop _ _ env _ _ _=>zB n m env
 |.row t _ _=>decide (t<m)
 |.fF id _ _=>decide (id<n)
 |_=>true

theorem ME.cut{g:Gh}{n m:Nat}:∀(a5:List (AV×AV)) (vs:List MapEntry),(a5.all λp=>p.1.low n m&&p.2.low n m)=true->ME g a5 vs->ME (g.cut n m) a5 vs
 |[],_,_,hv=>by simpa only[ME]using hv
 |(k,x)::r,_,hl,hv=>by
  simp only[ME]at hv ⊢;simp only[l7,tx]at hl;obtain⟨e,s,rfl,b,a,c⟩:=hv;exact⟨e,s,rfl,V.cut k _ hl.1.1 b,V.cut x _ hl.1.2 a,ME.cut r s hl.2 c⟩
theorem ME.fJ{g:Gh}:∀(a5:List (AV×AV)) (vs:List MapEntry),ME g a5 vs->(a5.all λp=>p.1.low g.σ.length g.τ.length&&p.2.low g.σ.length g.τ.length)=true
 |[],_,_=>rfl
 |(k,x)::r,_,hv=>by
  simp only[ME]at hv;obtain⟨e,s,rfl,b,a,c⟩:=hv;simp[V.fJ k _ b,V.fJ x _ a,ME.fJ r s c]
theorem eD.cut{g:Gh}{w:World}{c n m:Nat}{k:q6}(f:k.low n m=true)(e:eD g w c k):eD (g.cut n m) w c k:=by
 cases k with
 |cells cs=>obtain⟨vs,t,b,a⟩:=e;exact⟨vs,t,b,VA.cut _ _ f a⟩
 |ec s pos=>exact e
 |q7 es clock=>obtain⟨ents,n,b,a,i⟩:=e;exact⟨ents,n,b,ME.cut _ _ f a,i⟩
 |loop st pe env ps assign body=>obtain⟨fn,tmps,d,b,a⟩:=e;exact⟨fn,tmps,d,b,VL.cut _ _ f a⟩
 |row _ _ _=>exact e
 |fF id n2 seen=>obtain⟨h,b,a⟩:=e;exact⟨h,wK (by simpa[q6.low]using f) b,a⟩
 |eQ=>exact e
 |other=>trivial
 |dead=>trivial
theorem eD.fJ{g:Gh}{w:World}{c:Nat}{k:q6}(b:eD g w c k):k.low g.σ.length g.τ.length=true:=by
 cases k with
 |cells cs=>obtain⟨vs,t,e,a⟩:=b;exact VL.fJ _ _ a.f8
 |ec s pos=>rfl
 |q7 es clock=>obtain⟨ents,n,e,a,_⟩:=b;exact ME.fJ _ _ a
 |loop st pe env ps assign body=>obtain⟨fn,tmps,d,e,a⟩:=b;exact VL.fJ _ _ a
 |row _ _ _=>exact b.elim
 |fF id n seen=>obtain⟨m,e,a⟩:=b;simpa[q6.low]using (tu.1 e).1
 |eQ=>rfl
 |other=>rfl
 |dead=>rfl
theorem qu{n m:Nat}:∀{a5:List AV},a5.all AV.pure=true->zB n m a5=true
 |[],_=>rfl
 |a::r,h=>by
  simp only[l7,tx]at h;simp[zB,AV.dM h.1,qu h.2]
theorem dP.cut{g:Gh}{w:World}{n m:Nat}{k:q6}(p:k.low n m=true)(a:dP g w k):dP (g.cut n m) w k:=by
 cases k with
 |row i k es =>
  obtain⟨t,j,d,q,f,c,r⟩:=a;refine⟨t,wK (by simpa[q6.low]using p) j,d,q,f,c,r.imp (λh=>h) ?_⟩
  rintro⟨b,o,e,cs,ty,k1,k2,k3,s,l⟩
  exact⟨b,o,e,cs,ty,k1,k2,VA.cut _ _ (qu c) k3,s,l⟩
 |dead=>trivial
 |_=>exact a.elim
theorem dP.fJ{g:Gh}{w:World}{k:q6}(a:dP g w k):k.low g.σ.length g.τ.length=true:=by
 cases k with
 |row i k es =>
  obtain⟨t,b,_⟩:=a;simpa[q6.low]using (tu.1 b).1
 |dead=>rfl
 |_=>exact a.elim
theorem Rel.fJ{B:Nat}{w0 w:World}{g:Gh}{h:AH}(r:Rel B w0 g h w){i:Nat}{k:q6}(a:h.zh[i]?=aa k):k.low g.σ.length g.τ.length=true:=by
 have b:i<g.σ.length:=by rw[r.fi];exact(tu.1 a).1
 rcases hc:g.σ[i]with _|c
 ·exact(r.row i k (by simp_all) a).fJ
 ·exact(r.g7 i c k (by simp_all) a).2.2.1.fJ
def AH.cut(h:AH)(n m:Nat):AH:={ zh:=h.zh.take n,zs:=h.zs.take m }

theorem Rel.cut{B:Nat}{w0 w:World}{g:Gh}{h:AH}(r:Rel B w0 g h w)(n m:Nat)(s:∀(i:Nat)(k:q6),i<n->h.zh[i]?=aa k->k.low n m=true):Rel B w0 (g.cut n m) (h.cut n m) w :=
 by
 refine⟨r.below,r.dA,r.eK,by simp[Gh.cut,AH.cut,r.fi],λi c k e d=>?_,by simp[Gh.cut,AH.cut,r.fA],λi t f=>?_,λi j c hi a=>?_,λi j t t' b x y hi a q v=>?_,λi c j t b x hi a q=>?_,λc e=>⟨(r.eJ c e).1,(r.eJ c e).2.1,λi hi=>by
  simp only[Gh.cut]at hi;rw[ml]at hi;split at hi
  ·exact(r.eJ c e).2.2 i hi
  ·cases hi⟩,λi k hi d=>?_,λi j t k k' es es' hi a=>?_⟩
 ·simp only[Gh.cut,AH.cut]at e d;rw[ml]at e d;split at e
  ·rename_i hi;rw[nK hi]at d;obtain⟨p,o,z,u⟩:=r.g7 i c k e d;exact⟨p,o,z.cut (s i k hi d),u⟩
  ·cases e
 ·simp only[Gh.cut,AH.cut]at f ⊢;rw[ml]at f;split at f
  ·rename_i hi;obtain⟨p,o⟩:=r.tok i t f;exact⟨wK hi p,o⟩
  ·cases f
 ·simp only[Gh.cut]at hi a;rw[ml]at hi a;split at hi
  ·split at a
   ·exact r.eF i j c hi a
   ·cases a
  ·cases hi
 ·simp only[Gh.cut]at hi a;rw[ml]at hi a;split at hi
  ·split at a
   ·exact r.fS i j t t' b x y hi a q v
   ·cases a
  ·cases hi
 ·simp only[Gh.cut]at hi a;rw[ml]at hi a;split at hi
  ·split at a
   ·exact r.sep i c j t b x hi a q
   ·cases a
  ·cases hi
 ·simp only[Gh.cut,AH.cut]at hi d;rw[ml]at hi d;split at hi
  ·rename_i l;rw[nK l]at d;exact(r.row i k hi d).cut (s i k l d)
  ·cases hi
 ·simp only[AH.cut]at hi a;rw[ml]at hi a;split at hi
  ·split at a
   ·exact r.fX _ _ _ _ _ _ _ hi a
   ·cases a
  ·cases hi

theorem Gh.aC{g g':Gh}(h:g.le g'):g.le (g'.cut g.σ.length g.τ.length) :=
 ⟨h.eK,λi c e=>wK (tu.1 e).1 (h.sig i c e),λi t e=>by
  obtain⟨t',b,a,d⟩:=h.au i t e;exact⟨t',wK (tu.1 e).1 b,a,d⟩,h.del⟩
mutual
theorem AV.eG{n m c:Nat}(h:m<=c):∀a:AV,a.low n m=true->a.low n c=true
 |.bool _,_|.int _ _,_|.str _,_|.er,_|.ef,_|.fC,_|.eX,_|.fT,_|.fK _,_|.sl _ _,_|.de _,_|.any,_|.ct,_=>rfl
 |.gW ac _ _,_=>rfl
 |.gW (aa t) _ _,hl=>by simp only[AV.low,so]at hl ⊢;omega
 |.ptr _ _,hl=>hl
 |.cu _ _ _ _,hl=>hl
 |.fo _ _ _ _,hl=>by simp only[AV.low,so]at hl ⊢;omega
 |.ep _ _ _ _ _,hl=>by simp only[AV.low,so]at hl ⊢;omega
 |.fW _ _ _ _ _,hl=>by simp only[AV.low,so]at hl ⊢;omega
 |.map _,hl=>hl
 |.ca _,hl=>hl
 |.fn _ a b,hl=>by
  simp only[AV.low,tx]at hl ⊢;exact⟨rb h a hl.1,rb h b hl.2⟩
 |.iface _ v,hl=>by simp only[AV.low]at hl ⊢;exact AV.eG h v hl
 |.agg cs,hl=>by simp only[AV.low]at hl ⊢;exact rb h cs hl
 |.fl cs,hl=>by simp only[AV.low]at hl ⊢;exact rb h cs hl
theorem rb{n m c:Nat}(h:m<=c):∀l:List AV,zB n m l=true->zB n c l=true
 |[],_=>rfl
 |a::r,hl=>by
  simp only[zB,tx]at hl ⊢;exact⟨AV.eG h a hl.1,rb h r hl.2⟩
end
theorem q6.eG{n m d:Nat}(h:m<=d):∀b:q6,b.low n m=true->b.low n d=true
 |.cells cs,hl=>rb h cs hl
 |.q7 es c,hl=>by
  simp only[q6.low,oB,tx]at hl ⊢;exact λp a=>⟨AV.eG h _ (hl p a).1,AV.eG h _ (hl p a).2⟩
 |.loop _ _ env _ _ _,hl=>rb h env hl
 |.row _ _ _,hl=>by simp only[q6.low,so]at hl ⊢;omega
 |.fF _ _ _,hl=>hl
 |.ec _ _,_|.eQ,_|.other,_|.dead,_=>rfl
theorem Gh.dm{g g':Gh}(h:g.le g'){n m:Nat}(j:g.σ.length<=n)(a:g.τ.length<=m):g.le (g'.cut n m) :=
 ⟨h.eK,λi c e=>wK (o4 (tu.1 e).1 j) (h.sig i c e),λi t e=>by
  obtain⟨t',d,b,f⟩:=h.au i t e;exact⟨t',wK (o4 (tu.1 e).1 a) d,b,f⟩,h.del⟩
end Go.Vv
namespace Go.Vv
open Go Go.RowKit
section
variable{B:Nat}{w0 w:World}{g:Gh}{h:AH}
theorem Rel.aH(r:Rel B w0 g h w)(k:q6)(s:dP (g.ft ac) w k)(D:∀t k1 es,k=.row t k1 es->∀(i k2:Nat)(o:List (List AV)),h.zh[i]?≠aa (.row t k2 o)) :
  Rel B w0 (g.ft ac) (h.new k) w:=by
 have key:∀(i:Nat)(x:q6),(h.zh++[k])[i]?=aa x->(h.zh[i]?=aa x/\i<h.zh.length) \/ (i=h.zh.length/\x=k):=by
  grind
 refine⟨r.below,r.dA,r.eK,by simp[Gh.ft,AH.new,r.fi],λi c q d f=>?_,r.fA,r.tok,λi j c hi l=>?_,r.fS,λi c j t b x hi l A=>?_,λc d=>⟨(r.eJ c d).1,(r.eJ c d).2.1,λi hi=>?_⟩,
  λi q hi f=>?_,λi j t k1 k2 es es' hi l=>?_⟩
 ·rcases fM d with d|⟨_,a⟩
  ·have y:i<h.zh.length:=by rw[<- r.fi];exact(tu.1 d).1
   rcases key i q f with⟨f,_⟩|⟨rfl,_⟩
   ·obtain⟨v,p,z,u⟩:=r.g7 i c q d f;exact⟨v,p,z.mono (g.fd _) rfl,u⟩
   ·omega
  ·cases a
 ·rcases fM hi with hi|⟨_,a⟩
  ·rcases fM l with l|⟨_,a⟩
   ·exact r.eF i j c hi l
   ·cases a
  ·cases a
 ·rcases fM hi with hi|⟨_,a⟩
  ·exact r.sep i c j t b x hi l A
  ·cases a
 ·rcases fM hi with hi|⟨_,a⟩
  ·exact(r.eJ c d).2.2 i hi
  ·cases a
 ·rcases key i q f with⟨f,y⟩|⟨_,rfl⟩
  ·rcases fM hi with hi|⟨e,_⟩
   ·exact(r.row i q hi f).mono (g.fd _) (λ_ _ h _=>h) (λ_ _ _ _ _ _ _=>⟨rfl,λ_=>rfl⟩)
   ·rw[r.fi]at e;omega
  ·exact s
 ·rcases key i _ hi with⟨m,_⟩|⟨rfl,E⟩<;>rcases key j _ l with⟨n,_⟩|⟨rfl,C⟩
  ·exact r.fX _ _ _ _ _ _ _ m n
  ·grind
  ·grind
  ·rfl
theorem Rel.zzv(r:Rel B w0 g h w){i t k:Nat}{es:List (List AV)}(a:h.zh[i]?=aa (.row t k es)):t<g.τ.length:=by
 obtain⟨_,u,b,_⟩:=r.rowAt a
 grind
theorem Rel.ey(r:Rel B w0 g h w)(t:TI)(k:Nat)(es:List (List AV))(a:∀b l e,t.loc=aa (b,l,e)->ed g.Φ B w b l e)
  (hd:∀b x,t.loc=aa (b,x)->(∀(j:Nat)(u:TI) (y:Nat×Nat),g.τ[j]?=aa u->u.loc≠aa (b,y))/\∀(j c:Nat),g.σ[j]?=aa (aa c)->b≠c)
  (d:eA ((g.fI t).ft ac) w g.τ.length k es) :
  Rel B w0 ((g.fI t).ft ac) (({ h with zs:=h.zs++[t.n] }:AH).new (.row g.τ.length k es)) w:=by
 refine(r.dG t a hd).aH _ d λt' k1 f e i k2 o hi=>?_;injection e with m _ _;subst m;exact ji _ (r.zzv hi)

theorem Rel.bG(r:Rel B w0 g h w){i q k:Nat}{t t':TI}{es:List (List AV)}{nb:q6}(hi:g.τ[i]?=aa t)(hn:t.n<t'.n)(hf:t.row=true)(Q:t'.row=true)
  (hq:g.σ[q]?=aa ac) (J:h.zh[q]?=aa (.row i k es)) (Y:dP (g.fy i t') w nb) (G:∀t k es,nb=.row t k es->t=i)
  (E:∀b l e,t'.loc=aa (b,l,e)->ed g.Φ B w b l e)
  (hd:∀b x,t'.loc=aa (b,x)->(∃y,t.loc=aa (b,y)) \/ ((∀(j:Nat)(u:TI) (y:Nat×Nat),g.τ[j]?=aa u->u.loc≠aa (b,y))/\∀(j c:Nat),g.σ[j]?=aa (aa c)->b≠c)) :
  Rel B w0 (g.fy i t') { h.put q nb with zs:=h.zs.set i t'.n } w:=by
 have N:i<g.τ.length:=(tu.1 hi).1;have H:=Gh.fU hi hn (Q.trans hf.symm);have key:∀(j:Nat)(u:TI),(g.fy i t').τ[j]?=aa u->(j=i/\u=t') \/ (j≠i/\g.τ[j]?=aa u):=by
  intro j u e;simp only[Gh.fy]at e
  grind
 have hql:q<h.zh.length:=(tu.1 J).1;have a:∀(j:Nat)(b:q6),(h.zh.set q nb)[j]?=aa b->(j=q/\b=nb) \/ (j≠q/\h.zh[j]?=aa b):=by
  grind
 refine⟨r.below,r.dA,r.eK,by simp[AH.put,Gh.fy,r.fi],λU c b s D=>?_,by simp[Gh.fy,r.fA],λj u p=>?_,r.eF,λj I u u' b x y M m v R=>?_,λj c I u b x s p v=>?_,r.eJ,
  λj b M D=>?_,λj1 j2 t1 k1 k2 e1 V O o=>?_⟩
 ·have s:g.σ[U]?=aa (aa c):=s;rcases a U b D with⟨rfl,rfl⟩|⟨f,D⟩
  ·simp_all
  ·obtain⟨K,A,h3,h4⟩:=r.g7 U c b s D;exact⟨K,A,h3.mono H rfl,h4⟩
 ·rcases key j u p with⟨rfl,rfl⟩|⟨M,p⟩
  ·exact⟨li (by rw[<- r.fA];exact N),E⟩
  ·obtain⟨K,A⟩:=r.tok j u p;exact⟨by grind,A⟩
 ·rcases key j u M with⟨rfl,rfl⟩|⟨f,o⟩<;>rcases key I u' m with⟨rfl,rfl⟩|⟨Z,m⟩
  ·rfl
  ·rcases hd b x v with⟨z,F⟩|⟨K,_⟩
   ·exact r.fS _ _ _ _ b z y hi m F R
   ·grind
  ·rcases hd b y R with⟨z,F⟩|⟨K,_⟩
   ·exact r.fS _ _ _ _ b x z o hi v F
   ·grind
  ·exact r.fS _ _ _ _ b x y o m v R
 ·rcases key I u p with⟨rfl,rfl⟩|⟨f,p⟩
  ·rcases hd b x v with⟨z,F⟩|⟨_,A⟩
   ·exact r.sep j c _ t b z s hi F
   ·exact A j c s
  ·exact r.sep j c I u b x s p v
 ·rcases a j b D with⟨rfl,rfl⟩|⟨f,d⟩
  ·omega
  ·have L:=r.row j b M d;cases b with
   |row i2 k2 V =>
    have L:eA g w i2 k2 V:=L;have P:i2≠i:=by rintro rfl;exact f (r.fX _ _ _ _ _ _ _ d J)
    exact L.mono H (by simp only[Gh.fy];exact lR (λe=>P e.symm)) (λ_ _ _ _ _ _=>⟨rfl,λ_=>rfl⟩)
   |dead=>trivial
   |_=>exact L.elim
 ·rcases a j1 _ O with⟨rfl,T⟩|⟨X,C⟩<;>rcases a j2 _ o with⟨rfl,S⟩|⟨W,d⟩
  ·rfl
  ·have:=G _ _ _ T.symm;subst this;exact r.fX _ _ _ _ _ _ _ J d
  ·have:=G _ _ _ S.symm;subst this;exact r.fX _ _ _ _ _ _ _ C J
  ·exact r.fX _ _ _ _ _ _ _ C d

def AH.shr(h:AH)(id tk k n:Nat)(es:List (List AV)):AH:=({ h.put id .dead with zs:=h.zs.set tk (es.length+1)++[n] }:AH).new (.row h.zs.length k (es.take n))
theorem zeB{k:Nat}:∀(n:Nat)(es:List (List AV)),(∀e∈es,e.length=k)->n<=es.length->(es.take n).flatten=es.flatten.take (n*k)
 |0,_,_,_=>by simp
 |n+1,[],_,h=>by simp at h
 |n+1,e::r,hk,h=>by
  have b:=hk e k8;simp only[jR,lO];rw[zeB n r (λx d=>hk x (kQ _ d)) (by simpa using h),kx,b];have a:(n+1)*k-k=n*k:=by grind
  have c:e.take ((n+1)*k)=e:=lh (by grind);rw[a,c]
def zoT(a:Option Addr)(n c k:Nat):Option (Nat×Nat×Nat):=match a with
 |some ⟨b,o,ac⟩=>if c=0 then ac else aa (b,o+n*k,o+c*k)
 |_=>ac
theorem Rel.shrink(r:Rel B w0 g h w){id i k n c:Nat}{es:List (List AV)}(hb:h.g7 id=aa (.row i k es))(Q:n<=es.length){a a':Option Addr}(ha:a'=a \/ a'=a.map (·.add 0))
  (hV:V g (.fo id i k es.length) (.slice a es.length c)) :
  ∃g',g.le g'/\Rel B w0 g' (h.shr id i k n es) w/\V g' (.fo h.zh.length h.zs.length k n) (.slice a' n c):=by
 obtain⟨hq,t,p,H,S,q,Z,z⟩:=r.rowAt hb;simp only[V]at hV;obtain⟨ad,cc,P,hnc,T,u,O,hur,hun,K⟩:=hV;simp only[Value.slice.injEq]at P;obtain⟨rfl,_,rfl⟩:=P;rw[p]at O;injection O with O;subst O;have X:h.zh[id]?=aa (.row i k es):=hb
 let d:TI:=⟨es.length+1,ac,true⟩
 have r1:=r.bG (t':=d) (nb:=.dead) p (by grind) H rfl hq X trivial (λ_ _ _ e=>by cases e) (λ_ _ _ e=>by cases e) (λ_ _ e=>by cases e);have hlt:i<g.τ.length:=(tu.1 p).1;have s:g.le (g.fy i d):=Gh.fU p (by grind) H.symm;have hloc:t.loc=t.loc:=rfl
 -- where the new one lies
 let f:TI:=⟨n,zoT a n c k,true⟩
 have other:∀(j:Nat)(v:TI),(g.fy i d).τ[j]?=aa v->(j=i/\v=d) \/ (j≠i/\g.τ[j]?=aa v):=by
  intro j v e;simp only[Gh.fy]at e
  grind
 have L:∀b l e,f.loc=aa (b,l,e)->∃o,a=aa ⟨b,o,ac⟩/\l=o+n*k/\e=o+c*k/\t.loc=aa (b,o+es.length*k,o+c*k):=by
  intro b l e D;simp only[f,zoT]at D
  grind
 have free:∀b o,t.loc=aa (b,o+es.length*k,o+c*k)->∀j,o+n*k<=j->g.Φ b j=ac:=by
  intro b o D j m;rcases z with rfl|⟨b2,N,e2,cs,ty,k1,k2,k3,k4,k5⟩
  ·have:=(r.tok i t p).2 _ _ _ D;exact this.free j (by simp_all)
  ·grind
 have E:∀b l e,f.loc=aa (b,l,e)->ed (g.fy i d).Φ B w b l e:=by
  intro b l e D;obtain⟨o,_,rfl,rfl,J⟩:=L b l e D;have M:=(r.tok i t p).2 _ _ _ J;exact⟨M.lo,M.lt,M.cells,λj m=>free b o J j m⟩
 have Y:∀b x,f.loc=aa (b,x)->(∀(j:Nat)(u:TI) (y:Nat×Nat),(g.fy i d).τ[j]?=aa u->u.loc≠aa (b,y))/\∀(j c:Nat),(g.fy i d).σ[j]?=aa (aa c)->b≠c:=by
  rintro b ⟨l,e⟩ D
  obtain⟨o,_,_,_,J⟩:=L b l e D;refine⟨λj v y m hv=>?_,λj c' m=>r.sep j c' i t b _ m p J⟩;rcases other j v m with⟨rfl,rfl⟩|⟨R,m⟩
  ·cases hv
  ·exact R (r.fS _ _ _ _ b _ _ m p hv J)
 have A:(g.fy i d).τ.length=h.zs.length:=by simp[Gh.fy,r.fA]
 have I:(((g.fy i d).fI f).ft ac).τ[h.zs.length]?=aa f:=by
  simp only[Gh.ft,Gh.fI]
  simp_all
 have W:es≠[]->c≠0:=by
  grind
 have C:eA (((g.fy i d).fI f).ft ac) w (g.fy i d).τ.length k (es.take n):=by
  rw[A];refine⟨f,I,rfl,by grind,λe P=>q e (List.mem_of_mem_take P),?_,?_⟩
  ·grind
  ·by_cases hes:es=[]
   ·grind
   ·right;rcases z with h0|⟨b2,N,e2,cs,ty,k1,k2,k3,k4,k5⟩
    ·simp_all
    ·rcases K with⟨h1,_⟩|⟨b,o,G,F⟩
     ·grind
     ·have F:=F S.symm;rw[k1]at F;simp only[p5,kG]at F;obtain⟨rfl,M,rfl⟩:=F;have:N=o:=by omega
      subst this;have U:n*k<=es.length*k:=lY k Q;refine⟨b2,N,N+c*k,cs,ty,?_,k2,?_,?_,λj m=>k5 j m⟩
      ·simp only[f,zoT,G,n4 (W hes),ke,j9 Q]
      ·rw[zeB n es q Q,ke,j9 Q];have:=VA.take (n*k) k3;rw[List.take_take,j9 U]at this;exact VA.mono ((s.trans (Gh.fu _ _)).trans (Gh.fd _ _)) _ _ this
      ·grind
 have r2:=r1.ey f k (es.take n) E Y C;refine⟨((g.fy i d).fI f).ft ac,(s.trans (Gh.fu _ _)).trans (Gh.fd _ _),?_,?_⟩
 ·have e1:h.shr id i k n es=(({ ({ h.put id .dead with zs:=h.zs.set i d.n }:AH)with zs:=(h.zs.set i d.n)++[f.n] }:AH).new (.row (g.fy i d).τ.length k (es.take n))):=by
   unfold AH.shr
   grind
  simp_all
 ·simp only[V];refine⟨a',c,rfl,by omega,T,f,I,rfl,ob _,?_⟩;rcases K with⟨h1,G⟩|⟨b,o,G,F⟩
  ·omega
  ·by_cases hc0:c=0
   ·omega
   ·right;refine⟨b,o,?_,λ_=>?_⟩
    ·rcases ha with rfl|rfl
     ·exact G
     ·rw[G];simp[Addr.add]
    ·simp only[f,zoT,G,n4 hc0]
end
end Go.Vv
namespace Go.Vv
open Go Go.RowKit Go.Lib
section
variable{P:Program}{w:World}{g:Gh}{h:AH}{B:Nat}{w0:World}
theorem zl2(r:Rel B w0 g h w){id q k p:Nat}{es:List (List AV)}(z:h.g7 id=aa (.row q k es))(s:es≠[]){t:TI}{b D:Nat}(S:g.τ[q]?=aa t)(i:dJ t b D es.length k p){us:List Value}{vs:List AV}
  (f:VA g vs us) (J:vs.all AV.pure=true) (C:p+us.length<=es.flatten.length) :
  ∃w',(storeCells ⟨b,D,ac⟩ us).run P w=.ok () w'/\Rel B w0 g (h.put id (.row q k (rows k es.length (yX es.flatten p vs)))) w':=by
 obtain⟨R,O,i⟩:=i;obtain⟨_,L,y,I,v,m,E,u⟩:=r.rowAt z;obtain rfl:L=t:=by simp_all
 obtain⟨c,G,rfl,a⟩:=i v.symm;have x:es.flatten.length=es.length*k:=xg m;have F:vs.length=us.length:=f.length;obtain⟨W,H,V,cs,cA,k1,k2,k3,T,U⟩:=u.resolve_left s;rw[a]at k1;injection k1 with k1;injection k1 with M k1;injection k1 with k1 _;obtain rfl:c=H:=by omega
 subst M;have d:=run_storeCells_at P b (c+p) cA us 0 cs w k2 (by omega) f.dC;simp only[ja]at d;generalize hnew:(cs.toList.take (c+p)++us++cs.toList.drop (c+p+us.length)).toArray=new at d;have n:(yX es.flatten p vs).length=es.length*k:=by unfold yX;rw[oA,oA,ke,jC,x];omega
 obtain⟨A,K,N⟩:=np (k:=k) es.length (yX es.flatten p vs) n;have Q:cs.toList.length=cs.size:=by simp
 refine⟨w.setRow b new,d,r.dh (e:=G) (cur:=cs) (ty:=cA) (o:=c) z y a k2 (by grind) (λj X=>?_) K N ?_ ?_ s⟩
 ·rw[<- hnew,jH,lf,ol (by simp;omega),ml,nK (by omega),lr]
 ·rw[A];unfold yX
  grind
 ·rw[A];have l:(new.toList.drop c).take (es.length*k)=((cs.toList.drop c).take (es.length*k)).take p++us++((cs.toList.drop c).take (es.length*k)).drop (p+us.length):=by
   rw[<- hnew];apply lT;intro j;by_cases h1:j<p
   ·rw[ml,nK (by omega),lj,lf,ol (by simp;omega),ml,nK (by omega)];rw[lf,ol (by simp;omega),ml,nK h1,ml,nK (by omega),lj]
   ·by_cases h2:j<p+us.length
    ·rw[ml,nK (by omega),lj,lf,pa (by simp;omega),ol (by simp;omega)];rw[lf,pa (by simp;omega),ol (by simp;omega)]
     grind
    ·by_cases h3:j<es.length*k
     ·rw[ml,nK h3,lj,pa (by simp;omega),lj];rw[pa (by simp;omega),lj,ml,nK (by simp;omega),lj]
      grind
     ·rw[ml,n4 h3,kL]
      grind
  rw[l];exact zaI (off:=p) k3 f
def zn2(z:List AV)(n i:Nat):List AV:=(List.replicate (n-i) z).flatten
def AH.clr(h:AH)(id tk k i:Nat)(es:List (List AV))(z:List AV):AH:=h.put id (.row tk k (rows k es.length (yX es.flatten (i*k) (zn2 z es.length i))))
theorem zjI{h:AH}{id:Nat}{b:q6}(a:h.g7 id=aa b):h.put id b=h:=by
 cases h with
 |mk B T =>
  simp only[AH.put,AH.mk.injEq,kA];refine lT λj=>?_;by_cases hj:j=id
  ·subst hj;rw[li (tu.1 a).1];exact a.symm
  ·grind
theorem zi4(r:Rel B w0 g h w){t e ty:TypeId}{id s k n i:Nat}{es:List (List AV)}{z o:List AV}{x:Value}(F:P.underlying t=aa (.slice e))(hz:yY P e=aa z)(X:xO z=aa o)(I:z.length=k)(hkp:0<k)(C:h.g7 id=aa (.row s k es))(hn:es.length=n)
  (U:V g (.ep id s k n i) x):∃w',(Builtin.clear_ #[t] ty #[x]).run P w=.ok (.tuple #[]) w'/\Rel B w0 g (h.clr id s k i es o) w':=by
 subst hn;simp only[V]at U;obtain⟨a,c,rfl,hin,t2,L,h3⟩:=U;obtain⟨_,ti,hti,htr,htn,f,Z,W⟩:=r.rowAt C;have y:es.flatten.length=es.length*k:=xg f;rcases h3 with h0|⟨b,q,rfl,M⟩
 ·have hi:i=es.length:=by omega
  subst hi;have O:h.clr id s k es.length es o=h:=by
   unfold AH.clr zn2;have:yX es.flatten (es.length*k) (List.replicate (es.length-es.length) o).flatten=es.flatten:=by
    simp[yX,<- y]
   rw[this];have J:rows k es.length es.flatten=es:=by
    have:∀(l:List (List AV)),(∀e∈l,e.length=k)->rows k l.length l.flatten=l:=by
     intro l
     induction l with
     |nil=>intro _;rfl
     |cons x r ih =>
      intro j;simp only[nr,rows,lO];rw[gJ (j x k8),iZ (j x k8),ih λe R=>j e (kQ _ R)]
    exact this es f
   rw[J];exact zjI C
  rw[O];refine⟨w,?_,r⟩;rw[h0];cases a<;>simp[Builtin.clear_,run_underlying F]
 ·by_cases h0:es.length-i=0
  ·-- a5 above
   have hi:i=es.length:=by omega
   subst hi;have O:h.clr id s k es.length es o=h:=by
    unfold AH.clr zn2;have:yX es.flatten (es.length*k) (List.replicate (es.length-es.length) o).flatten=es.flatten:=by
     simp[yX,<- y]
    rw[this];have J:rows k es.length es.flatten=es:=by
     have:∀(l:List (List AV)),(∀e∈l,e.length=k)->rows k l.length l.flatten=l:=by
      intro l
      induction l with
      |nil=>intro _;rfl
      |cons x r ih =>
       intro j;simp only[nr,rows,lO];rw[gJ (j x k8),iZ (j x k8),ih λe R=>j e (kQ _ R)]
     exact this es f
    rw[J];exact zjI C
   rw[O];refine⟨w,?_,r⟩;rw[h0];simp[Builtin.clear_,run_underlying F]
  ·have Q:es≠[]:=by rintro rfl;simp at h0
   obtain⟨iz,p,G,K,u⟩:=qX (g:=g) hz;have A:VA g o p.cells.toList:=tV u X;have N:p.cells.size=k:=by rw[<- I,u.length];rfl
   have v:∀w,(zeroValue e).run P w=.ok p w:=λw=>by simp[zeroValue,typeInfo,G,K]
   have d:(Builtin.zeroCells p.cells (es.length-i)).toList=(List.replicate (es.length-i) p.cells.toList).flatten:=by
    unfold Builtin.zeroCells;rw[ik,iE];exact px p.cells (es.length-i)
   have H:VA g (zn2 o es.length i) (Builtin.zeroCells p.cells (es.length-i)).toList:=by
    rw[d];exact VA.flatten A _
   have hul:(Builtin.zeroCells p.cells (es.length-i)).toList.length=(es.length-i)*k:=by
    rw[d];simp[N]
   have S:i*k+(es.length-i)*k=es.length*k:=by rw[<- ka];congr 1;omega
   obtain⟨w',T,Y⟩:=zl2 (P:=P) r C Q L M H (by
    unfold zn2;rw[oB];intro a D;obtain⟨l,j,D⟩:=gw.1 D;rw[iA j]at D;have:=rt X;rw[oB]at this;exact this a D) (by omega)
   refine⟨w',?_,Y⟩;have E:∃m,es.length-i=m+1:=⟨es.length-i-1,by omega⟩
   obtain⟨m,hm⟩:=E;rw[hm]at T ⊢;simp only[Builtin.clear_];simp[run_underlying F,v,T]
end
end Go.Vv
