/- The abstract step is sound: every operation. -/
import Derived.Test.YtcociipjgndnaaaGreatVvJ
import Derived.Lib.OthersKept
namespace Go.Vv
open Go Go.RowKit Go.Lib
section
variable {P:Program} {w:World} {g:Gh} {h:AH} {B:Nat} {w0:World}

theorem stay {a:Act} {o:Oper} (r:Rel B w0 g h w) {v:AV} {u:Value} (h1:(execOp a.eval o).run P w=.ok (.value u) w) (h2:V g v u):qf P B w0 g a o w v h:=⟨u,w,g,.inl h1,Gh.le.refl g,r,h2⟩

theorem recv_sound (r:Rel B w0 g h w) {t:TypeId} {v b:AV} {u:Value} {name:String} {f:FuncId} (hr:aRecv P h t v name=some (f,b)) (hv:V g v u) (args:Array Value) :
  ∃x,(callMethod (.iface t u) name args).run P w=(callFunc f (#[x]++args)).run P w/\V g b x:=by
 unfold aRecv at hr;split at hr
 case h_2=>cases hr
 rename_i i hi;split at hr
 case h_2=>cases hr
 rename_i m hm;split at hr
 case isFalse=>cases hr
 rename_i hp;have hp':m.path=#[]:=by simpa using hp
 rw [Array.find?_toList] at hm;have key : ∀ x p, (receiverAt t (.val u) p (some ((name.splitOn ".").getLastD name))).run P w = .ok x w → m.func = some (f, p) →
   (callMethod (.iface t u) name args).run P w=(callFunc f (#[x]++args)).run P w:=λx p hx hf=>by
  have hn:P.types.size+Made.depth=(P.types.size+99)+1:=rfl;simp only [callMethod,Sem.run_bind,run_program,Result.andThen_ok];rw [hn];generalize P.types.size+99=n;rw [method];have hti:(typeInfo t).run P w=.ok i w:=by simp [typeInfo,hi]
  simp only [Sem.run_bind,hti,Result.andThen_ok,hm,hp',hf];have h0:(follow (#[]:Array FieldStep).toList t (.val u)).run P w=.ok (t,.val u) w:=rfl;simp only [Sem.run_bind,h0,Result.andThen_ok];have h1:((#[]:Array FieldStep).isEmpty)=true:=rfl;simp only [h1,ut,Sem.run_bind,hx,Result.andThen_ok,Sem.run_pure]
 split at hr
 case h_2=>cases hr
 rename_i f' p hf;split at hr
 ·rename_i e ht;simp only [un,tG] at hr;obtain ⟨rfl,rfl⟩:=hr;exact ⟨u,key u _ (by simp [receiverAt,run_underlying ht,Place.get]) hf,hv⟩
 ·rename_i e ht;split at hr
  ·rename_i id off d j hd hj;rw [sP] at hr;obtain ⟨x,hx,hr⟩:=hr;simp only [tG] at hr;obtain ⟨rfl,rfl⟩:=hr;obtain ⟨y,h1,h2⟩:=load_sound r hd hj hv hx;simp only [V] at hv;obtain ⟨c,hc,rfl⟩:=hv;refine ⟨y,key y _ ?_ hf,h2.tyfix⟩;simp only [Instr.loadAt,Instr.sureAddr] at h1;have hw : ∀ nm, (Builtin.ssaWrapNilChk_ #[t] t #[.pointer (some ⟨c, off, none⟩), strVal "", strVal nm]).run P w = .ok (.pointer (some ⟨c, off, none⟩)) w := fun _ => rfl;simp only [receiverAt,Sem.run_bind,run_underlying ht,Result.andThen_ok,Place.get,Sem.run_pure,hw,asAddr];simpa using h1
  ·cases hr
 ·rename_i d hne ht;simp only [un,tG] at hr;obtain ⟨rfl,rfl⟩:=hr;refine ⟨u,key u _ ?_ hf,hv⟩;simp only [receiverAt,Sem.run_bind,run_underlying ht,Result.andThen_ok];simp [Place.get]
 ·cases hr
theorem astep_fits (r:Rel B w0 g h w) {a:Act} {env:List AV} (C:VL g env a.tmps.toList) (o:Oper):Fits P B w0 g a o w (zw P o env h):=by
 unfold zw;split
 ·-- move
  rename_i x A;split
  ·rename_i l;exact stay r (by simp [execOp,A]) (V.ev C l).tyfix
  ·trivial
 ·-- assign
  rename_i x A;split
  ·rename_i l;exact stay r (by simp [execOp,A]) (V.ev C l).tyfix
  ·trivial
 ·-- pick
  rename_i c x y A;split
  ·rename_i l;simp only [ud] at l;split
   ·rename_i t ht;have K:=V.ev C l.2;rw [ht] at K;simp only [V] at K;refine stay r (u:=if t then a.eval x else a.eval y) (by simp [execOp,A,K,asBool]) ?_;cases t
    ·exact V.ev C l.1.2
    ·exact V.ev C l.1.1
   ·trivial
  ·trivial
 ·-- alloc
  rename_i t A;split
  ·rename_i cs X;obtain ⟨i,z,hi,hzz,hva⟩:=qA (g:=g) X;have T:=r.slen;refine ⟨.pointer (some ⟨w.heap.size,0,none⟩),w.alloc (.cells z.cells t),g.addS w.heap.size,.inl ?_,g.le_addS _,r.newCells t hva,?_⟩
   ·simp [execOp,A,Instr.alloc,run_zero hi hzz,newVar,newRow]
   ·simp only [V,Gh.addS];exact ⟨w.heap.size,by rw [<- T];simp,rfl⟩
  ·trivial
 ·-- box
  rename_i t x A;split
  ·rename_i l;split
   ·rename_i cs K;have hva:=((V.ev C l).tyfix (P:=P) (t:=t)).cells K;have T:=r.slen;refine ⟨.pointer (some ⟨w.heap.size,0,none⟩),w.alloc (.cells (a.eval x).cells t),g.addS w.heap.size,.inl ?_,g.le_addS _,r.newCells t hva,?_⟩
    ·simp [execOp,A,Instr.box,newVar,newRow]
    ·simp only [V,Gh.addS];exact ⟨w.heap.size,by rw [<- T];simp,rfl⟩
   ·trivial
  ·trivial
 ·-- build
  rename_i t parts A;split
  ·rename_i l;have W:∀out,(∃u,(Instr.build t (parts.map λ(i,x)=>(i,a.eval x))).run P w=.ok u w/\V g (.agg out) u)->qf P B w0 g a o w (.agg out) h:=by
    rintro out ⟨u,D,F⟩
    exact stay r (by simp [execOp,A,D]) F
   split
   ·rename_i fs z H X;split
    ·rename_i pl hpl;refine Fits.oo λv G=>?_;rcases Q:qd (λi=>pl[i]?) z (xB P (.struct fs) env parts) with _ | out
     ·simp [Q] at G
     ·simp [Q] at G;subst G;exact W out (build_sound C l X (.inl ⟨fs,pl,H,hpl,Q⟩))
    ·trivial
   ·rename_i n e z H X;split
    ·rename_i j hj;refine Fits.oo λv G=>?_;rcases Q:qd (λi=>some (i * j.size,j.size)) z (xB P (.array n e) env parts) with _ | out
     ·simp [Q] at G
     ·simp [Q] at G;subst G;exact W out (build_sound C l X (.inr ⟨n,e,j,H,hj,Q⟩))
    ·trivial
   ·trivial
  ·trivial
 ·-- load
  rename_i t x A;split
  ·rename_i d i hd hi;refine Fits.oo λv G=>?_;obtain ⟨v',I,rfl⟩:=V.map_tyfix G;obtain ⟨u,D,F⟩:=load_sound r hd hi (p:=ev env x) (pv:=a.eval x) (by
    cases x with
    | tmp t=>exact V.ev C rfl
    | const c =>
     -- a constant is no address
     simp only [ev] at I;exfalso;unfold aLoad at I;unfold cv at I;split at I <;> first
      | (rename_i hh;split at hh <;> first | cases hh | (unfold cv1 at hh;split at hh <;> cases hh))
      | cases I
    | global n=>exact V.ev C rfl
    | func f=>exact V.ev C rfl) I
   exact stay r (by simp [execOp,A,D]) F.tyfix
  ·trivial
 ·-- store
  rename_i t x y A;split
  ·rename_i l;split
   ·rename_i i hi;rcases hs:aStore h i.size (ev env x) (tyfix P t (ev env y)) with _ | h'
    ·trivial
    ·show qf P B w0 g a o w aundef h';have hp:V g (ev env x) (a.eval x):=by
      cases x with
      | tmp t=>exact V.ev C rfl
      | const c =>
       simp only [ev] at hs;exfalso;unfold aStore at hs;unfold cv at hs;split at hs <;> first
        | (rename_i hh _;split at hh <;> first | cases hh | (unfold cv1 at hh;split at hh <;> cases hh))
        | cases hs
      | global n=>exact V.ev C rfl
      | func f=>exact V.ev C rfl
     obtain ⟨w',D,F⟩:=store_sound r hi hp (V.ev C l).tyfix hs;exact ⟨undef,w',g,.inr ⟨by simp [execOp,A,D],rfl⟩,Gh.le.refl g,F,V.ofUndef⟩
   ·trivial
  ·trivial
 ·-- nilCheck
  rename_i x A;split
  ·rename_i l;have E:=V.ev C l;split
   ·rename_i id off J;rw [J] at E;have L:=E;simp only [V] at E;obtain ⟨c,K,N⟩:=E;exact stay r (u:=a.eval x) (by simp [execOp,A,N]) L
   ·rename_i cs J;rw [J] at E;have L:=E;simp only [V] at E;obtain ⟨b,oo,N,_⟩:=E;exact stay r (u:=a.eval x) (by simp [execOp,A,N]) L
   ·rename_i id q k n p J;rw [J] at E;have L:=E;simp only [V] at E;obtain ⟨b,oo,N,_⟩:=E;exact stay r (u:=a.eval x) (by simp [execOp,A,N]) L
   ·rename_i m J;rw [J] at E;have L:=E;simp only [V] at E;obtain ⟨b,oo,s,N,_⟩:=E;exact stay r (u:=a.eval x) (by simp [execOp,A,N]) L
   ·rename_i f as bs J;rw [J] at E;have L:=E;simp only [V] at E;obtain ⟨fs,cs,N,_⟩:=E;exact stay r (u:=a.eval x) (by simp [execOp,A,N]) L
   ·trivial
  ·trivial
 ·-- binOp
  rename_i op t x y yt A;split
  ·rename_i l;simp only [ud] at l;split
   ·rename_i S hS;obtain ⟨b,D,F⟩:=nilq_sound (w:=w) (ox:=x) (oy:=y) (V.ev C l.1) (V.ev C l.2) hS;exact ⟨_,_,F,stay r (u:=.bool b) (by simp only [execOp,A,Sem.run_bind] at D ⊢;rw [D];rfl) (by simp only [V])⟩
   refine Fits.oo λv G=>?_;obtain ⟨u,D,F⟩:=bin_sound (w:=w) (ox:=x) (oy:=y) (V.ev C l.1) (V.ev C l.2) G;exact stay r (by simp only [execOp,A,Sem.run_bind] at D ⊢;rw [D];rfl) F
  ·trivial
 ·-- unOp
  rename_i op t x A;split
  ·rename_i l;refine Fits.oo λv G=>?_;obtain ⟨u,D,F⟩:=un_sound (P:=P) (w:=w) (V.ev C l) G;exact stay r (by simp [execOp,A,D]) F
  ·trivial
 ·-- convert
  rename_i s t x A;split
  ·rename_i l;split
   ·rename_i ds d hs hd;refine Fits.oo λv G=>?_;obtain ⟨u,D,F⟩:=convert_sound (w:=w) hs hd (V.ev C l) G;exact stay r (by simp [execOp,A,D]) F
   ·trivial
  ·trivial
 ·-- makeFunc
  rename_i f as bs A;split
  ·rename_i l;simp only [ud] at l;refine stay r (u:=.func f (as.map a.eval) (bs.map a.eval)) (by simp [execOp,A,Instr.makeFunc]) ?_;simp only [V];exact ⟨_,_,rfl,by simpa using VL.evs C (by simpa using l.1),by simpa using VL.evs C (by simpa using l.2)⟩
  ·trivial
 ·-- slice
  rename_i t x lo hi mx A;split
  ·rename_i l;simp only [ud] at l;obtain ⟨⟨⟨hok1,R⟩,Y⟩,Z⟩:=l;have E:=V.ev C hok1;have W:∀v,(∃y,(Instr.sliceAt t (a.eval x) (lo.map a.eval) (hi.map a.eval) (mx.map a.eval)).run P w=.ok y w/\V g v y)->qf P B w0 g a o w v h:=by
    rintro v ⟨u,D,F⟩
    exact stay r (by simp [execOp,A,D]) F
   split
   ·rename_i H;split
    ·rename_i s hs;rw [hs] at E;exact Fits.oo λv G=>W v (slice_str_sound H E (VO.ev C R) (VO.ev C Y) (VO.ev C Z) G)
    ·trivial
   ·rename_i e H;split
    ·rename_i i hi';have U:=E.tyfix (P:=P) (t:=t);split
     ·rename_i k es hs;rw [hs] at U;split
      ·rename_i hk;subst hk;refine Fits.oo λv G=>W v ?_;simp only [V] at U;obtain ⟨ad,c,M,D,F,O⟩:=U;rw [M];exact slice_sl_sound H hi' D F O (λh=>by cases h) (VO.ev C R) (VO.ev C Y) (VO.ev C Z) G
      ·trivial
     ·rename_i q k es hs;rw [hs] at U;split
      ·rename_i hk;subst hk;refine Fits.oo λv G=>W v ?_;simp only [V] at U;obtain ⟨ad,c,M,D,F,O,h4⟩:=U;rw [M];refine slice_sl_sound H hi' D F O (λh=>?_) (VO.ev C R) (VO.ev C Y) (VO.ev C Z) G;cases q with
       | none=>exact h4
       | some id=>cases h
      ·trivial
     ·trivial
    ·trivial
   ·trivial
  ·trivial
 ·-- fieldAddr
  rename_i t x f A;split
  ·rename_i off u Q;split
   ·rename_i i hi;split
    ·trivial
    ·rename_i X;simp only [not_or,Bool.not_eq_false] at X;refine Fits.oo λv G=>?_;obtain ⟨y,D,F⟩:=fieldAddr_sound (w:=w) Q hi X.1 (V.ev C X.2) G;exact stay r (by simp [execOp,A,D]) F
   ·trivial
  ·trivial
 ·-- field
  rename_i t x f A;split
  ·rename_i off u Q;split
   ·rename_i d i hd hi;split
    ·rename_i l;refine Fits.oo λv G=>?_;obtain ⟨v',I,rfl⟩:=V.map_tyfix G;obtain ⟨y,D,F⟩:=field_sound (w:=w) Q hd hi (V.ev C l) I;exact stay r (by simp [execOp,A,D]) F.tyfix
    ·trivial
   ·trivial
  ·trivial
 ·-- indexAddr
  rename_i t x i A;split
  ·rename_i l;simp only [ud] at l;split
   ·rename_i e H;split
    ·rename_i j hj;refine Fits.oo λv G=>?_;obtain ⟨y,D,F⟩:=indexAddr_slice_sound (w:=w) H hj (V.ev C l.1) (V.ev C l.2) G;exact stay r (by simp [execOp,A,D]) F
    ·trivial
   ·rename_i n e H;split
    ·rename_i j hj;refine Fits.oo λv G=>?_;obtain ⟨y,D,F⟩:=indexAddr_array_sound (w:=w) H hj (V.ev C l.1) (V.ev C l.2) G;exact stay r (by simp [execOp,A,D]) F
    ·trivial
   ·trivial
  ·trivial
 ·-- index
  rename_i t x i A;split
  ·rename_i l;simp only [ud] at l;split
   ·rename_i H;refine Fits.oo λv G=>?_;obtain ⟨y,D,F⟩:=index_str_sound (w:=w) H (V.ev C l.1) (V.ev C l.2) G;exact stay r (by simp [execOp,A,D]) F
   ·rename_i n e H;split
    ·rename_i d j hd hj;refine Fits.oo λv G=>?_;obtain ⟨v',I,rfl⟩:=V.map_tyfix G;obtain ⟨y,D,F⟩:=index_agg_sound (w:=w) H hd hj (V.ev C l.1) (V.ev C l.2) I;exact stay r (by simp [execOp,A,D]) F.tyfix
    ·trivial
   ·trivial
  ·trivial
 ·-- extract
  rename_i t i A;split
  ·rename_i l;have E:=V.ev C l;split
   ·rename_i vs J;rw [J] at E;refine Fits.oo λv G=>?_;obtain ⟨v',I,rfl⟩:=V.map_tyfix G;simp only [V] at E;obtain ⟨us,H,hVL⟩:=E;obtain ⟨u,D,F⟩:=hVL.get _ _ I;rw [uv] at D;exact stay r (by simp [execOp,A,H,Instr.extract,D]) F.tyfix
   ·trivial
  ·trivial
 ·-- buildSlice
  rename_i t n parts A;split
  ·rename_i l;split
   ·rename_i e H;split
    ·rename_i i z hi X;split
     ·rename_i K;split
      ·rename_i cs Q;split
       ·rename_i out hcl;obtain ⟨u,w',g',D,F,O,h4⟩:=buildSlice_sound r C l H hi X K.1 K.2.1 K.2.2 Q hcl;exact ⟨u,w',g',.inl (by simp [execOp,A,D]),F,O,h4⟩
       ·trivial
      ·trivial
     ·trivial
    ·trivial
   ·trivial
  ·trivial
 ·-- call
  rename_i c A;split
  ·rename_i l;simp only [ud,sx] at l;split
   ·rename_i b K;exact builtin_fits r C A K l.1
   ·rename_i f K;split
    ·trivial
    ·rename_i Q;have E:=V.ev C (x:=f) (by simpa using Q);split
     ·rename_i gg first caps J
      rw [J] at E;simp only [V] at E;obtain ⟨fs,cs,M,D,F⟩:=E;refine ⟨fs++c.args.map a.eval++cs,?_,?_⟩
      ·simp [execOp,A,resolve,K,M,Deferred.ofValue,invoke]
      ·simp only [t7];have O:=VL.evs_fix (P:=P) C (xs:=c.args.toList) (ts:=c.argTypes.toList) (by simpa using l.1) (by simpa using l.2);exact VL.append (VL.append D (by simpa using O)) F
     ·rename_i id J;rw [J] at E;simp only [V] at E;obtain ⟨cc,hc1,M⟩:=E;refine ⟨cc,c.args.map a.eval,hc1,?_,?_⟩
      ·simp [execOp,A,resolve,K,M,Deferred.ofValue,invoke]
      ·have O:=VL.evs_fix (P:=P) C (xs:=c.args.toList) (ts:=c.argTypes.toList) (by simpa using l.1) (by simpa using l.2);simpa using O
     ·trivial
   ·rename_i x name K;split
    ·trivial
    ·rename_i Q;have E:=V.ev C (x:=x) (by simpa using Q);split
     ·rename_i t v J;rw [J] at E;simp only [V] at E;obtain ⟨u,M,G⟩:=E;split
      ·rename_i gg b hr;obtain ⟨y,D,F⟩:=recv_sound r hr G (c.args.map a.eval);refine ⟨#[y]++c.args.map a.eval,?_,?_⟩
       ·have hx2:((#[Value.iface t u]++c.args.map a.eval).extract 1 (#[Value.iface t u]++c.args.map a.eval).size)=c.args.map a.eval:=by
         apply Array.toList_inj.1;simp [uM]
        have hx1:(#[Value.iface t u]++c.args.map a.eval)[0]?=some (.iface t u):=by
         rw [<- uv];simp
        rw [<- D];simp only [execOp,A,resolve,K,M,Sem.run_bind,Sem.run_pure,Result.andThen_ok,invoke];rw [hx1,hx2]
       ·have O:=VL.evs_fix (P:=P) C (xs:=c.args.toList) (ts:=c.argTypes.toList) (by simpa using l.1) (by simpa using l.2);simp only [t7,tS,u6];exact VL.cons F (by simpa using O)
      ·trivial
     ·trivial
  ·trivial
 ·-- range
  rename_i t x A;split
  ·rename_i l;split
   ·rename_i s H J;have E:=V.ev C l;rw [J] at E;simp only [V] at E;have T:g.σ.length=h.blks.length:=r.slen;refine ⟨.pointer (some ⟨w.heap.size,0,none⟩),w.alloc (.stringIter ⟨s.toArray⟩ 0),g.addS w.heap.size,.inl ?_,g.le_addS _,r.newBlk _ _ (heap_alloc_new w _),?_⟩
    ·have:=run_range_string (P:=P) w t ⟨s.toArray⟩ H;simp [execOp,A,E.1,this,World.iter]
    ·simp only [V,Gh.addS];exact ⟨w.heap.size,by rw [<- T];simp,rfl⟩
   ·trivial
  ·trivial
 ·-- next
  rename_i x str A;split
  ·rename_i l;simp only [ud] at l;have E:=V.ev C l.1;unfold aNext;split
   ·rename_i id J;rw [J] at E;simp only [V] at E;obtain ⟨c,K,hpv⟩:=E;split
    ·rename_i s pos hb;obtain ⟨hB,hlt,R,_⟩:=r.blk id c _ K hb;have hk:w.heap[c]?=some (.stringIter ⟨s.toArray⟩ pos):=R;have hsz:(⟨s.toArray⟩:ByteArray).size=s.length:=by simp [ByteArray.size]
     split
     ·rename_i hp;have D:=run_next_any_at (P:=P) w c ⟨s.toArray⟩ pos o.type hk (by rw [hsz];exact hp);refine ⟨_,_,g,.inl (by simp only [execOp,A,l.2,hpv,Sem.run_bind,D,Result.andThen_ok,Sem.run_pure];rfl),Gh.le.refl g,?_,?_⟩
      ·exact r.putObj K hb (by simp) rfl rfl rfl (iterAt_size _ _ _ _) (λb hb'=>iterAt_other w c b _ _ hb') (iterAt_heap w c _ pos _ hk)
      ·simp only [V];refine ⟨_,rfl,?_⟩;simp only [VL];exact ⟨_,_,rfl,by simp only [V],_,_,rfl,by simp only [V],_,_,rfl,by simp only [V,dec],rfl⟩
     ·rename_i hp;have D:=run_next_end_at (P:=P) w c ⟨s.toArray⟩ pos o.type hk (by rw [hsz];exact hp);refine stay r (u:=.tuple #[.bool false]) (by simp only [execOp,A,l.2,hpv,Sem.run_bind,D,Result.andThen_ok,Sem.run_pure]) ?_;simp only [V];exact ⟨_,rfl,by simp only [VL];exact ⟨_,_,rfl,by simp only [V],rfl⟩⟩
    ·trivial
   ·trivial
  ·trivial
 ·-- makeMap
  rename_i t A;have T:g.σ.length=h.blks.length:=r.slen;refine ⟨.map (some w.heap.size),w.alloc (.map #[] 0),g.addS w.heap.size,.inl ?_,g.le_addS _,r.newBlk _ _ ⟨#[],0,heap_alloc_new w _,by simp [ME],λ_=>⟨rfl,λi e h=>by simp at h⟩⟩,?_⟩
  ·simp [execOp,A,run_makeMap]
  ·simp only [V,Gh.addS];exact ⟨w.heap.size,by rw [<- T];simp,rfl⟩
 ·-- lookup
  rename_i t x i ok A;split
  ·rename_i l;simp only [ud] at l;split
   ·rename_i kt et H;refine Fits.oo λv G=>?_;obtain ⟨u,D,F⟩:=lookup_sound r H (V.ev C l.1) (V.ev C l.2) G;exact stay r (by simp [execOp,A,D]) F
   ·trivial
  ·trivial
 ·-- mapEntry
  rename_i t x i A;split
  ·rename_i l;simp only [ud] at l;split
   ·rename_i kt et H;rcases hs:aEntry P h kt et (ev env x) (ev env i) with _ | ⟨v,h'⟩
    ·trivial
    ·obtain ⟨u,w',D,F,O⟩:=entry_sound r H (V.ev C l.1) (V.ev C l.2) hs;exact ⟨u,w',g,.inl (by simp [execOp,A,D]),Gh.le.refl g,O,F⟩
   ·trivial
  ·trivial
 ·-- entryStore
  rename_i t x i y A;split
  ·rename_i l;simp only [ud] at l;rcases hs:aEntryStore h (ev env x) (ev env i) (ev env y) with _ | h'
   ·trivial
   ·obtain ⟨w',D,O⟩:=entryStore_sound (P:=P) (t:=t) r (V.ev C l.1.1) (V.ev C l.1.2) (V.ev C l.2) hs;exact ⟨undef,w',g,.inr ⟨by simp [execOp,A,D],rfl⟩,Gh.le.refl g,O,V.ofUndef⟩
  ·trivial
 ·-- mapUpdate
  rename_i t x i y A;split
  ·rename_i l;simp only [ud] at l;split
   ·rename_i kt et H;rcases hs:aMapPut P h kt (ev env x) (ev env i) (ev env y) with _ | h'
    ·trivial
    ·obtain ⟨w',D,O⟩:=mapPut_sound r H (V.ev C l.1.1) (V.ev C l.1.2) (V.ev C l.2) hs;exact ⟨undef,w',g,.inr ⟨by simp [execOp,A,D],rfl⟩,Gh.le.refl g,O,V.ofUndef⟩
   ·trivial
  ·trivial
 ·trivial
end
end Go.Vv
