/- Mutable rows whose headers stand in boxed variables, too: how they become unchanging slices. -/
import Derived.Test.YtcociipjgndnaaaGreatVvSh
import Derived.Test.YtcociipjgndnaaaGreatVvU
set_option linter.all false
namespace Go.Vv
open Go Go.RowKit
variable {env' a5:List AV} {j m n i:Nat} {f:FuncId} {K:AV->AH->Prop} {B1:List Blk} {T1:List Nat} {t e:TypeId} {x y:Operand} {kd:IntKind} {z:Int}

theorem FzL.ones {i k:Nat} {es:List (List AV)}:∀{xs bs:List AV},FzL i k es xs bs->xs.all AV.one=true->bs.all AV.one=true
 | _,_,.refl _,h=>h
 | _,_,.cons x y,h=>by
  simp only [u7,ud] at h ⊢;refine ⟨?_,y.ones h.2⟩;cases x with
  | same=>exact h.1
  | hit=>rfl
  | hit2=>rfl
  | agg=>simp [AV.one] at h
  | tup=>simp [AV.one] at h
theorem swk_freezeB {h:AH} {env:List AV} {B B':List Blk} {T T':List Nat} {jb k:Nat} {es:List (List AV)} {cs cs':List AV} (G:B[j]?=some (.row (h.toks.length+m) k es)) (N:FzL (h.toks.length+m) k es env env')
  (E:B[jb]?=some (.cells cs)) (d:FzL (h.toks.length+m) k es cs cs') (Q:(B.set j .dead).set jb (.cells cs')=B') (I:T.set m (es.length+1)=T'):swk env (h.ext B T) env' (h.ext B' T'):=λ_ _ w g vs r O=>by
 subst Q I;have u:(h.ext B T).blks[h.blks.length+j]?=some (.row (h.toks.length+m) k es):=by
  simp only [AH.ext];rw [uk (by omega),uK];exact G
 have b:(h.ext B T).blks[h.blks.length+jb]?=some (.cells cs):=by
  simp only [AH.ext];rw [uk (by omega),uK];exact E
 have p:j ≠ jb:=by grind
 obtain ⟨g',a,v,J,A⟩:=r.freeze u;have e:({ (h.ext B T).put (h.blks.length+j) .dead with toks:=(h.ext B T).toks.set (h.toks.length+m) (es.length+1) }:AH)=h.ext (B.set j .dead) (T.set m (es.length+1)):=by
  simp only [AH.ext,AH.put,AH.mk.injEq]
  simp_all
 rw [e] at v;have q:h.blks.length+jb < g.σ.length:=by rw [r.slen];exact (uc.1 b).1
 obtain ⟨x,s⟩:∃x,g.σ[h.blks.length+jb]?=some x:=⟨_,ui q⟩
 cases x with
 | none=>exact (r.row _ _ s b).elim
 | some c =>
  obtain ⟨_,_,⟨us,t,F,D⟩,_⟩:=r.blk _ c _ s b;have H:(h.ext (B.set j .dead) (T.set m (es.length+1))).blks[h.blks.length+jb]?=some (.cells cs):=by
   simp only [AH.ext];rw [uk (by omega),uK,u2 p];exact E
  have l:=a.sig _ _ s;have C:=v.putObj (k':=.cells cs') l H (by simp) rfl rfl rfl rfl (λ_ _=>rfl) ⟨us,t,F,VA.mk (d.sound a A D.toVL) (d.ones D.ones)⟩;have M:(h.ext (B.set j .dead) (T.set m (es.length+1))).put (h.blks.length+jb) (.cells cs')=h.ext ((B.set j .dead).set jb (.cells cs')) (T.set m (es.length+1)):=by
   simp only [AH.ext,AH.put,AH.mk.injEq,tK]
   simp_all
  rw [M] at C;exact ⟨g',a,C,N.sound a A O⟩
theorem zD {P : Program} {fn : Func} {c : Code} (hf : P.funcs[f]? = some fn) (hb : fn.body = some c) (hname : (fn.name == "runtime.NumGoroutine") = false) {args : List AV} {h : AH} {K : AV → AH → Prop} {env : List AV}
  (he:args++List.replicate (fn.ntmps - args.length) aundef=env) (hw:vV P c (bodyQ P fn h K) env h):Spec P f args h K:=spec_of_body hf hb hname (by simp_all)
theorem fin_extR {h:AH} {B0 B L:List Blk} {T0 T M:List Nat} {v v':AV} (g:B0++L=B) (d:T0++M=T) (b:leV v v') (c:v'.low (h.ext B0 T0).blks.length (h.ext B0 T0).toks.length=true) (a:K v' (h.ext B0 T0)):finK (h.ext B0 T0) K v (h.ext B T):=by
 subst g d;rw [<- zQ];exact wz b c a
theorem xq {h0 h:AH} {v:AV} (a:K v h):finK h0 K v h:=vE (wk.refl _ _ _) a
theorem fin_row0 {h:AH} {k:Nat} (a:K (.rsl h.blks.length h.toks.length k 0) (h.ext [.row h.toks.length k []] [0])):finK h K (.osl none k []) (h.ext [] []) :=
 vE (swk_thaw (env:=[.osl none k []]) (d:=0) rfl rfl rfl rfl rfl rfl).wk a
theorem row_read {P:Program} {h:AH} {B:List Blk} {T:List Nat} {b:Blk} {v:AV} (s:Spec P f a5 ((h.ext B1 T1).ext [b] [n]) (λa hh=>a=v/\hh=(h.ext B1 T1).ext [b] [n])) (d:B1++[b]=B) (c:T1++[n]=T) :
  Spec P f a5 (h.ext B T) (λa hh=>a=v/\hh=h.ext B T):=by
 subst d c;rw [zQ] at s;exact s
def TurnK (h:AH) (bl tl k m:Nat) (R:List (List AV)) (rr:AV) (hh:AH):Prop:=rr=.rsl (bl+1) (tl+1) k m/\∃n0,hh=h.ext [.dead,.row (tl+1) k R] [n0,m]
theorem ops_turn {P:Program} {a:Array Oper} {Q:List AV->AH->Prop} {o:Oper} {rest:List Oper} {env:List AV} {h:AH} {B B':List Blk} {T:List Nat} {args:List AV} {b:Blk} {k:Nat} {R:List (List AV)} (g:aG a o env=some true) (s:zw P o env (h.ext B T)=.call f args)
  (hs:Spec P f args ((h.ext B1 T1).ext [b] [n]) (TurnK (h.ext B1 T1) (h.blks.length+j) (h.toks.length+i) k m R)) (u:B1++[b]=B) (l:T1++[n]=T)
  (hd:qe o.dst env (.rsl (h.blks.length+(j+1)) (h.toks.length+(i+1)) k m)=some env') (c:B1++[.dead,.row (h.toks.length+(i+1)) k R]=B') (w:∀d,zG P a Q rest env' (h.ext B' (T1++[d,m]))):zG P a Q (o::rest) env (h.ext B T):=by
 subst u l c;rw [zQ] at hs;refine ops_call g s hs λr A ⟨q,d,p⟩=>?_;subst q;subst p;rw [zQ];rw [xL (v:=.rsl (h.blks.length+j+1) (h.toks.length+i+1) k m) (by omega)]
 grind
theorem fin_turn0 {h0 h:AH} {α:Type} {row:α->List AV} {L:List α} {k:Nat} (u:K (.rsl (h.blks.length+1) (h.toks.length+1) k L.length) (h.ext [.dead,.row (h.toks.length+1) k (L.map row)] [L.length+1,L.length])) :
  finK h0 K (.rsl (h.blks.length+0) (h.toks.length+0) k L.length) (h.ext [.row (h.toks.length+0) k (L.map row)] [L.length]):=by
 refine vE (swk.wk λB w0 w g vs r l=>?_) u;simp only [VL] at l;obtain ⟨v,s,rfl,p,rfl⟩:=l;have q:(h.ext [.row (h.toks.length+0) k (L.map row)] [L.length]).blk (h.blks.length+0)=some (.row (h.toks.length+0) k (L.map row)):=by rw [yC];rfl
 have d:=p;simp only [V] at d;obtain ⟨a,c,rfl,_⟩:=d;have b:(L.map row).length=L.length:=uq ..;obtain ⟨g',A,C,E⟩:=r.shrink (n:=L.length) (a':=a) q (by omega) (.inl rfl) (by rw [b];exact p);refine ⟨g',A,?_,VL.cons ?_ (by simp [VL])⟩
 ·have e:(h.ext [.row (h.toks.length+0) k (L.map row)] [L.length]).shr (h.blks.length+0) (h.toks.length+0) k L.length (L.map row)=h.ext [.dead,.row (h.toks.length+1) k (L.map row)] [L.length+1,L.length]:=by
   simp only [AH.shr,AH.ext,AH.put,AH.new,b,AH.mk.injEq,uo,List.length_singleton,tQ]
   grind
  simp_all
 ·have F:(h.ext [Blk.row (h.toks.length+0) k (L.map row)] [L.length]).blks.length=h.blks.length+1:=by simp [AH.ext]
  have D:(h.ext [Blk.row (h.toks.length+0) k (L.map row)] [L.length]).toks.length=h.toks.length+1:=by simp [AH.ext]
  simp_all
def NewK (h:AH) (k m:Nat) (R:List (List AV)) (rr:AV) (hh:AH):Prop:=rr=.rsl h.blks.length h.toks.length k m/\hh=h.ext [.row h.toks.length k R] [m]
theorem row_new {P:Program} {h:AH} {B B':List Blk} {T T':List Nat} {k:Nat} {R:List (List AV)} (s:Spec P f a5 (h.ext B T) (NewK (h.ext B T) k m R)) (b:B.length=j) (hi:T.length=i) (g:B++[.row (h.toks.length+i) k R]=B') (d:T++[m]=T') :
  Spec P f a5 (h.ext B T) (λl hh=>l=.rsl (h.blks.length+j) (h.toks.length+i) k m/\hh=h.ext B' T'):=by
 refine s.mono ?_
 rintro r p ⟨rfl,rfl⟩
 subst b hi g d;have c:(h.ext B T).blks.length=h.blks.length+B.length:=by simp [AH.ext]
 have a:(h.ext B T).toks.length=h.toks.length+T.length:=by simp [AH.ext]
 exact ⟨by rw [c,a],by rw [zQ,a]⟩
theorem clr_len {α:Type} {L:List α} {d:α} (h:L.length=n) (a:m<=n):(L.take m++List.replicate (n - m) d).length=n:=by
 simp;omega
section
variable {α:Type} {row:α->List AV} {L:List α} {k:Nat} {P:Program} {o:Oper} {env:List AV} {h:AH} {B B':List Blk} {T T':List Nat}
theorem e_sufR {id q:Nat} (b:o.op=.slice t x (some y) none none) (a:El P t e k) (r:yH env x=some (.rsl id q k n)) (c:yH env y=some (.int kd z)) (s:0<=z/\z<=n) :
  vB P o env h=some [(.rsuf id q k n z.toNat,h)]:=by
 obtain ⟨l,d⟩:=zO r;obtain ⟨p,g⟩:=zO c;obtain ⟨i,hi,hs,_⟩:=a.i;simp only [vB,b,l,d,p,g,a.u,hi,hs,uW,up]
 simp_all
theorem e_clrR (a:∀x,(row x).length=k) {d:α} {t e:TypeId} {x:Operand} {c:Call} {i q n m:Nat} {z:List AV} (D:o.op=.call c) (J:c.callee=.builtin .clear) (H:c.args=#[x]) (p:c.argTypes=#[t]) (s:El P t e k) (C:xI P e=some z) (b:wa z=some (row d))
  (E:yH env x=some (.rsuf (h.blks.length+i) q k n m)) (w:B[i]?=some (.row q k (L.map row))) (F:L.length=n) (N:m<=n) (I:B.set i (.row q k ((L.take m++List.replicate (n - m) d).map row))=B') :
  vB P o env (h.ext B T)=some [(.tup [],h.ext B' T)]:=by
 obtain ⟨A,v⟩:=zO E;obtain ⟨_,_,_,_,g,_⟩:=s.i;subst F I;have l:z.length=k:=by rw [<- clean_len b,a d]
 simp only [vB,D,J,H,p,A,v,up,s.u,C,yC,w];rw [ur ⟨⟨trivial,trivial,by simp⟩,l,g⟩,b];simp only [AH.clr,ext_put,uq];have G:xc (L.map row).flatten (m * k) (zsuf (row d) L.length m)=((L.take m++List.replicate (L.length - m) d).map row).flatten:=by
  have r:(zsuf (row d) L.length m).length=(L.length - m) * k:=by simp [zsuf,a d]
  unfold xc;rw [flat_take a,r,tq (by rw [flat_len a,<- tn];exact tc k (by omega))];simp [zsuf,List.map_replicate]
 rw [G];have M:=rows_map a (L.take m++List.replicate (L.length - m) d)
 simp_all
theorem e_cutR {c t':Nat} {M:List α} (v:o.op=.slice t x none (some y) none) (d:El P t e k) (D:yH env x=some (.rsl (h.blks.length+i) (h.toks.length+j) k n)) (A:yH env y=some (.int kd z))
  (p:B[i]?=some (.row (h.toks.length+j) k (L.map row))) (E:L.length=n) (l:slc L 0 z=some M) (a:B.length=c) (b:T.length=t') (G:B.set i .dead++[.row (h.toks.length+t') k (M.map row)]=B') (r:T.set j (n+1)++[M.length]=T') :
  vB P o env (h.ext B T)=some [(.rsl (h.blks.length+c) (h.toks.length+t') k M.length,h.ext B' T')]:=by
 obtain ⟨s,g⟩:=zO D;obtain ⟨C,q⟩:=zO A;obtain ⟨J,hi,hs,_⟩:=d.i;obtain ⟨⟨I,F,H⟩,rfl⟩:=slcF l;subst E a b G r;simp only [vB,v,s,g,C,q,d.u,hi,uW,up,yC,p];rw [ur ⟨⟨trivial,trivial,by simp⟩,F,by omega⟩];have w:((L.take z.toNat).drop (0:Int).toNat).length=z.toNat:=by simp;omega
 have hd:(L.take z.toNat).drop (0:Int).toNat=L.take z.toNat:=rfl;rw [w,hd];simp only [AH.shr,AH.ext,AH.put,AH.new,uo,uj,pG,sq,AH.mk.injEq,tK,uq,pn]
 simp_all
theorem wA {n:Int} {y:α} (h:yw L n=some y):0<=n/\n < L.length/\L[n.toNat]?=some y:=by
 unfold yw at h
 grind
theorem xk {y:α} (h:yw L z=some y) (c:L.length=n):0<=z/\z < n:=by
 obtain ⟨b,a,_⟩:=wA h;omega
end
def insO {α:Type} (xs:List α) (z:Int) (M:List α):Option (List α):=if (0<=z/\z<=xs.length)/\0 < M.length/\xs.length+M.length<=yM then some (xs.take z.toNat++(M++xs.drop z.toNat)) else none
end Go.Vv
namespace Go.Vv
open Go Go.RowKit
variable {a b B B':List Blk} {w0 w:World} {T T':List Nat} {n i:Nat} {env' args:List AV} {ops:Array Oper} {Q:List AV->AH->Prop} {rest:List Oper} {f:FuncId} {κ:IntKind} {kn:Int} {ok:Bool} {v':AV}

inductive KillL:List Blk->List Blk->Prop
 | nil:KillL [] []
 | keep {x:Blk} {a b:List Blk} (k:KillL a b):KillL (x::a) (x::b)
 | dead {x:Blk} {a b:List Blk} (k:KillL a b):KillL (x::a) (.dead::b)
theorem KillL.len (k:KillL a b):b.length=a.length:=by induction k <;> simp_all
theorem KillL.get (k:KillL a b):∀(j:Nat) (x:Blk),b[j]?=some x->x=.dead \/ a[j]?=some x:=by
 induction k with
 | nil=>intro j x h;simp at h
 | keep _ ih =>
  grind
 | dead _ ih =>
  grind
theorem Rel.let_go {B:Nat} {g:Gh} {h:AH} (r:Rel B w0 g h w) {bs:List Blk} (u:bs.length=h.blks.length) (m:∀(j:Nat) (b:Blk),bs[j]?=some b->b=.dead \/ h.blks[j]?=some b):Rel B w0 g { h with blks:=bs } w:=by
 have old:∀(j:Nat) (b:Blk),bs[j]?=some b->∃b0,h.blks[j]?=some b0:=λj b q=>by
  grind
 refine ⟨r.below,r.bsz,r.phi,by rw [r.slen];exact u.symm,λi c k s l=>?_,r.tlen,r.tok,r.sinj,r.tinj,r.sep,r.dfr,λi k hi l=>?_,λi j t k k' es es' hi q=>?_,r.nb,r.ob⟩
 ·rcases m i k l with rfl | h0
  ·obtain ⟨b0,p⟩:=old i _ l;obtain ⟨e,d,_,_⟩:=r.blk i c b0 s p;exact ⟨e,d,trivial,λh=>absurd rfl h⟩
  ·exact r.blk i c k s h0
 ·rcases m i k l with rfl | h0
  ·trivial
  ·exact r.row i k hi h0
 ·rcases m i _ hi with e | e
  ·cases e
  ·rcases m j _ q with d | d
   ·cases d
   ·exact r.rinj _ _ _ _ _ _ _ e d
theorem swk_kill {h:AH} {env:List AV} (k:KillL B B'):swk env (h.ext B T) env (h.ext B' T):=λ_ _ w g vs r m=>by
 refine ⟨g,Gh.le.refl g,?_,m⟩;refine r.let_go (bs:=h.blks++B') (by simp [AH.ext,k.len]) λj b d=>?_;rcases tZ j h.blks.length with e | e
 ·right;simp only [AH.ext];rw [um e] at d ⊢;exact d
 ·rw [uk e] at d;rcases k.get _ _ d with l | l
  ·simp_all
  ·right;simp only [AH.ext];rw [uk e];exact l
theorem swk_padB {h:AH} {env:List AV} (m:B++[.dead]=B'):swk env (h.ext B T) env (h.ext B' T):=λ_ _ w g vs r l=>by
 subst m;have d:=r.adoptN .dead trivial (λ_ _ _ e=>by cases e);have e:(h.ext B T).new .dead=h.ext (B++[.dead]) T:=by simp [AH.ext,AH.new,uy]
 rw [e] at d;exact ⟨_,Gh.le_addS _ none,d,VL.mono (Gh.le_addS _ none) _ _ l⟩
theorem swk_padT {h:AH} {env:List AV} (m:T++[n]=T'):swk env (h.ext B T) env (h.ext B T'):=λ_ _ w g vs r l=>by
 subst m;have d:=r.addTok ⟨n,none,false⟩ (λ_ _ _ e=>by cases e) (λ_ _ e=>by cases e);have e:({ (h.ext B T) with toks:=(h.ext B T).toks++[n] }:AH)=h.ext B (T++[n]):=by simp [AH.ext,uy]
 rw [e] at d;exact ⟨_,Gh.le_addT _ _,d,VL.mono (Gh.le_addT _ _) _ _ l⟩
theorem swk_move {h:AH} {env:List AV} {d j k n2 E t':Nat} {es:List (List AV)} (H:yH env (.tmp d)=some (.rsl (h.blks.length+j) (h.toks.length+i) k n)) (K:B[j]?=some (.row (h.toks.length+i) k es)) (O:es.length=n) (A:n=n2)
  (p:B.length=E) (q:T.length=t') (G:qe (some d) env (.rsl (h.blks.length+E) (h.toks.length+t') k n2)=some env') (R:B.set j .dead++[.row (h.toks.length+t') k es]=B') (N:T.set i (n2+1)++[n2]=T') :
  swk env (h.ext B T) env' (h.ext B' T'):=λ_ _ w g vs r I=>by
 subst A O p q R N;simp only [qe,uj] at G;subst G;have hd:d < env.length:=(uc.1 H).1;obtain ⟨v,s,J⟩:=I.get d _ H;have C:(h.ext B T).blk (h.blks.length+j)=some (.row (h.toks.length+i) k es):=by rw [yC];exact K
 have l:=J;simp only [V] at l;obtain ⟨a,c,rfl,_⟩:=l;obtain ⟨g',F,D,U⟩:=r.shrink (n:=es.length) (a':=a) C (ug _) (.inl rfl) J;have e:(h.ext B T).shr (h.blks.length+j) (h.toks.length+i) k es.length es=h.ext (B.set j .dead++[.row (h.toks.length+T.length) k es]) (T.set i (es.length+1)++[es.length]):=by
  simp only [AH.shr,AH.ext,AH.put,AH.new,AH.mk.injEq,uo]
  simp_all
 rw [e] at D;refine ⟨g',F,D,VL.setE (VL.mono F _ _ I) d _ λu m=>?_⟩;rw [s] at m;injection m with m;subst m;have W:(h.ext B T).blks.length=h.blks.length+B.length:=by simp [AH.ext]
 have S:(h.ext B T).toks.length=h.toks.length+T.length:=by simp [AH.ext]
 simp_all

theorem swk_moveB {h:AH} {env:List AV} {jb o j k n2 W t':Nat} {es:List (List AV)} {cs cs':List AV} (p:B[jb]?=some (.cells cs)) (F:cs[o]?=some (.rsl (h.blks.length+j) (h.toks.length+i) k n)) (X:B[j]?=some (.row (h.toks.length+i) k es)) (hn:es.length=n) (K:n=n2)
  (A:B.length=W) (E:T.length=t') (J:cs.set o (.rsl (h.blks.length+W) (h.toks.length+t') k n2)=cs') (hB:(B.set j .dead).set jb (.cells cs')++[.row (h.toks.length+t') k es]=B') (hT:T.set i (n2+1)++[n2]=T') :
  swk env (h.ext B T) env (h.ext B' T'):=λ_ _ w g vs r hv=>by
 subst K hn A E J hB hT;have R:(h.ext B T).blk (h.blks.length+j)=some (.row (h.toks.length+i) k es):=by rw [yC];exact X
 have l:(h.ext B T).blks[h.blks.length+jb]?=some (.cells cs):=by
  simp only [AH.ext];rw [uk (by omega),uK];exact p
 have C:j ≠ jb:=by rintro rfl;rw [X] at p;cases p
 have D:jb < B.length:=(uc.1 p).1;have G:h.blks.length+jb < g.σ.length:=by rw [r.slen];exact (uc.1 l).1
 obtain ⟨x,N⟩:∃x,g.σ[h.blks.length+jb]?=some x:=⟨_,ui G⟩
 cases x with
 | none=>exact (r.row _ _ N l).elim
 | some c =>
  obtain ⟨_,_,⟨us,t,k1,O⟩,_⟩:=r.blk _ c _ N l;obtain ⟨v,H,hV⟩:=O.toVL.get o _ F;have m:=hV;simp only [V] at m;obtain ⟨a,cc,rfl,_⟩:=m;obtain ⟨g',d,U,Y⟩:=r.shrink (n:=es.length) (a':=a) R (ug _) (.inl rfl) hV;have e:(h.ext B T).shr (h.blks.length+j) (h.toks.length+i) k es.length es=h.ext (B.set j .dead++[.row (h.toks.length+T.length) k es]) (T.set i (es.length+1)++[es.length]):=by
   simp only [AH.shr,AH.ext,AH.put,AH.new,AH.mk.injEq,uo];refine ⟨?_,?_⟩
   ·simp_all
   ·simp_all
  rw [e] at U;have e1:(h.ext B T).blks.length=h.blks.length+B.length:=by simp [AH.ext]
  have e2:(h.ext B T).toks.length=h.toks.length+T.length:=by simp [AH.ext]
  rw [e1,e2] at Y;have hk:(h.ext (B.set j .dead++[.row (h.toks.length+T.length) k es]) (T.set i (es.length+1)++[es.length])).blks[h.blks.length+jb]?=some (.cells cs):=by
   simp only [AH.ext];rw [uk (by omega),uK,um (by rw [uD];exact D),u2 C];exact p
  have s:=d.sig _ _ N;have I:VA g' (cs.set o (.rsl (h.blks.length+B.length) (h.toks.length+T.length) k es.length)) us.toList:=VA.mk (VL.setE (VL.mono d _ _ O.toVL) o _ λu q=>by
   rw [H] at q;injection q with q;subst q;exact Y) (by
   rw [ut];intro a S;rcases pf S with S | rfl
   ·have:=O.ones;rw [ut] at this;exact this a S
   ·rfl)
  have Z:=U.putObj (k':=.cells (cs.set o (.rsl (h.blks.length+B.length) (h.toks.length+T.length) k es.length))) s hk (by simp) rfl rfl rfl rfl (λ_ _=>rfl) ⟨us,t,k1,I⟩;have e3:(h.ext (B.set j .dead++[.row (h.toks.length+T.length) k es]) (T.set i (es.length+1)++[es.length])).put (h.blks.length+jb) (.cells (cs.set o (.rsl (h.blks.length+B.length) (h.toks.length+T.length) k es.length)))=h.ext ((B.set j .dead).set jb (.cells (cs.set o (.rsl (h.blks.length+B.length) (h.toks.length+T.length) k es.length)))++[.row (h.toks.length+T.length) k es]) (T.set i (es.length+1)++[es.length]):=by
   simp only [AH.ext,AH.put,AH.mk.injEq,tK];rw [s5 _ _ (by omega),uK,List.set_append_left _ _ (by simp_all)]
  rw [e3] at Z;exact ⟨g',d,Z,VL.mono d _ _ hv⟩

theorem ops_inl {P:Program} {o:Oper} {env:List AV} {h:AH} {X:Type} {v:AV} {H':X->AH} (l:aG ops o env=some true) (g:zw P o env h=.call f args)
  (hs:Spec P f args h λr hh=>r=v/\∃x,hh=H' x) (hd:qe o.dst env v=some env') (d:∀x,zG P ops Q rest env' (H' x)):zG P ops Q (o::rest) env h :=
 ops_call l g hs λr p ⟨e,x,m⟩=>by subst e;subst m;rw [xL hd];exact d x
theorem draw_callA {P:Program} {Ns:List Nat} {F:Nat->AH->Prop} {o:Oper} {env:List AV} {h d:AH} {v:AV} (p:anch ops Ns i=true) (m:Ns.contains i=false) (q:FOk ((Region.before ops).getD i 0) Ns F d) (l:aG ops o env=some true) (g:zw P o env h=.call f args) (hs:Spec P f args h λr hh=>r=v/\hh=d)
  (hd:qe o.dst env v=some env') (e:zV P ops Ns F Q (i+1) rest env' d):zV P ops Ns F Q i (o::rest) env h :=
 ⟨v,d,.inl ⟨m,by simp only [AR,l,g];exact hs⟩,.inl p,.inr q,by rw [xL hd];exact e⟩
theorem iteF {ρ:Type} {c:Prop} [Decidable c] {a b:Option ρ} {res:ρ} {G:Prop} (g:(if c then a else b)=some res) (e:c->a=some res->G) (d:¬ c->b=some res->G):G:=by
 grind

section
variable {P:Program} {o:Oper} {env:List AV} {h:AH} {L:List Blk} {M:List Nat} {t kt et:TypeId} {x y z:Operand} {j:Nat} {es:List (AV×AV)} {c:Nat}
theorem e_insF {kv a:AV} (l:o.op=.insert t x y z) (A:P.underlying t=some (.map kt et)) (d:xj P kt kv kv=some true) (E:yH env x=some (.map (h.blks.length+j))) (m:L[j]?=some (.mapo es c)) (p:yH env y=some kv) (r:yH env z=some a)
  (e:aFind P kt kv es 0=some none) (C:L.set j (.mapo (es++[(kv,a.zcl)]) c)=B):vB P o env (h.ext L M)=some [(aundef,h.ext B M)]:=by
 obtain ⟨u,q⟩:=zO E;obtain ⟨D,s⟩:=zO p;obtain ⟨v,g⟩:=zO r;subst C;simp only [vB,l,zw,u,q,D,s,v,g,A,uW,up,aMapPut,d,yC,m,e,oh,ext_put]
theorem e_lookF {n:Int} {v:AV} (l:o.op=.lookup t x y ok) (u:P.underlying t=some (.map kt et)) (e:P.underlying kt=some (.int κ)) (C:yH env x=some (.map (h.blks.length+j))) (m:L[j]?=some (.mapo es c)) (p:yH env y=some (.int κ kn)) (D:kn=n)
  (g:aFind P kt (.int κ n) es 0=some (some (i,v))):zw P o env (h.ext L M)=.ok (withOk ok v true) (h.ext L M):=by
 obtain ⟨s,q⟩:=zO C;obtain ⟨A,r⟩:=zO p;subst D;have d:xj P kt (.int κ kn) (.int κ kn)=some true:=by simp [xj,e,aEq1]
 simp only [zw,l,s,q,A,r,u,uW,up,aLookup,d,yC,m,g,oo]
theorem e_lookN {d:AV} (m:o.op=.lookup t x y ok) (v:P.underlying t=some (.map kt et)) (g:P.underlying kt=some (.int κ)) (C:yH env x=some (.map (h.blks.length+j))) (p:L[j]?=some (.mapo es c)) (q:yH env y=some (.int κ kn))
  (D:aZeroM P et=some d) (l:aFind P kt (.int κ kn) es 0=some none):zw P o env (h.ext L M)=.ok (withOk ok d false) (h.ext L M):=by
 obtain ⟨u,r⟩:=zO C;obtain ⟨A,s⟩:=zO q;have e:xj P kt (.int κ kn) (.int κ kn)=some true:=by simp [xj,g,aEq1]
 simp only [zw,m,u,r,A,s,v,uW,up,aLookup,e,yC,p,l,D,oo]
end
theorem aFind_nil {P:Program} {kt:TypeId} {k:AV}:aFind P kt k [] i=some none:=rfl
theorem aFind_eq {P:Program} {kt:TypeId} {n:Int} {v:AV} {es:List (AV×AV)} (d:P.underlying kt=some (.int κ)):aFind P kt (.int κ n) ((.int κ n,v)::es) i=some (some (i,v)):=by
 have:xj P kt (.int κ n) (.int κ n)=some true:=by simp [xj,d,aEq1]
 simp only [aFind,this]
theorem yD {P:Program} {kt:TypeId} {n:Int} {v:AV} {es:List (AV×AV)} {r:Option (Nat×AV)} (d:P.underlying kt=some (.int κ)) (g:¬ kn=n) (e:aFind P kt (.int κ kn) es (i+1)=some r):aFind P kt (.int κ kn) ((.int κ n,v)::es) i=some r:=by
 have:xj P kt (.int κ kn) (.int κ n)=some false:=by simp [xj,d,aEq1,g]
 simp only [aFind,this,e]
theorem aKey_int {P:Program} {kt:TypeId} {n:Int} (d:P.underlying kt=some (.int κ)):xj P kt (.int κ n) (.int κ n)=some true:=by simp [xj,d,aEq1]

section
variable {α:Type} {row:α->List AV} {L:List α} {k:Nat} {P:Program} {o:Oper} {env:List AV} {h:AH}
theorem e_idxS {t e:TypeId} {x i:Operand} {id q p:Nat} {l:IntKind} {z:Int} (g:o.op=.indexAddr t x i) (m:El P t e k) (r:yH env x=some (.rsuf id q k n p)) (hi:yH env i=some (.int l z)) (d:0<=z/\z < (n - p:Nat)) :
  zw P o env h=.ok (.rptr id q k n ((p+z.toNat) * k+0)) h:=s_indexAddr g m r hi (by simp only [qB];rw [ur ⟨trivial,d.1,d.2⟩];rfl)
theorem idxS {n:Int} {p:Nat} {y:α} (h:yw (L.drop p) n=some y):0<=n/\n < (L.length - p:Nat)/\L[p+n.toNat]?=some y:=by
 obtain ⟨e,d,g⟩:=wA h
 grind
end
theorem wD {h0 h d:AH} {K:AV->AH->Prop} {v:AV} (g:wk h0 [v] h [v'] d) (l:finK h0 K v' d):finK h0 K v h:=by
 obtain ⟨r,p,e,m⟩:=l;exact ⟨r,p,g.trans e,m⟩
theorem ext_bl {h:AH}:(h.ext B T).blks.length=h.blks.length+B.length:=by simp [AH.ext]
theorem we {h:AH}:(h.ext B T).toks.length=h.toks.length+T.length:=by simp [AH.ext]
theorem row_news {P:Program} {a5:List AV} {h:AH} {L:List Blk} {M:List Nat} {v:AV} (s:Spec P f a5 (h.ext B T) (λd hh=>d=v/\hh=(h.ext B T).ext L M)) (e:v=v') (l:B++L=B') (g:T++M=T') :
  Spec P f a5 (h.ext B T) (λd hh=>d=v'/\hh=h.ext B' T'):=by
 subst e l g;rw [zQ] at s;exact s

theorem row_newv {P:Program} {xs:List AV} {h:AH} {L:List Blk} {M:List Nat} {v:AV} (s:Spec P f xs (h.ext B T) (λd hh=>d=v/\hh=(h.ext B T).ext L M)) (e:v=v') (l:B++L=B') (g:T++M=T') :
  Spec P f xs (h.ext B T) (λd hh=>d=v'/\hh=h.ext B' T'):=row_news s e l g
def HdS (h:AH) (B:List Blk) (k:Nat) (es:List (List AV)) (a:AV):Prop:=(∃j i:Nat,a=.rsl (h.blks.length+j) (h.toks.length+i) k es.length/\B[j]?=some (Blk.row (h.toks.length+i) k es)) \/ (a=.osl none k []/\es=[])
theorem hds_row {h:AH} {k j:Nat} {es:List (List AV)} (d:B[j]?=some (.row (h.toks.length+i) k es)) (e:es.length=n):HdS h B k es (.rsl (h.blks.length+j) (h.toks.length+i) k n):=.inl ⟨j,i,by rw [e],d⟩
theorem hds_nil {h:AH} {k:Nat}:HdS h B k [] (.osl none k []):=.inr ⟨rfl,rfl⟩
theorem HdS.tok {B0:Nat} {g:Gh} {h:AH} (r:Rel B0 w0 g (h.ext B T) w) {k:Nat} {es:List (List AV)} {a:AV} (hd:HdS h B k es a) {v:Value} (m:V g a v) :
  ∃t:TI,(∃x c,v=.slice x es.length c/\es.length<=c/\c<=maxLen/\rowHd t x es.length c k)/\t.row=true/\t.n=es.length/\(∀e ∈ es,e.length=k)/\es.flatten.all AV.pure=true /\
   (es=[] \/ ∃b o e cs ty,t.loc=some (b,o+es.length * k,e)/\w.heap[b]?=some (.cells cs ty (0,0))/\VA g es.flatten ((cs.toList.drop o).take (es.length * k))/\o+es.length * k<=cs.size/\∀j,o<=j->g.Φ b j=none) /\
   ((t=⟨0,none,true⟩) \/ ∃j i:Nat,B[j]?=some (Blk.row (h.toks.length+i) k es)/\g.τ[h.toks.length+i]?=some t):=by
 rcases hd with ⟨j,i,rfl,A⟩ | ⟨rfl,rfl⟩
 ·have l:(h.ext B T).blk (h.blks.length+j)=some (.row (h.toks.length+i) k es):=by rw [yC];exact A
  obtain ⟨_,G,E,F,C,p,u,q⟩:=r.rowAt l;simp only [V] at m
  grind
 ·simp only [V] at m;obtain ⟨x,c,rfl,D,s,_,d⟩:=m;have d:c=0:=d;exact ⟨⟨0,none,true⟩,⟨x,c,rfl,D,s,rfl,ug _,.inl ⟨rfl,d⟩⟩,rfl,rfl,by simp,by simp,.inl rfl,.inl rfl⟩
end Go.Vv
namespace Go.Vv
open Go
variable {h:AH} {a5:List AV} {B:List Blk} {T T':List Nat} {k m n:Nat} {P:Program} {f:FuncId}

theorem Spec.swk {P:Program} {f:FuncId} {a5 bs:List AV} {h h':AH} {K:AV->AH->Prop} (k:swk a5 h bs h') (s:Spec P f bs h' K):Spec P f a5 h K :=
 ⟨s.1,λB w0 _ g w vs r hv=>by
  obtain ⟨g',hle,r',hv'⟩:=k B w0 w g vs.toList r hv;exact (s.2 B w0 g' w vs r' hv').mono λ_ _ ⟨v,x,h',g2,h1,h2,h3,h4⟩=>⟨v,x,h',g2,h1,h2,hle.trans h3,h4⟩⟩
theorem swk_tokA {α:Type} {row:α->List AV} {L:List α} (c:T.length=m):swk (.osl none k (L.map row)::a5) (h.ext B T) (.osl (some (h.toks.length+m)) k (L.map row)::a5) (h.ext B (T++[L.length])):=λ_ _ w g vs r b=>by
 subst c;have a:h.toks.length+T.length=g.τ.length:=by rw [r.tlen];simp [AH.ext]
 simp only [VL] at b;obtain ⟨v,s,rfl,d,hs⟩:=b;refine ⟨g.addT ⟨L.length,none,false⟩,g.le_addT _,?_,VL.cons ?_ (hs.mono (g.le_addT _))⟩
 ·have:=r.addTok ⟨L.length,none,false⟩ (λ_ _ _ h=>by cases h) (λ_ _ h=>by cases h);have e:(h.ext B (T++[L.length]))={ (h.ext B T) with toks:=(h.ext B T).toks++[L.length] }:=by simp [AH.ext,uy]
  simp_all
 ·rw [a];exact d.tok (by simp)
theorem xn {T1:List Nat} {v:AV} (s:Spec P f a5 ((h.ext B T1).ext [] [n]) (λb hh=>b=v/\hh=(h.ext B T1).ext [] [m])) (c:T1++[n]=T) (a:T1++[m]=T') :
  Spec P f a5 (h.ext B T) (λb hh=>b=v/\hh=h.ext B T'):=by
 subst c a;rw [zQ,zQ,t6] at s;exact s
theorem tok_call0 {α:Type} {row:α->List AV} {L:List α} {v:AV}
  (s:Spec P f (.osl (some (h.toks.length+m)) k (L.map row)::a5) ((h.ext B T).ext [] [L.length]) (λa hh=>a=v/\hh=(h.ext B T).ext [] [n])) (b:T.length=m) (c:T++[n]=T') :
  Spec P f (.osl none k (L.map row)::a5) (h.ext B T) (λa hh=>a=v/\hh=h.ext B T'):=by
 subst c;rw [zQ,zQ,t6] at s;exact Spec.swk (swk_tokA b) s
theorem fin_tok {K:AV->AH->Prop} {R:List (List AV)} (a:K (.osl (some (h.toks.length+0)) k R) (h.ext [] [m])):finK (h.ext [] [n]) K (.osl (some (h.toks.length+0)) k R) (h.ext B (m::T)) :=
 vE (yj (L0:=[]) (L1:=[]) (M0:=[n]) (M1:=[m]) (by simp [zA,AV.low]) rfl rfl rfl) a
end Go.Vv
