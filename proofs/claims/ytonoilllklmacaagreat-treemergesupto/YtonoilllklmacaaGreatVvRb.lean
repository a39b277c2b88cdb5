/- Mutable rows whose headers stand in boxed variables, too: how they become unchanging slices. -/
import Derived.Test.YtonoilllklmacaaGreatVvSh
import Derived.Test.YtonoilllklmacaaGreatVvY
set_option linter.all false
namespace Go.Vv
open Go Go.RowKit
variable {env' a5:List AV} {j m n i:Nat} {f:FuncId} {K:AV->AH->Prop} {B1:List Blk} {T1:List Nat} {t e:TypeId} {x y:Operand} {kd:IntKind} {z:Int}

theorem FzL.ones {i k:Nat} {es:List (List AV)}:∀{xs bs:List AV},FzL i k es xs bs->xs.all AV.one=true->bs.all AV.one=true
 | _,_,.refl _,h=>h
 | _,_,.cons x y,h=>by
  simp only [tf,ud] at h ⊢;refine ⟨?_,y.ones h.2⟩;cases x with
  | same=>exact h.1
  | hit=>rfl
  | hit2=>rfl
  | agg=>simp [AV.one] at h
  | tup=>simp [AV.one] at h
theorem swk_freezeB {h:AH} {env:List AV} {B B':List Blk} {T T':List Nat} {jb k:Nat} {es:List (List AV)} {cs cs':List AV} (D:B[j]?=some (.row (h.toks.length+m) k es)) (I:FzL (h.toks.length+m) k es env env')
  (hc:B[jb]?=some (.cells cs)) (d:FzL (h.toks.length+m) k es cs cs') (M:(B.set j .dead).set jb (.cells cs')=B') (F:T.set m (es.length+1)=T'):swk env (h.ext B T) env' (h.ext B' T'):=λ_ _ w g vs r J=>by
 subst M F;have s:(h.ext B T).blks[h.blks.length+j]?=some (.row (h.toks.length+m) k es):=by
  simp only [AH.ext];rw [uj (by omega),uv];exact D
 have b:(h.ext B T).blks[h.blks.length+jb]?=some (.cells cs):=by
  simp only [AH.ext];rw [uj (by omega),uv];exact hc
 have p:j ≠ jb:=by grind
 obtain ⟨g',a,u,G,v⟩:=r.freeze s;have e:({ (h.ext B T).put (h.blks.length+j) .dead with toks:=(h.ext B T).toks.set (h.toks.length+m) (es.length+1) }:AH)=h.ext (B.set j .dead) (T.set m (es.length+1)):=by
  simp only [AH.ext,AH.put,AH.mk.injEq]
  simp_all
 rw [e] at u;have hsl:h.blks.length+jb < g.σ.length:=by rw [r.slen];exact (uc.1 b).1
 obtain ⟨x,q⟩:∃x,g.σ[h.blks.length+jb]?=some x:=⟨_,uh hsl⟩
 cases x with
 | none=>exact (r.row _ _ q b).elim
 | some c =>
  obtain ⟨_,_,⟨us,t,C,k2⟩,_⟩:=r.blk _ c _ q b;have E:(h.ext (B.set j .dead) (T.set m (es.length+1))).blks[h.blks.length+jb]?=some (.cells cs):=by
   simp only [AH.ext];rw [uj (by omega),uv,uR p];exact hc
  have l:=a.sig _ _ q;have A:=u.putObj (k':=.cells cs') l E (by simp) rfl rfl rfl rfl (λ_ _=>rfl) ⟨us,t,C,VA.mk (d.sound a v k2.toVL) (d.ones k2.ones)⟩;have H:(h.ext (B.set j .dead) (T.set m (es.length+1))).put (h.blks.length+jb) (.cells cs')=h.ext ((B.set j .dead).set jb (.cells cs')) (T.set m (es.length+1)):=by
   simp only [AH.ext,AH.put,AH.mk.injEq,tM]
   simp_all
  rw [H] at A;exact ⟨g',a,A,I.sound a v J⟩
theorem yN {P : Program} {fn : Func} {c : Code} (hf : P.funcs[f]? = some fn) (hb : fn.body = some c) (hname : (fn.name == "runtime.NumGoroutine") = false) {args : List AV} {h : AH} {K : AV → AH → Prop} {env : List AV}
  (he:args++List.replicate (fn.ntmps - args.length) aundef=env) (hw:vN P c (bodyQ P fn h K) env h):Spec P f args h K:=spec_of_body hf hb hname (by simp_all)
theorem fin_extR {h:AH} {B0 B L:List Blk} {T0 T M:List Nat} {v v':AV} (g:B0++L=B) (d:T0++M=T) (b:leV v v') (c:v'.low (h.ext B0 T0).blks.length (h.ext B0 T0).toks.length=true) (a:K v' (h.ext B0 T0)):finK (h.ext B0 T0) K v (h.ext B T):=by
 subst g d;rw [<- w6];exact yf b c a
theorem fin_at {h0 h:AH} {v:AV} (a:K v h):finK h0 K v h:=wI (wk.refl _ _ _) a
theorem fin_row0 {h:AH} {k:Nat} (a:K (.rsl h.blks.length h.toks.length k 0) (h.ext [.row h.toks.length k []] [0])):finK h K (.osl none k []) (h.ext [] []) :=
 wI (qk (env:=[.osl none k []]) (d:=0) rfl rfl rfl rfl rfl rfl).wk a
theorem row_read {P:Program} {h:AH} {B:List Blk} {T:List Nat} {b:Blk} {v:AV} (s:Spec P f a5 ((h.ext B1 T1).ext [b] [n]) (λa hh=>a=v/\hh=(h.ext B1 T1).ext [b] [n])) (d:B1++[b]=B) (c:T1++[n]=T) :
  Spec P f a5 (h.ext B T) (λa hh=>a=v/\hh=h.ext B T):=by
 subst d c;rw [w6] at s;exact s
def TurnK (h:AH) (bl tl k m:Nat) (R:List (List AV)) (rr:AV) (hh:AH):Prop:=rr=.rsl (bl+1) (tl+1) k m/\∃n0,hh=h.ext [.dead,.row (tl+1) k R] [n0,m]
theorem ops_turn {P:Program} {a:Array Oper} {Q:List AV->AH->Prop} {o:Oper} {rest:List Oper} {env:List AV} {h:AH} {B B':List Blk} {T:List Nat} {args:List AV} {b:Blk} {k:Nat} {R:List (List AV)} (g:aG a o env=some true) (s:zF P o env (h.ext B T)=.call f args)
  (hs:Spec P f args ((h.ext B1 T1).ext [b] [n]) (TurnK (h.ext B1 T1) (h.blks.length+j) (h.toks.length+i) k m R)) (u:B1++[b]=B) (l:T1++[n]=T)
  (hd:wL o.dst env (.rsl (h.blks.length+(j+1)) (h.toks.length+(i+1)) k m)=some env') (c:B1++[.dead,.row (h.toks.length+(i+1)) k R]=B') (w:∀d,zS P a Q rest env' (h.ext B' (T1++[d,m]))):zS P a Q (o::rest) env (h.ext B T):=by
 subst u l c;rw [w6] at hs;refine ops_call g s hs λr A ⟨q,d,p⟩=>?_;subst q;subst p;rw [w6];rw [xT (v:=.rsl (h.blks.length+j+1) (h.toks.length+i+1) k m) (by omega)]
 grind
theorem fin_turn0 {h0 h:AH} {α:Type} {row:α->List AV} {L:List α} {k:Nat} (u:K (.rsl (h.blks.length+1) (h.toks.length+1) k L.length) (h.ext [.dead,.row (h.toks.length+1) k (L.map row)] [L.length+1,L.length])) :
  finK h0 K (.rsl (h.blks.length+0) (h.toks.length+0) k L.length) (h.ext [.row (h.toks.length+0) k (L.map row)] [L.length]):=by
 refine wI (swk.wk λB w0 w g vs r l=>?_) u;simp only [VL] at l;obtain ⟨v,s,rfl,p,rfl⟩:=l;have q:(h.ext [.row (h.toks.length+0) k (L.map row)] [L.length]).blk (h.blks.length+0)=some (.row (h.toks.length+0) k (L.map row)):=by rw [yy];rfl
 have d:=p;simp only [V] at d;obtain ⟨a,c,rfl,_⟩:=d;have b:(L.map row).length=L.length:=ul ..;obtain ⟨g',A,C,E⟩:=r.shrink (n:=L.length) (a':=a) q (by omega) (.inl rfl) (by rw [b];exact p);refine ⟨g',A,?_,VL.cons ?_ (by simp [VL])⟩
 ·have e:(h.ext [.row (h.toks.length+0) k (L.map row)] [L.length]).shr (h.blks.length+0) (h.toks.length+0) k L.length (L.map row)=h.ext [.dead,.row (h.toks.length+1) k (L.map row)] [L.length+1,L.length]:=by
   simp only [AH.shr,AH.ext,AH.put,AH.new,b,AH.mk.injEq,uq,List.length_singleton,tL]
   grind
  simp_all
 ·have F:(h.ext [Blk.row (h.toks.length+0) k (L.map row)] [L.length]).blks.length=h.blks.length+1:=by simp [AH.ext]
  have D:(h.ext [Blk.row (h.toks.length+0) k (L.map row)] [L.length]).toks.length=h.toks.length+1:=by simp [AH.ext]
  simp_all
def NewK (h:AH) (k m:Nat) (R:List (List AV)) (rr:AV) (hh:AH):Prop:=rr=.rsl h.blks.length h.toks.length k m/\hh=h.ext [.row h.toks.length k R] [m]
theorem row_new {P:Program} {h:AH} {B B':List Blk} {T T':List Nat} {k:Nat} {R:List (List AV)} (s:Spec P f a5 (h.ext B T) (NewK (h.ext B T) k m R)) (b:B.length=j) (hi:T.length=i) (g:B++[.row (h.toks.length+i) k R]=B') (d:T++[m]=T') :
  Spec P f a5 (h.ext B T) (λl hh=>l=.rsl (h.blks.length+j) (h.toks.length+i) k m/\hh=h.ext B' T'):=by
 refine s.mono ?_
 rintro r p ⟨rfl,rfl⟩
 subst b hi g d;have c:(h.ext B T).blks.length=h.blks.length+B.length:=by simp [AH.ext]
 have a:(h.ext B T).toks.length=h.toks.length+T.length:=by simp [AH.ext]
 exact ⟨by rw [c,a],by rw [w6,a]⟩
theorem clr_len {α:Type} {L:List α} {d:α} (h:L.length=n) (a:m<=n):(L.take m++List.replicate (n - m) d).length=n:=by
 simp;omega
section
variable {α:Type} {row:α->List AV} {L:List α} {k:Nat} {P:Program} {o:Oper} {env:List AV} {h:AH} {B B':List Blk} {T T':List Nat}
theorem e_sufR {id q:Nat} (b:o.op=.slice t x (some y) none none) (a:El P t e k) (r:yu env x=some (.rsl id q k n)) (c:yu env y=some (.int kd z)) (s:0<=z/\z<=n) :
  wd P o env h=some [(.rsuf id q k n z.toNat,h)]:=by
 obtain ⟨l,d⟩:=zX r;obtain ⟨p,g⟩:=zX c;obtain ⟨i,hi,hs,_⟩:=a.i;simp only [wd,b,l,d,p,g,a.u,hi,hs,uT,ut]
 simp_all
theorem e_clrR (a:∀x,(row x).length=k) {d:α} {t e:TypeId} {x:Operand} {c:Call} {i q n m:Nat} {z:List AV} (D:o.op=.call c) (hc:c.callee=.builtin .clear) (H:c.args=#[x]) (p:c.argTypes=#[t]) (s:El P t e k) (C:xl P e=some z) (b:xB z=some (row d))
  (E:yu env x=some (.rsuf (h.blks.length+i) q k n m)) (w:B[i]?=some (.row q k (L.map row))) (F:L.length=n) (M:m<=n) (I:B.set i (.row q k ((L.take m++List.replicate (n - m) d).map row))=B') :
  wd P o env (h.ext B T)=some [(.tup [],h.ext B' T)]:=by
 obtain ⟨A,v⟩:=zX E;obtain ⟨_,_,_,_,g,_⟩:=s.i;subst F I;have l:z.length=k:=by rw [<- qS b,a d]
 simp only [wd,D,hc,H,p,A,v,ut,s.u,C,yy,w];rw [uz ⟨⟨trivial,trivial,by simp⟩,l,g⟩,b];simp only [AH.clr,ext_put,ul];have G:y8 (L.map row).flatten (m * k) (zsuf (row d) L.length m)=((L.take m++List.replicate (L.length - m) d).map row).flatten:=by
  have r:(zsuf (row d) L.length m).length=(L.length - m) * k:=by simp [zsuf,a d]
  unfold y8;rw [flat_take a,r,tj (by rw [flat_len a,<- te];exact u7 k (by omega))];simp [zsuf,List.map_replicate]
 rw [G];have J:=rows_map a (L.take m++List.replicate (L.length - m) d)
 simp_all
theorem e_cutR {c t':Nat} {M:List α} (v:o.op=.slice t x none (some y) none) (d:El P t e k) (D:yu env x=some (.rsl (h.blks.length+i) (h.toks.length+j) k n)) (A:yu env y=some (.int kd z))
  (p:B[i]?=some (.row (h.toks.length+j) k (L.map row))) (E:L.length=n) (l:slc L 0 z=some M) (a:B.length=c) (b:T.length=t') (G:B.set i .dead++[.row (h.toks.length+t') k (M.map row)]=B') (r:T.set j (n+1)++[M.length]=T') :
  wd P o env (h.ext B T)=some [(.rsl (h.blks.length+c) (h.toks.length+t') k M.length,h.ext B' T')]:=by
 obtain ⟨s,g⟩:=zX D;obtain ⟨C,q⟩:=zX A;obtain ⟨J,hi,hs,_⟩:=d.i;obtain ⟨⟨I,F,H⟩,rfl⟩:=slcF l;subst E a b G r;simp only [wd,v,s,g,C,q,d.u,hi,uT,ut,yy,p];rw [uz ⟨⟨trivial,trivial,by simp⟩,F,by omega⟩];have w:((L.take z.toNat).drop (0:Int).toNat).length=z.toNat:=by simp;omega
 have hd:(L.take z.toNat).drop (0:Int).toNat=L.take z.toNat:=rfl;rw [w,hd];simp only [AH.shr,AH.ext,AH.put,AH.new,uq,ui,rZ,t6,AH.mk.injEq,tM,ul,pu]
 simp_all
theorem idxR {n:Int} {y:α} (h:yB L n=some y):0<=n/\n < L.length/\L[n.toNat]?=some y:=by
 unfold yB at h
 grind
theorem vK {y:α} (h:yB L z=some y) (c:L.length=n):0<=z/\z < n:=by
 obtain ⟨b,a,_⟩:=idxR h;omega
end
def insO {α:Type} (xs:List α) (z:Int) (M:List α):Option (List α):=if (0<=z/\z<=xs.length)/\0 < M.length/\xs.length+M.length<=lim then some (xs.take z.toNat++(M++xs.drop z.toNat)) else none
end Go.Vv
namespace Go.Vv
open Go Go.RowKit
variable {a b B B':List Blk} {w0 w:World} {T T':List Nat} {n i:Nat} {env' cs cs' args:List AV} {ops:Array Oper} {Q:List AV->AH->Prop} {rest:List Oper} {f:FuncId} {κ:IntKind} {kn:Int} {v':AV}

inductive KillL:List Blk->List Blk->Prop
 | nil:KillL [] []
 | keep {x:Blk} {a b:List Blk} (k:KillL a b):KillL (x::a) (x::b)
 | dead {x:Blk} {a b:List Blk} (k:KillL a b):KillL (x::a) (.dead::b)
theorem KillL.len (k:KillL a b):b.length=a.length:=by induction k <;> simp_all
theorem KillL.get (k:KillL a b):∀(j:Nat) (x:Blk),b[j]?=some x->x=.dead \/ a[j]?=some x:=by
 induction k with
 | nil=>intro j x h;simp at h
 | keep _ ih =>
  grind
 | dead _ ih =>
  grind
theorem Rel.let_go {B:Nat} {g:Gh} {h:AH} (r:Rel B w0 g h w) {bs:List Blk} (s:bs.length=h.blks.length) (m:∀(j:Nat) (b:Blk),bs[j]?=some b->b=.dead \/ h.blks[j]?=some b):Rel B w0 g { h with blks:=bs } w:=by
 have old:∀(j:Nat) (b:Blk),bs[j]?=some b->∃b0,h.blks[j]?=some b0:=λj b q=>by
  grind
 refine ⟨r.below,r.bsz,r.phi,by rw [r.slen];exact s.symm,λi c k hc l=>?_,r.tlen,r.tok,r.sinj,r.tinj,r.sep,r.dfr,λi k hi l=>?_,λi j t k k' es es' hi q=>?_,r.nb,r.ob,r.oa⟩
 ·rcases m i k l with rfl | h0
  ·obtain ⟨b0,p⟩:=old i _ l;obtain ⟨e,d,_,_⟩:=r.blk i c b0 hc p;exact ⟨e,d,trivial,λh=>absurd rfl h⟩
  ·exact r.blk i c k hc h0
 ·rcases m i k l with rfl | h0
  ·trivial
  ·exact r.row i k hi h0
 ·rcases m i _ hi with e | e
  ·cases e
  ·rcases m j _ q with d | d
   ·cases d
   ·exact r.rinj _ _ _ _ _ _ _ e d
theorem swk_kill {h:AH} {env:List AV} (k:KillL B B'):swk env (h.ext B T) env (h.ext B' T):=λ_ _ w g vs r m=>by
 refine ⟨g,Gh.le.refl g,?_,m⟩;refine r.let_go (bs:=h.blks++B') (by simp [AH.ext,k.len]) λj b d=>?_;rcases sy j h.blks.length with e | e
 ·right;simp only [AH.ext];rw [un e] at d ⊢;exact d
 ·rw [uj e] at d;rcases k.get _ _ d with l | l
  ·simp_all
  ·right;simp only [AH.ext];rw [uj e];exact l
theorem swk_padB {h:AH} {env:List AV} (m:B++[.dead]=B'):swk env (h.ext B T) env (h.ext B' T):=λ_ _ w g vs r l=>by
 subst m;have d:=r.adoptN .dead trivial (λ_ _ _ e=>by cases e);have e:(h.ext B T).new .dead=h.ext (B++[.dead]) T:=by simp [AH.ext,AH.new,uC]
 rw [e] at d;exact ⟨_,Gh.le_addS _ none,d,VL.mono (Gh.le_addS _ none) _ _ l⟩
theorem swk_padT {h:AH} {env:List AV} (m:T++[n]=T'):swk env (h.ext B T) env (h.ext B T'):=λ_ _ w g vs r l=>by
 subst m;have d:=r.addTok ⟨n,none,false⟩ (λ_ _ _ e=>by cases e) (λ_ _ e=>by cases e);have e:({ (h.ext B T) with toks:=(h.ext B T).toks++[n] }:AH)=h.ext B (T++[n]):=by simp [AH.ext,uC]
 rw [e] at d;exact ⟨_,Gh.le_addT _ _,d,VL.mono (Gh.le_addT _ _) _ _ l⟩
theorem swk_move {h:AH} {env:List AV} {d j k n2 E t':Nat} {es:List (List AV)} (H:yu env (.tmp d)=some (.rsl (h.blks.length+j) (h.toks.length+i) k n)) (K:B[j]?=some (.row (h.toks.length+i) k es)) (O:es.length=n) (A:n=n2)
  (p:B.length=E) (q:T.length=t') (G:wL (some d) env (.rsl (h.blks.length+E) (h.toks.length+t') k n2)=some env') (R:B.set j .dead++[.row (h.toks.length+t') k es]=B') (N:T.set i (n2+1)++[n2]=T') :
  swk env (h.ext B T) env' (h.ext B' T'):=λ_ _ w g vs r I=>by
 subst A O p q R N;simp only [wL,ui] at G;subst G;have hd:d < env.length:=(uc.1 H).1;obtain ⟨v,s,J⟩:=I.get d _ H;have C:(h.ext B T).blk (h.blks.length+j)=some (.row (h.toks.length+i) k es):=by rw [yy];exact K
 have l:=J;simp only [V] at l;obtain ⟨a,c,rfl,_⟩:=l;obtain ⟨g',F,D,U⟩:=r.shrink (n:=es.length) (a':=a) C (ug _) (.inl rfl) J;have e:(h.ext B T).shr (h.blks.length+j) (h.toks.length+i) k es.length es=h.ext (B.set j .dead++[.row (h.toks.length+T.length) k es]) (T.set i (es.length+1)++[es.length]):=by
  simp only [AH.shr,AH.ext,AH.put,AH.new,AH.mk.injEq,uq]
  simp_all
 rw [e] at D;refine ⟨g',F,D,VL.setE (VL.mono F _ _ I) d _ λu m=>?_⟩;rw [s] at m;injection m with m;subst m;have W:(h.ext B T).blks.length=h.blks.length+B.length:=by simp [AH.ext]
 have S:(h.ext B T).toks.length=h.toks.length+T.length:=by simp [AH.ext]
 simp_all

theorem swk_moveB {h:AH} {env:List AV} {jb o j k n2 R t':Nat} {es:List (List AV)} (hc:B[jb]?=some (.cells cs)) (E:cs[o]?=some (.rsl (h.blks.length+j) (h.toks.length+i) k n)) (S:B[j]?=some (.row (h.toks.length+i) k es)) (hn:es.length=n) (I:n=n2)
  (s:B.length=R) (D:T.length=t') (H:cs.set o (.rsl (h.blks.length+R) (h.toks.length+t') k n2)=cs') (hB:(B.set j .dead).set jb (.cells cs')++[.row (h.toks.length+t') k es]=B') (hT:T.set i (n2+1)++[n2]=T') :
  swk env (h.ext B T) env (h.ext B' T'):=λ_ _ w g vs r hv=>by
 subst I hn s D H hB hT;have K:(h.ext B T).blk (h.blks.length+j)=some (.row (h.toks.length+i) k es):=by rw [yy];exact S
 have l:(h.ext B T).blks[h.blks.length+jb]?=some (.cells cs):=by
  simp only [AH.ext];rw [uj (by omega),uv];exact hc
 have A:j ≠ jb:=by rintro rfl;rw [S] at hc;cases hc
 have C:jb < B.length:=(uc.1 hc).1;have hsl:h.blks.length+jb < g.σ.length:=by rw [r.slen];exact (uc.1 l).1
 obtain ⟨x,J⟩:∃x,g.σ[h.blks.length+jb]?=some x:=⟨_,uh hsl⟩
 cases x with
 | none=>exact (r.row _ _ J l).elim
 | some c =>
  obtain ⟨_,_,⟨us,t,Y,k2⟩,_⟩:=r.blk _ c _ J l;obtain ⟨v,F,X⟩:=k2.toVL.get o _ E;have m:=X;simp only [V] at m;obtain ⟨a,cc,rfl,_⟩:=m;obtain ⟨g',d,O,U⟩:=r.shrink (n:=es.length) (a':=a) K (ug _) (.inl rfl) X;have e:(h.ext B T).shr (h.blks.length+j) (h.toks.length+i) k es.length es=h.ext (B.set j .dead++[.row (h.toks.length+T.length) k es]) (T.set i (es.length+1)++[es.length]):=by
   simp only [AH.shr,AH.ext,AH.put,AH.new,AH.mk.injEq,uq];refine ⟨?_,?_⟩
   ·simp_all
   ·simp_all
  rw [e] at O;have e1:(h.ext B T).blks.length=h.blks.length+B.length:=by simp [AH.ext]
  have e2:(h.ext B T).toks.length=h.toks.length+T.length:=by simp [AH.ext]
  rw [e1,e2] at U;have Z:(h.ext (B.set j .dead++[.row (h.toks.length+T.length) k es]) (T.set i (es.length+1)++[es.length])).blks[h.blks.length+jb]?=some (.cells cs):=by
   simp only [AH.ext];rw [uj (by omega),uv,un (by rw [uQ];exact C),uR A];exact hc
  have q:=d.sig _ _ J;have G:VA g' (cs.set o (.rsl (h.blks.length+B.length) (h.toks.length+T.length) k es.length)) us.toList:=VA.mk (VL.setE (VL.mono d _ _ k2.toVL) o _ λu p=>by
   rw [F] at p;injection p with p;subst p;exact U) (by
   rw [ur];intro a N;rcases sg N with N | rfl
   ·have:=k2.ones;rw [ur] at this;exact this a N
   ·rfl)
  have W:=O.putObj (k':=.cells (cs.set o (.rsl (h.blks.length+B.length) (h.toks.length+T.length) k es.length))) q Z (by simp) rfl rfl rfl rfl (λ_ _=>rfl) ⟨us,t,Y,G⟩;have e3:(h.ext (B.set j .dead++[.row (h.toks.length+T.length) k es]) (T.set i (es.length+1)++[es.length])).put (h.blks.length+jb) (.cells (cs.set o (.rsl (h.blks.length+B.length) (h.toks.length+T.length) k es.length)))=h.ext ((B.set j .dead).set jb (.cells (cs.set o (.rsl (h.blks.length+B.length) (h.toks.length+T.length) k es.length)))++[.row (h.toks.length+T.length) k es]) (T.set i (es.length+1)++[es.length]):=by
   simp only [AH.ext,AH.put,AH.mk.injEq,tM];rw [sF _ _ (by omega),uv,rX _ _ (by simp_all)]
  rw [e3] at W;exact ⟨g',d,W,VL.mono d _ _ hv⟩

theorem swk_thawB {h:AH} {env:List AV} {jb o k m:Nat} (hc:B[jb]?=some (.cells cs)) (D:cs[o]?=some (.osl none k [])) (U:B.length=n) (V:T.length=m)
  (G:cs.set o (.rsl (h.blks.length+n) (h.toks.length+m) k 0)=cs') (Y:B.set jb (.cells cs')++[.row (h.toks.length+m) k []]=B') (S:T++[0]=T') :
  swk env (h.ext B T) env (h.ext B' T'):=λ_ _ w g vs r X=>by
 subst U V G Y S;have l:g.τ.length=h.toks.length+T.length:=by rw [r.tlen];simp [AH.ext]
 have d:=(g.le_addT ⟨0,none,true⟩).trans (Gh.le_addS _ none);have p:(h.ext B T).blks[h.blks.length+jb]?=some (.cells cs):=by
  simp only [AH.ext];rw [uj (by omega),uv];exact hc
 have s:jb < B.length:=(uc.1 hc).1;have hsl:h.blks.length+jb < g.σ.length:=by rw [r.slen];exact (uc.1 p).1
 obtain ⟨x,H⟩:∃x,g.σ[h.blks.length+jb]?=some x:=⟨_,uh hsl⟩
 cases x with
 | none=>exact (r.row _ _ H p).elim
 | some c =>
  obtain ⟨_,_,⟨us,t,O,k2⟩,_⟩:=r.blk _ c _ H p;obtain ⟨v,E,Z⟩:=k2.toVL.get o _ D;have J:=r.newRowT ⟨0,none,true⟩ k [] (λ_ _ _ h=>by cases h) (λ_ _ h=>by cases h) rowOk_nil;have e:(({ (h.ext B T) with toks:=(h.ext B T).toks++[0] }:AH).new (.row g.τ.length k []))=h.ext (B++[.row (h.toks.length+T.length) k []]) (T++[0]):=by
   rw [l];simp [AH.ext,AH.new,uC]
  rw [e] at J;have K:=Z.thaw (q:=h.blks.length+B.length);rw [l] at K;have R:(h.ext (B++[.row (h.toks.length+T.length) k []]) (T++[0])).blks[h.blks.length+jb]?=some (.cells cs):=by
   simp only [AH.ext];rw [uj (by omega),uv,un s];exact hc
  have C:=d.sig _ _ H;have F:VA ((g.addT ⟨0,none,true⟩).addS none) (cs.set o (.rsl (h.blks.length+B.length) (h.toks.length+T.length) k 0)) us.toList:=VA.mk (VL.setE (VL.mono d _ _ k2.toVL) o _ λu A=>by
   rw [E] at A;injection A with A;subst A;exact K) (by
   rw [ur];intro a I;rcases sg I with I | rfl
   ·have:=k2.ones;rw [ur] at this;exact this a I
   ·rfl)
  have N:=J.putObj (k':=.cells (cs.set o (.rsl (h.blks.length+B.length) (h.toks.length+T.length) k 0))) C R (by simp) rfl rfl rfl rfl (λ_ _=>rfl) ⟨us,t,O,F⟩;have W:(h.ext (B++[.row (h.toks.length+T.length) k []]) (T++[0])).put (h.blks.length+jb) (.cells (cs.set o (.rsl (h.blks.length+B.length) (h.toks.length+T.length) k 0)))=h.ext (B.set jb (.cells (cs.set o (.rsl (h.blks.length+B.length) (h.toks.length+T.length) k 0)))++[.row (h.toks.length+T.length) k []]) (T++[0]):=by
   simp only [AH.ext,AH.put,AH.mk.injEq,tM];rw [sF _ _ (by omega),uv,rX _ _ s]
  rw [W] at N;exact ⟨_,d,N,VL.mono d _ _ X⟩

theorem ops_inl {P:Program} {o:Oper} {env:List AV} {h:AH} {X:Type} {v:AV} {H':X->AH} (l:aG ops o env=some true) (g:zF P o env h=.call f args)
  (hs:Spec P f args h λr hh=>r=v/\∃x,hh=H' x) (hd:wL o.dst env v=some env') (d:∀x,zS P ops Q rest env' (H' x)):zS P ops Q (o::rest) env h :=
 ops_call l g hs λr p ⟨e,x,m⟩=>by subst e;subst m;rw [xT hd];exact d x
theorem draw_callA {P:Program} {Ns:List Nat} {F:Nat->AH->Prop} {o:Oper} {env:List AV} {h d:AH} {v:AV} (hc:anch ops Ns i=true) (m:Ns.contains i=false) (p:FOk ((Region.before ops).getD i 0) Ns F d) (l:aG ops o env=some true) (g:zF P o env h=.call f args) (hs:Spec P f args h λr hh=>r=v/\hh=d)
  (hd:wL o.dst env v=some env') (e:yd P ops Ns F Q (i+1) rest env' d):yd P ops Ns F Q i (o::rest) env h :=
 ⟨v,d,.inl ⟨m,by simp only [AR,l,g];exact hs⟩,.inl hc,.inr p,by rw [xT hd];exact e⟩
theorem iteF {ρ:Type} {c:Prop} [Decidable c] {a b:Option ρ} {res:ρ} {G:Prop} (g:(if c then a else b)=some res) (e:c->a=some res->G) (d:¬ c->b=some res->G):G:=by
 grind

section
variable {P:Program} {o:Oper} {env:List AV} {h:AH} {L:List Blk} {M:List Nat} {t kt et:TypeId} {x y z:Operand} {j:Nat} {es:List (AV×AV)} {c:Nat}
theorem e_insF {kv a:AV} (l:o.op=.insert t x y z) (A:P.underlying t=some (.map kt et)) (d:xe P kt kv kv=some true) (E:yu env x=some (.map (h.blks.length+j))) (m:L[j]?=some (.mapo es c)) (p:yu env y=some kv) (r:yu env z=some a)
  (e:aFind P kt kv es 0=some none) (C:L.set j (.mapo (es++[(kv,a.zcl)]) c)=B):wd P o env (h.ext L M)=some [(aundef,h.ext B M)]:=by
 obtain ⟨u,q⟩:=zX E;obtain ⟨D,s⟩:=zX p;obtain ⟨v,g⟩:=zX r;subst C;simp only [wd,l,zF,u,q,D,s,v,g,A,uT,ut,aMapPut,d,yy,m,e,oh,ext_put]
theorem e_lookF {n:Int} {v:AV} {ok:Bool} (l:o.op=.lookup t x y ok) (u:P.underlying t=some (.map kt et)) (e:P.underlying kt=some (.int κ)) (C:yu env x=some (.map (h.blks.length+j))) (m:L[j]?=some (.mapo es c)) (p:yu env y=some (.int κ kn)) (D:kn=n)
  (g:aFind P kt (.int κ n) es 0=some (some (i,v))):zF P o env (h.ext L M)=.ok (withOk ok v true) (h.ext L M):=by
 obtain ⟨s,q⟩:=zX C;obtain ⟨A,r⟩:=zX p;subst D;have d:xe P kt (.int κ kn) (.int κ kn)=some true:=by simp [xe,e,aEq1]
 simp only [zF,l,s,q,A,r,u,uT,ut,aLookup,d,yy,m,g,oo]
theorem e_lookN {d:AV} {ok:Bool} (m:o.op=.lookup t x y ok) (v:P.underlying t=some (.map kt et)) (g:P.underlying kt=some (.int κ)) (C:yu env x=some (.map (h.blks.length+j))) (p:L[j]?=some (.mapo es c)) (q:yu env y=some (.int κ kn))
  (D:aZeroM P et=some d) (l:aFind P kt (.int κ kn) es 0=some none):zF P o env (h.ext L M)=.ok (withOk ok d false) (h.ext L M):=by
 obtain ⟨u,r⟩:=zX C;obtain ⟨A,s⟩:=zX q;have e:xe P kt (.int κ kn) (.int κ kn)=some true:=by simp [xe,g,aEq1]
 simp only [zF,m,u,r,A,s,v,uT,ut,aLookup,e,yy,p,l,D,oo]
end
theorem aFind_nil {P:Program} {kt:TypeId} {k:AV}:aFind P kt k [] i=some none:=rfl
theorem aFind_eq {P:Program} {kt:TypeId} {n:Int} {v:AV} {es:List (AV×AV)} (d:P.underlying kt=some (.int κ)):aFind P kt (.int κ n) ((.int κ n,v)::es) i=some (some (i,v)):=by
 have:xe P kt (.int κ n) (.int κ n)=some true:=by simp [xe,d,aEq1]
 simp only [aFind,this]
theorem yE {P:Program} {kt:TypeId} {n:Int} {v:AV} {es:List (AV×AV)} {r:Option (Nat×AV)} (d:P.underlying kt=some (.int κ)) (g:¬ kn=n) (e:aFind P kt (.int κ kn) es (i+1)=some r):aFind P kt (.int κ kn) ((.int κ n,v)::es) i=some r:=by
 have:xe P kt (.int κ kn) (.int κ n)=some false:=by simp [xe,d,aEq1,g]
 simp only [aFind,this,e]
theorem aKey_int {P:Program} {kt:TypeId} {n:Int} (d:P.underlying kt=some (.int κ)):xe P kt (.int κ n) (.int κ n)=some true:=by simp [xe,d,aEq1]

section
variable {α:Type} {row:α->List AV} {L:List α} {k:Nat} {P:Program} {o:Oper} {env:List AV} {h:AH}
theorem e_idxS {t e:TypeId} {x i:Operand} {id q p:Nat} {l:IntKind} {z:Int} (g:o.op=.indexAddr t x i) (m:El P t e k) (r:yu env x=some (.rsuf id q k n p)) (hi:yu env i=some (.int l z)) (d:0<=z/\z < (n - p:Nat)) :
  zF P o env h=.ok (.rptr id q k n ((p+z.toNat) * k+0)) h:=s_indexAddr g m r hi (by simp only [vO];rw [uz ⟨trivial,d.1,d.2⟩];rfl)
theorem idxS {n:Int} {p:Nat} {y:α} (h:yB (L.drop p) n=some y):0<=n/\n < (L.length - p:Nat)/\L[p+n.toNat]?=some y:=by
 obtain ⟨e,d,g⟩:=idxR h
 grind
end
theorem xp {h0 h d:AH} {K:AV->AH->Prop} {v:AV} (g:wk h0 [v] h [v'] d) (l:finK h0 K v' d):finK h0 K v h:=by
 obtain ⟨r,m,e,k2⟩:=l;exact ⟨r,m,g.trans e,k2⟩
theorem ext_bl {h:AH}:(h.ext B T).blks.length=h.blks.length+B.length:=by simp [AH.ext]
theorem ext_tl {h:AH}:(h.ext B T).toks.length=h.toks.length+T.length:=by simp [AH.ext]
theorem row_news {P:Program} {a5:List AV} {h:AH} {L:List Blk} {M:List Nat} {v:AV} (s:Spec P f a5 (h.ext B T) (λd hh=>d=v/\hh=(h.ext B T).ext L M)) (e:v=v') (l:B++L=B') (g:T++M=T') :
  Spec P f a5 (h.ext B T) (λd hh=>d=v'/\hh=h.ext B' T'):=by
 subst e l g;rw [w6] at s;exact s

theorem row_newv {P:Program} {xs:List AV} {h:AH} {L:List Blk} {M:List Nat} {v:AV} (s:Spec P f xs (h.ext B T) (λd hh=>d=v/\hh=(h.ext B T).ext L M)) (e:v=v') (l:B++L=B') (g:T++M=T') :
  Spec P f xs (h.ext B T) (λd hh=>d=v'/\hh=h.ext B' T'):=row_news s e l g
def HdS (h:AH) (B:List Blk) (k:Nat) (es:List (List AV)) (a:AV):Prop:=(∃j i:Nat,a=.rsl (h.blks.length+j) (h.toks.length+i) k es.length/\B[j]?=some (Blk.row (h.toks.length+i) k es)) \/ (a=.osl none k []/\es=[])
theorem hds_row {h:AH} {k j:Nat} {es:List (List AV)} (d:B[j]?=some (.row (h.toks.length+i) k es)) (e:es.length=n):HdS h B k es (.rsl (h.blks.length+j) (h.toks.length+i) k n):=.inl ⟨j,i,by rw [e],d⟩
theorem hds_nil {h:AH} {k:Nat}:HdS h B k [] (.osl none k []):=.inr ⟨rfl,rfl⟩
theorem HdS.tok {B0:Nat} {g:Gh} {h:AH} (r:Rel B0 w0 g (h.ext B T) w) {k:Nat} {es:List (List AV)} {a:AV} (hd:HdS h B k es a) {v:Value} (m:V g a v) :
  ∃t:TI,(∃x c,v=.slice x es.length c/\es.length<=c/\c<=maxLen/\rowHd t x es.length c k)/\t.row=true/\t.n=es.length/\(∀e ∈ es,e.length=k)/\es.flatten.all AV.pure=true /\
   (es=[] \/ ∃b o e cs ty,t.loc=some (b,o+es.length * k,e)/\w.heap[b]?=some (.cells cs ty (0,0))/\VA g es.flatten ((cs.toList.drop o).take (es.length * k))/\o+es.length * k<=cs.size/\∀j,o<=j->g.Φ b j=none) /\
   ((t=⟨0,none,true⟩) \/ ∃j i:Nat,B[j]?=some (Blk.row (h.toks.length+i) k es)/\g.τ[h.toks.length+i]?=some t):=by
 rcases hd with ⟨j,i,rfl,A⟩ | ⟨rfl,rfl⟩
 ·have l:(h.ext B T).blk (h.blks.length+j)=some (.row (h.toks.length+i) k es):=by rw [yy];exact A
  obtain ⟨_,G,E,F,C,p,u,q⟩:=r.rowAt l;simp only [V] at m
  grind
 ·simp only [V] at m;obtain ⟨x,c,rfl,D,s,_,d⟩:=m;have d:c=0:=d;exact ⟨⟨0,none,true⟩,⟨x,c,rfl,D,s,rfl,ug _,.inl ⟨rfl,d⟩⟩,rfl,rfl,by simp,by simp,.inl rfl,.inl rfl⟩
end Go.Vv
namespace Go.Vv
open Go

theorem rows1 {B0:Nat} {w0 w w1:World} {g1 g:Gh} {h:AH} {B:List Blk} {T:List Nat} {k:Nat} {es:List (List AV)} {a:AV} {x:Value} (r1:Rel B0 w0 g1 h w1) (hg:g1.le g) (r:Rel B0 w0 g (h.ext B T) w) (h1:HdS h B k es a) (hV1:V g a x) :
  ∃g',g1.le g'/\Rel B0 w0 g' (h.ext [.row h.toks.length k es] [es.length]) w/\V g' (.rsl h.blks.length h.toks.length k es.length) x/\(∀b v,b.low h.blks.length h.toks.length=true->V g b v->V g' b v)/\∀c,c ∈ g.δ->c ∈ g'.δ:=by
 obtain ⟨t1,⟨x1,c1,rfl,a1,b1,e1⟩,tr1,tn1,hl1,hp1,hrow1,ho1⟩:=HdS.tok r h1 hV1;have hcut:(h.ext B T).cut h.blks.length h.toks.length=h:=by
  simp [AH.cut,AH.ext]
 have rc:=r.cut h.blks.length h.toks.length (λi k hi hk=>by
  have hi':i < h.blks.length:=hi;have hk':h.blks[i]?=some k:=by simp only [AH.ext] at hk;rwa [un hi'] at hk
  have:=r1.isLow hk';rw [r1.slen,r1.tlen] at this;exact this)
 rw [hcut] at rc;have hlec:g1.le (g.cut h.blks.length h.toks.length):=by
  have:=Gh.le_cut hg;rw [r1.slen,r1.tlen] at this;exact this
 have hlow:∀b v,b.low h.blks.length h.toks.length=true->V g b v->V (g.cut h.blks.length h.toks.length) b v:=λb v hb hv=>by
  have:=VL.cut (n:=h.blks.length) (m:=h.toks.length) [b] [v] (by simp [zR,hb]) (by simp only [VL];exact ⟨v,[],rfl,hv,rfl⟩);simp only [VL] at this
  simp_all
 generalize hgc:g.cut h.blks.length h.toks.length=gc at rc hlec hlow;have hgcτ:gc.τ=g.τ.take h.toks.length:=by rw [<- hgc];rfl
 have hgcσ:gc.σ=g.σ.take h.blks.length:=by rw [<- hgc];rfl
 have hgcΦ:gc.Φ=g.Φ:=by rw [<- hgc];rfl
 have tget:∀(i:Nat) (t:TI),gc.τ[i]?=some t->g.τ[i]?=some t/\i < h.toks.length:=λi t ht=>by
  grind
 have sget:∀(i:Nat) (c:Option Nat),gc.σ[i]?=some c->g.σ[i]?=some c:=λi c hc=>by
  grind
 have loc:(∀b l e,t1.loc=some (b,l,e)->LocOk gc.Φ B0 w b l e)/\∀b x,t1.loc=some (b,x)->(∀(j:Nat) (u:TI) (y:Nat×Nat),gc.τ[j]?=some u->u.loc ≠ some (b,y))/\(∀(j c:Nat),gc.σ[j]?=some (some c)->b ≠ c)/\gc.N b=none/\¬ gc.O b:=by
  rcases ho1 with rfl | ⟨j,i,_,ht⟩
  ·simp_all
  ·refine ⟨λb l e hl=>by rw [hgcΦ];exact (r.tok _ _ ht).2 b l e hl,λb x hx=>⟨λj' u y hu hy=>?_,λj' c hc=>r.sep _ _ _ _ _ _ (sget _ _ hc) ht hx,(by rw [<- hgc];exact r.ntok ht hx),(by rw [<- hgc];exact r.otok ht hx)⟩⟩;obtain ⟨hu',hlt⟩:=tget _ _ hu;have:=r.tinj _ _ _ _ _ _ _ hu' ht hy hx;omega
 have tl:gc.τ.length=h.toks.length:=rc.tlen;have sl:gc.σ.length=h.blks.length:=rc.slen;have hleA:gc.le ((gc.addT t1).addS none):=(gc.le_addT t1).trans (Gh.le_addS _ none);have rowok:RowOk ((gc.addT t1).addS none) w gc.τ.length k es:=by
  refine ⟨t1,by simp [Gh.addT,Gh.addS],tr1,tn1,hl1,hp1,hrow1.imp (λh=>h) ?_⟩
  rintro ⟨b,o,e,cs,ty,q1,q2,q3,q4,q5⟩
  exact ⟨b,o,e,cs,ty,q1,q2,(by have:=VA.cut (n:=h.blks.length) (m:=h.toks.length) _ _ (vW hp1) q3;rw [hgc] at this;exact this.mono hleA),q4,λj hj=>by show gc.Φ b j=none;rw [hgcΦ];exact q5 j hj⟩
 have rA:=rc.newRowT t1 k es loc.1 loc.2 rowok;refine ⟨_,hlec.trans hleA,?_,?_,λb v hb hv=>(hlow b v hb hv).mono hleA,λc hc=>hleA.del c (by rw [<- hgc];exact hc)⟩
 ·have eh:(({ h with toks:=h.toks++[t1.n] }:AH).new (.row gc.τ.length k es))=h.ext [.row h.toks.length k es] [es.length]:=by
   rw [tl,tn1];simp [AH.new,AH.ext]
  grind
 ·simp only [V];refine ⟨x1,c1,rfl,a1,b1,t1,?_,e1⟩;simp only [Gh.addT,Gh.addS]
  grind
theorem fin_row1 {h:AH} {K:AV->AH->Prop} {i:AV} {B:List Blk} {T:List Nat} {b:Nat} {a:List (List AV)} (n:HdS h B b a i) (m:K (.rsl h.blks.length h.toks.length b a.length) (h.ext [.row h.toks.length b a] [a.length])):finK h K i (h.ext B T):=by
 refine wI (λB0 w0 w p q g vs k l r j=>?_) m;simp only [VL] at j;obtain ⟨v,_,rfl,o,rfl⟩:=j;obtain ⟨g',f,d,e,_,c⟩:=rows1 k l r n o;exact ⟨g',f,d,by simp only [VL];exact ⟨v,[],rfl,e,rfl⟩,c⟩
end Go.Vv
