/- Mutable rows whose headers stand in boxed variables, too: how they become unchanging slices. -/
import Derived.Test.YtgaelgcadcmfnaaGreatDoorVvSh
import Derived.Test.YtgaelgcadcmfnaaGreatDoorVvMr
set_option linter.all false
namespace Go.Vv
open Go Go.RowKit
variable {env' a5:List AV} {j m n i:Nat} {f:FuncId} {K:AV->AH->Prop} {v:AV} {B1:List Blk} {T1:List Nat} {t e:TypeId} {x y:Operand} {kd:IntKind} {z:Int}

theorem FzL.ones {i k:Nat} {es:List (List AV)}:∀{xs bs:List AV},FzL i k es xs bs->xs.all AV.one=true->bs.all AV.one=true
 | _,_,.refl _,h=>h
 | _,_,.cons x y,h=>by
  simp only [uW,ud] at h ⊢;refine ⟨?_,y.ones h.2⟩;cases x with
  | same=>exact h.1
  | hit=>rfl
  | hit2=>rfl
  | agg=>simp [AV.one] at h
  | tup=>simp [AV.one] at h
theorem swk_freezeB {h:AH} {env:List AV} {B B':List Blk} {T T':List Nat} {jb k:Nat} {es:List (List AV)} {cs cs':List AV} (G:B[j]?=some (.row (h.toks.length+m) k es)) (N:FzL (h.toks.length+m) k es env env')
  (E:B[jb]?=some (.cells cs)) (d:FzL (h.toks.length+m) k es cs cs') (Q:(B.set j .dead).set jb (.cells cs')=B') (I:T.set m (es.length+1)=T'):swk env (h.ext B T) env' (h.ext B' T'):=λ_ _ w g vs r O=>by
 subst Q I;have s:(h.ext B T).blks[h.blks.length+j]?=some (.row (h.toks.length+m) k es):=by
  simp only [AH.ext];rw [un (by omega),uO];exact G
 have b:(h.ext B T).blks[h.blks.length+jb]?=some (.cells cs):=by
  simp only [AH.ext];rw [un (by omega),uO];exact E
 have p:j ≠ jb:=by grind
 obtain ⟨g',a,u,J,A⟩:=r.freeze s;have e:({ (h.ext B T).put (h.blks.length+j) .dead with toks:=(h.ext B T).toks.set (h.toks.length+m) (es.length+1) }:AH)=h.ext (B.set j .dead) (T.set m (es.length+1)):=by
  simp only [AH.ext,AH.put,AH.mk.injEq]
  simp_all
 rw [e] at u;have q:h.blks.length+jb < g.σ.length:=by rw [r.slen];exact (uc.1 b).1
 obtain ⟨x,hx⟩:∃x,g.σ[h.blks.length+jb]?=some x:=⟨_,ui q⟩
 cases x with
 | none=>exact (r.row _ _ hx b).elim
 | some c =>
  obtain ⟨_,_,⟨us,t,F,D⟩,_⟩:=r.blk _ c _ hx b;have H:(h.ext (B.set j .dead) (T.set m (es.length+1))).blks[h.blks.length+jb]?=some (.cells cs):=by
   simp only [AH.ext];rw [un (by omega),uO,u6 p];exact E
  have l:=a.sig _ _ hx;have C:=u.putObj (k':=.cells cs') l H (by simp) rfl rfl rfl rfl (λ_ _=>rfl) ⟨us,t,F,VA.mk (d.sound a A D.toVL) (d.ones D.ones)⟩;have M:(h.ext (B.set j .dead) (T.set m (es.length+1))).put (h.blks.length+jb) (.cells cs')=h.ext ((B.set j .dead).set jb (.cells cs')) (T.set m (es.length+1)):=by
   simp only [AH.ext,AH.put,AH.mk.injEq,tF]
   simp_all
  rw [M] at C;exact ⟨g',a,C,N.sound a A O⟩
theorem zt {P : Program} {fn : Func} {c : Code} (hf : P.funcs[f]? = some fn) (hb : fn.body = some c) (hname : (fn.name == "runtime.NumGoroutine") = false) {args : List AV} {h : AH} {K : AV → AH → Prop} {env : List AV}
  (he:args++List.replicate (fn.ntmps - args.length) aundef=env) (hw:wS P c (bodyQ P fn h K) env h):Spec P f args h K:=spec_of_body hf hb hname (by simp_all)
theorem fin_extR {h:AH} {B0 B L:List Blk} {T0 T M:List Nat} {a:AV} (l:B0++L=B) (g:T0++M=T) (c:leV v a) (d:a.low (h.ext B0 T0).blks.length (h.ext B0 T0).toks.length=true) (b:K a (h.ext B0 T0)):finK (h.ext B0 T0) K v (h.ext B T):=by
 subst l g;rw [<- yZ];exact fin_ext c d b
theorem yE {h0 h:AH} (a:K v h):finK h0 K v h:=xu (wk.refl _ _ _) a
theorem fin_row0 {h:AH} {k:Nat} (a:K (.rsl h.blks.length h.toks.length k 0) (h.ext [.row h.toks.length k []] [0])):finK h K (.osl none k []) (h.ext [] []) :=
 xu (swk_thaw (env:=[.osl none k []]) (d:=0) rfl rfl rfl rfl rfl rfl).wk a
theorem row_read {P:Program} {h:AH} {B:List Blk} {T:List Nat} {b:Blk} (s:Spec P f a5 ((h.ext B1 T1).ext [b] [n]) (λa hh=>a=v/\hh=(h.ext B1 T1).ext [b] [n])) (d:B1++[b]=B) (c:T1++[n]=T) :
  Spec P f a5 (h.ext B T) (λa hh=>a=v/\hh=h.ext B T):=by
 subst d c;rw [yZ] at s;exact s
def TurnK (h:AH) (bl tl k m:Nat) (R:List (List AV)) (rr:AV) (hh:AH):Prop:=rr=.rsl (bl+1) (tl+1) k m/\∃n0,hh=h.ext [.dead,.row (tl+1) k R] [n0,m]
theorem ops_turn {P:Program} {a:Array Oper} {Q:List AV->AH->Prop} {o:Oper} {rest:List Oper} {env:List AV} {h:AH} {B B':List Blk} {T:List Nat} {args:List AV} {b:Blk} {k:Nat} {R:List (List AV)} (g:aG a o env=some true) (s:zn P o env (h.ext B T)=.call f args)
  (hs:Spec P f args ((h.ext B1 T1).ext [b] [n]) (TurnK (h.ext B1 T1) (h.blks.length+j) (h.toks.length+i) k m R)) (u:B1++[b]=B) (l:T1++[n]=T)
  (hd:qx o.dst env (.rsl (h.blks.length+(j+1)) (h.toks.length+(i+1)) k m)=some env') (c:B1++[.dead,.row (h.toks.length+(i+1)) k R]=B') (w:∀d,zA P a Q rest env' (h.ext B' (T1++[d,m]))):zA P a Q (o::rest) env (h.ext B T):=by
 subst u l c;rw [yZ] at hs;refine ops_call g s hs λr h' ⟨q,d,p⟩=>?_;subst q;subst p;rw [yZ];rw [yL (v:=.rsl (h.blks.length+j+1) (h.toks.length+i+1) k m) (by omega)]
 grind
theorem fin_turn0 {h0 h:AH} {α:Type} {row:α->List AV} {L:List α} {k:Nat} (u:K (.rsl (h.blks.length+1) (h.toks.length+1) k L.length) (h.ext [.dead,.row (h.toks.length+1) k (L.map row)] [L.length+1,L.length])) :
  finK h0 K (.rsl (h.blks.length+0) (h.toks.length+0) k L.length) (h.ext [.row (h.toks.length+0) k (L.map row)] [L.length]):=by
 refine xu (swk.wk λB w0 w g vs r l=>?_) u;simp only [VL] at l;obtain ⟨v,s,rfl,p,rfl⟩:=l;have q:(h.ext [.row (h.toks.length+0) k (L.map row)] [L.length]).blk (h.blks.length+0)=some (.row (h.toks.length+0) k (L.map row)):=by rw [yJ];rfl
 have d:=p;simp only [V] at d;obtain ⟨a,c,rfl,_⟩:=d;have b:(L.map row).length=L.length:=ux ..;obtain ⟨g',A,C,E⟩:=r.shrink (n:=L.length) (a':=a) q (by omega) (.inl rfl) (by rw [b];exact p);refine ⟨g',A,?_,VL.cons ?_ (by simp [VL])⟩
 ·have e:(h.ext [.row (h.toks.length+0) k (L.map row)] [L.length]).shr (h.blks.length+0) (h.toks.length+0) k L.length (L.map row)=h.ext [.dead,.row (h.toks.length+1) k (L.map row)] [L.length+1,L.length]:=by
   simp only [AH.shr,AH.ext,AH.put,AH.new,b,AH.mk.injEq,uf,rJ,tE]
   grind
  simp_all
 ·have F:(h.ext [Blk.row (h.toks.length+0) k (L.map row)] [L.length]).blks.length=h.blks.length+1:=by simp [AH.ext]
  have D:(h.ext [Blk.row (h.toks.length+0) k (L.map row)] [L.length]).toks.length=h.toks.length+1:=by simp [AH.ext]
  simp_all
def NewK (h:AH) (k m:Nat) (R:List (List AV)) (rr:AV) (hh:AH):Prop:=rr=.rsl h.blks.length h.toks.length k m/\hh=h.ext [.row h.toks.length k R] [m]
theorem row_new {P:Program} {h:AH} {B B':List Blk} {T T':List Nat} {k:Nat} {R:List (List AV)} (s:Spec P f a5 (h.ext B T) (NewK (h.ext B T) k m R)) (b:B.length=j) (hi:T.length=i) (g:B++[.row (h.toks.length+i) k R]=B') (d:T++[m]=T') :
  Spec P f a5 (h.ext B T) (λl hh=>l=.rsl (h.blks.length+j) (h.toks.length+i) k m/\hh=h.ext B' T'):=by
 refine s.mono ?_
 rintro r h' ⟨rfl,rfl⟩
 subst b hi g d;have c:(h.ext B T).blks.length=h.blks.length+B.length:=by simp [AH.ext]
 have a:(h.ext B T).toks.length=h.toks.length+T.length:=by simp [AH.ext]
 exact ⟨by rw [c,a],by rw [yZ,a]⟩
theorem clr_len {α:Type} {L:List α} {d:α} (h:L.length=n) (a:m<=n):(L.take m++List.replicate (n - m) d).length=n:=by
 simp;omega
section
variable {α:Type} {row:α->List AV} {L:List α} {k:Nat} {P:Program} {o:Oper} {env:List AV} {h:AH} {B B':List Blk} {T T':List Nat}
theorem e_sufR {id q:Nat} (b:o.op=.slice t x (some y) none none) (a:El P t e k) (hx:yg env x=some (.rsl id q k n)) (c:yg env y=some (.int kd z)) (r:0<=z/\z<=n) :
  wm P o env h=some [(.rsuf id q k n z.toNat,h)]:=by
 obtain ⟨l,d⟩:=zC hx;obtain ⟨p,g⟩:=zC c;obtain ⟨i,hi,hs,_⟩:=a.i;simp only [wm,b,l,d,p,g,a.u,hi,hs,uV,uq]
 simp_all
theorem e_clrR (a:∀x,(row x).length=k) {d:α} {t e:TypeId} {x:Operand} {c:Call} {i q n m:Nat} {z:List AV} (E:o.op=.call c) (J:c.callee=.builtin .clear) (H:c.args=#[x]) (p:c.argTypes=#[t]) (s:El P t e k) (D:yR P e=some z) (b:y6 z=some (row d))
  (hx:yg env x=some (.rsuf (h.blks.length+i) q k n m)) (A:B[i]?=some (.row q k (L.map row))) (F:L.length=n) (N:m<=n) (I:B.set i (.row q k ((L.take m++List.replicate (n - m) d).map row))=B') :
  wm P o env (h.ext B T)=some [(.tup [],h.ext B' T)]:=by
 obtain ⟨C,w⟩:=zC hx;obtain ⟨_,_,_,_,g,_⟩:=s.i;subst F I;have l:z.length=k:=by rw [<- clean_len b,a d]
 simp only [wm,E,J,H,p,C,w,uq,s.u,D,yJ,A];rw [uv ⟨⟨trivial,trivial,by simp⟩,l,g⟩,b];simp only [AH.clr,qw,ux];have G:yp (L.map row).flatten (m * k) (zsuf (row d) L.length m)=((L.take m++List.replicate (L.length - m) d).map row).flatten:=by
  have r:(zsuf (row d) L.length m).length=(L.length - m) * k:=by simp [zsuf,a d]
  unfold yp;rw [flat_take a,r,tr (by rw [flat_len a,<- tb];exact u7 k (by omega))];simp [zsuf,List.map_replicate]
 rw [G];have M:=rows_map a (L.take m++List.replicate (L.length - m) d)
 simp_all
theorem e_cutR {c t':Nat} {M:List α} (w:o.op=.slice t x none (some y) none) (d:El P t e k) (hx:yg env x=some (.rsl (h.blks.length+i) (h.toks.length+j) k n)) (C:yg env y=some (.int kd z))
  (p:B[i]?=some (.row (h.toks.length+j) k (L.map row))) (E:L.length=n) (l:slc L 0 z=some M) (a:B.length=c) (b:T.length=t') (G:B.set i .dead++[.row (h.toks.length+t') k (M.map row)]=B') (r:T.set j (n+1)++[M.length]=T') :
  wm P o env (h.ext B T)=some [(.rsl (h.blks.length+c) (h.toks.length+t') k M.length,h.ext B' T')]:=by
 obtain ⟨s,g⟩:=zC hx;obtain ⟨D,q⟩:=zC C;obtain ⟨J,hi,hs,_⟩:=d.i;obtain ⟨⟨I,F,H⟩,rfl⟩:=slcF l;subst E a b G r;simp only [wm,w,s,g,D,q,d.u,hi,uV,uq,yJ,p];rw [uv ⟨⟨trivial,trivial,by simp⟩,F,by omega⟩];have A:((L.take z.toNat).drop (0:Int).toNat).length=z.toNat:=by simp;omega
 have hd:(L.take z.toNat).drop (0:Int).toNat=L.take z.toNat:=rfl;rw [A,hd];simp only [AH.shr,AH.ext,AH.put,AH.new,uf,uj,rm,tA,AH.mk.injEq,tF,ux,pd]
 simp_all
theorem idxR {n:Int} {y:α} (h:wh L n=some y):0<=n/\n < L.length/\L[n.toNat]?=some y:=by
 unfold wh at h
 grind
theorem idxRn {y:α} (h:wh L z=some y) (c:L.length=n):0<=z/\z < n:=by
 obtain ⟨b,a,_⟩:=idxR h;omega
end
def insO {α:Type} (xs:List α) (z:Int) (M:List α):Option (List α):=if (0<=z/\z<=xs.length)/\0 < M.length/\xs.length+M.length<=yS then some (xs.take z.toNat++(M++xs.drop z.toNat)) else none
end Go.Vv
namespace Go.Vv
open Go Go.RowKit
variable {a b B:List Blk} {T Ns:List Nat} {ops:Array Oper} {Q:List AV->AH->Prop} {rest:List Oper} {env' args:List AV} {f:FuncId} {v:AV} {F:Nat->AH->Prop}

inductive KillL:List Blk->List Blk->Prop
 | nil:KillL [] []
 | keep {x:Blk} {a b:List Blk} (k:KillL a b):KillL (x::a) (x::b)
 | dead {x:Blk} {a b:List Blk} (k:KillL a b):KillL (x::a) (.dead::b)
theorem KillL.len (k:KillL a b):b.length=a.length:=by induction k <;> simp_all
theorem KillL.get (k:KillL a b):∀(j:Nat) (x:Blk),b[j]?=some x->x=.dead \/ a[j]?=some x:=by
 induction k with
 | nil=>intro j x h;simp at h
 | keep _ ih =>
  grind
 | dead _ ih =>
  grind
theorem swk_thawB {h:AH} {env:List AV} {B':List Blk} {T':List Nat} {jb o k n m:Nat} {cs cs':List AV} (K:B[jb]?=some (.cells cs)) (C:cs[o]?=some (.osl none k [])) (W:B.length=n) (X:T.length=m)
  (H:cs.set o (.rsl (h.blks.length+n) (h.toks.length+m) k 0)=cs') (hB:B.set jb (.cells cs')++[.row (h.toks.length+m) k []]=B') (V:T++[0]=T') :
  swk env (h.ext B T) env (h.ext B' T'):=λ_ _ w g vs r Z=>by
 subst W X H hB V;have i:g.τ.length=h.toks.length+T.length:=by rw [r.tlen];simp [AH.ext]
 have d:=(g.le_addT ⟨0,none,true⟩).trans (Gh.le_addS _ none);have l:(h.ext B T).blks[h.blks.length+jb]?=some (.cells cs):=by
  simp only [AH.ext];rw [un (by omega),uO];exact K
 have p:jb < B.length:=(uc.1 K).1;have D:h.blks.length+jb < g.σ.length:=by rw [r.slen];exact (uc.1 l).1
 obtain ⟨x,hx⟩:∃x,g.σ[h.blks.length+jb]?=some x:=⟨_,ui D⟩
 cases x with
 | none=>exact (r.row _ _ hx l).elim
 | some c =>
  obtain ⟨_,_,⟨us,t,S,I⟩,_⟩:=r.blk _ c _ hx l;obtain ⟨v,E,hV⟩:=I.toVL.get o _ C;have N:=r.newRowT ⟨0,none,true⟩ k [] (λ_ _ _ h=>by cases h) (λ_ _ h=>by cases h) rowOk_nil;have e:(({ (h.ext B T) with toks:=(h.ext B T).toks++[0] }:AH).new (.row g.τ.length k []))=h.ext (B++[.row (h.toks.length+T.length) k []]) (T++[0]):=by
   rw [i];simp [AH.ext,AH.new,uy]
  rw [e] at N;have O:=hV.thaw (q:=h.blks.length+B.length);rw [i] at O;have U:(h.ext (B++[.row (h.toks.length+T.length) k []]) (T++[0])).blks[h.blks.length+jb]?=some (.cells cs):=by
   simp only [AH.ext];rw [un (by omega),uO,uo p];exact K
  have A:=d.sig _ _ hx;have G:VA ((g.addT ⟨0,none,true⟩).addS none) (cs.set o (.rsl (h.blks.length+B.length) (h.toks.length+T.length) k 0)) us.toList:=VA.mk (VL.setE (VL.mono d _ _ I.toVL) o _ λu s=>by
   rw [E] at s;injection s with s;subst s;exact O) (by
   rw [ur];intro a J;rcases r6 J with J | rfl
   ·have:=I.ones;rw [ur] at this;exact this a J
   ·rfl)
  have R:=N.putObj (k':=.cells (cs.set o (.rsl (h.blks.length+B.length) (h.toks.length+T.length) k 0))) A U (by simp) rfl rfl rfl rfl (λ_ _=>rfl) ⟨us,t,S,G⟩;have Y:(h.ext (B++[.row (h.toks.length+T.length) k []]) (T++[0])).put (h.blks.length+jb) (.cells (cs.set o (.rsl (h.blks.length+B.length) (h.toks.length+T.length) k 0)))=h.ext (B.set jb (.cells (cs.set o (.rsl (h.blks.length+B.length) (h.toks.length+T.length) k 0)))++[.row (h.toks.length+T.length) k []]) (T++[0]):=by
   simp only [AH.ext,AH.put,AH.mk.injEq,tF];rw [sS _ _ (by omega),uO,List.set_append_left _ _ p]
  rw [Y] at R;exact ⟨_,d,R,VL.mono d _ _ Z⟩

theorem qZ {P:Program} {o:Oper} {env:List AV} {h:AH} {X:Type} {H':X->AH} (i:aG ops o env=some true) (g:zn P o env h=.call f args)
  (hs:Spec P f args h λr hh=>r=v/\∃x,hh=H' x) (hd:qx o.dst env v=some env') (d:∀x,zA P ops Q rest env' (H' x)):zA P ops Q (o::rest) env h :=
 ops_call i g hs λr h' ⟨e,x,l⟩=>by subst e;subst l;rw [yL hd];exact d x
theorem ops_ginl {P:Program} {o:Oper} {env:List AV} {h:AH} {Y:Type} {b:Bool} {Ky:Y->AH} (g:aG ops o env=some b) (l:b=true->zn P o env h=.call f args)
  (hs:b=true->Spec P f args h λr hh=>r=v/\∃x,hh=Ky x) (n:b=false->∃x,h=Ky x) (hd:qx o.dst env (gv b v)=some env') (d:∀x,zA P ops Q rest env' (Ky x)):zA P ops Q (o::rest) env h:=by
 cases b with
 | true=>exact ops_call g (l rfl) (hs rfl) λr h' ⟨i,x,m⟩=>by subst i;subst m;rw [qu] at hd;rw [yL hd];exact d x
 | false=>rw [qK] at hd;obtain ⟨x,e⟩:=n rfl;exact ops_skip g hd (e ▸ d x)
theorem draw_callA {P:Program} {i:Nat} {o:Oper} {env:List AV} {h h':AH} (m:anch ops Ns i=true) (l:Ns.contains i=false) (n:FOk ((Region.before ops).getD i 0) Ns F h') (g:aG ops o env=some true) (e:zn P o env h=.call f args) (hs:Spec P f args h λr hh=>r=v/\hh=h')
  (hd:qx o.dst env v=some env') (d:zD P ops Ns F Q (i+1) rest env' h'):zD P ops Ns F Q i (o::rest) env h :=
 ⟨v,h',.inl ⟨l,by simp only [AR,g,e];exact hs⟩,.inl m,.inr n,by rw [yL hd];exact d⟩
theorem xF {P:Program} {i:Nat} {o:Oper} {env:List AV} {h h':AH} {b:Bool} (l:anch ops Ns i=true) (g:Ns.contains i=false) (m:FOk ((Region.before ops).getD i 0) Ns F h') (e:aG ops o env=some b)
  (n:b=true->zn P o env h=.call f args) (hs:b=true->Spec P f args h λr hh=>r=v/\hh=h') (p:b=false->h=h') (hd:qx o.dst env (gv b v)=some env') (d:zD P ops Ns F Q (i+1) rest env' h'):zD P ops Ns F Q i (o::rest) env h:=by
 cases b with
 | true=>rw [qu] at hd;exact draw_callA l g m e (n rfl) (hs rfl) hd d
 | false=>obtain rfl:=p rfl;exact ⟨aundef,h,.inl ⟨g,by simp [AR,e]⟩,.inl l,.inr m,by rw [qK] at hd;rw [yL hd];exact d⟩
theorem iteF {ρ:Type} {c:Prop} [Decidable c] {a b:Option ρ} {res:ρ} {G:Prop} (g:(if c then a else b)=some res) (e:c->a=some res->G) (d:¬ c->b=some res->G):G:=by
 grind

section
variable {P:Program} {o:Oper} {env:List AV} {h:AH} {L:List Blk} {M:List Nat} {t kt et:TypeId} {x y z:Operand} {j:Nat} {es:List (AV×AV)} {c:Nat}
end
section
variable {α:Type} {row:α->List AV} {L:List α} {k:Nat} {P:Program} {o:Oper} {env:List AV} {h:AH}
end
def HdS (h:AH) (B:List Blk) (k:Nat) (es:List (List AV)) (a:AV):Prop:=(∃j i:Nat,a=.rsl (h.blks.length+j) (h.toks.length+i) k es.length/\B[j]?=some (Blk.row (h.toks.length+i) k es)) \/ (a=.osl none k []/\es=[])
theorem HdS.tok {B0:Nat} {w0 w:World} {g:Gh} {h:AH} (r:Rel B0 w0 g (h.ext B T) w) {k:Nat} {es:List (List AV)} {a:AV} (hd:HdS h B k es a) {v:Value} (m:V g a v) :
  ∃t:TI,(∃x c,v=.slice x es.length c/\es.length<=c/\c<=maxLen/\rowHd t x es.length c k)/\t.row=true/\t.n=es.length/\(∀e ∈ es,e.length=k)/\es.flatten.all AV.pure=true /\
   (es=[] \/ ∃b o e cs ty,t.loc=some (b,o+es.length * k,e)/\w.heap[b]?=some (.cells cs ty (0,0))/\VA g es.flatten ((cs.toList.drop o).take (es.length * k))/\o+es.length * k<=cs.size/\∀j,o<=j->g.Φ b j=none) /\
   ((t=⟨0,none,true⟩) \/ ∃j i:Nat,B[j]?=some (Blk.row (h.toks.length+i) k es)/\g.τ[h.toks.length+i]?=some t):=by
 rcases hd with ⟨j,i,rfl,A⟩ | ⟨rfl,rfl⟩
 ·have l:(h.ext B T).blk (h.blks.length+j)=some (.row (h.toks.length+i) k es):=by rw [yJ];exact A
  obtain ⟨_,H,E,G,C,p,u,q⟩:=r.rowAt l;simp only [V] at m
  grind
 ·simp only [V] at m;obtain ⟨x,c,rfl,D,s,_,d⟩:=m;have d:c=0:=d;exact ⟨⟨0,none,true⟩,⟨x,c,rfl,D,s,rfl,ug _,.inl ⟨rfl,d⟩⟩,rfl,rfl,by simp,by simp,.inl rfl,.inl rfl⟩
theorem blk_ext {h:AH} {j:Nat} {b:Blk} (d:B[j]?=some b):(h.ext B T).blk (h.blks.length+j)=some b:=by
 rw [yJ];exact d
end Go.Vv
