/- Mutable rows whose headers stand in boxed variables, too: how they become unchanging slices. -/
import Derived.Test.YtcociipjgndnaaaGreatVvRo
import Derived.Test.YtcociipjgndnaaaGreatVvMl
namespace Go.Vv
open Go Go.RowKit

theorem FzL.ones {i k:Nat} {es:List (List AV)}:∀{xs bs:List AV},FzL i k es xs bs->xs.all AV.one=true->bs.all AV.one=true
 | _,_,.refl _,h=>h
 | _,_,.cons x y,h=>by
  simp only [tc,ud] at h ⊢;refine ⟨?_,y.ones h.2⟩;cases x with
  | same=>exact h.1
  | hit=>rfl
  | hit2=>rfl
  | agg=>simp [AV.one] at h
  | tup=>simp [AV.one] at h
theorem swk_freezeB {h:AH} {env b:List AV} {B B':List Blk} {T T':List Nat} {j jb m k:Nat} {es:List (List AV)} {cs cs':List AV} (v:B[j]?=some (.row (h.toks.length+m) k es)) (J:FzL (h.toks.length+m) k es env b)
  (i:B[jb]?=some (.cells cs)) (f:FzL (h.toks.length+m) k es cs cs') (G:(B.set j .dead).set jb (.cells cs')=B') (H:T.set m (es.length+1)=T'):swk env (h.ext B T) b (h.ext B' T'):=λ_ _ w g vs r C=>by
 subst G H;have q:(h.ext B T).blks[h.blks.length+j]?=some (.row (h.toks.length+m) k es):=by
  simp only [AH.ext];rw [ui (by omega),uq];exact v
 have d:(h.ext B T).blks[h.blks.length+jb]?=some (.cells cs):=by
  simp only [AH.ext];rw [ui (by omega),uq];exact i
 have l:j ≠ jb:=by rintro rfl;rw [v] at i;cases i
 obtain ⟨g',a,A,F,z⟩:=r.freeze q;have e:({ (h.ext B T).put (h.blks.length+j) .dead with toks:=(h.ext B T).toks.set (h.toks.length+m) (es.length+1) }:AH)=h.ext (B.set j .dead) (T.set m (es.length+1)):=by
  simp only [AH.ext,AH.put,AH.mk.injEq];exact ⟨by rw [uO _ _ (by omega),uq],by rw [uO _ _ (by omega),uq]⟩
 rw [e] at A;have p:h.blks.length+jb < g.σ.length:=by rw [r.slen];exact (uc.1 d).1
 obtain ⟨x,n⟩:∃x,g.σ[h.blks.length+jb]?=some x:=⟨_,ug p⟩
 cases x with
 | none=>exact (r.row _ _ n d).elim
 | some c =>
  obtain ⟨_,_,⟨us,t,D,u⟩,_⟩:=r.blk _ c _ n d;have I:(h.ext (B.set j .dead) (T.set m (es.length+1))).blks[h.blks.length+jb]?=some (.cells cs):=by
   simp only [AH.ext];rw [ui (by omega),uq,uK l];exact i
  have s:=a.sig _ _ n;have y:=A.putObj (k':=.cells cs') s I (by simp) rfl rfl rfl rfl (λ_ _=>rfl) ⟨us,t,D,VA.mk (f.sound a z u.toVL) (f.ones u.ones)⟩;have E:(h.ext (B.set j .dead) (T.set m (es.length+1))).put (h.blks.length+jb) (.cells cs')=h.ext ((B.set j .dead).set jb (.cells cs')) (T.set m (es.length+1)):=by
   simp only [AH.ext,AH.put,AH.mk.injEq,tW];rw [uO _ _ (by omega),uq]
  rw [E] at y;exact ⟨g',a,y,J.sound a z C⟩
theorem zF {P : Program} {f : FuncId} {fn : Func} {c : Code} (hf : P.funcs[f]? = some fn) (hb : fn.body = some c) (hname : (fn.name == "runtime.NumGoroutine") = false) {args : List AV} {h : AH} {K : AV → AH → Prop} {env : List AV}
  (he:args++List.replicate (fn.ntmps - args.length) aundef=env) (hw:qb P c (bodyQ P fn h K) env h):Spec P f args h K:=spec_of_body hf hb hname (by rw [he];exact hw)
theorem fin_extR {h:AH} {B0 B L:List Blk} {T0 T M:List Nat} {K:AV->AH->Prop} {v v':AV} (a:B0++L=B) (d:T0++M=T) (c:leV v v') (b:v'.low (h.ext B0 T0).blks.length (h.ext B0 T0).toks.length=true) (e:K v' (h.ext B0 T0)):finK (h.ext B0 T0) K v (h.ext B T):=by
 subst a d;rw [<- zQ];exact wu c b e
theorem xj {h0 h:AH} {K:AV->AH->Prop} {v:AV} (a:K v h):finK h0 K v h:=vz (wk.refl _ _ _) a
theorem fin_row0 {h:AH} {K:AV->AH->Prop} {k:Nat} (a:K (.rsl h.blks.length h.toks.length k 0) (h.ext [.row h.toks.length k []] [0])):finK h K (.osl none k []) (h.ext [] []) :=
 vz (swk_thaw (env:=[.osl none k []]) (d:=0) rfl rfl rfl rfl rfl rfl).wk a
theorem row_read {P:Program} {f:FuncId} {c:List AV} {h:AH} {B1 B:List Blk} {T1 T:List Nat} {b:Blk} {n:Nat} {v:AV} (s:Spec P f c ((h.ext B1 T1).ext [b] [n]) (λa hh=>a=v/\hh=(h.ext B1 T1).ext [b] [n])) (d:B1++[b]=B) (e:T1++[n]=T) :
  Spec P f c (h.ext B T) (λa hh=>a=v/\hh=h.ext B T):=by
 subst d e;rw [zQ] at s;exact s
def TurnK (h:AH) (bl tl k m:Nat) (R:List (List AV)) (rr:AV) (hh:AH):Prop:=rr=.rsl (bl+1) (tl+1) k m/\∃n0,hh=h.ext [.dead,.row (tl+1) k R] [n0,m]
theorem ops_turn {P:Program} {c:Array Oper} {Q:List AV->AH->Prop} {o:Oper} {rest:List Oper} {env a:List AV} {h:AH} {B1 B B':List Blk} {T1 T:List Nat} {f:FuncId} {args:List AV} {b:Blk} {n j i k m:Nat} {R:List (List AV)} (u:aG c o env=some true) (l:zw P o env (h.ext B T)=.call f args)
  (hs:Spec P f args ((h.ext B1 T1).ext [b] [n]) (TurnK (h.ext B1 T1) (h.blks.length+j) (h.toks.length+i) k m R)) (q:B1++[b]=B) (s:T1++[n]=T)
  (hd:vZ o.dst env (.rsl (h.blks.length+(j+1)) (h.toks.length+(i+1)) k m)=some a) (d:B1++[.dead,.row (h.toks.length+(i+1)) k R]=B') (t:∀e,zH P c Q rest a (h.ext B' (T1++[e,m]))):zH P c Q (o::rest) env (h.ext B T):=by
 subst q s d;rw [zQ] at hs;refine ops_call u l hs λr w ⟨g,e,p⟩=>?_;subst g;subst p;rw [zQ];rw [xG (v:=.rsl (h.blks.length+j+1) (h.toks.length+i+1) k m) (by rw [tM,tM];exact hd)];have:=t e;rw [<- tM] at this;exact this
theorem fin_turn0 {h0 h:AH} {K:AV->AH->Prop} {α:Type} {row:α->List AV} {L:List α} {k:Nat} (t:K (.rsl (h.blks.length+1) (h.toks.length+1) k L.length) (h.ext [.dead,.row (h.toks.length+1) k (L.map row)] [L.length+1,L.length])) :
  finK h0 K (.rsl (h.blks.length+0) (h.toks.length+0) k L.length) (h.ext [.row (h.toks.length+0) k (L.map row)] [L.length]):=by
 refine vz (swk.wk λB w0 w g vs r f=>?_) t;simp only [VL] at f;obtain ⟨v,s,rfl,j,rfl⟩:=f;have m:(h.ext [.row (h.toks.length+0) k (L.map row)] [L.length]).blk (h.blks.length+0)=some (.row (h.toks.length+0) k (L.map row)):=by rw [yA];rfl
 have d:=j;simp only [V] at d;obtain ⟨a,c,rfl,_⟩:=d;have b:(L.map row).length=L.length:=uz ..;obtain ⟨g',u,i,l⟩:=r.shrink (n:=L.length) (a':=a) m (by rw [b];exact uh _) (.inl rfl) (by rw [b];exact j);refine ⟨g',u,?_,VL.cons ?_ (by simp [VL])⟩
 ·have e:(h.ext [.row (h.toks.length+0) k (L.map row)] [L.length]).shr (h.blks.length+0) (h.toks.length+0) k L.length (L.map row)=h.ext [.dead,.row (h.toks.length+1) k (L.map row)] [L.length+1,L.length]:=by
   simp only [AH.shr,AH.ext,AH.put,AH.new,b,AH.mk.injEq,uo,rF,sA];refine ⟨?_,?_⟩
   ·rw [uO _ _ (uh _),rC,uM (by rw [b];exact uh _)];simp
   ·rw [uO _ _ (uh _),rC];simp
  rw [e] at i;exact i
 ·have p:(h.ext [Blk.row (h.toks.length+0) k (L.map row)] [L.length]).blks.length=h.blks.length+1:=by simp [AH.ext]
  have q:(h.ext [Blk.row (h.toks.length+0) k (L.map row)] [L.length]).toks.length=h.toks.length+1:=by simp [AH.ext]
  rw [p,q] at l;exact l
def NewK (h:AH) (k m:Nat) (R:List (List AV)) (rr:AV) (hh:AH):Prop:=rr=.rsl h.blks.length h.toks.length k m/\hh=h.ext [.row h.toks.length k R] [m]
theorem row_new {P:Program} {f:FuncId} {b:List AV} {h:AH} {B B':List Blk} {T T':List Nat} {k m j i:Nat} {R:List (List AV)} (s:Spec P f b (h.ext B T) (NewK (h.ext B T) k m R)) (d:B.length=j) (hi:T.length=i) (g:B++[.row (h.toks.length+i) k R]=B') (l:T++[m]=T') :
  Spec P f b (h.ext B T) (λe hh=>e=.rsl (h.blks.length+j) (h.toks.length+i) k m/\hh=h.ext B' T'):=by
 refine s.mono ?_
 rintro r n ⟨rfl,rfl⟩
 subst d hi g l;have c:(h.ext B T).blks.length=h.blks.length+B.length:=by simp [AH.ext]
 have a:(h.ext B T).toks.length=h.toks.length+T.length:=by simp [AH.ext]
 exact ⟨by rw [c,a],by rw [zQ,a]⟩
theorem clr_len {α:Type} {L:List α} {n m:Nat} {d:α} (h:L.length=n) (a:m<=n):(L.take m++List.replicate (n - m) d).length=n:=by
 simp;omega
section
variable {α:Type} {row:α->List AV} {L:List α} {k:Nat} {P:Program} {o:Oper} {env:List AV} {h:AH} {B B':List Blk} {T T':List Nat}
theorem e_sufR {t e:TypeId} {x y:Operand} {id q n:Nat} {b:IntKind} {z:Int} (l:o.op=.slice t x (some y) none none) (a:El P t e k) (c:yF env x=some (.rsl id q k n)) (g:yF env y=some (.int b z)) (m:0<=z/\z<=n) :
  vt P o env h=some [(.rsuf id q k n z.toNat,h)]:=by
 obtain ⟨p,d⟩:=zO c;obtain ⟨j,f⟩:=zO g;obtain ⟨i,hi,hs,_⟩:=a.i;simp only [vt,l,p,d,j,f,a.u,hi,hs,u5,ut];rw [up ⟨trivial,m.1,by omega⟩]
theorem e_clrR (b:∀x,(row x).length=k) {d:α} {t e:TypeId} {x:Operand} {c:Call} {i q n m:Nat} {z:List AV} (F:o.op=.call c) (H:c.callee=.builtin .clear) (D:c.args=#[x]) (g:c.argTypes=#[t]) (p:El P t e k) (I:xD P e=some z) (a:x5 z=some (row d))
  (y:yF env x=some (.rsuf (h.blks.length+i) q k n m)) (s:B[i]?=some (.row q k (L.map row))) (v:L.length=n) (J:m<=n) (E:B.set i (.row q k ((L.take m++List.replicate (n - m) d).map row))=B') :
  vt P o env (h.ext B T)=some [(.tup [],h.ext B' T)]:=by
 obtain ⟨C,A⟩:=zO y;obtain ⟨_,_,_,_,l,_⟩:=p.i;subst v E;have f:z.length=k:=by rw [<- clean_len a,b d]
 simp only [vt,F,H,D,g,C,A,ut,p.u,I,yA,s];rw [up ⟨⟨trivial,trivial,by simp⟩,f,l⟩,a];simp only [AH.clr,ext_put,uz];have w:yX (L.map row).flatten (m * k) (zsuf (row d) L.length m)=((L.take m++List.replicate (L.length - m) d).map row).flatten:=by
  have j:(zsuf (row d) L.length m).length=(L.length - m) * k:=by simp [zsuf,b d]
  unfold yX;rw [flat_take b,j,tI (by rw [flat_len b,<- tb];exact tw k (by omega))];simp [zsuf,List.map_replicate]
 rw [w];have r:=rows_map b (L.take m++List.replicate (L.length - m) d);have G:(L.take m++List.replicate (L.length - m) d).length=L.length:=by simp;omega
 rw [G] at r;rw [r]
theorem e_cutR {t e:TypeId} {x y:Operand} {i j n c t':Nat} {f:IntKind} {z:Int} {M:List α} (C:o.op=.slice t x none (some y) none) (d:El P t e k) (r:yF env x=some (.rsl (h.blks.length+i) (h.toks.length+j) k n)) (E:yF env y=some (.int f z))
  (g:B[i]?=some (.row (h.toks.length+j) k (L.map row))) (m:L.length=n) (q:slc L 0 z=some M) (b:B.length=c) (a:T.length=t') (w:B.set i .dead++[.row (h.toks.length+t') k (M.map row)]=B') (D:T.set j (n+1)++[M.length]=T') :
  vt P o env (h.ext B T)=some [(.rsl (h.blks.length+c) (h.toks.length+t') k M.length,h.ext B' T')]:=by
 obtain ⟨F,s⟩:=zO r;obtain ⟨A,v⟩:=zO E;obtain ⟨G,hi,hs,_⟩:=d.i;obtain ⟨⟨H,l,I⟩,rfl⟩:=slcF q;subst m b a w D;simp only [vt,C,F,s,A,v,d.u,hi,u5,ut,yA,g];rw [up ⟨⟨trivial,trivial,by simp⟩,l,by omega⟩];have p:((L.take z.toNat).drop (0:Int).toNat).length=z.toNat:=by simp;omega
 have hd:(L.take z.toNat).drop (0:Int).toNat=L.take z.toNat:=rfl;rw [p,hd];simp only [AH.shr,AH.ext,AH.put,AH.new,uo,un,s9,tG,AH.mk.injEq,tW,uz,pV];refine ⟨trivial,?_,?_⟩
 ·rw [uO _ _ (by omega),uq];simp
 ·rw [uO _ _ (by omega),uq];simp
theorem wv {n:Int} {y:α} (h:yu L n=some y):0<=n/\n < L.length/\L[n.toNat]?=some y:=by
 unfold yu at h;split at h
 ·rename_i h0;exact ⟨h0,by have:=(uc.1 h).1;omega,h⟩
 ·cases h
theorem xf {z:Int} {n:Nat} {y:α} (h:yu L z=some y) (b:L.length=n):0<=z/\z < n:=by
 obtain ⟨a,c,_⟩:=wv h;exact ⟨a,by omega⟩
end
def insO {α:Type} (xs:List α) (z:Int) (M:List α):Option (List α):=if (0<=z/\z<=xs.length)/\0 < M.length/\xs.length+M.length<=yK then some (xs.take z.toNat++(M++xs.drop z.toNat)) else none
end Go.Vv
