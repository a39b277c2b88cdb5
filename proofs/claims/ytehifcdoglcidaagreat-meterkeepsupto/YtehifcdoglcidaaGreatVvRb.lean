/- Mutable rows whose headers stand in boxed variables, too: how they become unchanging slices. -/
import Derived.Test.YtehifcdoglcidaaGreatVvRo
import Derived.Test.YtehifcdoglcidaaGreatVvMl
namespace Go.Vv
open Go Go.RowKit

theorem FzL.ones {i k:Nat} {es:List (List AV)}:∀{xs bs:List AV},FzL i k es xs bs->xs.all AV.one=true->bs.all AV.one=true
 | _,_,.refl _,h=>h
 | _,_,.cons x y,h=>by
  simp only [List.all_cons,Bool.and_eq_true] at h ⊢;refine ⟨?_,y.ones h.2⟩;cases x with
  | same=>exact h.1
  | hit=>rfl
  | hit2=>rfl
  | agg=>simp [AV.one] at h
  | tup=>simp [AV.one] at h
theorem swk_freezeB {h:AH} {env b:List AV} {B B':List Blk} {T T':List Nat} {j jb m k:Nat} {es:List (List AV)} {cs cs':List AV} (y:B[j]?=some (.row (h.toks.length+m) k es)) (F:FzL (h.toks.length+m) k es env b)
  (i:B[jb]?=some (.cells cs)) (f:FzL (h.toks.length+m) k es cs cs') (G:(B.set j .dead).set jb (.cells cs')=B') (D:T.set m (es.length+1)=T'):swk env (h.ext B T) b (h.ext B' T'):=λ_ _ w g vs r C=>by
 subst G D;have s:(h.ext B T).blks[h.blks.length+j]?=some (.row (h.toks.length+m) k es):=by
  simp only [AH.ext];rw [List.getElem?_append_right (by omega),Nat.add_sub_cancel_left];exact y
 have d:(h.ext B T).blks[h.blks.length+jb]?=some (.cells cs):=by
  simp only [AH.ext];rw [List.getElem?_append_right (by omega),Nat.add_sub_cancel_left];exact i
 have p:j ≠ jb:=by rintro rfl;rw [y] at i;cases i
 obtain ⟨g',a,v,E,z⟩:=r.freeze s;have e:({ (h.ext B T).put (h.blks.length+j) .dead with toks:=(h.ext B T).toks.set (h.toks.length+m) (es.length+1) }:AH)=h.ext (B.set j .dead) (T.set m (es.length+1)):=by
  simp only [AH.ext,AH.put,AH.mk.injEq];exact ⟨by rw [List.set_append_right _ _ (by omega),Nat.add_sub_cancel_left],by rw [List.set_append_right _ _ (by omega),Nat.add_sub_cancel_left]⟩
 rw [e] at v;have q:h.blks.length+jb < g.σ.length:=by rw [r.slen];exact (List.getElem?_eq_some_iff.1 d).1
 obtain ⟨x,l⟩:∃x,g.σ[h.blks.length+jb]?=some x:=⟨_,List.getElem?_eq_getElem q⟩
 cases x with
 | none=>exact (r.row _ _ l d).elim
 | some c =>
  obtain ⟨_,_,⟨us,t,H,u⟩,_⟩:=r.blk _ c _ l d;have I:(h.ext (B.set j .dead) (T.set m (es.length+1))).blks[h.blks.length+jb]?=some (.cells cs):=by
   simp only [AH.ext];rw [List.getElem?_append_right (by omega),Nat.add_sub_cancel_left,List.getElem?_set_ne p];exact i
  have n:=a.sig _ _ l;have A:=v.putObj (k':=.cells cs') n I (by simp) rfl rfl rfl rfl (λ_ _=>rfl) ⟨us,t,H,VA.mk (f.sound a z u.toVL) (f.ones u.ones)⟩;have J:(h.ext (B.set j .dead) (T.set m (es.length+1))).put (h.blks.length+jb) (.cells cs')=h.ext ((B.set j .dead).set jb (.cells cs')) (T.set m (es.length+1)):=by
   simp only [AH.ext,AH.put,AH.mk.injEq,and_true];rw [List.set_append_right _ _ (by omega),Nat.add_sub_cancel_left]
  rw [J] at A;exact ⟨g',a,A,F.sound a z C⟩
theorem zK {P : Program} {f : FuncId} {fn : Func} {c : Code} (hf : P.funcs[f]? = some fn) (hb : fn.body = some c) (hname : (fn.name == "runtime.NumGoroutine") = false) {args : List AV} {h : AH} {K : AV → AH → Prop} {env : List AV}
  (he:args++List.replicate (fn.ntmps - args.length) aundef=env) (hw:vt P c (bodyQ P fn h K) env h):Spec P f args h K:=spec_of_body hf hb hname (by rw [he];exact hw)
theorem fin_extR {h:AH} {B0 B L:List Blk} {T0 T M:List Nat} {K:AV->AH->Prop} {v a:AV} (c:B0++L=B) (f:T0++M=T) (d:leV v a) (e:a.low (h.ext B0 T0).blks.length (h.ext B0 T0).toks.length=true) (b:K a (h.ext B0 T0)):finK (h.ext B0 T0) K v (h.ext B T):=by
 subst c f;rw [<- yM];exact xQ d e b
theorem fin_at {h0 h:AH} {K:AV->AH->Prop} {v:AV} (a:K v h):finK h0 K v h:=wV (wk.refl _ _ _) a
theorem fin_row0 {h:AH} {K:AV->AH->Prop} {k:Nat} (a:K (.rsl h.blks.length h.toks.length k 0) (h.ext [.row h.toks.length k []] [0])):finK h K (.osl none k []) (h.ext [] []) :=
 wV (swk_thaw (env:=[.osl none k []]) (d:=0) rfl rfl rfl rfl rfl rfl).wk a
theorem row_read {P:Program} {f:FuncId} {c:List AV} {h:AH} {B1 B:List Blk} {T1 T:List Nat} {b:Blk} {n:Nat} {v:AV} (s:Spec P f c ((h.ext B1 T1).ext [b] [n]) (λa hh=>a=v/\hh=(h.ext B1 T1).ext [b] [n])) (d:B1++[b]=B) (e:T1++[n]=T) :
  Spec P f c (h.ext B T) (λa hh=>a=v/\hh=h.ext B T):=by
 subst d e;rw [yM] at s;exact s
def TurnK (h:AH) (bl tl k m:Nat) (R:List (List AV)) (rr:AV) (hh:AH):Prop:=rr=.rsl (bl+1) (tl+1) k m/\∃n0,hh=h.ext [.dead,.row (tl+1) k R] [n0,m]
theorem ops_turn {P:Program} {c:Array Oper} {Q:List AV->AH->Prop} {o:Oper} {rest:List Oper} {env a:List AV} {h:AH} {B1 B B':List Blk} {T1 T:List Nat} {f:FuncId} {args:List AV} {b:Blk} {n j i k m:Nat} {R:List (List AV)} (q:aG c o env=some true) (u:zo P o env (h.ext B T)=.call f args)
  (hs:Spec P f args ((h.ext B1 T1).ext [b] [n]) (TurnK (h.ext B1 T1) (h.blks.length+j) (h.toks.length+i) k m R)) (l:B1++[b]=B) (g:T1++[n]=T)
  (hd:vq o.dst env (.rsl (h.blks.length+(j+1)) (h.toks.length+(i+1)) k m)=some a) (d:B1++[.dead,.row (h.toks.length+(i+1)) k R]=B') (s:∀e,zy P c Q rest a (h.ext B' (T1++[e,m]))):zy P c Q (o::rest) env (h.ext B T):=by
 subst l g d;rw [yM] at hs;refine ops_call q u hs λr w ⟨p,e,t⟩=>?_;subst p;subst t;rw [yM];rw [xh (v:=.rsl (h.blks.length+j+1) (h.toks.length+i+1) k m) (by rw [Nat.add_assoc,Nat.add_assoc];exact hd)];have:=s e;rw [<- Nat.add_assoc] at this;exact this
theorem fin_turn0 {h0 h:AH} {K:AV->AH->Prop} {α:Type} {row:α->List AV} {L:List α} {k:Nat} (t:K (.rsl (h.blks.length+1) (h.toks.length+1) k L.length) (h.ext [.dead,.row (h.toks.length+1) k (L.map row)] [L.length+1,L.length])) :
  finK h0 K (.rsl (h.blks.length+0) (h.toks.length+0) k L.length) (h.ext [.row (h.toks.length+0) k (L.map row)] [L.length]):=by
 refine wV (swk.wk λB w0 w g vs r f=>?_) t;simp only [VL] at f;obtain ⟨v,s,rfl,j,rfl⟩:=f;have q:(h.ext [.row (h.toks.length+0) k (L.map row)] [L.length]).blk (h.blks.length+0)=some (.row (h.toks.length+0) k (L.map row)):=by rw [zZ];rfl
 have d:=j;simp only [V] at d;obtain ⟨a,c,rfl,_⟩:=d;have b:(L.map row).length=L.length:=List.length_map ..;obtain ⟨g',m,l,i⟩:=r.shrink (n:=L.length) (a':=a) q (by rw [b];exact Nat.le_refl _) (.inl rfl) (by rw [b];exact j);refine ⟨g',m,?_,VL.cons ?_ (by simp [VL])⟩
 ·have e:(h.ext [.row (h.toks.length+0) k (L.map row)] [L.length]).shr (h.blks.length+0) (h.toks.length+0) k L.length (L.map row)=h.ext [.dead,.row (h.toks.length+1) k (L.map row)] [L.length+1,L.length]:=by
   simp only [AH.shr,AH.ext,AH.put,AH.new,b,AH.mk.injEq,List.length_append,List.length_singleton,Nat.add_zero];refine ⟨?_,?_⟩
   ·rw [List.set_append_right _ _ (Nat.le_refl _),Nat.sub_self,List.take_of_length_le (by rw [b];exact Nat.le_refl _)];simp
   ·rw [List.set_append_right _ _ (Nat.le_refl _),Nat.sub_self];simp
  rw [e] at l;exact l
 ·have p:(h.ext [Blk.row (h.toks.length+0) k (L.map row)] [L.length]).blks.length=h.blks.length+1:=by simp [AH.ext]
  have u:(h.ext [Blk.row (h.toks.length+0) k (L.map row)] [L.length]).toks.length=h.toks.length+1:=by simp [AH.ext]
  rw [p,u] at i;exact i
def NewK (h:AH) (k m:Nat) (R:List (List AV)) (rr:AV) (hh:AH):Prop:=rr=.rsl h.blks.length h.toks.length k m/\hh=h.ext [.row h.toks.length k R] [m]
theorem row_new {P:Program} {f:FuncId} {a:List AV} {h:AH} {B B':List Blk} {T T':List Nat} {k m j i:Nat} {R:List (List AV)} (s:Spec P f a (h.ext B T) (NewK (h.ext B T) k m R)) (d:B.length=j) (hi:T.length=i) (g:B++[.row (h.toks.length+i) k R]=B') (e:T++[m]=T') :
  Spec P f a (h.ext B T) (λc hh=>c=.rsl (h.blks.length+j) (h.toks.length+i) k m/\hh=h.ext B' T'):=by
 refine s.mono ?_
 rintro r n ⟨rfl,rfl⟩
 subst d hi g e;have l:(h.ext B T).blks.length=h.blks.length+B.length:=by simp [AH.ext]
 have b:(h.ext B T).toks.length=h.toks.length+T.length:=by simp [AH.ext]
 exact ⟨by rw [l,b],by rw [yM,b]⟩
theorem clr_len {α:Type} {L:List α} {n m:Nat} {d:α} (h:L.length=n) (a:m<=n):(L.take m++List.replicate (n - m) d).length=n:=by
 simp;omega
section
variable {α:Type} {row:α->List AV} {L:List α} {k:Nat} {P:Program} {o:Oper} {env:List AV} {h:AH} {B B':List Blk} {T T':List Nat}
theorem e_sufR {t e:TypeId} {x y:Operand} {id q n:Nat} {b:IntKind} {z:Int} (f:o.op=.slice t x (some y) none none) (a:El P t e k) (c:ye env x=some (.rsl id q k n)) (l:ye env y=some (.int b z)) (g:0<=z/\z<=n) :
  wI P o env h=some [(.rsuf id q k n z.toNat,h)]:=by
 obtain ⟨p,m⟩:=zD c;obtain ⟨d,j⟩:=zD l;obtain ⟨i,hi,hs,_⟩:=a.i;simp only [wI,f,p,m,d,j,a.u,hi,hs,Bool.and_self,if_true];rw [if_pos ⟨trivial,g.1,by omega⟩]
theorem e_clrR (a:∀x,(row x).length=k) {d:α} {t e:TypeId} {x:Operand} {c:Call} {i q n m:Nat} {z:List AV} (y:o.op=.call c) (G:c.callee=.builtin .clear) (H:c.args=#[x]) (g:c.argTypes=#[t]) (p:El P t e k) (A:xk P e=some z) (b:xD z=some (row d))
  (v:ye env x=some (.rsuf (h.blks.length+i) q k n m)) (E:B[i]?=some (.row q k (L.map row))) (s:L.length=n) (J:m<=n) (C:B.set i (.row q k ((L.take m++List.replicate (n - m) d).map row))=B') :
  wI P o env (h.ext B T)=some [(.tup [],h.ext B' T)]:=by
 obtain ⟨I,F⟩:=zD v;obtain ⟨_,_,_,_,f,_⟩:=p.i;subst s C;have j:z.length=k:=by rw [<- clean_len b,a d]
 simp only [wI,y,G,H,g,I,F,if_true,p.u,A,zZ,E];rw [if_pos ⟨⟨trivial,trivial,by simp⟩,j,f⟩,b];simp only [AH.clr,qg,List.length_map];have D:yy (L.map row).flatten (m * k) (zsuf (row d) L.length m)=((L.take m++List.replicate (L.length - m) d).map row).flatten:=by
  have l:(zsuf (row d) L.length m).length=(L.length - m) * k:=by simp [zsuf,a d]
  unfold yy;rw [flat_take a,l,List.drop_of_length_le (by rw [flat_len a,<- Nat.add_mul];exact Nat.mul_le_mul_right k (by omega))];simp [zsuf,List.map_replicate]
 rw [D];have r:=rows_map a (L.take m++List.replicate (L.length - m) d);have w:(L.take m++List.replicate (L.length - m) d).length=L.length:=by simp;omega
 rw [w] at r;rw [r]
theorem e_cutR {t e:TypeId} {x y:Operand} {i j n d t':Nat} {g:IntKind} {z:Int} {M:List α} (q:o.op=.slice t x none (some y) none) (c:El P t e k) (l:ye env x=some (.rsl (h.blks.length+i) (h.toks.length+j) k n)) (A:ye env y=some (.int g z))
  (w:B[i]?=some (.row (h.toks.length+j) k (L.map row))) (f:L.length=n) (C:slc L 0 z=some M) (b:B.length=d) (a:T.length=t') (r:B.set i .dead++[.row (h.toks.length+t') k (M.map row)]=B') (m:T.set j (n+1)++[M.length]=T') :
  wI P o env (h.ext B T)=some [(.rsl (h.blks.length+d) (h.toks.length+t') k M.length,h.ext B' T')]:=by
 obtain ⟨F,D⟩:=zD l;obtain ⟨p,v⟩:=zD A;obtain ⟨H,hi,hs,_⟩:=c.i;obtain ⟨⟨G,E,I⟩,rfl⟩:=slcF C;subst f b a r m;simp only [wI,q,F,D,p,v,c.u,hi,Bool.and_self,if_true,zZ,w];rw [if_pos ⟨⟨trivial,trivial,by simp⟩,E,by omega⟩];have s:((L.take z.toNat).drop (0:Int).toNat).length=z.toNat:=by simp;omega
 have hd:(L.take z.toNat).drop (0:Int).toNat=L.take z.toNat:=rfl;rw [s,hd];simp only [AH.shr,AH.ext,AH.put,AH.new,List.length_append,Option.some.injEq,List.cons.injEq,Prod.mk.injEq,AH.mk.injEq,and_true,List.length_map,List.map_take];refine ⟨trivial,?_,?_⟩
 ·rw [List.set_append_right _ _ (by omega),Nat.add_sub_cancel_left];simp
 ·rw [List.set_append_right _ _ (by omega),Nat.add_sub_cancel_left];simp
theorem idxR {n:Int} {y:α} (h:yi L n=some y):0<=n/\n < L.length/\L[n.toNat]?=some y:=by
 unfold yi at h;split at h
 ·rename_i h0;exact ⟨h0,by have:=(List.getElem?_eq_some_iff.1 h).1;omega,h⟩
 ·cases h
theorem qp {z:Int} {n:Nat} {y:α} (h:yi L z=some y) (c:L.length=n):0<=z/\z < n:=by
 obtain ⟨a,b,_⟩:=idxR h;exact ⟨a,by omega⟩
end
def insO {α:Type} (xs:List α) (z:Int) (M:List α):Option (List α):=if (0<=z/\z<=xs.length)/\0 < M.length/\xs.length+M.length<=yB then some (xs.take z.toNat++(M++xs.drop z.toNat)) else none
end Go.Vv
