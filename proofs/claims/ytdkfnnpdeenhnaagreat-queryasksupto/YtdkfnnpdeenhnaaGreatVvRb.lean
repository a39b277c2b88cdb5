/- Mutable rows whose headers stand in boxed variables, too: how they become unchanging slices. -/
import Derived.Test.YtdkfnnpdeenhnaaGreatVvRo
import Derived.Test.YtdkfnnpdeenhnaaGreatVvMl
namespace Go.Vv
open Go Go.RowKit

theorem FzL.ones {i k:Nat} {es:List (List AV)}:∀{xs bs:List AV},FzL i k es xs bs->xs.all AV.one=true->bs.all AV.one=true
 | _,_,.refl _,h=>h
 | _,_,.cons x y,h=>by
  simp only [List.all_cons,Bool.and_eq_true] at h ⊢;refine ⟨?_,y.ones h.2⟩;cases x with
  | same=>exact h.1
  | hit=>rfl
  | hit2=>rfl
  | agg=>simp [AV.one] at h
  | tup=>simp [AV.one] at h
theorem spec_of_body_R {P : Program} {f : FuncId} {fn : Func} {c : Code} (hf : P.funcs[f]? = some fn) (hb : fn.body = some c) (hname : (fn.name == "runtime.NumGoroutine") = false) {args : List AV} {h : AH} {K : AV → AH → Prop} {env : List AV}
  (he:args++List.replicate (fn.ntmps - args.length) aundef=env) (hw:wP P c (qY P fn h K) env h):Spec P f args h K:=spec_of_body hf hb hname (by rw [he];exact hw)
theorem fin_at {h0 h:AH} {K:AV->AH->Prop} {v:AV} (a:K v h):finK h0 K v h:=fin_wk (wk.refl _ _ _) a
def TurnK (h:AH) (bl tl k m:Nat) (R:List (List AV)) (rr:AV) (hh:AH):Prop:=rr=.rsl (bl+1) (tl+1) k m/\∃n0,hh=h.ext [.dead,.row (tl+1) k R] [n0,m]
theorem ops_turn {P:Program} {c:Array Oper} {Q:List AV->AH->Prop} {o:Oper} {rest:List Oper} {env a:List AV} {h:AH} {B1 B B':List Blk} {T1 T:List Nat} {f:FuncId} {args:List AV} {b:Blk} {n j i k m:Nat} {R:List (List AV)} (s:aG c o env=some true) (g:zn P o env (h.ext B T)=.call f args)
  (hs:Spec P f args ((h.ext B1 T1).ext [b] [n]) (TurnK (h.ext B1 T1) (h.blks.length+j) (h.toks.length+i) k m R)) (l:B1++[b]=B) (p:T1++[n]=T)
  (hd:xw o.dst env (.rsl (h.blks.length+(j+1)) (h.toks.length+(i+1)) k m)=some a) (e:B1++[.dead,.row (h.toks.length+(i+1)) k R]=B') (u:∀d,zp P c Q rest a (h.ext B' (T1++[d,m]))):zp P c Q (o::rest) env (h.ext B T):=by
 subst l p e;rw [qS] at hs;refine ops_call s g hs λr w ⟨t,d,q⟩=>?_;subst t;subst q;rw [qS];rw [yY (v:=.rsl (h.blks.length+j+1) (h.toks.length+i+1) k m) (by rw [Nat.add_assoc,Nat.add_assoc];exact hd)];have:=u d;rw [<- Nat.add_assoc] at this;exact this
theorem fin_turn0 {h0 h:AH} {K:AV->AH->Prop} {α:Type} {row:α->List AV} {L:List α} {k:Nat} (u:K (.rsl (h.blks.length+1) (h.toks.length+1) k L.length) (h.ext [.dead,.row (h.toks.length+1) k (L.map row)] [L.length+1,L.length])) :
  finK h0 K (.rsl (h.blks.length+0) (h.toks.length+0) k L.length) (h.ext [.row (h.toks.length+0) k (L.map row)] [L.length]):=by
 refine fin_wk (swk.wk λB w0 w g vs r i=>?_) u;simp only [VL] at i;obtain ⟨v,s,rfl,j,rfl⟩:=i;have m:(h.ext [.row (h.toks.length+0) k (L.map row)] [L.length]).blk (h.blks.length+0)=some (.row (h.toks.length+0) k (L.map row)):=by rw [zQ];rfl
 have d:=j;simp only [V] at d;obtain ⟨a,c,rfl,_⟩:=d;have b:(L.map row).length=L.length:=List.length_map ..;obtain ⟨g',q,l,f⟩:=r.shrink (n:=L.length) (a':=a) m (by rw [b];exact Nat.le_refl _) (.inl rfl) (by rw [b];exact j);refine ⟨g',q,?_,VL.cons ?_ (by simp [VL])⟩
 ·have e:(h.ext [.row (h.toks.length+0) k (L.map row)] [L.length]).shr (h.blks.length+0) (h.toks.length+0) k L.length (L.map row)=h.ext [.dead,.row (h.toks.length+1) k (L.map row)] [L.length+1,L.length]:=by
   simp only [AH.shr,AH.ext,AH.put,AH.new,b,AH.mk.injEq,List.length_append,List.length_singleton,Nat.add_zero];refine ⟨?_,?_⟩
   ·rw [List.set_append_right _ _ (Nat.le_refl _),Nat.sub_self,List.take_of_length_le (by rw [b];exact Nat.le_refl _)];simp
   ·rw [List.set_append_right _ _ (Nat.le_refl _),Nat.sub_self];simp
  rw [e] at l;exact l
 ·have t:(h.ext [Blk.row (h.toks.length+0) k (L.map row)] [L.length]).blks.length=h.blks.length+1:=by simp [AH.ext]
  have p:(h.ext [Blk.row (h.toks.length+0) k (L.map row)] [L.length]).toks.length=h.toks.length+1:=by simp [AH.ext]
  rw [t,p] at f;exact f
def NewK (h:AH) (k m:Nat) (R:List (List AV)) (rr:AV) (hh:AH):Prop:=rr=.rsl h.blks.length h.toks.length k m/\hh=h.ext [.row h.toks.length k R] [m]
theorem clr_len {α:Type} {L:List α} {n m:Nat} {d:α} (h:L.length=n) (a:m<=n):(L.take m++List.replicate (n - m) d).length=n:=by
 simp;omega
section
variable {α:Type} {row:α->List AV} {L:List α} {k:Nat} {P:Program} {o:Oper} {env:List AV} {h:AH} {B B':List Blk} {T T':List Nat}
theorem e_sufR {t e:TypeId} {x y:Operand} {id q n:Nat} {d:IntKind} {z:Int} (p:o.op=.slice t x (some y) none none) (a:El P t e k) (l:zU env x=some (.rsl id q k n)) (c:zU env y=some (.int d z)) (f:0<=z/\z<=n) :
  xC P o env h=some [(.rsuf id q k n z.toNat,h)]:=by
 obtain ⟨m,g⟩:=zw l;obtain ⟨b,j⟩:=zw c;obtain ⟨i,hi,hs,_⟩:=a.i;simp only [xC,p,m,g,b,j,a.u,hi,hs,Bool.and_self,if_true];rw [if_pos ⟨trivial,f.1,by omega⟩]
theorem e_clrR (b:∀x,(row x).length=k) {d:α} {t e:TypeId} {x:Operand} {c:Call} {i q n m:Nat} {z:List AV} (G:o.op=.call c) (I:c.callee=.builtin .clear) (v:c.args=#[x]) (l:c.argTypes=#[t]) (r:El P t e k) (y:xc P e=some z) (a:yA z=some (row d))
  (D:zU env x=some (.rsuf (h.blks.length+i) q k n m)) (s:B[i]?=some (.row q k (L.map row))) (E:L.length=n) (J:m<=n) (w:B.set i (.row q k ((L.take m++List.replicate (n - m) d).map row))=B') :
  xC P o env (h.ext B T)=some [(.tup [],h.ext B' T)]:=by
 obtain ⟨F,C⟩:=zw D;obtain ⟨_,_,_,_,g,_⟩:=r.i;subst E w;have f:z.length=k:=by rw [<- qf a,b d]
 simp only [xC,G,I,v,l,F,C,if_true,r.u,y,zQ,s];rw [if_pos ⟨⟨trivial,trivial,by simp⟩,f,g⟩,a];simp only [AH.clr,vz,List.length_map];have H:ye (L.map row).flatten (m * k) (zsuf (row d) L.length m)=((L.take m++List.replicate (L.length - m) d).map row).flatten:=by
  have j:(zsuf (row d) L.length m).length=(L.length - m) * k:=by simp [zsuf,b d]
  unfold ye;rw [flat_take b,j,List.drop_of_length_le (by rw [qy b,<- Nat.add_mul];exact Nat.mul_le_mul_right k (by omega))];simp [zsuf,List.map_replicate]
 rw [H];have p:=rows_map b (L.take m++List.replicate (L.length - m) d);have A:(L.take m++List.replicate (L.length - m) d).length=L.length:=by simp;omega
 rw [A] at p;rw [p]
theorem e_cutR {t e:TypeId} {x y:Operand} {i j n c t':Nat} {r:IntKind} {z:Int} {M:List α} (F:o.op=.slice t x none (some y) none) (d:El P t e k) (A:zU env x=some (.rsl (h.blks.length+i) (h.toks.length+j) k n)) (p:zU env y=some (.int r z))
  (f:B[i]?=some (.row (h.toks.length+j) k (L.map row))) (C:L.length=n) (g:slc L 0 z=some M) (b:B.length=c) (a:T.length=t') (m:B.set i .dead++[.row (h.toks.length+t') k (M.map row)]=B') (q:T.set j (n+1)++[M.length]=T') :
  xC P o env (h.ext B T)=some [(.rsl (h.blks.length+c) (h.toks.length+t') k M.length,h.ext B' T')]:=by
 obtain ⟨E,v⟩:=zw A;obtain ⟨l,w⟩:=zw p;obtain ⟨G,hi,hs,_⟩:=d.i;obtain ⟨⟨I,s,H⟩,rfl⟩:=slcF g;subst C b a m q;simp only [xC,F,E,v,l,w,d.u,hi,Bool.and_self,if_true,zQ,f];rw [if_pos ⟨⟨trivial,trivial,by simp⟩,s,by omega⟩];have D:((L.take z.toNat).drop (0:Int).toNat).length=z.toNat:=by simp;omega
 have hd:(L.take z.toNat).drop (0:Int).toNat=L.take z.toNat:=rfl;rw [D,hd];simp only [AH.shr,AH.ext,AH.put,AH.new,List.length_append,Option.some.injEq,List.cons.injEq,Prod.mk.injEq,AH.mk.injEq,and_true,List.length_map,List.map_take];refine ⟨trivial,?_,?_⟩
 ·rw [List.set_append_right _ _ (by omega),Nat.add_sub_cancel_left];simp
 ·rw [List.set_append_right _ _ (by omega),Nat.add_sub_cancel_left];simp
theorem idxR {n:Int} {y:α} (h:yd L n=some y):0<=n/\n < L.length/\L[n.toNat]?=some y:=by
 unfold yd at h;split at h
 ·rename_i h0;exact ⟨h0,by have:=(List.getElem?_eq_some_iff.1 h).1;omega,h⟩
 ·cases h
theorem idxRn {z:Int} {n:Nat} {y:α} (h:yd L z=some y) (b:L.length=n):0<=z/\z < n:=by
 obtain ⟨a,c,_⟩:=idxR h;exact ⟨a,by omega⟩
end
def insO {α:Type} (xs:List α) (z:Int) (M:List α):Option (List α):=if (0<=z/\z<=xs.length)/\0 < M.length/\xs.length+M.length<=yg then some (xs.take z.toNat++(M++xs.drop z.toNat)) else none
end Go.Vv
