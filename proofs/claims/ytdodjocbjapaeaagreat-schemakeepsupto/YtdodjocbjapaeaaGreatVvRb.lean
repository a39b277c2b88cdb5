/- Mutable rows whose headers stand in boxed variables, too: how they become unchanging slices. -/
import Derived.Test.YtdodjocbjapaeaaGreatVvRo
import Derived.Test.YtdodjocbjapaeaaGreatVvMl
namespace Go.Vv
open Go Go.RowKit

theorem FzL.ones {i k:Nat} {es:List (List AV)}:∀ {xs bs:List AV},FzL i k es xs bs→xs.all AV.one=true→bs.all AV.one=true
 | _,_,.refl _,h=>h
 | _,_,.cons x y,h=>by
  simp only [List.all_cons,Bool.and_eq_true] at h ⊢;refine ⟨?_,y.ones h.2⟩;cases x with
  | same=>exact h.1
  | hit=>rfl
  | hit2=>rfl
  | agg=>simp [AV.one] at h
  | tup=>simp [AV.one] at h
theorem vP {h:AH} {env env':List AV} {B B':List Blk} {T T':List Nat} {j jb m k:Nat} {es:List (List AV)} {cs cs':List AV} (hb:B[j]?=some (.row (h.toks.length+m) k es)) (hz:FzL (h.toks.length+m) k es env env')
  (hc:B[jb]?=some (.cells cs)) (hz2:FzL (h.toks.length+m) k es cs cs') (hB:(B.set j .dead).set jb (.cells cs')=B') (hT:T.set m (es.length+1)=T'):swk env (h.ext B T) env' (h.ext B' T'):=fun _ _ w g vs r hv=>by
 subst hB hT;have hb':(h.ext B T).blks[h.blks.length+j]?=some (.row (h.toks.length+m) k es):=by
  simp only [AH.ext];rw [List.getElem?_append_right (by omega),Nat.add_sub_cancel_left];exact hb
 have hc':(h.ext B T).blks[h.blks.length+jb]?=some (.cells cs):=by
  simp only [AH.ext];rw [List.getElem?_append_right (by omega),Nat.add_sub_cancel_left];exact hc
 have hne:j ≠ jb:=by rintro rfl;rw [hb] at hc;cases hc
 obtain ⟨g',hle,r',hδ,hf⟩:=r.freeze hb';have e:({ (h.ext B T).put (h.blks.length+j) .dead with toks:=(h.ext B T).toks.set (h.toks.length+m) (es.length+1) }:AH)=h.ext (B.set j .dead) (T.set m (es.length+1)):=by
  simp only [AH.ext,AH.put,AH.mk.injEq];exact ⟨by rw [List.set_append_right _ _ (by omega),Nat.add_sub_cancel_left],by rw [List.set_append_right _ _ (by omega),Nat.add_sub_cancel_left]⟩
 rw [e] at r';have hsl:h.blks.length+jb < g.σ.length:=by rw [r.slen];exact (List.getElem?_eq_some_iff.1 hc').1
 obtain ⟨x,hx⟩:∃ x,g.σ[h.blks.length+jb]?=some x:=⟨_,List.getElem?_eq_getElem hsl⟩
 cases x with
 | none=>exact (r.row _ _ hx hc').elim
 | some c =>
  obtain ⟨_,_,⟨us,t,k1,k2⟩,_⟩:=r.blk _ c _ hx hc';have hk:(h.ext (B.set j .dead) (T.set m (es.length+1))).blks[h.blks.length+jb]?=some (.cells cs):=by
   simp only [AH.ext];rw [List.getElem?_append_right (by omega),Nat.add_sub_cancel_left,List.getElem?_set_ne hne];exact hc
  have hx':=hle.sig _ _ hx;have r2:=r'.putObj (k':=.cells cs') hx' hk (by simp) rfl rfl rfl rfl (fun _ _=>rfl) ⟨us,t,k1,VA.mk (hz2.sound hle hf k2.toVL) (hz2.ones k2.ones)⟩;have e2:(h.ext (B.set j .dead) (T.set m (es.length+1))).put (h.blks.length+jb) (.cells cs')=h.ext ((B.set j .dead).set jb (.cells cs')) (T.set m (es.length+1)):=by
   simp only [AH.ext,AH.put,AH.mk.injEq,and_true];rw [List.set_append_right _ _ (by omega),Nat.add_sub_cancel_left]
  rw [e2] at r2;exact ⟨g',hle,r2,hz.sound hle hf hv⟩
theorem yl {P : Program} {f : FuncId} {fn : Func} {c : Code} (hf : P.funcs[f]? = some fn) (hb : fn.body = some c) (hname : (fn.name == "runtime.NumGoroutine") = false) {args : List AV} {h : AH} {K : AV → AH → Prop} {env : List AV}
  (he:args++List.replicate (fn.ntmps - args.length) aundef=env) (hw:qd P c (bodyQ P fn h K) env h):Spec P f args h K:=spec_of_body hf hb hname (by rw [he];exact hw)
theorem fin_extR {h:AH} {B0 B L:List Blk} {T0 T M:List Nat} {K:AV→AH→Prop} {v v':AV} (hB:B0++L=B) (hT:T0++M=T) (hv:leV v v') (hl:v'.low (h.ext B0 T0).blks.length (h.ext B0 T0).toks.length=true) (hk:K v' (h.ext B0 T0)):finK (h.ext B0 T0) K v (h.ext B T):=by
 subst hB hT;rw [← yT];exact wr hv hl hk
theorem fin_at {h0 h:AH} {K:AV→AH→Prop} {v:AV} (hk:K v h):finK h0 K v h:=vj (wk.refl _ _ _) hk
theorem fin_row0 {h:AH} {K:AV→AH→Prop} {k:Nat} (hk:K (.rsl h.blks.length h.toks.length k 0) (h.ext [.row h.toks.length k []] [0])):finK h K (.osl none k []) (h.ext [] []) :=
 vj (swk_thaw (env:=[.osl none k []]) (d:=0) rfl rfl rfl rfl rfl rfl).wk hk
theorem row_read {P:Program} {f:FuncId} {as:List AV} {h:AH} {B1 B:List Blk} {T1 T:List Nat} {b:Blk} {n:Nat} {v:AV} (s:Spec P f as ((h.ext B1 T1).ext [b] [n]) (fun rr hh=>rr=v∧hh=(h.ext B1 T1).ext [b] [n])) (hB:B1++[b]=B) (hT:T1++[n]=T) :
  Spec P f as (h.ext B T) (fun rr hh=>rr=v∧hh=h.ext B T):=by
 subst hB hT;rw [yT] at s;exact s
def TurnK (h:AH) (bl tl k m:Nat) (R:List (List AV)) (rr:AV) (hh:AH):Prop:=rr=.rsl (bl+1) (tl+1) k m∧∃ n0,hh=h.ext [.dead,.row (tl+1) k R] [n0,m]
theorem ops_turn {P:Program} {ops:Array Oper} {Q:List AV→AH→Prop} {o:Oper} {rest:List Oper} {env env':List AV} {h:AH} {B1 B B':List Blk} {T1 T:List Nat} {f:FuncId} {args:List AV} {b:Blk} {n j i k m:Nat} {R:List (List AV)} (hg:aG ops o env=some true) (ha:zp P o env (h.ext B T)=.call f args)
  (hs:Spec P f args ((h.ext B1 T1).ext [b] [n]) (TurnK (h.ext B1 T1) (h.blks.length+j) (h.toks.length+i) k m R)) (hB:B1++[b]=B) (hT:T1++[n]=T)
  (hd:x9 o.dst env (.rsl (h.blks.length+(j+1)) (h.toks.length+(i+1)) k m)=some env') (hB':B1++[.dead,.row (h.toks.length+(i+1)) k R]=B') (hk:∀ n0,zB P ops Q rest env' (h.ext B' (T1++[n0,m]))):zB P ops Q (o::rest) env (h.ext B T):=by
 subst hB hT hB';rw [yT] at hs;refine ops_call hg ha hs fun r h' ⟨e1,n0,e2⟩=>?_;subst e1;subst e2;rw [yT];rw [y6 (v:=.rsl (h.blks.length+j+1) (h.toks.length+i+1) k m) (by rw [Nat.add_assoc,Nat.add_assoc];exact hd)];have:=hk n0;rw [← Nat.add_assoc] at this;exact this
theorem fin_turn0 {h0 h:AH} {K:AV→AH→Prop} {α:Type} {row:α→List AV} {L:List α} {k:Nat} (hk:K (.rsl (h.blks.length+1) (h.toks.length+1) k L.length) (h.ext [.dead,.row (h.toks.length+1) k (L.map row)] [L.length+1,L.length])) :
  finK h0 K (.rsl (h.blks.length+0) (h.toks.length+0) k L.length) (h.ext [.row (h.toks.length+0) k (L.map row)] [L.length]):=by
 refine vj (swk.wk fun B w0 w g vs r hv=>?_) hk;simp only [VL] at hv;obtain ⟨v,s,rfl,hV,rfl⟩:=hv;have hb:(h.ext [.row (h.toks.length+0) k (L.map row)] [L.length]).blk (h.blks.length+0)=some (.row (h.toks.length+0) k (L.map row)):=by rw [zX];rfl
 have hV2:=hV;simp only [V] at hV2;obtain ⟨a,c,rfl,_⟩:=hV2;have hlen:(L.map row).length=L.length:=List.length_map ..;obtain ⟨g',h1,h2,h3⟩:=r.shrink (n:=L.length) (a':=a) hb (by rw [hlen];exact Nat.le_refl _) (.inl rfl) (by rw [hlen];exact hV);refine ⟨g',h1,?_,VL.cons ?_ (by simp [VL])⟩
 ·have e:(h.ext [.row (h.toks.length+0) k (L.map row)] [L.length]).shr (h.blks.length+0) (h.toks.length+0) k L.length (L.map row)=h.ext [.dead,.row (h.toks.length+1) k (L.map row)] [L.length+1,L.length]:=by
   simp only [AH.shr,AH.ext,AH.put,AH.new,hlen,AH.mk.injEq,List.length_append,List.length_singleton,Nat.add_zero];refine ⟨?_,?_⟩
   ·rw [List.set_append_right _ _ (Nat.le_refl _),Nat.sub_self,List.take_of_length_le (by rw [hlen];exact Nat.le_refl _)];simp
   ·rw [List.set_append_right _ _ (Nat.le_refl _),Nat.sub_self];simp
  rw [e] at h2;exact h2
 ·have e1:(h.ext [Blk.row (h.toks.length+0) k (L.map row)] [L.length]).blks.length=h.blks.length+1:=by simp [AH.ext]
  have e2:(h.ext [Blk.row (h.toks.length+0) k (L.map row)] [L.length]).toks.length=h.toks.length+1:=by simp [AH.ext]
  rw [e1,e2] at h3;exact h3
def NewK (h:AH) (k m:Nat) (R:List (List AV)) (rr:AV) (hh:AH):Prop:=rr=.rsl h.blks.length h.toks.length k m∧hh=h.ext [.row h.toks.length k R] [m]
theorem row_new {P:Program} {f:FuncId} {as:List AV} {h:AH} {B B':List Blk} {T T':List Nat} {k m j i:Nat} {R:List (List AV)} (s:Spec P f as (h.ext B T) (NewK (h.ext B T) k m R)) (hj:B.length=j) (hi:T.length=i) (hB:B++[.row (h.toks.length+i) k R]=B') (hT:T++[m]=T') :
  Spec P f as (h.ext B T) (fun rr hh=>rr=.rsl (h.blks.length+j) (h.toks.length+i) k m∧hh=h.ext B' T'):=by
 refine s.mono ?_
 rintro r h' ⟨rfl,rfl⟩
 subst hj hi hB hT;have e1:(h.ext B T).blks.length=h.blks.length+B.length:=by simp [AH.ext]
 have e2:(h.ext B T).toks.length=h.toks.length+T.length:=by simp [AH.ext]
 exact ⟨by rw [e1,e2],by rw [yT,e2]⟩
theorem clr_len {α:Type} {L:List α} {n m:Nat} {d:α} (h:L.length=n) (hm:m≤n):(L.take m++List.replicate (n - m) d).length=n:=by
 simp;omega
section
variable {α:Type} {row:α→List AV} {L:List α} {k:Nat} {P:Program} {o:Oper} {env:List AV} {h:AH} {B B':List Blk} {T T':List Nat}
theorem e_sufR {t e:TypeId} {x y:Operand} {id q n:Nat} {kd:IntKind} {z:Int} (ho:o.op=.slice t x (some y) none none) (ht:El P t e k) (hx:z7 env x=some (.rsl id q k n)) (hy:z7 env y=some (.int kd z)) (hz:0≤z∧z≤n) :
  wI P o env h=some [(.rsuf id q k n z.toNat,h)]:=by
 obtain ⟨h1,h2⟩:=zN hx;obtain ⟨h3,h4⟩:=zN hy;obtain ⟨i,hi,hs,_⟩:=ht.i;simp only [wI,ho,h1,h2,h3,h4,ht.u,hi,hs,Bool.and_self,if_true];rw [if_pos ⟨trivial,hz.1,by omega⟩]
theorem e_clrR (hk:∀ x,(row x).length=k) {d:α} {t e:TypeId} {x:Operand} {c:Call} {i q n m:Nat} {z:List AV} (ho:o.op=.call c) (hc:c.callee=.builtin .clear) (ha:c.args=#[x]) (hty:c.argTypes=#[t]) (ht:El P t e k) (hz:xb P e=some z) (hcl:xr z=some (row d))
  (hx:z7 env x=some (.rsuf (h.blks.length+i) q k n m)) (hb:B[i]?=some (.row q k (L.map row))) (hn:L.length=n) (hm:m≤n) (hB:B.set i (.row q k ((L.take m++List.replicate (n - m) d).map row))=B') :
  wI P o env (h.ext B T)=some [(.tup [],h.ext B' T)]:=by
 obtain ⟨h1,h2⟩:=zN hx;obtain ⟨_,_,_,_,hk0,_⟩:=ht.i;subst hn hB;have hzl:z.length=k:=by rw [← clean_len hcl,hk d]
 simp only [wI,ho,hc,ha,hty,h1,h2,if_true,ht.u,hz,zX,hb];rw [if_pos ⟨⟨trivial,trivial,by simp⟩,hzl,hk0⟩,hcl];simp only [AH.clr,qx,List.length_map];have e1:yx (L.map row).flatten (m * k) (zsuf (row d) L.length m)=((L.take m++List.replicate (L.length - m) d).map row).flatten:=by
  have hzs:(zsuf (row d) L.length m).length=(L.length - m) * k:=by simp [zsuf,hk d]
  unfold yx;rw [flat_take hk,hzs,List.drop_of_length_le (by rw [flat_len hk,← Nat.add_mul];exact Nat.mul_le_mul_right k (by omega))];simp [zsuf,List.map_replicate]
 rw [e1];have e2:=rows_map hk (L.take m++List.replicate (L.length - m) d);have e3:(L.take m++List.replicate (L.length - m) d).length=L.length:=by simp;omega
 rw [e3] at e2;rw [e2]
theorem e_cutR {t e:TypeId} {x y:Operand} {i j n b' t':Nat} {kd:IntKind} {z:Int} {M:List α} (ho:o.op=.slice t x none (some y) none) (ht:El P t e k) (hx:z7 env x=some (.rsl (h.blks.length+i) (h.toks.length+j) k n)) (hy:z7 env y=some (.int kd z))
  (hb:B[i]?=some (.row (h.toks.length+j) k (L.map row))) (hn:L.length=n) (hM:slc L 0 z=some M) (hbl:B.length=b') (htl:T.length=t') (hB:B.set i .dead++[.row (h.toks.length+t') k (M.map row)]=B') (hT:T.set j (n+1)++[M.length]=T') :
  wI P o env (h.ext B T)=some [(.rsl (h.blks.length+b') (h.toks.length+t') k M.length,h.ext B' T')]:=by
 obtain ⟨h1,h2⟩:=zN hx;obtain ⟨h3,h4⟩:=zN hy;obtain ⟨ii,hi,hs,_⟩:=ht.i;obtain ⟨⟨h5,h6,h7⟩,rfl⟩:=slcF hM;subst hn hbl htl hB hT;simp only [wI,ho,h1,h2,h3,h4,ht.u,hi,Bool.and_self,if_true,zX,hb];rw [if_pos ⟨⟨trivial,trivial,by simp⟩,h6,by omega⟩];have hl:((L.take z.toNat).drop (0:Int).toNat).length=z.toNat:=by simp;omega
 have hd:(L.take z.toNat).drop (0:Int).toNat=L.take z.toNat:=rfl;rw [hl,hd];simp only [AH.shr,AH.ext,AH.put,AH.new,List.length_append,Option.some.injEq,List.cons.injEq,Prod.mk.injEq,AH.mk.injEq,and_true,List.length_map,List.map_take];refine ⟨trivial,?_,?_⟩
 ·rw [List.set_append_right _ _ (by omega),Nat.add_sub_cancel_left];simp
 ·rw [List.set_append_right _ _ (by omega),Nat.add_sub_cancel_left];simp
theorem idxR {n:Int} {y:α} (h:yo L n=some y):0≤n∧n < L.length∧L[n.toNat]?=some y:=by
 unfold yo at h;split at h
 ·rename_i h0;exact ⟨h0,by have:=(List.getElem?_eq_some_iff.1 h).1;omega,h⟩
 ·cases h
theorem vq {z:Int} {n:Nat} {y:α} (h:yo L z=some y) (hn:L.length=n):0≤z∧z < n:=by
 obtain ⟨h1,h2,_⟩:=idxR h;exact ⟨h1,by omega⟩
end
def insO {α:Type} (xs:List α) (z:Int) (M:List α):Option (List α):=if (0≤z∧z≤xs.length)∧0 < M.length∧xs.length+M.length≤yM then some (xs.take z.toNat++(M++xs.drop z.toNat)) else none
end Go.Vv
