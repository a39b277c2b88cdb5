/- Maps and boxes that are handed over by a pointer: read where they lie. -/
import Derived.Test.YtgobgfehoplnjaaGreatVvSs
import Derived.Test.YtgobgfehoplnjaaGreatVvMr
import Derived.Test.YtgobgfehoplnjaaGreatVvSh
import Derived.Test.YtgobgfehoplnjaaGreatVvPt
set_option linter.all false
namespace Go.Vv
open Go Go.RowKit
variable {Q:List AV->AH->Prop} {rest:List Oper} {env' args cs:List AV} {n:Nat} {α:Type} {f:FuncId} {body:Code} {seen:List Nat}
section
variable {K W:Type} {P:Program} {kt et t:TypeId} {kv:K->AV} {vv:W->AV} {eq:K->K->Bool} {d:W} {ops:Array Oper} {o:Oper} {env:List AV} {H:AH} {m:List (K×W)} {k:K} {id:Nat} {x y z:Operand}
theorem ziI {m:List (K×W)} (a:vP eq m k=false):zG eq d m k=d:=by
 induction m with
 | nil=>rfl
 | cons e r ih=>simp only [vP,ky] at a;simp only [zG,a.1,tx,lg];exact ih a.2
theorem m9 (b:o.op=.lookup t x y false) (j:P.underlying t=some (.map kt et)) (a:KQ P kt kv eq) (r:qV P et=some (vv d)) (q:yu env x=some (.map id)) (p:H.gZ id=some (.q7 (m.map (zZ kv vv)) 0)) (c:yu env y=some (kv k)) :
  zj P o env H=.ok (vv (zG eq d m k)) H:=by
 obtain ⟨i,e⟩:=zD q;obtain ⟨l,g⟩:=zD c;simp only [zj,b,i,e,l,g,j,lI,nv,pW,a.1,a.2,p,o8 a d k m 0,r];cases hm:vP eq m k with
 | true=>simp [tu,oo]
 | false=>simp [tu,oo,ziI hm]
theorem zd6 (b:o.op=.lookup t x y true) (j:P.underlying t=some (.map kt et)) (a:KQ P kt kv eq) (r:qV P et=some (vv d)) (q:yu env x=some (.map id)) (p:H.gZ id=some (.q7 (m.map (zZ kv vv)) 0)) (c:yu env y=some (kv k)) :
  zj P o env H=.ok (.fk [vv (zG eq d m k),.bool (vP eq m k)]) H:=by
 obtain ⟨i,e⟩:=zD q;obtain ⟨l,g⟩:=zD c;simp only [zj,b,i,e,l,g,j,lI,nv,pW,a.1,a.2,p,o8 a d k m 0,r];cases hm:vP eq m k with
 | true=>simp [tu,oo]
 | false=>simp [tu,oo,ziI hm]
theorem zq9 {c:Call} (e:o.op=.call c) (q:c.callee=.builtin .len) (g:c.args=#[x]) (a:c.argTypes=#[t]) (l:P.underlying t=some (.map kt et))
  (r:yu env x=some (.map id)) (p:H.gZ id=some (.q7 (m.map (zZ kv vv)) 0)):zj P o env H=.any λv b=>b=H/\v=.int .i64 m.length:=by
 obtain ⟨j,i⟩:=zD r;simp [zj,e,q,g,a,j,i,qW,l,p]
theorem zqE {b:Bool} (e:aG ops o env=some b) (g:b=true->zj P o env H=.any λv c=>c=H/\v=.int .i64 n) (hd:tq o.dst env (gv b (.int .i64 n))=some env') (a:zu P ops Q rest env' H) :
  zu P ops Q (o::rest) env H:=by
 cases b with
 | true =>
  refine vT ?_;simp only [e,cY,g rfl,cX]
  rintro v c ⟨rfl,rfl⟩
  rw [rE] at hd;rw [yT hd];exact a
 | false=>rw [pq] at hd;exact zbA e hd a
theorem znp {β X Y ρ:Type} {g:α->List AV} {e:β->List AV} {vA:α->AV} {vB:β->AV} {HA:α->X->AH} {HB:β->Y->AH} {s:α->Option ρ} {w:β->Option ρ} {c:α ⊕ β} {r:ρ}
  (v:Sum.elim s w c=some r) (D:aG ops o env=some true) (F:zj P o env H=.call f args) (hs:Spec P f args H λq hh=>(∃a u,c=.inl a/\q=vA a/\hh=HA a u) \/ ∃b u,c=.inr b/\q=vB b/\hh=HB b u)
  (j:∀a,tq o.dst env (vA a)=some (g a)) (p:∀b,tq o.dst env (vB b)=some (e b)) (i:∀a u,s a=some r->zu P ops Q rest (g a) (HA a u)) (l:∀b u,w b=some r->zu P ops Q rest (e b) (HB b u)):zu P ops Q (o::rest) env H:=by
 refine pj D F hs λq hh E=>?_;rcases E with ⟨a,u,rfl,rfl,rfl⟩ | ⟨b,u,rfl,rfl,rfl⟩
 ·rw [yT (j a)];exact i a u v
 ·rw [yT (p b)];exact l b u v
end
theorem ziv {P:Program} {Q:Exit->List AV->AH->Prop} {env E:List AV} {hd H:AH} {c:Operand} {i:Array Tmp} {assign:Code} {β:Type} {nb k:Nat} {first caps:List AV} (h:β->AH) (A:β->List q6) (T:β->List Nat) (b0:β) (R:β->Prop) {LA:List q6} {LT:List Nat}
  (G:wk hd env hd E (H.ext LA LT)) (s:∀b,(h b).zh.length=nb) (J:H=h b0) (F:LA=A b0) (D:LT=T b0) (I:∀b,(A b).length=k) (p:yl c=true) (v:yu E c=some (.fn (.func f) first caps)) (a:(s6 assign&&s6 body)=true)
  (hs:∀lp:LoopState->Option Code->q6,lp=(λst g=>.loop st g E i assign body)->Spec P f (first++[.dG (nb+k)]++caps) (ma h A T lp (b0,none)) λ_ hh=>∃b,R b/\hh=ma h A T lp (b,none))
  (w:∀b H1,R b->H1=(h b).ext (A b++[.dead]) (T b)->Q .normal E H1):wO P (.rangeFunc c i assign body) Q env hd:=by
 subst J F D;obtain ⟨_,u⟩:=zD v;simp only [tr] at a;refine ⟨p,a.1,a.2,E,_,G,?_⟩;rw [u];have r:((h b0).ext (A b0) (T b0)).zh.length=nb+k:=by simp [AH.ext,s,I]
 have q:=hs _ rfl;rw [r,zaV];refine q.mono λ_ hh e=>?_;obtain ⟨b,N,e⟩:=e;subst e;have l:(ma h A T (λst g=>.loop st g E i assign body) (b,none)).gZ (nb+k)=some (.loop (lst none) (lpe none) E i assign body):=by
  simp only [ma,AH.gZ,AH.ext,<- s b]
  simp_all
 have j:(ma h A T (λst g=>.loop st g E i assign body) (b,none)).put (nb+k) .dead=(h b).ext (A b++[.dead]) (T b):=by
  simp only [ma,<- s b,wU]
  simp_all
 refine ⟨_,_,_,_,_,_,l,by simp [lst],?_⟩;rw [j];exact w b _ N rfl
theorem ziw {P:Program} {env:List AV} {h:AH} {Q:Exit->List AV->AH->Prop} {m:List α} (U:List (Nat×AV)) (H:List Nat->List α->AH) {E:List AV} (s:cV env U=E) (h0:wk h env h E (H [] []))
  (hs:∀seen q,q.length=seen.length->(q++t6 m seen).Perm m->wO P body (tG (λenv' b=>∃i x,m[i]?=some x/\i ∉ seen/\wk (H seen q) env' b E (H (seen++[i]) (q++[x]))) Q) E (H seen q)) :
  wO P (.loop body) Q env h:=by
 refine zfX (σ:=List Nat×List α) (λp=>E) (λp=>H p.1 p.2) (λp=>p.2.length=p.1.length/\(p.2++t6 m p.1).Perm m) (λp=>(t6 m p.1).length) ([],[]) h0 ⟨rfl,by rw [zgk];exact gi _⟩ ?_
 rintro ⟨seen,q⟩ ⟨g,e⟩
 refine vr ?_ _ _ _ (hs seen q g e);intro x env' b c;cases x with
 | normal =>
  obtain ⟨i,x,r,j,l⟩:=c;have a:=pm r j;refine ⟨(seen++[i],q++[x]),⟨by simp [g],?_⟩,?_,l⟩
  ·rw [li];exact (List.Perm.append_left q a.symm).trans e
  ·have:=a.length_eq
   simp_all
 | _=>exact c
theorem zdv {K W:Type} {kv:K->AV} {vv:W->AV} {P:Program} {ops:Array Oper} {o:Oper} {env u:List AV} {h:AH} {nb:Nat} {L:List q6} {M:List Nat} {x:Operand} {m:List (K×W)} {id j:Nat} (S:h.zh.length=nb) (F:aG ops o env=some true) (J:o.op=.next x false)
  (N:yu env x=some (.ptr (nb+j) 0)) (R:L[j]?=some (.fB id m.length seen)) (E:(h.ext L M).gZ id=some (.q7 (m.map (zZ kv vv)) 0)) (e:tq o.dst env (.fk [.bool false])=some u)
  (g:∀i y,m[i]?=some y->i ∉ seen->∃s,tq o.dst env (.fk [.bool true,kv y.1,vv y.2])=some s/\zu P ops Q rest s (h.ext (L.set j (.fB id m.length (seen++[i]))) M))
  (w:t6 m seen=[]->zu P ops Q rest u (h.ext L M)):zu P ops Q (o::rest) env (h.ext L M):=by
 subst S;obtain ⟨G,D⟩:=zD N;have key:xE P o env (h.ext L M)=some (s7 (h.ext L M) (h.zh.length+j) id m.length seen (m.map (zZ kv vv))):=by
  simp [xE,J,G,D,zW,R,E]
 refine tS F ⟨_,key,λp a=>?_⟩;unfold s7 at a;have b:(m.map (zZ kv vv)).zipIdx=m.zipIdx.map λq=>(zZ kv vv q.1,q.2):=by
  rw [List.zipIdx_map];rfl
 rw [b,List.filter_map] at a;split at a
 ·rename_i c;simp only [lh] at a;subst a;have U:t6 m seen=[]:=by
   unfold t6;rw [iu] at c ⊢;exact c
  show zu P ops Q rest (ft env o.dst (.fk [.bool false])) (h.ext L M);rw [yT e]
  simp_all
 ·rename_i q r c;rw [<- c,ji,l4] at a;obtain ⟨⟨y,i⟩,v,rfl⟩:=a;rw [kL] at v;have hi:=jA.1 v.1;have l:i ∉ seen:=by simp_all
  obtain ⟨s,I,O⟩:=g i y hi l;show zu P ops Q rest (ft env o.dst (.fk [.bool true,kv y.1,vv y.2])) ((h.ext L M).put (h.zh.length+j) (.fB id m.length (seen++[i])));rw [yT I,wU];exact O
theorem zci {K W:Type} {kv:K->AV} {vv:W->AV} {P:Program} {ops:Array Oper} {o:Oper} {env:List AV} {h:AH} {nb:Nat} {L:List q6} {M:List Nat} {x:Operand} {m:List (K×W)} {id j i:Nat} {y:K×W} (q:h.zh.length=nb)
  (b:aG ops o env=some true) (e:o.op=.entry x) (l:yu env x=some (.ptr (nb+j) 0)) (p:L[j]?=some (.fB id m.length (seen++[i]))) (a:(h.ext L M).gZ id=some (.q7 (m.map (zZ kv vv)) 0)) (g:m[i]?=some y)
  (hd:tq o.dst env (.fk [kv y.1,vv y.2])=some env') (c:zu P ops Q rest env' (h.ext L M)):zu P ops Q (o::rest) env (h.ext L M):=by
 subst q;exact ny b e l p a g hd c
theorem zch {K W:Type} {kv:K->AV} {vv:W->AV} {P:Program} {ops:Array Oper} {o:Oper} {env:List AV} {h:AH} {nb:Nat} {L L':List q6} {M:List Nat} {t kt et:TypeId} {x:Operand} {id:Nat} {m:List (K×W)} (p:h.zh.length=nb) (c:aG ops o env=some true) (i:o.op=.range t x) (a:P.underlying t=some (.map kt et))
  (j:yu env x=some (.map id)) (b:(h.ext L M).gZ id=some (.q7 (m.map (zZ kv vv)) 0)) (l:L.length=n) (hd:tq o.dst env (.ptr (nb+n) 0)=some env') (g:L++[.fB id m.length []]=L') (e:zu P ops Q rest env' (h.ext L' M)):zu P ops Q (o::rest) env (h.ext L M):=by
 subst p;exact nx c i a j b l hd g e
theorem zi5 {h:AH} {K:AV->AH->Prop} {b:q6} {B:List q6} {T:List Nat} (g:b.low (h.zh.length+1) h.zs.length=true) (e:K (.map h.zh.length) (h.ext [b] [])):oR h K (.map (h.zh.length+0)) (h.ext (b::B) T):=by
 have a:wk (h.ext [] []) [.map (h.zh.length+0)] (h.ext (b::B) T) [.map (h.zh.length+0)] (h.ext [b] []):=zo3 (q:=1) (c:=0) (lX _) (oA _) (by simp [zA,AV.low]) rfl (by simp_all) rfl;rw [pN] at a;exact xZ a e
theorem rR {P:Program} {ops:Array Oper} {o:Oper} {env:List AV} {h:AH} {B:List q6} {T:List Nat} {R:α->Prop} {vf:α->AV} {L:α->List q6} {M:α->List Nat} {env':α->List AV} {B':α->List q6} {T':α->List Nat} (b:aG ops o env=some true) (g:zj P o env (h.ext B T)=.call f args)
  (hs:Spec P f args (h.ext B T) (λa hh=>∃p,R p/\a=vf p/\hh=(h.ext B T).ext (L p) (M p))) (i:∀p,B++L p=B' p) (c:∀p,T++M p=T' p) (hd:∀p,tq o.dst env (vf p)=some (env' p)) (j:∀p,R p->zu P ops Q rest (env' p) (h.ext (B' p) (T' p))):zu P ops Q (o::rest) env (h.ext B T):=by
 refine pj b g hs λa hh e=>?_;obtain ⟨p,l,rfl,rfl⟩:=e;rw [xG,yT (hd p),i,c]
 simp_all
theorem zmv {h:AH} {i:Nat} {b:q6} (a:h.gZ i=some b):i < h.zh.length:=yi a rfl
theorem zm1 {P:Program} {o:Oper} {env:List AV} {h:AH} {t e:TypeId} {k k':Nat} {d:TypeDesc} {x i:Operand} {q:IntKind} {m:Int} {L:List α} {row:α->List AV} {y:α} (a:zS L m=some y)
  (l:o.op=.index t x i) (b:Ty P t (.array n e) k) (u:Ty P e d k') (w:ye d=true) (p:yu env x=some (.agg cs)) (hi:yu env i=some (.int q m)) (I:cs=(L.map row).flatten) (D:∀z,z ∈ L->(row z).length=k') (E:L.length=n) :
  zj P o env h=.ok (.agg (row y)) h:=by
 obtain ⟨h0,a⟩:=zqP a;have F:m.toNat < L.length:=(tm.1 a).1;have key:∀(L:List α) (j:Nat),(∀z,z ∈ L->(row z).length=k')->L[j]?=some y->(((L.map row).flatten).drop (j * k')).take k'=row y:=by
  intro L
  induction L with
  | nil=>intro j _ h;simp at h
  | cons z r ih =>
   intro j g G;have c:=g z (by simp);cases j with
   | zero =>
    simp_all
   | succ j =>
    simp only [ld,lT];have s:(j+1) * k'=(row z).length+j * k':=by grind
    rw [s,jF,lZ (by omega),la,lC]
    simp_all
 refine zjK l b u p hi (v:=.agg (row y)) ?_ (zc rfl);simp only [o7];rw [lc ⟨h0,by omega⟩,w];simp only [zh5,nv]
 simp_all
theorem zqx {P:Program} {o:Oper} {env:List AV} {h g:AH} {L:List q6} {M:List Nat} {t:TypeId} {d:TypeDesc} {k id:Nat} {x y:Operand} {vs:List AV} {b a:AV} (p:o.op=.store t x y) (i:Ty P t d k) (r:yu env x=some (.ptr id 0)) (q:yu env y=some b)
  (j:w6 P t b=a) (s:a.cells?=some vs) (w:vs.length=k) (c:h.gZ id=some (.cells cs)) (u:cs.length=k) (l:h.put id (.cells vs)=g):zj P o env (h.ext L M)=.ok xo (g.ext L M):=by
 refine zes p i r q j ?_;subst l;have hi:id < h.zh.length:=(tm.1 c).1;have e:yI cs 0 vs=vs:=by
  unfold yI
  simp_all
 have v:(h.ext L M).put id (.cells vs)=(h.put id (.cells vs)).ext L M:=by
  simp only [AH.ext,AH.put]
  simp_all
 simp only [p7,s,zz c]
 simp_all
section
variable {P:Program} {o:Oper} {env:List AV} {h:AH} {A A' L B:List q6} {T T' M C:List Nat} {nb nt:Nat}
theorem zoU {row:α->List AV} {X Y:List α} (R:h.zh.length=nb) (g:h.zs.length=nt) {c:Call} {x y:Operand} {t u e D:TypeId} {k k' i j n:Nat} {a b q:AV} (F:o.op=.call c) (Z:c.callee=.builtin .append) (hs:c.args=#[x,y]) (r:c.argTypes=#[t,u]) (J:El P t e k)
  (l:El P u D k') (O:yu env x=some a) (I:yu env y=some b) (V:w6 P t a=.fm (nb+i) (nt+j) k n) (s:w6 P u b=q) (S:pI k q=some (Y.map row)) (G:X.length+Y.length<=lim)
  (hi:A[i]?=some (.row (nt+j) k (X.map row))) (p:X.length=n) (U:T[j]?=some n) (E:A.set i (.row (nt+j) k ((X++Y).map row))=A') (w:T.set j (X++Y).length=T') :
  zj P o env (((h.ext A T).ext L M).ext B C)=.ok (.fm (nb+i) (nt+j) k (X++Y).length) (((h.ext A' T').ext L M).ext B C):=by
 subst R g E w;have N:=(tm.1 hi).1;have v:=(tm.1 U).1;have:=zdV (P:=P) (h:=h) (B:=A++L++B) (T:=T++M++C) (B':=(A.set i (.row (h.zs.length+j) k ((X++Y).map row)))++L++B) (T':=(T.set j (X++Y).length)++M++C) F Z hs r J l O I V s S G
  (by grind) p (by grind)
  (by simp_all) (by simp_all)
 simp only [xG];omega
end
end Go.Vv
namespace Go.Vv
open Go
variable {c:Operand} {A:Code} {fn:Func} {R1:List (List AV)}
class SC (q:Prop) (S:outParam Prop):Prop where
 o:q->S
class dX (l:List AV):Prop where
 o:l.all AV.one=true
section
variable {l r:List AV} {k:Nat} {es:List (List AV)} {q:Option Nat}
instance:dX []:=⟨rfl⟩
instance {k:IntKind} {n:Int} [i:dX r]:dX (.int k n::r):=⟨by simp [AV.one,i.o]⟩
instance {n:List UInt8} [i:dX r]:dX (.str n::r):=⟨by simp [AV.one,i.o]⟩
instance {n:Bool} [i:dX r]:dX (.bool n::r):=⟨by simp [AV.one,i.o]⟩
instance [i:dX r]:dX (.sl k es::r):=⟨by simp [AV.one,i.o]⟩
instance [i:f9 l r] [j:dX r]:LEV (.agg l) (.agg r):=⟨.agg i.o j.o⟩
end
section
variable {a x n:Nat} {l r s:List Nat}
class bx (l:List Nat) (n x:Nat) (s:outParam (List Nat)):Prop where
 out:l.set n x=s
instance:bx (a::l) 0 x (x::l):=⟨rfl⟩
instance [i:bx l n x s]:bx (a::l) (n+1) x (a::s):=⟨by rw [<- i.out];rfl⟩
class cT (l r:List Nat) (s:outParam (List Nat)):Prop where
 out:l++r=s
instance:cT [] r r:=⟨rfl⟩
instance [i:cT l r s]:cT (a::l) r (a::s):=⟨by rw [<- i.out];rfl⟩
class bH (l:List Nat) (s:outParam (List Nat)):Prop where
 out:l=s
instance:bH [] []:=⟨rfl⟩
instance:bH (a::l) (a::l):=⟨rfl⟩
instance {g:List Nat} [i:bH l g] [j:cT g r s]:bH (l++r) s:=⟨by rw [i.out,j.out]⟩
instance {g:List Nat} [i:bH l g] [j:bx g n x s]:bH (l.set n x) s:=⟨by rw [i.out,j.out]⟩
class bz (l:List Nat) (n:outParam Nat):Prop where
 out:l.length=n
instance:bz [] 0:=⟨rfl⟩
instance [i:bz l n]:bz (a::l) (n+1):=⟨by simp [i.out]⟩
end
instance (priority:=low) {off i t k n p:Nat}:FA off (.fU i t k n p) (.fU i t k n (p+off)):=⟨rfl⟩
instance (priority:=high) {l g m s:List q6} {n:Nat} {b:q6} [i:dY l g] [C:ed m n] [j:cq g n b s]:dY (l.set m.length b) s:=⟨by rw [C.out,i.out,j.out]⟩
theorem kr {p:Prop} (h:p:=by kernel_rfl):p:=h
class cw (env:List AV) (r:List (Nat×Operand)) (l:outParam (List (Nat×AV))):Prop where
 o:nR env r=some l
class ct (P:Program) (d:TypeDesc) (l:List (Nat×AV)) (r:outParam (List (Nat×AV))):Prop where
 o:Fp P d l r
class fZ (env:List AV) (xs:List Operand) (ts:List TypeId) (l:outParam (List (TypeId×AV))):Prop where
 o:pH env xs ts=some l
class fT (P:Program) (l:List (TypeId×AV)) (r:outParam (List AV)):Prop where
 o:Fx P l r
section
variable {P:Program} {env vs:List AV} {i:Nat} {x:Operand} {v v':AV} {d:TypeDesc} {r:List (Nat×Operand)} {l s:List (Nat×AV)} {xs:List Operand} {ts:List TypeId} {t:TypeId} {m:List (TypeId×AV)}
instance:cw env [] []:=⟨zal⟩
instance [a:GT x env v] [b:cw env r l]:cw env ((i,x)::r) ((i,v)::l):=⟨zdt a.out b.o⟩
instance:ct P d [] []:=⟨.nil⟩
instance [a:co P (ziz d i) v v'] [b:ct P d l s]:ct P d ((i,v)::l) ((i,v')::s):=⟨.cons a.out b.o⟩
instance:fZ env [] [] []:=⟨vt⟩
instance [a:GT x env v] [b:fZ env xs ts m]:fZ env (x::xs) (t::ts) ((t,v)::m):=⟨xq a.out b.o⟩
instance:fT P [] []:=⟨.nil⟩
instance [a:co P t v v'] [b:fT P m vs]:fT P ((t,v)::m) (v'::vs):=⟨.cons a.out b.o⟩
end
theorem LE {p:Prop} (h:p:=by
 repeat' first
  | exact fd.nil
  | with_reducible apply fd.eq
  | with_reducible apply fd.drop
  | with_reducible apply fd.cons (g6.gW _ _ _)
  | refine fd.cons (g6.of_eq (oa (by omega) (by omega))) ?_
  | refine fd.cons (g6.of_eq rfl) ?_
  | refine fd.cons LEV.out ?_):p:=h
theorem LW {p:Prop} (h:p:=by simp [zA,AV.low]):p:=h
theorem LB {p:Prop} (h:p:=by simp [q6.low,zA,AV.low,zZ,AV.cy]):p:=h
theorem LWs {p:Prop} (h:p:=by simp [zA,AV.low, *];try omega):p:=h
theorem LBs {p:Prop} (h:p:=by simp [q6.low,zA,AV.low,zZ, *];try omega):p:=h
theorem LS {p:Prop} (h:p:=by simp):p:=h
theorem RE {p:Prop} (h:p:=by
 first
  | exact wk.le LE
  | exact wk.trans (wk.le LE) (yA LW rfl rfl LB)
  | exact yA LW rfl rfl LB
  | exact wk.trans (wk.le LE) (yA LWs rfl rfl LBs)
  | exact yA LWs rfl rfl LBs):p:=h
theorem LP {p:Prop} (h:p:=by
 first
  | exact ⟨_,by assumption,by assumption,RE⟩
  | exact ⟨_,by assumption,RE⟩):p:=h
theorem FX {p:Prop} (h:p:=by simp only [oS];try rfl):p:=h
theorem FK {p:Prop} (h:p:=by
 repeat' first
  | exact fY.nil
  | exact .inr (oJ trivial)
  | exact .inr (oJ ⟨rfl,trivial⟩)
  | exact .inr (oJ ⟨rfl,rfl,trivial⟩)
  | exact .inl (by kernel_rfl)
  | apply fY.cons):p:=h
theorem UE {p:Prop} (h:p:=by simp only [cV,zk,kf,kE];try rfl):p:=h
theorem LV {p:Prop} (h:p:=by
 repeat' first
  | exact fd.nil
  | exact g6.gW _ _ _
  | refine g6.agg ?_ rfl
  | apply g6.fk
  | with_reducible apply fd.eq
  | apply fd.cons
  | exact g6.refl _):p:=h
theorem FE {p:Prop} (h:p:=by
 first
  | exact fz rfl rfl
  | exact fe rfl rfl LEV.out
  | exact fe rfl rfl LV
  | exact fr rfl (zqh ⟨rfl,rfl⟩)
  | exact fr rfl (znW ⟨rfl,rfl⟩)
  | exact fr rfl (zdS ⟨rfl,rfl⟩)
  | exact fr rfl (zdS ⟨rfl,(),rfl⟩)
  | exact fr rfl (zdS ⟨rfl,_,rfl⟩)
  | exact fr rfl (xZ (yA LW rfl rfl LB) ⟨rfl,(),rfl⟩)
  | exact fr rfl (xZ (yA LW rfl rfl LB) ⟨rfl,rfl⟩)
  | exact fr rfl (tP (rD (j:=0) (i:=0) rfl LS) ⟨FX,FX⟩)
  | exact fr rfl (znV ⟨rfl,rfl⟩)):p:=h
theorem Z {p:Prop} (h:p:=by cases a;exact FE):p:=h
theorem ZL {p:Prop} (h:p:=by cases a;exact LP):p:=h
section
variable {P:Program} {ops:Array Oper} {Q:List AV->AH->Prop} {QS:Exit->List AV->AH->Prop} {rest l:List Oper} {env env':List AV} {h h':AH} {d:Option Tmp} {op:Op} {t:TypeId} {p:String} {a:Array Edge} {v w:AV} {G G2:Prop} {Ns:List Nat} {F:Nat->AH->Prop} {i j n:Nat} {f:FuncId} {args:List AV} {want b:Bool}
theorem zO (g:zj P ⟨d,op,t,p,a,none⟩ env h=.ok v h') [C:ST d env v env'] [D:R (zu P ops Q rest env' h') G] (E:G):zu P ops Q (⟨d,op,t,p,a,none⟩::rest) env h:=zy rfl g C.out (D.r E)
theorem nZ (g:xE P ⟨d,op,t,p,a,none⟩ env h=some [(v,h')]) [C:ST d env v env'] [D:R (zu P ops Q rest env' h') G] (E:G):zu P ops Q (⟨d,op,t,p,a,none⟩::rest) env h:=ztF rfl g C.out (D.r E)
theorem wo (D:zj P ⟨d,op,t,p,a,none⟩ env h=.ok v h) [g:NC Ns i] [E:ST d env v env'] [H:R (zI P ops Ns F Q (i+1) rest env' h) G] (C:G):zI P ops Ns F Q i (⟨d,op,t,p,a,none⟩::rest) env h:=yn g.out rfl D E.out (H.r C)
theorem dH (D:zj P ⟨d,op,t,p,a,none⟩ env h=.ok v h') [g:NC Ns i] [E:ST d env v env'] [H:R (zI P ops Ns F Q (i+1) rest env' h') G] (C:G) (I:h'.zh=h.zh:=by rfl) (J:fY ((Region.before ops).getD i 0) Ns F h':=by exact FK):zI P ops Ns F Q i (⟨d,op,t,p,a,none⟩::rest) env h:=zn0 g.out J I rfl D E.out (H.r C)
theorem ur (D:zj P ⟨d,op,t,p,a,none⟩ env h=.ok v h') [g:NC Ns i] [E:ST d env v env'] [H:R (zI P ops Ns F Q (i+1) rest env' h') G] (C:G) (I:zqI ops Ns i=true:=by kernel_rfl) (J:fY ((Region.before ops).getD i 0) Ns F h':=by exact FK):zI P ops Ns F Q i (⟨d,op,t,p,a,none⟩::rest) env h:=uA g.out J I rfl D E.out (H.r C)
theorem e6 (hs:Spec P f args h λr hh=>r=v/\hh=h') {xs:List Operand} {ts:List TypeId} [E:dF P env true xs ts args] [C:ST d env v env'] [D:R (zu P ops Q rest env' h') G] (g:G):zu P ops Q (⟨d,.call ⟨.value (.func f),List.toArray xs,List.toArray ts⟩,t,p,a,none⟩::rest) env h:=zam rfl (sc rfl) hs C.out (D.r g)
theorem aP {xs:List Operand} {ts:List TypeId} (hs:∀g,F i g->Spec P f args g λr hh=>r=v/\hh=g) [I:dF P env true xs ts args] [D:ST d env v env'] [E:R (zI P ops Ns F Q (i+1) rest env' h) G] (C:G) (H:Ns.contains i=true:=by rfl):zI P ops Ns F Q i (⟨d,.call ⟨.value (.func f),List.toArray xs,List.toArray ts⟩,t,p,a,none⟩::rest) env h:=yH H rfl (λ_=>sc rfl) hs D.out (E.r C)
variable {α ρ:Type} {o:Option α} {k:α->Option ρ} {r:ρ}
theorem cF {B:Code} {X Y:Option ρ} (I:(if b=true then X else Y)=some r) [g:GT c env (.bool b)] [E:R (wO P A QS env h) G] [D:R (wO P B QS env h) G2] (H:b=true->X=some r->G) (C:b=false->Y=some r->G2):wO P (.cond c A B) QS env h :=
 tB g.out I (λx y=>E.r (H x y)) λx y=>D.r (C x y)
theorem c1 {B:Code} [g:GT c env (.bool true)] [C:R (wO P A QS env h) G] (D:G):wO P (.cond c A B) QS env h:=pZ g.out (λ_=>C.r D) λx=>by cases x
theorem c0 {B:Code} [g:GT c env (.bool false)] [C:R (wO P B QS env h) G] (D:G):wO P (.cond c A B) QS env h:=pZ g.out (λx=>by cases x) λ_=>C.r D
theorem xU {x:Operand} [D:GT x env v] [H:LN P t v n] [E:ST d env (.int .i64 n) env'] [C:R (zu P ops Q rest env' h) G] {t':TypeId} (g:n<=9223372036854775807->G):zu P ops Q (⟨d,.call ⟨.builtin .len,List.toArray [x],List.toArray [t]⟩,t',p,a,none⟩::rest) env h :=
 ln λe=>C.r (g (zvV e))
theorem dr {B:List q6} {T:List Nat} {id:Nat} (Ns:List Nat) [D:R (zI P ⟨l⟩ Ns (λn=>zkn h (lk [] n)) (QS .normal) 0 l env (h.ext B T)) G] (C:G) (hd:ry ⟨l⟩ Ns=true:=by kernel_rfl) (g:P.follows .mixedOrders=true:=by exact mixed) :
  wO P (.region id ⟨l⟩ true) QS env (h.ext B T):=zeC Ns [] trivial g hd (D.r C)
theorem y8 {c : Code} (hf : P.funcs[f]? = some fn) (m : Nat) {K : AV → AH → Prop} [i2 : PAD m args env] [i4 : R (wO P c (rB P fn h K) env (h.ext [] [])) G] (hk : G) (hb : fn.body = some c := by rfl) (hname : (fn.name == "runtime.NumGoroutine") = false := by kernel_rfl) (hm : fn.ntmps = m := by rfl) : Spec P f args h K :=
 zr hf hb hname (tW m hm) (i4.r hk)
variable {x y:Operand} {t0 u e e':TypeId} {m j':Nat} {a1 a2 b':AV} {gd:Option (Nat×Bool)} {B B' L1 Bn:List q6} {T T' M1 Tn:List Nat} {row:α->List AV} {L M:List α} {k1 k2:Nat} {z:Int} {kd:IntKind} {q id:Nat}
class NWS (k:Nat) (b:AV) {α:Type} (row:α->List AV) (M:List α):Prop where
 o:pI k b=some (M.map row)
instance:NWS k1 (.sl k1 (M.map row)) row M:=⟨zcm⟩
instance {q:Option Nat}:NWS k1 (.gW q k1 (M.map row)) row M:=⟨zbE⟩
instance {s:List UInt8}:NWS 1 (.str s) zmr s:=⟨znz⟩
theorem eT (D:L.length+M.length<=lim) [g:El P t0 e k1] [K:El P u e' k2] [E:GT x env a1] [I:GT y env a2] [H:co P t0 a1 (.gW (some (h.zs.length+j)) k1 (L.map row))] [O:co P u a2 b'] [J:NWS k1 b' row M] [C:bH T Tn] [N:cx j Tn L.length] [i9:bx Tn j (L++M).length T'] :
  zj P ⟨d,.call ⟨.builtin .append,List.toArray [x,y],List.toArray [t0,u]⟩,t,p,a,gd⟩ env (h.ext B T)=.ok (.gW (some (h.zs.length+j)) k1 ((L++M).map row)) (h.ext B T'):=by rw [C.out];exact zoT rfl rfl rfl rfl g K E.out I.out H.out O.out J.o D N.out i9.out
theorem eN (D:L.length+M.length<=lim) [g:El P t0 e k1] [K:El P u e' k2] [E:GT x env a1] [I:GT y env a2] [H:co P t0 a1 (.gW none k1 (L.map row))] [O:co P u a2 b'] [J:NWS k1 b' row M] [C:bH T Tn] [N:bz Tn m] [i9:cT Tn [(L++M).length] T'] :
  zj P ⟨d,.call ⟨.builtin .append,List.toArray [x,y],List.toArray [t0,u]⟩,t,p,a,gd⟩ env (h.ext B T)=.ok (.gW (some (h.zs.length+m)) k1 ((L++M).map row)) (h.ext B T'):=by rw [C.out];exact zsC rfl rfl rfl rfl g K E.out I.out H.out O.out J.o D N.out i9.out
theorem eR (O:L.length+M.length<=lim) [W:El P t0 e k1] [E:El P u e' k2] [R:GT x env a1] [S:GT y env a2] [I:co P t0 a1 (.fm (h.zh.length+i) (h.zs.length+j) k1 n)] [V:co P u a2 b'] [J:NWS k1 b' row M] {n2:Nat} [N:bH T Tn] [H:cx j Tn n2] [i9:bx Tn j (L++M).length T'] {g:List (List AV)} [X:dY B Bn] [C:cx i Bn (.row (h.zs.length+j) k1 g)] [Y:cq Bn i (.row (h.zs.length+j) k1 ((L++M).map row)) B'] (K:L.length=n:=by rfl) (D:n2=n:=by rfl) (U:g=L.map row:=by rfl) :
  zj P ⟨d,.call ⟨.builtin .append,List.toArray [x,y],List.toArray [t0,u]⟩,t,p,a,gd⟩ env (h.ext B T)=.ok (.fm (h.zh.length+i) (h.zs.length+j) k1 (L++M).length) (h.ext B' T'):=by rw [N.out,X.out];exact zdV rfl rfl rfl rfl W E R.out S.out I.out V.out J.o O (by rw [C.out,U]) K (by rw [H.out,D]) Y.out i9.out
theorem iR (E:0<=z/\z < n) [g:El P t0 e k1] [C:GT x env (.fm id q k1 n)] [D:GT y env (.int kd z)]:zj P ⟨d,.indexAddr t0 x y,t,p,a,gd⟩ env h=.ok (.fU id q k1 n (z.toNat * k1+0)) h:=zsB rfl g C.out D.out E
theorem rN (s:Spec P f args (h.ext B T) (zqU (h.ext B T) k1 m R1)) [C:dY B Bn] [g:bH T Tn] [D:ed Bn j] [I:bz Tn i] [E:APP Bn [.row (h.zs.length+i) k1 R1] B'] [H:cT Tn [m] T'] :
  Spec P f args (h.ext B T) (λJ hh=>J=.fm (h.zh.length+j) (h.zs.length+i) k1 m/\hh=h.ext B' T'):=zpi s (by rw [C.out];exact D.out) (by rw [g.out];exact I.out) (by rw [C.out];exact E.out) (by rw [g.out];exact H.out)
theorem rV (s:Spec P f args (h.ext B T) (λg hh=>g=v/\hh=(h.ext B T).ext L1 M1)) (E:v=w) [H:dY B Bn] [C:bH T Tn] [D:APP Bn L1 B'] [I:cT Tn M1 T']:Spec P f args (h.ext B T) (λg hh=>g=w/\hh=h.ext B' T'):=zm6 s E (by rw [H.out];exact D.out) (by rw [C.out];exact I.out)
theorem oX (s:Spec P f args (h.ext B T) (zsU (h.ext B T) k1 n R1)) [g:bH T Tn] [C:bz Tn m] [D:cT Tn [n] T']:Spec P f args (h.ext B T) (λE hh=>E=.gW (some (h.zs.length+m)) k1 R1/\hh=h.ext B T'):=zpC s (by rw [g.out];exact C.out) (by rw [g.out];exact D.out)
variable {fs:Array Field} {pl:List (Nat×Nat)} {z1 z2 cs cs' vs:List AV} {lv lw:List (Nat×AV)} {parts:List (Nat×Operand)} {off sz:Nat} {es:List (List AV)}
class c7 (P:Program) (t:TypeId) (fs:outParam (Array Field)) (pl:outParam (List (Nat×Nat))):Prop where
 o:P.underlying t=some (.struct fs)/\zaK P fs=some pl
class FIL (pl:List (Nat×Nat)) (z:List AV) (l:List (Nat×AV)) (cs:outParam (List AV)):Prop where
 o:qq (λi=>pl[i]?) z l=some cs
instance:FIL pl z1 [] z1:=⟨rfl⟩
instance [g:cx i pl (off,sz)] [K:cd v vs] [D:c9 vs sz] [E:aT off vs z1 z2] [C:FIL pl z2 lv cs]:FIL pl z1 ((i,v)::lv) cs:=⟨by
 have J:=g.out;have H:=K.out;have N:=D.out;have I:=E.out;simp only [qq,J,H,N,gD];rw [lc (by omega),I.1];exact C.o⟩
theorem sb [g:c7 P t0 fs pl] [H:ZE P t0 z1] [D:cw env parts lv] [E:ct P (.struct fs) lv lw] [C:FIL pl z1 lw cs]:zj P ⟨d,.build t0 ⟨parts⟩,t,p,a,gd⟩ env h=.ok (.agg cs) h:=zkT rfl g.o.1 H.out g.o.2 D.o E.o C.o rfl
theorem bs (es:List (List AV)) [C:El P t0 e k1] [K:ZE P e z1] [H:cw env parts lv] [I:ct P (.slice e) lv lw] (D:Nat.ble (n * k1) 65536=true:=by rfl) (g:z1.length=k1:=by rfl) (E:qq (λi=>some (i * k1,k1)) ((List.replicate n z1).flatten) lw=some cs:=by rfl) (N:xH cs=some cs':=by rfl) (J:rows k1 n cs'=es:=by rfl) :
  zj P ⟨d,.buildSlice t0 n ⟨parts⟩,t,p,a,gd⟩ env h=.ok (.gW none k1 es) h:=xh rfl C K.out D g H.o I.o E N J
variable {σ:Type} {body:Code} {s0:σ} {rest2:σ->Option ρ} {o0:ρ}
theorem WL {p:Prop} (h:p:=by exact wk.le f9.o):p:=h
theorem qe {f:Nat->α->σ->Option (Out ρ σ)} (U:Nat->σ->List (Nat×AV)) (H:σ->AH) (J:lp (zf f L 0 s0) rest2=some o0) {E:Nat->σ->List AV} {g:Nat->σ->Prop}
  [D:∀i s,R (wO P body (tG (λenv' h'=>∃C,i < L.length/\lp (zf f (L.drop (i+1)) (i+1) C) rest2=some o0/\wk (H s) env' h' (E (i+1) C) (H C)) QS) (E i s) (H s)) (g i s)]
  (hs:∀i s,i<=L.length->lp (zf f (L.drop i) i s) rest2=some o0->g i s) (I:∀i s,cV env (U i s)=E i s:=by intros;exact UE) (h0:wk h env h (E 0 s0) (H s0):=by exact WL):wO P (.loop body) QS env h :=
 znc U H J I h0 λi s x y=>(D i s).r (hs i s x y)
theorem cL {f:Nat->α->σ->Option (Out ρ σ)} {s:σ} {C:Code} (K:lp (zf f (L.drop i) i s) rest2=some o0) [D:GT c env (.bool (decide ((i:Int) < (L.length:Int))))] [I:R (wO P A QS env h) G] [H:R (wO P C QS env h) G2]
  (J:∀x g,i < L.length->L[i]?=some x->f i x s=some g->zs6 f L i rest2 g=some o0->G) (E:rest2 s=some o0->G2):wO P (.cond c A C) QS env h :=
 zpq D.out K (λx g a b c d=>I.r (J x g a b c d)) λx=>H.r (E x)
theorem cB (C:o.bind k=some r) {xs:List Operand} {ts:List TypeId} {V:α->AV} {E:α->List AV} {A:List AV} {g:α->Prop} (hs:∀x,o=some x->Spec P f A h λH hh=>H=V x/\hh=h) [J:dF P env true xs ts A] [K:∀x,ST d env (V x) (E x)] [I:∀x,R (zu P ops Q rest (E x) h) (g x)] (D:∀x,k x=some r->g x):zu P ops Q (⟨d,.call ⟨.value (.func f),List.toArray xs,List.toArray ts⟩,t,p,a,none⟩::rest) env h :=
 zd C λx e C=>cp (hs x e) ((I x).r (D x C))
theorem cM (D:o.bind k=some r) {xs:List Operand} {ts:List TypeId} {V:α->AV} {E:α->List AV} {A:List AV} {g:α->Prop} (hs:∀x,o=some x->∀C,Spec P f A C λI hh=>I=V x/\hh=C) [O:dF P env true xs ts A] [J:∀x,ST d env (V x) (E x)] [K:∀x,R (zI P ops Ns F Q (i+1) rest (E x) h) (g x)] (H:∀x,k x=some r->g x) (N:Ns.contains i=true:=by rfl):zI P ops Ns F Q i (⟨d,.call ⟨.value (.func f),List.toArray xs,List.toArray ts⟩,t,p,a,none⟩::rest) env h :=
 zd D λx e D=>yH N rfl (λ_=>sc rfl) (λC _=>hs x e C) (J x).out ((K x).r (H x D))
theorem cG {c:Bool} {D:Option α} {S:α} (C:(if c=true then D else some S).bind k=some r) {xs:List Operand} {ts:List TypeId} {V:α->AV} {E:α->List AV} {A:List AV} {g:α->Prop} (hs:∀x,D=some x->Spec P f A h λO hh=>O=V x/\hh=h) [H:b6 l j n] [N:GT (.tmp n) env w] [I:GB w want c] [X:dF P env c xs ts A] [U:∀x,ST d env (gv c (V x)) (E x)] [W:∀x,R (zu P (List.toArray l) Q rest (E x) h) (g x)] (K:∀x,k x=some r->g x):zu P (List.toArray l) Q (⟨d,.call ⟨.value (.func f),List.toArray xs,List.toArray ts⟩,t,p,a,some (j,want)⟩::rest) env h :=
 qc C λx e C=>w8 (I.out _ _ _ _ _ rfl (by simpa using H.out) N.out) sc (λJ=>hs x (e J)) (U x).out ((W x).r (K x C))
theorem cH {c:Bool} {D:Option α} {O:α} (C:(if c=true then D else some O).bind k=some r) {xs:List Operand} {ts:List TypeId} {V:α->AV} {E:α->List AV} {A:List AV} {g:α->Prop} (hs:∀x,D=some x->Spec P f A h λN hh=>N=V x/\hh=h) [W:NC Ns i] [H:b6 l j n] [X:GT (.tmp n) env w] [I:GB w want c] [Y:dF P env c xs ts A] [S:∀x,ST d env (gv c (V x)) (E x)] [U:∀x,R (zI P (List.toArray l) Ns F Q (i+1) rest (E x) h) (g x)] (K:∀x,k x=some r->g x):zI P (List.toArray l) Ns F Q i (⟨d,.call ⟨.value (.func f),List.toArray xs,List.toArray ts⟩,t,p,a,some (j,want)⟩::rest) env h :=
 qc C λx e C=>uK W.out (I.out _ _ _ _ _ rfl (by simpa using H.out) X.out) sc (λJ=>hs x (e J)) (S x).out ((U x).r (K x C))
class ARV (env:List AV) (xs:List Operand) (vs:outParam (List AV)):Prop where
 o:xs.mapM (yu env)=some vs
instance:ARV env [] []:=⟨rfl⟩
instance {x:Operand} {xs:List Operand} {vs:List AV} [g:GT x env v] [C:ARV env xs vs]:ARV env (x::xs) (v::vs):=⟨by simp [jY,g.out,C.o]⟩
theorem mF {f:Fn} {xs g:List Operand} {us vs:List AV} [C:ARV env xs us] [D:ARV env g vs]:zj P ⟨d,.makeFunc f ⟨xs⟩ ⟨g⟩,t,p,a,none⟩ env h=.ok (.fn f us vs) h:=zdn rfl C.o D.o
variable {K1 W1:Type} {kv:K1->AV} {vv:W1->AV} {eq:K1->K1->Bool} {kt et:TypeId} {mm:List (K1×W1)} {dd vw:W1} {kk:K1} {Ln:List q6} {a3:AV} {x3:Operand}
theorem mL (J:P.underlying t0=some (.map kt et)) (D:KQ P kt kv eq) (K:qV P et=some (vv dd)) [g:GT x env (.map (h.zh.length+j))] [I:dY B Ln] [E:cx j Ln (.q7 (mm.map (zZ kv vv)) 0)] [H:GT y env a2] (C:a2=kv kk:=by rfl):zj P ⟨d,.lookup t0 x y false,t,p,a,gd⟩ env (h.ext B T)=.ok (vv (zG eq dd mm kk)) (h.ext B T):=by
 rw [I.out];exact zfh rfl J D K g.out E.out (by rw [H.out,C])
theorem mP (N:P.underlying t0=some (.map kt et)) (D:KQ P kt kv eq) [g:GT x env (.map (h.zh.length+j))] [K:dY B Ln] [H:cx j Ln (.q7 (mm.map (zZ kv vv)) 0)] [J:GT y env a2] [I:GT x3 env a3] [O:cq Ln j (.q7 ((wx eq mm kk vw).map (zZ kv vv)) 0) B'] (C:a2=kv kk:=by rfl) (E:a3.cy=vv vw:=by rfl):zj P ⟨d,.mapUpdate t0 x y x3,t,p,a,gd⟩ env (h.ext B T)=.ok xo (h.ext B' T):=by
 rw [K.out];exact zfg rfl N D g.out H.out (by rw [J.out,C]) I.out E O.out
theorem KA {p:Prop} (h:p:=by repeat' first | exact trivial | exact rfl | constructor):p:=h
theorem dk {B:List q6} {T:List Nat} {id:Nat} (Ns:List Nat) (g:List (Nat×List (Nat×q6))) [E:R (zI P ⟨l⟩ Ns (λn=>zkn h (lk g n)) (QS .normal) 0 l env (h.ext B T)) G] (C:G) (H:znJ g B:=by exact KA) (hd:ry ⟨l⟩ Ns=true:=by kernel_rfl) (D:P.follows .mixedOrders=true:=by exact mixed) :
  wO P (.region id ⟨l⟩ true) QS env (h.ext B T):=zeC Ns g H D hd (E.r C)
theorem eW {c : Code} (hf : P.funcs[f]? = some fn) (m : Nat) {K : AV → AH → Prop} [i2 : PAD m args env] [i4 : R (wO P c (rB P fn h K) env h) G] (hk : G) (hb : fn.body = some c := by rfl) (hname : (fn.name == "runtime.NumGoroutine") = false := by kernel_rfl) (hm : fn.ntmps = m := by rfl) : Spec P f args h K :=
 qG hf hb hname (tW m hm) (i4.r hk)
theorem ZO {p:Prop} (h:p:=by obtain rfl:=oi a;exact FE):p:=h
end
end Go.Vv
