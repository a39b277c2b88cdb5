/- Rules for what is new: appends whose block is nobody's; rows below a round. -/
import Derived.Test.YtcociipjgndnaaaGreatVvCu
import Derived.Test.YtcociipjgndnaaaGreatVvIt
import Derived.Test.YtcociipjgndnaaaGreatVvR1
namespace Go.Vv
open Go Go.RowKit
section
variable {P:Program} {o:Oper} {env env':List AV} {h:AH} {ops:Array Oper} {Q:List AV->AH->Prop} {rest:List Oper}
end
section
variable {P:Program} {o:Oper} {env:List AV} {h:AH} {A A' L B:List Blk} {T T' M C:List Nat} {nb nt:Nat}
theorem d_appR {α:Type} {row:α->List AV} {X Y:List α} (G:h.blks.length=nb) (l:h.toks.length=nt) {c:Call} {x y:Operand} {t u e E:TypeId} {k k' i j n:Nat} {a b q:AV} (I:o.op=.call c) (N:c.callee=.builtin .append) (hs:c.args=#[x,y]) (z:c.argTypes=#[t,u]) (J:El P t e k)
  (m:El P u E k') (F:yF env x=some a) (R:yF env y=some b) (H:tyfix P t a=.rsl (nb+i) (nt+j) k n) (r:tyfix P u b=q) (w:qq k q=some (Y.map row)) (D:X.length+Y.length<=yK)
  (hi:A[i]?=some (.row (nt+j) k (X.map row))) (g:X.length=n) (p:T[j]?=some n) (s:A.set i (.row (nt+j) k ((X++Y).map row))=A') (O:T.set j (X++Y).length=T') :
  zw P o env (((h.ext A T).ext L M).ext B C)=.ok (.rsl (nb+i) (nt+j) k (X++Y).length) (((h.ext A' T').ext L M).ext B C):=by
 subst G l s O;have d:=(uc.1 hi).1;have f:=(uc.1 p).1;have:=e_appR (P:=P) (h:=h) (B:=A++L++B) (T:=T++M++C) (B':=(A.set i (.row (h.toks.length+j) k ((X++Y).map row)))++L++B) (T':=(T.set j (X++Y).length)++M++C) I N hs z J m F R H r w D
  (by rw [uy,uj d];exact hi) g (by rw [uy,uj f];exact p)
  (by rw [uy,uy,rk _ _ d]) (by rw [uy,uy,rk _ _ f])
 simp only [zQ];exact this
end
section
variable {P:Program} {T:Exit->List AV->AH->Prop} {n:Nat} {env env2:List AV} {h h0:AH} {a b c:Code}
variable {fn:Func} {K:AV->Prop} {rs:List ResultVar} {v:AV}
end
theorem yM {P:Program} {ops:Array Oper} {Q:List AV->AH->Prop} {o:Oper} {rest:List Oper} {env env':List AV} {h:AH} {B1 B B':List Blk} {T1 T:List Nat} {f:FuncId} {args:List AV} {b e:Blk} {n:Nat} {p:Prop} (t:aG ops o env=some true) (j:zw P o env (h.ext B T)=.call f args)
  (hs:Spec P f args ((h.ext B1 T1).ext [b] [n]) (λl hh=>l=.tup []/\p/\hh=(h.ext B1 T1).ext [e] [n])) (m:B1++[b]=B) (q:T1++[n]=T)
  (hd:vZ o.dst env (.tup [])=some env') (d:B1++[e]=B') (s:p->zH P ops Q rest env' (h.ext B' T)):zH P ops Q (o::rest) env (h.ext B T):=by
 subst m q d;rw [zQ] at hs;refine ops_call t j hs λr u ⟨i,g,k⟩=>?_;subst i;subst k;rw [zQ,xG hd];exact s g
theorem idx_getD {α:Type} [Inhabited α] {L:List α} {i:Int} (h:0<=i/\i < (L.length:Int)):yu L i=some (L.getD i.toNat default):=by
 unfold yu;rw [up h.1,ur,ug (by omega)];rfl
end Go.Vv
