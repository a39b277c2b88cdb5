/- Rules for what is new: appends whose block is nobody's; rows below a round. -/
import Derived.Test.YtbaclapbinkedaaVvCu
import Derived.Test.YtbaclapbinkedaaVvIt
import Derived.Test.YtbaclapbinkedaaVvR1
namespace Go.Vv
open Go Go.RowKit
section
variable {P:Program} {o:Oper} {env env':List AV} {h:AH} {ops:Array Oper} {Q:List AV→AH→Prop} {rest:List Oper}
end
section
variable {P:Program} {o:Oper} {env:List AV} {h:AH} {A A' L B:List Blk} {T T' M C:List Nat} {nb nt:Nat}
theorem d_appR {α:Type} {row:α→List AV} {X Y:List α} (hN:h.blks.length=nb) (hNt:h.toks.length=nt) {c:Call} {x y:Operand} {t u e e':TypeId} {k k' i j n:Nat} {a b b':AV} (ho:o.op=.call c) (hc:c.callee=.builtin .append) (hs:c.args=#[x,y]) (ht:c.argTypes=#[t,u]) (hu:El P t e k)
  (hu':El P u e' k') (hx:yZ env x=some a) (hy:yZ env y=some b) (ha:tyfix P t a=.rsl (nb+i) (nt+j) k n) (hb:tyfix P u b=b') (hn:qw k b'=some (Y.map row)) (hl:X.length+Y.length≤qM)
  (hi:A[i]?=some (.row (nt+j) k (X.map row))) (hLn:X.length=n) (hm:T[j]?=some n) (hA:A.set i (.row (nt+j) k ((X++Y).map row))=A') (hT:T.set j (X++Y).length=T') :
  zN P o env (((h.ext A T).ext L M).ext B C)=.ok (.rsl (nb+i) (nt+j) k (X++Y).length) (((h.ext A' T').ext L M).ext B C):=by
 subst hN hNt hA hT
 have hil:=(List.getElem?_eq_some_iff.1 hi).1
 have hjl:=(List.getElem?_eq_some_iff.1 hm).1
 have:=e_appR (P:=P) (h:=h) (B:=A++L++B) (T:=T++M++C) (B':=(A.set i (.row (h.toks.length+j) k ((X++Y).map row)))++L++B) (T':=(T.set j (X++Y).length)++M++C) ho hc hs ht hu hu' hx hy ha hb hn hl
  (by rw [List.append_assoc,List.getElem?_append_left hil];exact hi) hLn (by rw [List.append_assoc,List.getElem?_append_left hjl];exact hm)
  (by rw [List.append_assoc,List.append_assoc,List.set_append_left _ _ hil]) (by rw [List.append_assoc,List.append_assoc,List.set_append_left _ _ hjl])
 simp only [yj]
 exact this
end
def seqC (P:Program) (T:Exit→List AV→AH→Prop) (n:Nat) (h0:AH) (b:Code):Exit→List AV→AH→Prop:=fun x env' h'=>match x with
 | .normal=>∃ env2 h2,wk h0 env' h' env2 h2∧awpC P T n b env2 h2
 | x=>T x env' h'
section
variable {P:Program} {T:Exit→List AV→AH→Prop} {n:Nat} {env env2:List AV} {h h0:AH} {a b c:Code}
variable {fn:Func} {K:AV→Prop} {rs:List ResultVar} {v:AV}
end
theorem yT {P:Program} {ops:Array Oper} {Q:List AV→AH→Prop} {o:Oper} {rest:List Oper} {env env':List AV} {h:AH} {B1 B B':List Blk} {T1 T:List Nat} {f:FuncId} {args:List AV} {b b':Blk} {n:Nat} {p:Prop} (hg:aG ops o env=some true) (ha:zN P o env (h.ext B T)=.call f args)
  (hs:Spec P f args ((h.ext B1 T1).ext [b] [n]) (fun rr hh=>rr=.tup []∧p∧hh=(h.ext B1 T1).ext [b'] [n])) (hB:B1++[b]=B) (hT:T1++[n]=T)
  (hd:vl o.dst env (.tup [])=some env') (hB':B1++[b']=B') (hk:p→ym P ops Q rest env' (h.ext B' T)):ym P ops Q (o::rest) env (h.ext B T):=by
 subst hB hT hB'
 rw [yj] at hs
 refine ops_call hg ha hs fun r h' ⟨e1,e0,e2⟩=>?_
 subst e1;subst e2
 rw [yj,wl hd]
 exact hk e0
theorem idx_getD {α:Type} [Inhabited α] {L:List α} {i:Int} (h:0≤i∧i < (L.length:Int)):qJ L i=some (L.getD i.toNat default):=by
 unfold qJ
 rw [if_pos h.1,List.getD_eq_getElem?_getD,List.getElem?_eq_getElem (by omega)]
 rfl
end Go.Vv
