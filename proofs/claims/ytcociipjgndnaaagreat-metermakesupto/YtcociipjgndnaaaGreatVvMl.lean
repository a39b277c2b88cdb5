/- Ranges over maps whose order is not told: read for every order. -/
import Derived.Test.YtcociipjgndnaaaGreatVvMr
namespace Go.Vv
open Go Go.RowKit
section
variable {α ρ σ:Type}
open Classical in
end
section
variable {P:Program} {env:List AV} {h:AH} {Q:Exit->List AV->AH->Prop}
theorem ops_entryM {K W:Type} {kv:K->AV} {vv:W->AV} {a:Array Oper} {Q:List AV->AH->Prop} {o:Oper} {rest:List Oper} {env b:List AV} {h:AH} {L:List Blk} {M:List Nat} {x:Operand} {m:List (K×W)} {id j i:Nat} {y:K×W} {c:List Nat}
  (r:aG a o env=some true) (n:o.op=.entry x) (g:yF env x=some (.ptr (h.blks.length+j) 0)) (f:L[j]?=some (.miter id m.length (c++[i]))) (e:(h.ext L M).blk id=some (.mapo (m.map (mrow kv vv)) 0)) (s:m[i]?=some y)
  (hd:vZ o.dst env (.tup [kv y.1,vv y.2])=some b) (q:zH P a Q rest b (h.ext L M)):zH P a Q (o::rest) env (h.ext L M):=by
 obtain ⟨l,k⟩:=zO g;have key:vt P o env (h.ext L M)=some [(.tup [kv y.1,vv y.2],h.ext L M)]:=by
  simp [vt,n,l,k,yA,f,e,s,mrow]
 refine awpOps_consB r ⟨_,key,λp d=>?_⟩;simp only [uL] at d;subst d;show zH P a Q rest (setd env o.dst (.tup [kv y.1,vv y.2])) _;rw [xG hd];exact q
theorem ops_b {a:Array Oper} {Q:List AV->AH->Prop} {o:Oper} {rest:List Oper} {env b:List AV} {h c:AH} {v:AV} (g:aG a o env=some true) (e:vt P o env h=some [(v,c)]) (hd:vZ o.dst env v=some b) (f:zH P a Q rest b c):zH P a Q (o::rest) env h:=by
 refine awpOps_consB g ⟨_,e,λp d=>?_⟩;simp only [uL] at d;subst d;show zH P a Q rest (setd env o.dst v) c;rw [xG hd];exact f
end
end Go.Vv
