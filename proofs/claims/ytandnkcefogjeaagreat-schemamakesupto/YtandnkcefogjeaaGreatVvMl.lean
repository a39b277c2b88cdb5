/- Ranges over maps whose order is not told: read for every order. -/
import Derived.Test.YtandnkcefogjeaaGreatVvMr
namespace Go.Vv
open Go Go.RowKit
section
variable {α ρ σ:Type}
open Classical in
noncomputable def allP (m:List α) (f:List α->Option ρ):Option ρ:=if h:∃r,∀p:List α,p.Perm m->f p=some r then some (Classical.choose h) else none
def leftM (m:List α) (seen:List Nat):List α:=(m.zipIdx.filter λp=>!seen.contains p.2).map (·.1)
def konM (f:Nat->α->σ->Option (Out ρ σ)) (m:List α) (seen:List Nat) (rest:σ->Option ρ) (o0:ρ):Out ρ σ->Prop
 | .ret r=>some r=some o0
 | .brk s=>rest s=some o0
 | .nxt s=>∀p:List α,p.Perm (leftM m seen)->lp (zq f p seen.length s) rest=some o0
def LeftOk (f:Nat->α->σ->Option (Out ρ σ)) (m:List α) (seen:List Nat) (rest:σ->Option ρ) (o0:ρ) (s:σ):Prop:=∀p:List α,p.Perm (leftM m seen)->lp (zq f p seen.length s) rest=some o0
end
section
variable {P:Program} {env:List AV} {h:AH} {Q:Exit->List AV->AH->Prop}
theorem ops_entryM {K W:Type} {kv:K->AV} {vv:W->AV} {a:Array Oper} {Q:List AV->AH->Prop} {o:Oper} {rest:List Oper} {env b:List AV} {h:AH} {L:List Blk} {M:List Nat} {x:Operand} {m:List (K×W)} {id j i:Nat} {y:K×W} {c:List Nat}
  (q:aG a o env=some true) (n:o.op=.entry x) (f:yz env x=some (.ptr (h.blks.length+j) 0)) (k:L[j]?=some (.miter id m.length (c++[i]))) (l:(h.ext L M).blk id=some (.mapo (m.map (mrow kv vv)) 0)) (r:m[i]?=some y)
  (hd:dso o.dst env (.tup [kv y.1,vv y.2])=some b) (e:zH P a Q rest b (h.ext L M)):zH P a Q (o::rest) env (h.ext L M):=by
 obtain ⟨g,s⟩:=zO f;have key:wY P o env (h.ext L M)=some [(.tup [kv y.1,vv y.2],h.ext L M)]:=by
  simp [wY,n,g,s,yb,k,l,r,mrow]
 refine awpOps_consB q ⟨_,key,λp d=>?_⟩;simp only [List.mem_singleton] at d;subst d;show zH P a Q rest (setd env o.dst (.tup [kv y.1,vv y.2])) _;rw [xp hd];exact e
def slOrOsl (k:Nat) (es:List (List AV)) (a:AV):Prop:=a=.sl k es \/ ∃q,a=.osl q k es
theorem qP {a:Array Oper} {Q:List AV->AH->Prop} {o:Oper} {rest:List Oper} {env b:List AV} {h c:AH} {v:AV} (g:aG a o env=some true) (f:wY P o env h=some [(v,c)]) (hd:dso o.dst env v=some b) (e:zH P a Q rest b c):zH P a Q (o::rest) env h:=by
 refine awpOps_consB g ⟨_,f,λp d=>?_⟩;simp only [List.mem_singleton] at d;subst d;show zH P a Q rest (setd env o.dst v) c;rw [xp hd];exact e
end
end Go.Vv
