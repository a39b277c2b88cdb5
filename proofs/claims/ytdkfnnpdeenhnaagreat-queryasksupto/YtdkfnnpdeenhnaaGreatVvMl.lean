/- Ranges over maps whose order is not told: read for every order. -/
import Derived.Test.YtdkfnnpdeenhnaaGreatVvMr
namespace Go.Vv
open Go Go.RowKit
section
variable {α ρ σ:Type}
open Classical in
noncomputable def allP (m:List α) (f:List α->Option ρ):Option ρ:=if h:∃r,∀p:List α,p.Perm m->f p=some r then some (Classical.choose h) else none
def leftM (m:List α) (seen:List Nat):List α:=(m.zipIdx.filter λp=>!seen.contains p.2).map (·.1)
def konM (f:Nat->α->σ->Option (Out ρ σ)) (m:List α) (seen:List Nat) (rest:σ->Option ρ) (o0:ρ):Out ρ σ->Prop
 | .ret r=>some r=some o0
 | .brk s=>rest s=some o0
 | .nxt s=>∀p:List α,p.Perm (leftM m seen)->lp (zj f p seen.length s) rest=some o0
def LeftOk (f:Nat->α->σ->Option (Out ρ σ)) (m:List α) (seen:List Nat) (rest:σ->Option ρ) (o0:ρ) (s:σ):Prop:=∀p:List α,p.Perm (leftM m seen)->lp (zj f p seen.length s) rest=some o0
end
section
variable {P:Program} {env:List AV} {h:AH} {Q:Exit->List AV->AH->Prop}
theorem ops_entryM {K W:Type} {kv:K->AV} {vv:W->AV} {a:Array Oper} {Q:List AV->AH->Prop} {o:Oper} {rest:List Oper} {env b:List AV} {h:AH} {L:List Blk} {M:List Nat} {x:Operand} {m:List (K×W)} {id j i:Nat} {y:K×W} {c:List Nat}
  (k:aG a o env=some true) (r:o.op=.entry x) (n:zU env x=some (.ptr (h.blks.length+j) 0)) (f:L[j]?=some (.miter id m.length (c++[i]))) (e:(h.ext L M).blk id=some (.mapo (m.map (mrow kv vv)) 0)) (g:m[i]?=some y)
  (hd:xw o.dst env (.tup [kv y.1,vv y.2])=some b) (s:zp P a Q rest b (h.ext L M)):zp P a Q (o::rest) env (h.ext L M):=by
 obtain ⟨q,l⟩:=zw n;have key:xC P o env (h.ext L M)=some [(.tup [kv y.1,vv y.2],h.ext L M)]:=by
  simp [xC,r,q,l,zQ,f,e,g,mrow]
 refine awpOps_consB k ⟨_,key,λp d=>?_⟩;simp only [List.mem_singleton] at d;subst d;show zp P a Q rest (setd env o.dst (.tup [kv y.1,vv y.2])) _;rw [yY hd];exact s
def slOrOsl (k:Nat) (es:List (List AV)) (a:AV):Prop:=a=.sl k es \/ ∃q,a=.osl q k es
theorem ops_b {a:Array Oper} {Q:List AV->AH->Prop} {o:Oper} {rest:List Oper} {env b:List AV} {h c:AH} {v:AV} (e:aG a o env=some true) (f:xC P o env h=some [(v,c)]) (hd:xw o.dst env v=some b) (g:zp P a Q rest b c):zp P a Q (o::rest) env h:=by
 refine awpOps_consB e ⟨_,f,λp d=>?_⟩;simp only [List.mem_singleton] at d;subst d;show zp P a Q rest (setd env o.dst v) c;rw [yY hd];exact g
end
end Go.Vv
