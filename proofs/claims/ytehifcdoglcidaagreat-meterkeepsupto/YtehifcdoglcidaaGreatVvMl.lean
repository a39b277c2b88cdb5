/- Ranges over maps whose order is not told: read for every order. -/
import Derived.Test.YtehifcdoglcidaaGreatVvMr
namespace Go.Vv
open Go Go.RowKit
section
variable {α ρ σ:Type}
open Classical in
noncomputable def allP (m:List α) (f:List α->Option ρ):Option ρ:=if h:∃r,∀p:List α,p.Perm m->f p=some r then some (Classical.choose h) else none
def leftM (m:List α) (seen:List Nat):List α:=(m.zipIdx.filter λp=>!seen.contains p.2).map (·.1)
def konM (f:Nat->α->σ->Option (Out ρ σ)) (m:List α) (seen:List Nat) (rest:σ->Option ρ) (o0:ρ):Out ρ σ->Prop
 | .ret r=>some r=some o0
 | .brk s=>rest s=some o0
 | .nxt s=>∀p:List α,p.Perm (leftM m seen)->lp (zk f p seen.length s) rest=some o0
def LeftOk (f:Nat->α->σ->Option (Out ρ σ)) (m:List α) (seen:List Nat) (rest:σ->Option ρ) (o0:ρ) (s:σ):Prop:=∀p:List α,p.Perm (leftM m seen)->lp (zk f p seen.length s) rest=some o0
end
section
variable {P:Program} {env:List AV} {h:AH} {Q:Exit->List AV->AH->Prop}
theorem ops_entryM {K W:Type} {kv:K->AV} {vv:W->AV} {a:Array Oper} {Q:List AV->AH->Prop} {o:Oper} {rest:List Oper} {env b:List AV} {h:AH} {L:List Blk} {M:List Nat} {x:Operand} {m:List (K×W)} {id j i:Nat} {y:K×W} {c:List Nat}
  (n:aG a o env=some true) (g:o.op=.entry x) (e:ye env x=some (.ptr (h.blks.length+j) 0)) (f:L[j]?=some (.miter id m.length (c++[i]))) (k:(h.ext L M).blk id=some (.mapo (m.map (mrow kv vv)) 0)) (l:m[i]?=some y)
  (hd:vq o.dst env (.tup [kv y.1,vv y.2])=some b) (r:zy P a Q rest b (h.ext L M)):zy P a Q (o::rest) env (h.ext L M):=by
 obtain ⟨s,q⟩:=zD e;have key:wI P o env (h.ext L M)=some [(.tup [kv y.1,vv y.2],h.ext L M)]:=by
  simp [wI,g,s,q,zZ,f,k,l,mrow]
 refine awpOps_consB n ⟨_,key,λp d=>?_⟩;simp only [List.mem_singleton] at d;subst d;show zy P a Q rest (setd env o.dst (.tup [kv y.1,vv y.2])) _;rw [xh hd];exact r
def slOrOsl (k:Nat) (es:List (List AV)) (a:AV):Prop:=a=.sl k es \/ ∃q,a=.osl q k es
theorem ops_b {a:Array Oper} {Q:List AV->AH->Prop} {o:Oper} {rest:List Oper} {env b:List AV} {h c:AH} {v:AV} (e:aG a o env=some true) (g:wI P o env h=some [(v,c)]) (hd:vq o.dst env v=some b) (f:zy P a Q rest b c):zy P a Q (o::rest) env h:=by
 refine awpOps_consB e ⟨_,g,λp d=>?_⟩;simp only [List.mem_singleton] at d;subst d;show zy P a Q rest (setd env o.dst v) c;rw [xh hd];exact f
end
end Go.Vv
