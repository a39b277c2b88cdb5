/- Ranges over maps whose order is not told: read for every order. -/
import Derived.Test.YtbaclapbinkedaaVvMr
namespace Go.Vv
open Go Go.RowKit
section
variable {α ρ σ:Type}
open Classical in
noncomputable def allP (m:List α) (f:List α→Option ρ):Option ρ:=if h:∃ r,∀ p:List α,p.Perm m→f p=some r then some (Classical.choose h) else none
def leftM (m:List α) (seen:List Nat):List α:=(m.zipIdx.filter fun p=>!seen.contains p.2).map (·.1)
def konM (f:Nat→α→σ→Option (Out ρ σ)) (m:List α) (seen:List Nat) (rest:σ→Option ρ) (o0:ρ):Out ρ σ→Prop
 | .ret r=>some r=some o0
 | .brk s=>rest s=some o0
 | .nxt s=>∀ p:List α,p.Perm (leftM m seen)→lp (zV f p seen.length s) rest=some o0
def LeftOk (f:Nat→α→σ→Option (Out ρ σ)) (m:List α) (seen:List Nat) (rest:σ→Option ρ) (o0:ρ) (s:σ):Prop:=∀ p:List α,p.Perm (leftM m seen)→lp (zV f p seen.length s) rest=some o0
end
section
variable {P:Program} {env:List AV} {h:AH} {Q:Exit→List AV→AH→Prop}
theorem ops_entryM {K W:Type} {kv:K→AV} {vv:W→AV} {ops:Array Oper} {Q:List AV→AH→Prop} {o:Oper} {rest:List Oper} {env env':List AV} {h:AH} {L:List Blk} {M:List Nat} {x:Operand} {m:List (K×W)} {id j i:Nat} {y:K×W} {seen:List Nat}
  (hg:aG ops o env=some true) (ho:o.op=.entry x) (hx:yZ env x=some (.ptr (h.blks.length+j) 0)) (hj:L[j]?=some (.miter id m.length (seen++[i]))) (hb:(h.ext L M).blk id=some (.mapo (m.map (mrow kv vv)) 0)) (hy:m[i]?=some y)
  (hd:vl o.dst env (.tup [kv y.1,vv y.2])=some env') (hk:ym P ops Q rest env' (h.ext L M)):ym P ops Q (o::rest) env (h.ext L M):=by
 obtain ⟨h1,h2⟩:=yu hx
 have key:bstep P o env (h.ext L M)=some [(.tup [kv y.1,vv y.2],h.ext L M)]:=by
  simp [bstep,ho,h1,h2,wF,hj,hb,hy,mrow]
 refine awpOps_consB hg ⟨_,key,fun p hp=>?_⟩
 simp only [List.mem_singleton] at hp
 subst hp
 show ym P ops Q rest (setd env o.dst (.tup [kv y.1,vv y.2])) _
 rw [wl hd];exact hk
def slOrOsl (k:Nat) (es:List (List AV)) (a:AV):Prop:=a=.sl k es ∨ ∃ q,a=.osl q k es
end
end Go.Vv
