/- Regions whose order is drawn, step by step: what turns nothing may be taken first. -/
import Derived.Test.YtbaclapbinkedaaVvZ
namespace Go.Vv
open Go Go.RowKit Go.Lib
def apart (ops:Array Oper) (o p:Oper):Bool :=
 (match o.dst with | some d=>!(p.looksAt ops).contains d&&p.dst != some d | none=>true) &&
 (match p.dst with | some d=>!(o.looksAt ops).contains d | none=>true)
def apartAll (ops:Array Oper) (i:Nat):Bool:=match ops[i]? with
 | none=>false
 | some o=>ops.toList.zipIdx.all fun (p,j)=>i==j || (p.after.any fun e=>Region.binds .any e&&e.on==i) || (o.after.any fun e=>Region.binds .any e&&e.on==j) || apart ops o p
def Sil (P:Program) (ops:Array Oper) (o:Oper) (env:List AV) (v:AV):Prop :=
 (aG ops o env=some true∧∀ h,zN P o env h=.ok v h) ∨ (aG ops o env=some false∧v=za) ∨
 (aG ops o env=some true∧∃ f args,(∀ h,zN P o env h=.call f args)∧∀ h,Spec P f args h fun r hh=>r=v∧hh=h)
def anyAt (P:Program) (ops:Array Oper) (Q:List AV→AH→Prop) (m:Nat) (listed:Array Bool) (env:List AV) (h:AH) (i:Nat):Prop:=∀ o,ops[i]?=some o →
 gwp (aG ops o env) (fun K=>rwp P h (zN P o env h) K ∨ bwp P o env h K) h fun v h'=>awpAny P ops Q m (listed.setIfInBounds i true) (setd env o.dst v) h'
section
variable {P:Program} {l:List Oper} {Q:List AV→AH→Prop} {m i j:Nat} {listed:Array Bool} {env env':List AV} {h h':AH} {o:Oper} {v:AV}
end
end Go.Vv
