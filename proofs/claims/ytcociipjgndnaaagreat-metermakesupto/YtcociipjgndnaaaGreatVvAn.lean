/- Regions whose order is drawn, step by step: what turns nothing may be taken first. -/
import Derived.Test.YtcociipjgndnaaaGreatVvZ
namespace Go.Vv
open Go Go.RowKit Go.Lib
theorem set_comm2 {a:Array Bool} {i j:Nat}:(a.setIfInBounds i true).setIfInBounds j true=(a.setIfInBounds j true).setIfInBounds i true:=by
 apply rf;intro k;simp only [Array.getElem?_setIfInBounds,Array.size_setIfInBounds];by_cases h1:i=k <;> by_cases h2:j=k <;> simp [h1,h2]
def apart (ops:Array Oper) (o p:Oper):Bool :=
 (match o.dst with | some d=>!(p.looksAt ops).contains d&&p.dst != some d | none=>true) &&
 (match p.dst with | some d=>!(o.looksAt ops).contains d | none=>true)
section
variable {P:Program} {l:List Oper} {Q:List AV->AH->Prop} {m i j:Nat} {listed:Array Bool} {env env':List AV} {h h':AH} {o:Oper} {v:AV}
end
end Go.Vv
