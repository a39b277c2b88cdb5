/- Layer 42's law of what is shown. -/
import Derived.Test.YtppafalkommbdaaGreatPlV4
namespace Go.Vv
set_option linter.unusedVariables false
set_option linter.unusedSimpArgs false
open Go
noncomputable def walkF (v1:GLeaf):Nat→zR→(List GNode)×zR×(List GLeaf)×(List GNode)→Option (Out (GLeaf×Bool) ((List GNode)×zR×(List GLeaf)×(List GNode))):=fun _ x1 s1=>((ref07Xnode s1.1 x1).bind fun v32=>(if (!v32.2)=true then some (.ret (v1,false)) else some (.nxt (v32.1.subs,v32.1.name,v32.1.leaves,v32.1.subs))))
noncomputable def lookF (ls:List GLeaf) (k:Int):Int→Option (Out (GLeaf×Bool) Int):=fun s2=>(if (((decide (s2 < ((ls).length:Int)))&&(decide (k ≥ (1:Int))))&&(decide (k≤(4:Int))))=true then ((vH ls s2).bind fun y63=>(if (y63.typ==k)=true then ((vH ls s2).bind fun y65=>some (.ret (y65,true))) else some (.nxt (IntKind.wrap .i64 (s2+(1:Int)))))) else some (.brk s2))
def hideR:GRule:=GRule.mk (255:Int) ([([42,42]:zR)]:List zR) (0:Int) false true
end Go.Vv
