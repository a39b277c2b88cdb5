/- What the functions compute, as plain functions; printed by a program from the code. -/
import Derived.Test.YtpdpghedkdpiiaaGreatVvY
import Derived.Test.YtpdpghedkdpiiaaGreatVvZ
import Derived.Test.YtpdpghedkdpiiaaGreatVvLb
import Derived.Test.YtpdpghedkdpiiaaGreatVvMr
import Derived.Test.YtpdpghedkdpiiaaGreatVvIt
import Derived.Test.YtpdpghedkdpiiaaGreatVvMl
import Derived.Test.YtpdpghedkdpiiaaGreatVvRb
import Derived.Test.YtpdpghedkdpiiaaGreatVvSo
namespace Go.Vv
open Go
set_option linter.unusedVariables false
structure GActor where
 rep:Int
 inc:Int
 deriving DecidableEq,Inhabited
def GActor.eqb (a b:GActor):Bool:=(a.rep==b.rep&&(a.inc==b.inc&&true))
structure GDot where
 actor:GActor
 seq:Int
 deriving DecidableEq,Inhabited
def GDot.eqb (a b:GDot):Bool:=(a.actor.rep==b.actor.rep&&(a.actor.inc==b.actor.inc&&(a.seq==b.seq&&true)))
structure GItem where
 time:Int
 dot:GDot
 text:yn
 deriving DecidableEq,Inhabited
def GItem.eqb (a b:GItem):Bool:=(a.time==b.time&&(a.dot.actor.rep==b.dot.actor.rep&&(a.dot.actor.inc==b.dot.actor.inc&&(a.dot.seq==b.dot.seq&&(a.text==b.text&&true)))))
structure GLeaf where
 typ:Int
 n:Int
 time:Int
 dot:GDot
 text:yn
 items:(List GItem)
 tombs:(List GDot)
 deriving DecidableEq,Inhabited
structure GOp where
 kind:Int
 path:(List yn)
 n:Int
 text:yn
 dots:(List GDot)
 deriving DecidableEq,Inhabited
structure GEvent where
 dot:GDot
 time:Int
 op:GOp
 deriving DecidableEq,Inhabited
structure GOpKind where
 leaf:Int
 may:Nat
 deriving DecidableEq,Inhabited
def GActor.wf (x:GActor):Prop:=(InK .u8 x.rep)∧(InK .u32 x.inc)
def GDot.wf (x:GDot):Prop:=(GActor.wf x.actor)∧(InK .u64 x.seq)
def GItem.wf (x:GItem):Prop:=(InK .u64 x.time)∧(GDot.wf x.dot)∧(x.text.length≤maxLen)
def GLeaf.wf (x:GLeaf):Prop:=(InK .u8 x.typ)∧(InK .i64 x.n)∧(InK .u64 x.time)∧(GDot.wf x.dot)∧(x.text.length≤maxLen)∧(x.items.length≤maxLen∧∀ y ∈ x.items,GItem.wf y)∧(x.tombs.length≤maxLen∧∀ y ∈ x.tombs,GDot.wf y)
def GOp.wf (x:GOp):Prop:=(InK .u8 x.kind)∧(x.path.length≤maxLen∧∀ y ∈ x.path,y.length≤maxLen)∧(InK .i64 x.n)∧(x.text.length≤maxLen)∧(x.dots.length≤maxLen∧∀ y ∈ x.dots,GDot.wf y)
def GEvent.wf (x:GEvent):Prop:=(GDot.wf x.dot)∧(InK .u64 x.time)∧(GOp.wf x.op)
def GActor.bk (x:GActor):Nat:=(1+(1+0))+1
def GDot.bk (x:GDot):Nat:=(GActor.bk x.actor+(1+0))+1
def GItem.bk (x:GItem):Nat:=(1+(GDot.bk x.dot+((x.text.length+1)+0)))+1
def GLeaf.bk (x:GLeaf):Nat:=(1+(1+(1+(GDot.bk x.dot+((x.text.length+1)+(((x.items.map GItem.bk).sum+1)+(((x.tombs.map GDot.bk).sum+1)+0)))))))+1
def GOp.bk (x:GOp):Nat:=(1+(((x.path.map (fun s=>s.length+1)).sum+1)+(1+((x.text.length+1)+(((x.dots.map GDot.bk).sum+1)+0)))))+1
def GEvent.bk (x:GEvent):Nat:=(GDot.bk x.dot+(1+(GOp.bk x.op+0)))+1
abbrev zLf:GLeaf:=GLeaf.mk (0:Int) (0:Int) (0:Int) (GDot.mk (GActor.mk (0:Int) (0:Int)) (0:Int)) ([]:yn) ([]:List GItem) ([]:List GDot)
noncomputable def vS (l0:GLeaf):Option Bool :=
 (lp (yu (fun (n1:Nat) (x1:GItem) (s1:Int)=>(some (.nxt (IntKind.wrap .i64 (s1+((x1.text).length:Int)))):Option (Out _ Int))) l0.items 0 ((l0.text).length:Int)) fun (s1:Int)=>some (((decide (((l0.items).length:Int) > (100:Int))) || (decide (((l0.tombs).length:Int) > (100:Int)))) || (decide (s1 > (4000:Int)))))
noncomputable def law05Xfat (o0:GOp):Option Bool :=
 (lp (yu (fun (n1:Nat) (x1:yn) (s1:Int)=>(some (.nxt (IntKind.wrap .i64 (s1+((x1).length:Int)))):Option (Out _ Int))) o0.path 0 ((o0.text).length:Int)) fun (s1:Int)=>some (((decide (((o0.path).length:Int) > (20:Int))) || (decide (((o0.dots).length:Int) > (100:Int)))) || (decide (s1 > (1000:Int)))))
noncomputable def vH (a0:GLeaf) (b1:GLeaf):Option Bool :=
 (if (((((((a0.typ != b1.typ) || (a0.n != b1.n)) || (a0.time != b1.time)) || (!(a0.dot.actor.rep==b1.dot.actor.rep&&(a0.dot.actor.inc==b1.dot.actor.inc&&(a0.dot.seq==b1.dot.seq&&true))))) || (!(a0.text==b1.text))) || (((a0.items).length:Int) != ((b1.items).length:Int))) || (((a0.tombs).length:Int) != ((b1.tombs).length:Int)))=true then some false else (lp (yu (fun (n1:Nat) (x1:GItem) (s1:Unit)=>(((vT b1.items (n1:Int)).bind fun y32=>(if (!(x1.time==y32.time&&(x1.dot.actor.rep==y32.dot.actor.rep&&(x1.dot.actor.inc==y32.dot.actor.inc&&(x1.dot.seq==y32.dot.seq&&(x1.text==y32.text&&true))))))=true then some (.ret false) else some (.nxt ()))):Option (Out _ Unit))) a0.items 0 ()) fun (s1:Unit)=>(lp (yu (fun (n2:Nat) (x2:GDot) (s2:Unit)=>(((vT b1.tombs (n2:Int)).bind fun y60=>(if (!(x2.actor.rep==y60.actor.rep&&(x2.actor.inc==y60.actor.inc&&(x2.seq==y60.seq&&true))))=true then some (.ret false) else some (.nxt ()))):Option (Out _ Unit))) a0.tombs 0 ()) fun (s2:Unit)=>some true)))
noncomputable def leafNew (kind0:Int):Option GLeaf :=
 (if ((decide (kind0 < (1:Int))) || (decide (kind0 > (4:Int))))=true then some zLf else some (GLeaf.mk kind0 (0:Int) (0:Int) (GDot.mk (GActor.mk (0:Int) (0:Int)) (0:Int)) ([]:yn) ([]:List GItem) ([]:List GDot)))
noncomputable def cmpOrInt (vals0:(List Int)):Option Int :=
 (lp (yu (fun (n1:Nat) (x1:Int) (s1:Unit)=>((if (x1 != (0:Int))=true then some (.ret x1) else some (.nxt ())):Option (Out _ Unit))) vals0 0 ()) fun (s1:Unit)=>some (0:Int))
noncomputable def vE (x0:Int):Option Bool :=
 some (x0 != x0)
noncomputable def wx (x0:Int) (y1:Int):Option Int :=
 ((vE x0).bind fun v1=>((vE y1).bind fun v2=>(if v1=true then (if v2=true then some (0:Int) else some (-1:Int)) else (if v2=true then some (1:Int) else (if (decide (x0 < y1))=true then some (-1:Int) else (if (decide (x0 > y1))=true then some (1:Int) else some (0:Int)))))))
noncomputable def vW (x0:Int):Option Bool :=
 some (x0 != x0)
noncomputable def vG (x0:Int) (y1:Int):Option Int :=
 ((vW x0).bind fun v1=>((vW y1).bind fun v2=>(if v1=true then (if v2=true then some (0:Int) else some (-1:Int)) else (if v2=true then some (1:Int) else (if (decide (x0 < y1))=true then some (-1:Int) else (if (decide (x0 > y1))=true then some (1:Int) else some (0:Int)))))))
noncomputable def vF (x0:Int):Option Bool :=
 some (x0 != x0)
noncomputable def vq (x0:Int) (y1:Int):Option Int :=
 ((vF x0).bind fun v1=>((vF y1).bind fun v2=>(if v1=true then (if v2=true then some (0:Int) else some (-1:Int)) else (if v2=true then some (1:Int) else (if (decide (x0 < y1))=true then some (-1:Int) else (if (decide (x0 > y1))=true then some (1:Int) else some (0:Int)))))))
noncomputable def dotXcompare (a0:GActor) (b1:GActor):Option Int :=
 ((vG a0.rep b1.rep).bind fun v1=>((vq a0.inc b1.inc).bind fun v2=>((cmpOrInt ([v1,v2]:List Int)).bind fun v3=>some v3)))
noncomputable def vw (a0:GDot) (b1:GDot):Option Int :=
 ((dotXcompare a0.actor b1.actor).bind fun v1=>((wx a0.seq b1.seq).bind fun v2=>((cmpOrInt ([v1,v2]:List Int)).bind fun v3=>some v3)))
noncomputable def qd (a0:Int) (d1:GDot) (b2:Int) (o3:GDot):Option Int :=
 ((wx a0 b2).bind fun v1=>((vw d1 o3).bind fun v2=>((cmpOrInt ([v1,v2]:List Int)).bind fun v3=>some v3)))
noncomputable def qy (time0:Int) (d1:GDot) (other2:Int) (o3:GDot):Option Bool :=
 ((qd time0 d1 other2 o3).bind fun v1=>some (decide (v1 < (0:Int))))
noncomputable def qG (s0:(List GDot)) (v1:GDot):Option Int :=
 (lp (yu (fun (n1:Nat) (x1:GDot) (s1:Unit)=>((if (v1.actor.rep==x1.actor.rep&&(v1.actor.inc==x1.actor.inc&&(v1.seq==x1.seq&&true)))=true then some (.ret (n1:Int)) else some (.nxt ())):Option (Out _ Unit))) s0 0 ()) fun (s1:Unit)=>some (-1:Int))
noncomputable def wh (s0:(List GDot)) (v1:GDot):Option Bool :=
 ((qG s0 v1).bind fun v1=>some (decide (v1 ≥ (0:Int))))
/-- slices.Insert[[]varve/api.Item,varve/api.Item]: insO -/
def slicesInsertItemX:Unit:=()
noncomputable def yg (x0:(List GItem)) (target1:GItem) (cmp2:(GItem→GItem→Option Int)):Option (Int×Bool) :=
 (lp (wP (fun (s1:Int×Int)=>((if (decide (s1.1 < s1.2))=true then ((vT x0 (IntKind.wrap .i64 ((Int.fdiv (IntKind.wrap .u64 ((IntKind.wrap .i64 (s1.1+s1.2)))) (2 ^ (min (1:Int).toNat (IntKind.bits .u64))))))).bind fun y14=>((cmp2 y14 target1).bind fun v15=>(if (decide (v15 < (0:Int)))=true then some (.nxt ((IntKind.wrap .i64 ((IntKind.wrap .i64 ((Int.fdiv (IntKind.wrap .u64 ((IntKind.wrap .i64 (s1.1+s1.2)))) (2 ^ (min (1:Int).toNat (IntKind.bits .u64))))))+(1:Int))),s1.2)) else some (.nxt (s1.1,(IntKind.wrap .i64 ((Int.fdiv (IntKind.wrap .u64 ((IntKind.wrap .i64 (s1.1+s1.2)))) (2 ^ (min (1:Int).toNat (IntKind.bits .u64))))))))))) else some (.brk (s1.1,s1.2))):Option (Out _ (Int×Int)))) ((0:Int),((x0).length:Int))) fun (s1:Int×Int)=>(qC (((decide (s1.1 < ((x0).length:Int)))==true)=true→0≤s1.1∧s1.1 < ((x0).length:Int)) (((if ((decide (s1.1 < ((x0).length:Int)))==true)=true then cmp2 ((x0).getD s1.1.toNat default) target1 else some default).bind fun v18=>some (s1.1,((decide (s1.1 < ((x0).length:Int)))&&(v18==(0:Int))))))))
noncomputable def xy (a0:GItem) (b1:GItem):Option Int :=
 ((qd a0.time a0.dot b1.time b1.dot).bind fun v1=>some v1)
noncomputable def xb (s0:(List GItem)) (f1:(GItem→Option Bool)):Option Int :=
 (lp (yu (fun (n1:Nat) (x1:GItem) (s1:Unit)=>(((f1 x1).bind fun v7=>(if v7=true then some (.ret (n1:Int)) else some (.nxt ()))):Option (Out _ Unit))) s0 0 ()) fun (s1:Unit)=>some (-1:Int))
noncomputable def xT (s0:(List GItem)) (f1:(GItem→Option Bool)):Option Bool :=
 ((xb s0 f1).bind fun v1=>some (decide (v1 ≥ (0:Int))))
noncomputable def leafXhasC1 (x0:GItem) (c0:GDot):Option Bool :=
 some (x0.dot.actor.rep==c0.actor.rep&&(x0.dot.actor.inc==c0.actor.inc&&(x0.dot.seq==c0.seq&&true)))
noncomputable def leafXhas (l0:(List GItem)) (d1:GDot):Option Bool :=
 ((xT l0 (fun x0=>leafXhasC1 x0 d1)).bind fun v1=>some v1)
/-- slices.SortFunc[[]varve/api.Dot,varve/api.Dot]: sortO -/
def slicesSortFuncDotX:Unit:=()
noncomputable def wO (s0:(List GDot)):Option (List GDot) :=
 (if (decide (((s0).length:Int) < (2:Int)))=true then some s0 else (lp (wP (fun (s1:Int)=>((if (decide (s1 < ((s0).length:Int)))=true then ((vT s0 s1).bind fun y35=>((vT s0 (IntKind.wrap .i64 (s1 - (1:Int)))).bind fun y36=>(if (y35.actor.rep==y36.actor.rep&&(y35.actor.inc==y36.actor.inc&&(y35.seq==y36.seq&&true)))=true then (qC (0≤s1∧s1≤((s0.length:Nat):Int)) ((lp (wP (fun (s2:Int×Int×(List GDot))=>((qC ((s2.2.2).length=s0.length) ((if (decide (s2.2.1 < ((s0.length - s1.toNat:Nat):Int)))=true then ((vT (s2.2.2.drop s1.toNat) s2.2.1).bind fun y51=>((vT (s2.2.2.drop s1.toNat) (IntKind.wrap .i64 (s2.2.1 - (1:Int)))).bind fun y52=>(if (!(y51.actor.rep==y52.actor.rep&&(y51.actor.inc==y52.actor.inc&&(y51.seq==y52.seq&&true))))=true then ((vT (s2.2.2.drop s1.toNat) s2.2.1).bind fun y54=>((vT s2.2.2 s2.1).bind fun y55=>some (.nxt ((IntKind.wrap .i64 (s2.1+(1:Int))),(IntKind.wrap .i64 (s2.2.1+(1:Int))),(s2.2.2.set s2.1.toNat y54))))) else some (.nxt (s2.1,(IntKind.wrap .i64 (s2.2.1+(1:Int))),s2.2.2))))) else some (.brk (s2.1,s2.2.1,s2.2.2))))):Option (Out _ (Int×Int×(List GDot))))) (s1,(1:Int),s0)) fun (s2:Int×Int×(List GDot))=>(qC (0≤s2.1∧s2.1≤((s0.length:Nat):Int)) (((slc (s2.2.2.take s2.1.toNat++List.replicate (s0.length - s2.1.toNat) (GDot.mk (GActor.mk (0:Int) (0:Int)) (0:Int))) (0:Int) s2.1).bind fun m57=>some (.ret m57))))))) else some (.nxt (IntKind.wrap .i64 (s1+(1:Int))))))) else some (.brk s1)):Option (Out _ Int))) (1:Int)) fun (s1:Int)=>some s0))
noncomputable def x8 (s0:(List GItem)) (del1:(GItem→Option Bool)):Option (List GItem) :=
 ((xb s0 del1).bind fun v1=>(if (v1==(-1:Int))=true then some s0 else (lp (wP (fun (s1:Int×Int×(List GItem))=>((qC ((s1.2.2).length=s0.length) ((if (decide (s1.2.1 < ((s0.length:Nat):Int)))=true then ((vT s1.2.2 s1.2.1).bind fun y14=>((del1 y14).bind fun v15=>(if (!v15)=true then ((vT s1.2.2 s1.1).bind fun y17=>some (.nxt ((IntKind.wrap .i64 (s1.1+(1:Int))),(IntKind.wrap .i64 (s1.2.1+(1:Int))),(s1.2.2.set s1.1.toNat y14)))) else some (.nxt (s1.1,(IntKind.wrap .i64 (s1.2.1+(1:Int))),s1.2.2))))) else some (.brk (s1.1,s1.2.1,s1.2.2))))):Option (Out _ (Int×Int×(List GItem))))) (v1,(IntKind.wrap .i64 (v1+(1:Int))),s0)) fun (s1:Int×Int×(List GItem))=>(qC (0≤s1.1∧s1.1≤((s0.length:Nat):Int)) (((slc (s1.2.2.take s1.1.toNat++List.replicate (s0.length - s1.1.toNat) (GItem.mk (0:Int) (GDot.mk (GActor.mk (0:Int) (0:Int)) (0:Int)) ([]:yn))) (0:Int) s1.1).bind fun m19=>some m19))))))
noncomputable def wC (x0:GItem) (c0:GEvent):Option Bool :=
 ((wh c0.op.dots x0.dot).bind fun v1=>some v1)
noncomputable def wL (s0:(List GItem)):Option (List GItem) :=
 (nilq s0 fun b1=>(if b1=true then some ([]:List GItem) else (qC ((([]:List GItem)).length+(s0).length≤qE) (some (([]:List GItem)++s0)))))
noncomputable def vi (s0:(List GDot)):Option (List GDot) :=
 (nilq s0 fun b1=>(if b1=true then some ([]:List GDot) else (qC ((([]:List GDot)).length+(s0).length≤qE) (some (([]:List GDot)++s0)))))
noncomputable def vA (s10:(List GItem)) (s21:(List GItem)):Option Bool :=
 (if (((s10).length:Int) != ((s21).length:Int))=true then some false else (lp (yu (fun (n1:Nat) (x1:GItem) (s1:Unit)=>(((vT s21 (n1:Int)).bind fun y10=>(if (!(x1.time==y10.time&&(x1.dot.actor.rep==y10.dot.actor.rep&&(x1.dot.actor.inc==y10.dot.actor.inc&&(x1.dot.seq==y10.dot.seq&&(x1.text==y10.text&&true))))))=true then some (.ret false) else some (.nxt ()))):Option (Out _ Unit))) s10 0 ()) fun (s1:Unit)=>some true))
noncomputable def vP (s10:(List GDot)) (s21:(List GDot)):Option Bool :=
 (if (((s10).length:Int) != ((s21).length:Int))=true then some false else (lp (yu (fun (n1:Nat) (x1:GDot) (s1:Unit)=>(((vT s21 (n1:Int)).bind fun y10=>(if (!(x1.actor.rep==y10.actor.rep&&(x1.actor.inc==y10.actor.inc&&(x1.seq==y10.seq&&true))))=true then some (.ret false) else some (.nxt ()))):Option (Out _ Unit))) s10 0 ()) fun (s1:Unit)=>some true))
noncomputable def qK (a0:GLeaf) (b1:GLeaf):Option Bool :=
 ((if ((((((a0.typ==b1.typ)&&(a0.n==b1.n))&&(a0.time==b1.time))&&(a0.dot.actor.rep==b1.dot.actor.rep&&(a0.dot.actor.inc==b1.dot.actor.inc&&(a0.dot.seq==b1.dot.seq&&true))))&&(a0.text==b1.text))==true)=true then vA a0.items b1.items else some default).bind fun v1=>((if (((((((a0.typ==b1.typ)&&(a0.n==b1.n))&&(a0.time==b1.time))&&(a0.dot.actor.rep==b1.dot.actor.rep&&(a0.dot.actor.inc==b1.dot.actor.inc&&(a0.dot.seq==b1.dot.seq&&true))))&&(a0.text==b1.text))&&v1)==true)=true then vP a0.tombs b1.tombs else some default).bind fun v2=>some (((((((a0.typ==b1.typ)&&(a0.n==b1.n))&&(a0.time==b1.time))&&(a0.dot.actor.rep==b1.dot.actor.rep&&(a0.dot.actor.inc==b1.dot.actor.inc&&(a0.dot.seq==b1.dot.seq&&true))))&&(a0.text==b1.text))&&v1)&&v2)))
noncomputable def leafXisTime (n0:Int):Option Bool :=
 some ((decide (n0 ≥ (1:Int)))&&(decide (n0≤(1099511627776:Int))))
noncomputable def dotMayActor (a0:GActor):Option Bool :=
 some (((decide (a0.rep < (16:Int)))&&(decide (a0.inc ≥ (1:Int))))&&(decide (a0.inc≤(4:Int))))
noncomputable def dotMay (d0:GDot):Option Bool :=
 ((dotMayActor d0.actor).bind fun v1=>some ((v1&&(decide (d0.seq ≥ (1:Int))))&&(decide (d0.seq≤(1048576:Int)))))
noncomputable def qx (s0:yn):Option Bool :=
 some (decide (((s0).length:Int)≤(40:Int)))
noncomputable def leafXtwice (l0:(List GItem)):Option Bool :=
 (lp (yu (fun (n1:Nat) (x1:GItem) (s1:List (GDot×Int))=>(some (.nxt (mput GDot.eqb s1 x1.dot (IntKind.wrap .i64 ((w6 GDot.eqb (0:Int) s1 x1.dot)+(1:Int))))):Option (Out _ (List (GDot×Int))))) l0 0 ([]:List (GDot×Int))) fun (s1:List (GDot×Int))=>some (decide (((s1).length:Int) < ((l0).length:Int))))
noncomputable def qW (l0:(List GItem)) (timed1:Bool):Option Bool :=
 (lp (yu (fun (n1:Nat) (x1:GItem) (s1:Unit)=>(((dotMay x1.dot).bind fun v13=>((if ((!v13)==false)=true then qx x1.text else some default).bind fun v14=>((if (((!v13) || (!v14))==false)=true then leafXisTime x1.time else some default).bind fun v15=>(if ((((!v13) || (!v14)) || (!(timed1==v15))) || ((!timed1)&&(x1.time != (0:Int))))=true then some (.ret false) else (qC (((decide ((n1:Int) > (0:Int)))==true)=true→0≤(IntKind.wrap .i64 ((n1:Int) - (1:Int)))∧(IntKind.wrap .i64 ((n1:Int) - (1:Int))) < ((l0).length:Int)) ((qC (((decide ((n1:Int) > (0:Int)))==true)=true→0≤(IntKind.wrap .i64 ((n1:Int) - (1:Int)))∧(IntKind.wrap .i64 ((n1:Int) - (1:Int))) < ((l0).length:Int)) (((if ((decide ((n1:Int) > (0:Int)))==true)=true then qy (((l0).getD (IntKind.wrap .i64 ((n1:Int) - (1:Int))).toNat default).time) (((l0).getD (IntKind.wrap .i64 ((n1:Int) - (1:Int))).toNat default).dot) x1.time x1.dot else some default).bind fun v19=>(if ((decide ((n1:Int) > (0:Int)))&&(!v19))=true then some (.ret false) else some (.nxt ()))))))))))):Option (Out _ Unit))) l0 0 ()) fun (s1:Unit)=>((leafXtwice l0).bind fun v21=>some (!v21)))
noncomputable def leafXtombs (l0:GLeaf):Option Bool :=
 (lp (yu (fun (n1:Nat) (x1:GDot) (s1:Unit)=>(((dotMay x1).bind fun v19=>(qC ((((!v19)==false)&&((decide ((n1:Int) > (0:Int)))==true))=true→0≤(IntKind.wrap .i64 ((n1:Int) - (1:Int)))∧(IntKind.wrap .i64 ((n1:Int) - (1:Int))) < ((l0.tombs).length:Int)) (((if (((!v19)==false)&&((decide ((n1:Int) > (0:Int)))==true))=true then vw ((l0.tombs).getD (IntKind.wrap .i64 ((n1:Int) - (1:Int))).toNat default) x1 else some default).bind fun v21=>((if (((!v19) || ((decide ((n1:Int) > (0:Int)))&&(decide (v21 ≥ (0:Int)))))==false)=true then leafXhas l0.items x1 else some default).bind fun v22=>(if (((!v19) || ((decide ((n1:Int) > (0:Int)))&&(decide (v21 ≥ (0:Int))))) || v22)=true then some (.ret false) else some (.nxt ()))))))):Option (Out _ Unit))) l0.tombs 0 ()) fun (s1:Unit)=>some true)
noncomputable def leafMay (l0:GLeaf):Option Bool :=
 (if (l0.typ==(1:Int))=true then ((qK l0 (GLeaf.mk l0.typ l0.n (0:Int) (GDot.mk (GActor.mk (0:Int) (0:Int)) (0:Int)) ([]:yn) ([]:List GItem) ([]:List GDot))).bind fun v2=>some v2) else (if (l0.typ==(2:Int))=true then ((if ((l0.time != (0:Int))==true)=true then leafXisTime l0.time else some default).bind fun v4=>((if (((l0.time != (0:Int))==true)&&(v4==true))=true then dotMay l0.dot else some default).bind fun v5=>((if (((l0.time != (0:Int))==true)&&((v4&&v5)==true))=true then qx l0.text else some default).bind fun v6=>(if (((l0.time != (0:Int))&&(!((v4&&v5)&&v6))) || ((l0.time==(0:Int))&&((!(l0.dot.actor.rep==(0:Int)&&(l0.dot.actor.inc==(0:Int)&&(l0.dot.seq==(0:Int)&&true)))) || (!(l0.text==([]:yn))))))=true then some false else ((qK l0 (GLeaf.mk l0.typ (0:Int) l0.time l0.dot l0.text ([]:List GItem) ([]:List GDot))).bind fun v8=>some v8))))) else (if (l0.typ==(3:Int))=true then ((qW l0.items false).bind fun v10=>((if ((!v10)==false)=true then leafXtombs l0 else some default).bind fun v11=>(if ((!v10) || (!v11))=true then some false else ((qK l0 (GLeaf.mk l0.typ (0:Int) (0:Int) (GDot.mk (GActor.mk (0:Int) (0:Int)) (0:Int)) ([]:yn) l0.items l0.tombs)).bind fun v13=>some v13)))) else (if (l0.typ==(4:Int))=true then ((qW l0.items true).bind fun v15=>(if (!v15)=true then some false else ((qK l0 (GLeaf.mk l0.typ (0:Int) (0:Int) (GDot.mk (GActor.mk (0:Int) (0:Int)) (0:Int)) ([]:yn) l0.items ([]:List GDot))).bind fun v17=>some v17))) else some false))))
noncomputable def opXadds (o0:GOp):Option Bool :=
 some ((((decide (o0.n ≥ (-1000000:Int)))&&(decide (o0.n≤(1000000:Int))))&&(o0.text==([]:yn)))&&(((o0.dots).length:Int)==(0:Int)))
noncomputable def opXplain (o0:GOp):Option Bool :=
 some (((o0.n==(0:Int))&&(decide (((o0.text).length:Int)≤(40:Int))))&&(((o0.dots).length:Int)==(0:Int)))
noncomputable def opXdrops (o0:GOp):Option Bool :=
 (if (((o0.n != (0:Int)) || (decide (((o0.text).length:Int) > (40:Int)))) || (decide (((o0.dots).length:Int) > (64:Int))))=true then some false else (lp (yu (fun (n1:Nat) (x1:GDot) (s1:Unit)=>(((dotMay x1).bind fun v17=>(qC ((((!v17)==false)&&((decide ((n1:Int) > (0:Int)))==true))=true→0≤(IntKind.wrap .i64 ((n1:Int) - (1:Int)))∧(IntKind.wrap .i64 ((n1:Int) - (1:Int))) < ((o0.dots).length:Int)) (((if (((!v17)==false)&&((decide ((n1:Int) > (0:Int)))==true))=true then vw ((o0.dots).getD (IntKind.wrap .i64 ((n1:Int) - (1:Int))).toNat default) x1 else some default).bind fun v19=>(if ((!v17) || ((decide ((n1:Int) > (0:Int)))&&(decide (v19 ≥ (0:Int)))))=true then some (.ret false) else some (.nxt ())))))):Option (Out _ Unit))) o0.dots 0 ()) fun (s1:Unit)=>some true))
noncomputable def opXof (k0:Int):Option (GOpKind×Bool) :=
 (if ((decide (k0 < (1:Int))) || (decide (k0 > (5:Int))))=true then some ((GOpKind.mk (0:Int) 0),false) else ((vT ([(GOpKind.mk (0:Int) 0),(GOpKind.mk (1:Int) 1),(GOpKind.mk (2:Int) 2),(GOpKind.mk (3:Int) 2),(GOpKind.mk (3:Int) 3),(GOpKind.mk (4:Int) 2)]:List GOpKind) k0).bind fun y2=>some (y2,true)))
noncomputable def wF (s0:(List yn)) (f1:(yn→Option Bool)):Option Int :=
 (lp (yu (fun (n1:Nat) (x1:yn) (s1:Unit)=>(((f1 x1).bind fun v7=>(if v7=true then some (.ret (n1:Int)) else some (.nxt ()))):Option (Out _ Unit))) s0 0 ()) fun (s1:Unit)=>some (-1:Int))
noncomputable def xH (s0:(List yn)) (f1:(yn→Option Bool)):Option Bool :=
 ((wF s0 f1).bind fun v1=>some (decide (v1 ≥ (0:Int))))
noncomputable def qU (r0:Int):Option Bool :=
 some ((((decide (r0 < (97:Int))) || (decide (r0 > (122:Int))))&&((decide (r0 < (65:Int))) || (decide (r0 > (90:Int)))))&&((decide (r0 < (48:Int))) || (decide (r0 > (57:Int)))))
noncomputable def vK (s0:yn) (f1:(Int→Option Bool)) (truth2:Bool):Option Int :=
 (lp (wP (fun (s1:Nat)=>((if s1 < (s0).length then ((f1 ((dec s0 s1).1:Int)).bind fun v6=>(if (v6==truth2)=true then some (.ret (s1:Int)) else some (.nxt (s1+(dec s0 s1).2)))) else some (.brk s1)):Option (Out _ Nat))) 0) fun (s1:Nat)=>some (-1:Int))
noncomputable def vY (s0:yn) (f1:(Int→Option Bool)):Option Int :=
 ((vK s0 f1 true).bind fun v1=>some v1)
noncomputable def wo (s0:yn) (f1:(Int→Option Bool)):Option Bool :=
 ((vY s0 f1).bind fun v1=>some (decide (v1 ≥ (0:Int))))
noncomputable def opIsName (s0:yn):Option Bool :=
 ((if (((decide (((s0).length:Int) ≥ (1:Int)))&&(decide (((s0).length:Int)≤(12:Int))))==true)=true then wo s0 (fun x0=>qU x0) else some default).bind fun v3=>some (((decide (((s0).length:Int) ≥ (1:Int)))&&(decide (((s0).length:Int)≤(12:Int))))&&(!v3)))
noncomputable def opMayPathC1 (s0:yn):Option Bool :=
 ((opIsName s0).bind fun v1=>some (!v1))
noncomputable def opMayPath (p0:(List yn)):Option Bool :=
 ((if (((decide (((p0).length:Int) ≥ (1:Int)))&&(decide (((p0).length:Int)≤(3:Int))))==true)=true then xH p0 (fun x0=>opMayPathC1 x0) else some default).bind fun v3=>some (((decide (((p0).length:Int) ≥ (1:Int)))&&(decide (((p0).length:Int)≤(3:Int))))&&(!v3)))
noncomputable def callOp (c:Nat) (x0:GOp):Option Bool:=match c with
 | 1=>opXadds x0
 | 2=>opXplain x0
 | 3=>opXdrops x0
 | _=>none
noncomputable def opMay (o0:GOp):Option Bool :=
 ((opXof o0.kind).bind fun v1=>((if (v1.2==true)=true then opMayPath o0.path else some default).bind fun v2=>((if ((v1.2&&v2)==true)=true then callOp v1.1.may o0 else some default).bind fun v3=>some ((v1.2&&v2)&&v3))))
noncomputable def opMayEvent (e0:GEvent):Option Bool :=
 ((dotMay e0.dot).bind fun v1=>((if (((v1&&(decide (e0.time ≥ (1:Int))))&&(decide (e0.time≤(1099511627776:Int))))==true)=true then opMay e0.op else some default).bind fun v2=>some (((v1&&(decide (e0.time ≥ (1:Int))))&&(decide (e0.time≤(1099511627776:Int))))&&v2)))
noncomputable def opType (k0:Int):Option Int :=
 ((opXof k0).bind fun v1=>some v1.1.leaf)
noncomputable def vk (l0:GLeaf) (e1:GEvent):Option (GLeaf×Int) :=
 ((leafMay l0).bind fun v1=>((if ((!v1)==false)=true then opMayEvent e1 else some default).bind fun v2=>(if ((!v1) || (!v2))=true then some (zLf,(2:Int)) else ((opType e1.op.kind).bind fun v4=>(if (v4 != l0.typ)=true then some (zLf,(15:Int)) else ((wL l0.items).bind fun v6=>((vi l0.tombs).bind fun v7=>(if e1.op.kind=1 then ((some (IntKind.wrap .i64 (l0.n+e1.op.n)):Option Int).bind fun v9=>some ((GLeaf.mk l0.typ v9 l0.time l0.dot l0.text v6 v7),(0:Int))) else (if e1.op.kind=2 then ((((if ((l0.time==(0:Int))==false)=true then qy l0.time l0.dot e1.time e1.dot else some default).bind fun v14=>(if ((l0.time==(0:Int)) || v14)=true then some (e1.time,e1.dot.actor.rep,e1.dot.actor.inc,e1.dot.seq,e1.op.text) else some (l0.time,l0.dot.actor.rep,l0.dot.actor.inc,l0.dot.seq,l0.text))):Option (Int×Int×Int×Int×yn)).bind fun v11=>some ((GLeaf.mk l0.typ l0.n v11.1 (GDot.mk (GActor.mk v11.2.1 v11.2.2.1) v11.2.2.2.1) v11.2.2.2.2 v6 v7),(0:Int))) else (if e1.op.kind=3 then ((((wh v7 e1.dot).bind fun v29=>(if (!v29)=true then ((((leafXhas v6 e1.dot).bind fun v36=>(if v36=true then some v6 else ((yg v6 (GItem.mk (0:Int) e1.dot e1.op.text) (fun x0 x1=>xy x0 x1)).bind fun v38=>((insO v6 v38.1 ([(GItem.mk (0:Int) e1.dot e1.op.text)]:List GItem)).bind fun v39=>some v39)))):Option (List GItem)).bind fun v31=>some v31) else some v6)):Option (List GItem)).bind fun v17=>some ((GLeaf.mk l0.typ l0.n l0.time l0.dot l0.text v17 v7),(0:Int))) else (if e1.op.kind=4 then (((qC ((v7).length+(e1.op.dots).length≤qE) (((sortO (fun x y=>vw x y) (v7++e1.op.dots)).bind fun v47=>((wO v47).bind fun v48=>((x8 v6 (fun x0=>wC x0 e1)).bind fun v49=>some (v48,v49)))))):Option ((List GDot)×(List GItem))).bind fun v41=>some ((GLeaf.mk l0.typ l0.n l0.time l0.dot l0.text v41.2 v41.1),(0:Int))) else (if e1.op.kind=5 then ((((((leafXhas v6 e1.dot).bind fun v66=>(if v66=true then some v6 else ((yg v6 (GItem.mk e1.time e1.dot e1.op.text) (fun x0 x1=>xy x0 x1)).bind fun v68=>((insO v6 v68.1 ([(GItem.mk e1.time e1.dot e1.op.text)]:List GItem)).bind fun v69=>some v69)))):Option (List GItem)).bind fun v61=>some v61):Option (List GItem)).bind fun v51=>some ((GLeaf.mk l0.typ l0.n l0.time l0.dot l0.text v51 v7),(0:Int))) else some ((GLeaf.mk l0.typ l0.n l0.time l0.dot l0.text v6 v7),(0:Int))))))))))))))
noncomputable def qz  : Option Bool :=
 ((leafNew (3:Int)).bind fun v1=>((vk v1 (GEvent.mk (GDot.mk (GActor.mk (0:Int) (1:Int)) (1:Int)) (1:Int) (GOp.mk (3:Int) ([([97]:yn)]:List yn) (0:Int) ([117]:yn) ([]:List GDot)))).bind fun v2=>((vk v2.1 (GEvent.mk (GDot.mk (GActor.mk (0:Int) (1:Int)) (2:Int)) (2:Int) (GOp.mk (4:Int) ([([97]:yn)]:List yn) (0:Int) ([117]:yn) ([(GDot.mk (GActor.mk (0:Int) (1:Int)) (1:Int))]:List GDot)))).bind fun v3=>((leafNew (3:Int)).bind fun v4=>((vk v4 (GEvent.mk (GDot.mk (GActor.mk (0:Int) (1:Int)) (2:Int)) (2:Int) (GOp.mk (4:Int) ([([97]:yn)]:List yn) (0:Int) ([117]:yn) ([(GDot.mk (GActor.mk (0:Int) (1:Int)) (1:Int))]:List GDot)))).bind fun v5=>((vk v5.1 (GEvent.mk (GDot.mk (GActor.mk (0:Int) (1:Int)) (1:Int)) (1:Int) (GOp.mk (3:Int) ([([97]:yn)]:List yn) (0:Int) ([117]:yn) ([]:List GDot)))).bind fun v6=>((if (((((((v2.2==(0:Int))&&(v3.2==(0:Int)))&&(v5.2==(0:Int)))&&(v6.2==(0:Int)))&&(((v3.1.items).length:Int)==(0:Int)))&&(((v3.1.tombs).length:Int)==(1:Int)))==true)=true then vH v3.1 v6.1 else some default).bind fun v9=>some (((((((v2.2==(0:Int))&&(v3.2==(0:Int)))&&(v5.2==(0:Int)))&&(v6.2==(0:Int)))&&(((v3.1.items).length:Int)==(0:Int)))&&(((v3.1.tombs).length:Int)==(1:Int)))&&v9))))))))
noncomputable def qc (a0:GDot) (b1:GDot):Option Bool :=
 (if (a0.actor.rep != b1.actor.rep)=true then some (decide (a0.actor.rep < b1.actor.rep)) else (if (a0.actor.inc != b1.actor.inc)=true then some (decide (a0.actor.inc < b1.actor.inc)) else some (decide (a0.seq < b1.seq))))
noncomputable def vt (time0:Int) (d1:GDot) (other2:Int) (o3:GDot):Option Bool :=
 (if (time0 != other2)=true then some (decide (time0 < other2)) else ((qc d1 o3).bind fun v2=>some v2))
noncomputable def qi (a0:GActor):Option Bool :=
 some (((decide (a0.rep≤(15:Int)))&&(decide (a0.inc ≥ (1:Int))))&&(decide (a0.inc≤(4:Int))))
noncomputable def qH (d0:GDot):Option Bool :=
 ((qi d0.actor).bind fun v1=>some ((v1&&(decide (d0.seq ≥ (1:Int))))&&(decide (d0.seq≤(1048576:Int)))))
noncomputable def ref05Item (l0:(List GItem)) (d1:GDot):Option Int :=
 (lp (yu (fun (n1:Nat) (x1:GItem) (s1:Unit)=>((if (x1.dot.actor.rep==d1.actor.rep&&(x1.dot.actor.inc==d1.actor.inc&&(x1.dot.seq==d1.seq&&true)))=true then some (.ret (n1:Int)) else some (.nxt ())):Option (Out _ Unit))) l0 0 ()) fun (s1:Unit)=>some (-1:Int))
noncomputable def qb (l0:(List GDot)) (d1:GDot):Option Bool :=
 (lp (yu (fun (n1:Nat) (x1:GDot) (s1:Unit)=>((if (x1.actor.rep==d1.actor.rep&&(x1.actor.inc==d1.actor.inc&&(x1.seq==d1.seq&&true)))=true then some (.ret true) else some (.nxt ())):Option (Out _ Unit))) l0 0 ()) fun (s1:Unit)=>some false)
noncomputable def ref05May (l0:GLeaf):Option Bool :=
 (if (((((decide (l0.typ < (1:Int))) || (decide (l0.typ > (4:Int)))) || ((l0.typ != (1:Int))&&(l0.n != (0:Int)))) || ((decide (l0.typ < (3:Int)))&&(decide (((l0.items).length:Int) > (0:Int))))) || ((l0.typ != (3:Int))&&(decide (((l0.tombs).length:Int) > (0:Int)))))=true then some false else (lp ((if ((l0.typ != (2:Int)) || (l0.time==(0:Int)))=true then (if (((l0.time != (0:Int)) || (!(l0.dot.actor.rep==(0:Int)&&(l0.dot.actor.inc==(0:Int)&&(l0.dot.seq==(0:Int)&&true))))) || (!(l0.text==([]:yn))))=true then some (.inl false) else some (.inr ())) else ((if ((decide (l0.time > (1099511627776:Int)))==false)=true then qH l0.dot else some default).bind fun v11=>(if (((decide (l0.time > (1099511627776:Int))) || (!v11)) || (decide (((l0.text).length:Int) > (40:Int))))=true then some (.inl false) else some (.inr ())))):Option (_ ⊕ Unit)) fun (s1:Unit)=>(lp (yu (fun (n2:Nat) (x2:GItem) (s2:Unit)=>(((qH x2.dot).bind fun v41=>((if (((((!v41) || (decide (((x2.text).length:Int) > (40:Int)))) || ((l0.typ==(3:Int))&&(x2.time != (0:Int)))) || ((l0.typ==(4:Int))&&((decide (x2.time < (1:Int))) || (decide (x2.time > (1099511627776:Int))))))==false)=true then ref05Item l0.items x2.dot else some default).bind fun v43=>((if ((((((!v41) || (decide (((x2.text).length:Int) > (40:Int)))) || ((l0.typ==(3:Int))&&(x2.time != (0:Int)))) || ((l0.typ==(4:Int))&&((decide (x2.time < (1:Int))) || (decide (x2.time > (1099511627776:Int)))))) || (v43 != (n2:Int)))==false)=true then qb l0.tombs x2.dot else some default).bind fun v44=>(if ((((((!v41) || (decide (((x2.text).length:Int) > (40:Int)))) || ((l0.typ==(3:Int))&&(x2.time != (0:Int)))) || ((l0.typ==(4:Int))&&((decide (x2.time < (1:Int))) || (decide (x2.time > (1099511627776:Int)))))) || (v43 != (n2:Int))) || v44)=true then some (.ret false) else (qC (((decide ((n2:Int) > (0:Int)))==true)=true→0≤(IntKind.wrap .i64 ((n2:Int) - (1:Int)))∧(IntKind.wrap .i64 ((n2:Int) - (1:Int))) < ((l0.items).length:Int)) ((qC (((decide ((n2:Int) > (0:Int)))==true)=true→0≤(IntKind.wrap .i64 ((n2:Int) - (1:Int)))∧(IntKind.wrap .i64 ((n2:Int) - (1:Int))) < ((l0.items).length:Int)) (((if ((decide ((n2:Int) > (0:Int)))==true)=true then vt (((l0.items).getD (IntKind.wrap .i64 ((n2:Int) - (1:Int))).toNat default).time) (((l0.items).getD (IntKind.wrap .i64 ((n2:Int) - (1:Int))).toNat default).dot) x2.time x2.dot else some default).bind fun v48=>(if ((decide ((n2:Int) > (0:Int)))&&(!v48))=true then some (.ret false) else some (.nxt ()))))))))))):Option (Out _ Unit))) l0.items 0 ()) fun (s2:Unit)=>(lp (yu (fun (n3:Nat) (x3:GDot) (s3:Unit)=>(((qH x3).bind fun v73=>(qC ((((!v73)==false)&&((decide ((n3:Int) > (0:Int)))==true))=true→0≤(IntKind.wrap .i64 ((n3:Int) - (1:Int)))∧(IntKind.wrap .i64 ((n3:Int) - (1:Int))) < ((l0.tombs).length:Int)) ((qC ((((!v73)==false)&&((decide ((n3:Int) > (0:Int)))==true))=true→0≤(n3:Int)∧(n3:Int) < ((l0.tombs).length:Int)) (((if (((!v73)==false)&&((decide ((n3:Int) > (0:Int)))==true))=true then qc ((l0.tombs).getD (IntKind.wrap .i64 ((n3:Int) - (1:Int))).toNat default) ((l0.tombs).getD (n3:Int).toNat default) else some default).bind fun v76=>(if ((!v73) || ((decide ((n3:Int) > (0:Int)))&&(!v76)))=true then some (.ret false) else some (.nxt ())))))))):Option (Out _ Unit))) l0.tombs 0 ()) fun (s3:Unit)=>some true))))
noncomputable def ref05New (kind0:Int):Option GLeaf :=
 (if ((decide (kind0 ≥ (1:Int)))&&(decide (kind0≤(4:Int))))=true then some (GLeaf.mk kind0 (0:Int) (0:Int) (GDot.mk (GActor.mk (0:Int) (0:Int)) (0:Int)) ([]:yn) ([]:List GItem) ([]:List GDot)) else some zLf)
noncomputable def ref04IsName (s0:yn):Option Bool :=
 (if ((decide (((s0).length:Int) < (1:Int))) || (decide (((s0).length:Int) > (12:Int))))=true then some false else (lp (yu (fun (n1:Nat) (x1:UInt8) (s1:Unit)=>((if (!((((decide ((x1.toNat:Int) ≥ (97:Int)))&&(decide ((x1.toNat:Int)≤(122:Int)))) || ((decide ((x1.toNat:Int) ≥ (65:Int)))&&(decide ((x1.toNat:Int)≤(90:Int))))) || ((decide ((x1.toNat:Int) ≥ (48:Int)))&&(decide ((x1.toNat:Int)≤(57:Int))))))=true then some (.ret false) else some (.nxt ())):Option (Out _ Unit))) s0 0 ()) fun (s1:Unit)=>some true))
noncomputable def ref04MayPath (p0:(List yn)):Option Bool :=
 (lp (yu (fun (n1:Nat) (x1:yn) (s1:Unit)=>(((ref04IsName x1).bind fun v9=>(if (!v9)=true then some (.ret false) else some (.nxt ()))):Option (Out _ Unit))) p0 0 ()) fun (s1:Unit)=>some ((decide (((p0).length:Int) ≥ (1:Int)))&&(decide (((p0).length:Int)≤(3:Int)))))
noncomputable def ref04Type (kind0:Int):Option Int :=
 (if (kind0==(1:Int))=true then some (1:Int) else (if (kind0==(2:Int))=true then some (2:Int) else (if (kind0==(3:Int))=true then (if (kind0==(3:Int))=true then some (3:Int) else (if (kind0==(5:Int))=true then some (4:Int) else some (0:Int))) else (if (kind0==(4:Int))=true then some (3:Int) else (if (kind0==(5:Int))=true then some (4:Int) else some (0:Int))))))
noncomputable def ref04May (o0:GOp):Option Bool :=
 ((ref04Type o0.kind).bind fun v1=>((if ((v1==(0:Int))==false)=true then ref04MayPath o0.path else some default).bind fun v2=>(if ((((v1==(0:Int)) || (!v2)) || (decide (((o0.text).length:Int) > (40:Int)))) || (decide (((o0.dots).length:Int) > (64:Int))))=true then some false else (if (o0.kind==(1:Int))=true then some ((((decide (o0.n ≥ (-1000000:Int)))&&(decide (o0.n≤(1000000:Int))))&&(o0.text==([]:yn)))&&(((o0.dots).length:Int)==(0:Int))) else (if ((o0.n != (0:Int)) || ((o0.kind != (4:Int))&&(decide (((o0.dots).length:Int) > (0:Int)))))=true then some false else (lp (yu (fun (n1:Nat) (x1:GDot) (s1:Unit)=>(((qH x1).bind fun v26=>(qC ((((!v26)==false)&&((decide ((n1:Int) > (0:Int)))==true))=true→0≤(IntKind.wrap .i64 ((n1:Int) - (1:Int)))∧(IntKind.wrap .i64 ((n1:Int) - (1:Int))) < ((o0.dots).length:Int)) ((qC ((((!v26)==false)&&((decide ((n1:Int) > (0:Int)))==true))=true→0≤(n1:Int)∧(n1:Int) < ((o0.dots).length:Int)) (((if (((!v26)==false)&&((decide ((n1:Int) > (0:Int)))==true))=true then qc ((o0.dots).getD (IntKind.wrap .i64 ((n1:Int) - (1:Int))).toNat default) ((o0.dots).getD (n1:Int).toNat default) else some default).bind fun v29=>(if ((!v26) || ((decide ((n1:Int) > (0:Int)))&&(!v29)))=true then some (.ret false) else some (.nxt ())))))))):Option (Out _ Unit))) o0.dots 0 ()) fun (s1:Unit)=>some true))))))
noncomputable def qh (e0:GEvent):Option Bool :=
 ((qH e0.dot).bind fun v1=>((if (((v1&&(decide (e0.time ≥ (1:Int))))&&(decide (e0.time≤(1099511627776:Int))))==true)=true then ref04May e0.op else some default).bind fun v2=>some (((v1&&(decide (e0.time ≥ (1:Int))))&&(decide (e0.time≤(1099511627776:Int))))&&v2)))
noncomputable def ref05Lay (l0:(List GItem)) (x1:GItem):Option (List GItem) :=
 ((ref05Item l0 x1.dot).bind fun v1=>(if (decide (v1 ≥ (0:Int)))=true then (qC ((([]:List GItem)).length+(l0).length≤qE) (some (([]:List GItem)++l0))) else (lp (wP (fun (s1:(List GItem)×Int)=>((qC (((decide (s1.2 < ((l0).length:Int)))==true)=true→0≤s1.2∧s1.2 < ((l0).length:Int)) ((qC (((decide (s1.2 < ((l0).length:Int)))==true)=true→0≤s1.2∧s1.2 < ((l0).length:Int)) (((if ((decide (s1.2 < ((l0).length:Int)))==true)=true then vt (((l0).getD s1.2.toNat default).time) (((l0).getD s1.2.toNat default).dot) x1.time x1.dot else some default).bind fun v21=>(if ((decide (s1.2 < ((l0).length:Int)))&&v21)=true then ((vT l0 s1.2).bind fun y23=>(qC ((s1.1).length+(([y23]:List GItem)).length≤qE) (some (.nxt ((s1.1++([y23]:List GItem)),(IntKind.wrap .i64 (s1.2+(1:Int)))))))) else some (.brk (s1.1,s1.2)))))))):Option (Out _ ((List GItem)×Int)))) (([]:List GItem),(0:Int))) fun (s1:(List GItem)×Int)=>(qC ((s1.1).length+(([x1]:List GItem)).length≤qE) (((slc l0 s1.2 ((l0).length:Int)).bind fun m26=>(qC (((s1.1++([x1]:List GItem))).length+(m26).length≤qE) (some ((s1.1++([x1]:List GItem))++m26)))))))))
noncomputable def ref05Bury (l0:(List GDot)) (d1:GDot):Option (List GDot) :=
 ((qb l0 d1).bind fun v1=>(if v1=true then some l0 else (lp (wP (fun (s1:(List GDot)×Int)=>((qC (((decide (s1.2 < ((l0).length:Int)))==true)=true→0≤s1.2∧s1.2 < ((l0).length:Int)) (((if ((decide (s1.2 < ((l0).length:Int)))==true)=true then qc ((l0).getD s1.2.toNat default) d1 else some default).bind fun v16=>(if ((decide (s1.2 < ((l0).length:Int)))&&v16)=true then ((vT l0 s1.2).bind fun y18=>(qC ((s1.1).length+(([y18]:List GDot)).length≤qE) (some (.nxt ((s1.1++([y18]:List GDot)),(IntKind.wrap .i64 (s1.2+(1:Int)))))))) else some (.brk (s1.1,s1.2)))))):Option (Out _ ((List GDot)×Int)))) (([]:List GDot),(0:Int))) fun (s1:(List GDot)×Int)=>(qC ((s1.1).length+(([d1]:List GDot)).length≤qE) (((slc l0 s1.2 ((l0).length:Int)).bind fun m21=>(qC (((s1.1++([d1]:List GDot))).length+(m21).length≤qE) (some ((s1.1++([d1]:List GDot))++m21)))))))))
noncomputable def ref05Left (l0:(List GItem)) (tombs1:(List GDot)):Option (List GItem) :=
 (lp (yu (fun (n1:Nat) (x1:GItem) (s1:(List GItem))=>(((qb tombs1 x1.dot).bind fun v12=>(if (!v12)=true then (qC ((s1).length+(([x1]:List GItem)).length≤qE) (some (.nxt (s1++([x1]:List GItem))))) else some (.nxt s1))):Option (Out _ (List GItem)))) l0 0 ([]:List GItem)) fun (s1:(List GItem))=>some s1)
noncomputable def ref05Apply (l0:GLeaf) (e1:GEvent):Option (GLeaf×Int) :=
 ((ref05May l0).bind fun v1=>((if ((!v1)==false)=true then qh e1 else some default).bind fun v2=>(if ((!v1) || (!v2))=true then some (zLf,(2:Int)) else ((ref04Type e1.op.kind).bind fun v4=>(if (v4 != l0.typ)=true then some (zLf,(15:Int)) else (if (e1.op.kind==(1:Int))=true then some ((GLeaf.mk l0.typ (IntKind.wrap .i64 (l0.n+e1.op.n)) l0.time l0.dot l0.text l0.items l0.tombs),(0:Int)) else (if (e1.op.kind==(2:Int))=true then ((if ((l0.time==(0:Int))==false)=true then vt l0.time l0.dot e1.time e1.dot else some default).bind fun v8=>(if ((l0.time==(0:Int)) || v8)=true then some ((GLeaf.mk l0.typ l0.n e1.time e1.dot e1.op.text l0.items l0.tombs),(0:Int)) else some (l0,(0:Int)))) else (if (e1.op.kind==(3:Int))=true then ((qb l0.tombs e1.dot).bind fun v11=>(if (!v11)=true then ((ref05Lay l0.items (GItem.mk (0:Int) e1.dot e1.op.text)).bind fun v13=>some ((GLeaf.mk l0.typ l0.n l0.time l0.dot l0.text v13 l0.tombs),(0:Int))) else some (l0,(0:Int)))) else (if (e1.op.kind==(4:Int))=true then (lp (yu (fun (n1:Nat) (x1:GDot) (s1:(List GDot))=>(((ref05Bury s1 x1).bind fun v49=>some (.nxt v49)):Option (Out _ (List GDot)))) e1.op.dots 0 l0.tombs) fun (s1:(List GDot))=>((ref05Left l0.items s1).bind fun v50=>some ((GLeaf.mk l0.typ l0.n l0.time l0.dot l0.text v50 s1),(0:Int)))) else (if (e1.op.kind==(5:Int))=true then ((ref05Lay l0.items (GItem.mk e1.time e1.dot e1.op.text)).bind fun v52=>some ((GLeaf.mk l0.typ l0.n l0.time l0.dot l0.text v52 l0.tombs),(0:Int))) else some (l0,(0:Int))))))))))))
noncomputable def vl (l0:GLeaf) (m1:GLeaf) (e2:GEvent):Option Bool :=
 ((vS l0).bind fun v1=>((if (v1==false)=true then vS m1 else some default).bind fun v2=>((if ((v1 || v2)==false)=true then law05Xfat e2.op else some default).bind fun v3=>(if ((v1 || v2) || v3)=true then ((qz).bind fun v5=>some v5) else (qC ((([]:List GItem)).length+(l0.items).length≤qE) ((qC ((([]:List GDot)).length+(l0.tombs).length≤qE) (((leafMay (GLeaf.mk l0.typ l0.n l0.time l0.dot l0.text (([]:List GItem)++l0.items) (([]:List GDot)++l0.tombs))).bind fun v8=>((ref05May l0).bind fun v9=>((if ((!(v8==v9))==false)=true then qK l0 m1 else some default).bind fun v10=>((if ((!(v8==v9))==false)=true then vH l0 m1 else some default).bind fun v11=>((if (((!(v8==v9)) || (!(v10==v11)))==false)=true then leafNew l0.typ else some default).bind fun v12=>((if (((!(v8==v9)) || (!(v10==v11)))==false)=true then ref05New l0.typ else some default).bind fun v13=>((if (((!(v8==v9)) || (!(v10==v11)))==false)=true then vH v12 v13 else some default).bind fun v14=>((if ((((!(v8==v9)) || (!(v10==v11))) || (!v14))==false)=true then qy l0.time l0.dot m1.time m1.dot else some default).bind fun v15=>((if ((((!(v8==v9)) || (!(v10==v11))) || (!v14))==false)=true then vt l0.time l0.dot m1.time m1.dot else some default).bind fun v16=>(if ((((!(v8==v9)) || (!(v10==v11))) || (!v14)) || (!(v15==v16)))=true then some false else ((vk (GLeaf.mk l0.typ l0.n l0.time l0.dot l0.text (([]:List GItem)++l0.items) (([]:List GDot)++l0.tombs)) e2).bind fun v18=>((ref05Apply l0 e2).bind fun v19=>((if ((v18.2 != v19.2)==false)=true then vH v18.1 v19.1 else some default).bind fun v20=>((if (((v18.2 != v19.2) || (!v20))==false)=true then vH (GLeaf.mk l0.typ l0.n l0.time l0.dot l0.text (([]:List GItem)++l0.items) (([]:List GDot)++l0.tombs)) l0 else some default).bind fun v21=>(if (((v18.2 != v19.2) || (!v20)) || (!v21))=true then some false else (qC ((((v18.1.items).length:Nat):Int)≤9223372036854775807) (lp (yu (fun (n1:Nat) (x1:Nat) (s1:(List GItem))=>((qC ((s1).length=(v18.1.items).length) (((vT s1 (n1:Int)).bind fun y81=>some (.nxt (s1.set (n1:Int).toNat (GItem.mk y81.time y81.dot ([33]:yn))))))):Option (Out _ (List GItem)))) (List.range (((((v18.1.items).length:Nat):Int)).toNat)) 0 v18.1.items) fun (s1:(List GItem))=>(qC ((((v18.1.tombs).length:Nat):Int)≤9223372036854775807) (lp (yu (fun (n2:Nat) (x2:Nat) (s2:(List GDot))=>((qC ((s2).length=(v18.1.tombs).length) (((vT s2 (n2:Int)).bind fun y141=>((vT s2 (n2:Int)).bind fun y142=>some (.nxt (s2.set (n2:Int).toNat (GDot.mk y142.actor (IntKind.wrap .u64 (y141.seq+(1:Int)))))))))):Option (Out _ (List GDot)))) (List.range (((((v18.1.tombs).length:Nat):Int)).toNat)) 0 v18.1.tombs) fun (s2:(List GDot))=>((vH (GLeaf.mk l0.typ l0.n l0.time l0.dot l0.text (([]:List GItem)++l0.items) (([]:List GDot)++l0.tombs)) l0).bind fun v143=>((if (v143==true)=true then qz else some default).bind fun v144=>some (v143&&v144))))))))))))))))))))))))))))))
end Go.Vv
