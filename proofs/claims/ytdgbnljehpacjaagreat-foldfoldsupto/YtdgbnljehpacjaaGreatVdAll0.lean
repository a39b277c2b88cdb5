/- What the functions compute, as plain functions; printed by a program from the code. -/
import Derived.Test.YtdgbnljehpacjaaGreatVvS
import Derived.Test.YtdgbnljehpacjaaGreatVvZ
import Derived.Test.YtdgbnljehpacjaaGreatVvRb
import Derived.Test.YtdgbnljehpacjaaGreatVvSo
import Derived.Test.YtdgbnljehpacjaaGreatVvSs
set_option linter.all false
namespace Go.Vv
noncomputable section
open Go
structure GJ where
 rep:Int
 inc:Int
 deriving DecidableEq,Inhabited
def GJ.eqb (a b:GJ):Bool:=(a.rep==b.rep&&(a.inc==b.inc&&true))
structure GE where
 actor:GJ
 seq:Int
 deriving DecidableEq,Inhabited
def GE.eqb (a b:GE):Bool:=(a.actor.rep==b.actor.rep&&(a.actor.inc==b.actor.inc&&(a.seq==b.seq&&true)))
structure GF where
 time:Int
 dot:GE
 text:zu
 deriving DecidableEq,Inhabited
def GF.eqb (a b:GF):Bool:=(a.time==b.time&&(a.dot.actor.rep==b.dot.actor.rep&&(a.dot.actor.inc==b.dot.actor.inc&&(a.dot.seq==b.dot.seq&&(a.text==b.text&&true)))))
structure GC where
 typ:Int
 n:Int
 time:Int
 dot:GE
 text:zu
 items:(List GF)
 tombs:(List GE)
 deriving DecidableEq,Inhabited
structure GA where
 name:zu
 leaves:(List GC)
 subs:(List GA)
 deriving Inhabited
structure GK where
 kind:Int
 path:(List zu)
 n:Int
 text:zu
 dots:(List GE)
 deriving DecidableEq,Inhabited
structure GH where
 dot:GE
 time:Int
 op:GK
 deriving DecidableEq,Inhabited
structure GI where
 e:GH
 att:Int
 deriving DecidableEq,Inhabited
structure GM where
 leaf:Int
 may:Nat
 deriving DecidableEq,Inhabited
def GJ.wf (x:GJ):Prop:=(InK .u8 x.rep)/\(InK .u32 x.inc)
def GE.wf (x:GE):Prop:=(GJ.wf x.actor)/\(InK .u64 x.seq)
def GF.wf (x:GF):Prop:=(InK .u64 x.time)/\(GE.wf x.dot)/\(x.text.length<=maxLen)
def GC.wf (x:GC):Prop:=(InK .u8 x.typ)/\(InK .i64 x.n)/\(InK .u64 x.time)/\(GE.wf x.dot)/\(x.text.length<=maxLen)/\(x.items.length<=maxLen/\∀y ∈ x.items,GF.wf y)/\(x.tombs.length<=maxLen/\∀y ∈ x.tombs,GE.wf y)
mutual
def GA.wf:GA->Prop
 | ⟨name,leaves,subs⟩=>(name.length<=maxLen)/\(leaves.length<=maxLen/\∀y ∈ leaves,GC.wf y)/\(GA.wfs subs)
def GA.wfs:List GA->Prop
 | []=>True
 | x::r=>x.wf/\GA.wfs r
end
theorem GA.wfs_iff (l:List GA):GA.wfs l ↔ ∀y ∈ l,GA.wf y:=by
 induction l with
 | nil=>simp [GA.wfs]
 | cons x r ih=>simp [GA.wfs,ih]
def GK.wf (x:GK):Prop:=(InK .u8 x.kind)/\(x.path.length<=maxLen/\∀y ∈ x.path,y.length<=maxLen)/\(InK .i64 x.n)/\(x.text.length<=maxLen)/\(x.dots.length<=maxLen/\∀y ∈ x.dots,GE.wf y)
def GH.wf (x:GH):Prop:=(GE.wf x.dot)/\(InK .u64 x.time)/\(GK.wf x.op)
def GI.wf (x:GI):Prop:=(GH.wf x.e)/\(InK .i64 x.att)
def GJ.bk (x:GJ):Nat:=(1+(1+0))+1
def GE.bk (x:GE):Nat:=(GJ.bk x.actor+(1+0))+1
def GF.bk (x:GF):Nat:=(1+(GE.bk x.dot+((x.text.length+1)+0)))+1
def GC.bk (x:GC):Nat:=(1+(1+(1+(GE.bk x.dot+((x.text.length+1)+(((x.items.map GF.bk).sum+1)+(((x.tombs.map GE.bk).sum+1)+0)))))))+1
mutual
def GA.bk:GA->Nat
 | ⟨name,leaves,subs⟩=>((name.length+1)+(((leaves.map GC.bk).sum+1)+(((GA.bks subs)+1)+0)))+1
def GA.bks:List GA->Nat
 | []=>0
 | x::r=>x.bk+GA.bks r
end
theorem GA.bks_eq (l:List GA):GA.bks l=(l.map GA.bk).sum:=by
 induction l with
 | nil=>rfl
 | cons x r ih=>simp only [GA.bks,uz,si,ih]
def GK.bk (x:GK):Nat:=(1+(((x.path.map (λs=>s.length+1)).sum+1)+(1+((x.text.length+1)+(((x.dots.map GE.bk).sum+1)+0)))))+1
def GH.bk (x:GH):Nat:=(GE.bk x.dot+(1+(GK.bk x.op+0)))+1
def GI.bk (x:GI):Nat:=(GH.bk x.e+(1+0))+1
abbrev zLf:GC:=GC.mk (0:Int) (0:Int) (0:Int) (GE.mk (GJ.mk (0:Int) (0:Int)) (0:Int)) ([]:zu) ([]:List GF) ([]:List GE)
def xj:Nat->(t0:(List GA))->(deep1:Int)->Option Int
 | 0,_,_=>none
 | n+1,t0,deep1=>(lp (zZ (λ(s1:Int×Int)=>((if ((decide (s1.2 < ((t0).length:Int)))&&(decide (deep1 < (10:Int))))=true then ((zQ t0 s1.2).bind λy68=>((zQ t0 s1.2).bind λy70=>((xj n y70.subs (IntKind.wrap .i64 (deep1+(1:Int)))).bind λv71=>(lp (zZ (λ(s2:Int×Int)=>(((zQ t0 s1.2).bind λy102=>(if (decide (s2.2 < ((y102.leaves).length:Int)))=true then ((zQ t0 s1.2).bind λy105=>((zQ y105.leaves s2.2).bind λy106=>(lp (zp (λ(n3:Nat) (x3:GF) (s3:Int)=>(some (.nxt (IntKind.wrap .i64 ((IntKind.wrap .i64 (s3+(1:Int)))+((x3.text).length:Int)))):Option (Out _ Int))) y106.items 0 (IntKind.wrap .i64 ((IntKind.wrap .i64 ((IntKind.wrap .i64 (s2.1+(1:Int)))+((y106.text).length:Int)))+((y106.tombs).length:Int)))) λ(s3:Int)=>some (.nxt (s3,(IntKind.wrap .i64 (s2.2+(1:Int)))))))) else some (.brk (s2.1,s2.2)))):Option (Out _ (Int×Int)))) ((IntKind.wrap .i64 ((IntKind.wrap .i64 ((IntKind.wrap .i64 (s1.1+(1:Int)))+((y68.name).length:Int)))+v71)),(0:Int))) λ(s2:Int×Int)=>some (.nxt (s2.1,(IntKind.wrap .i64 (s1.2+(1:Int))))))))) else some (.brk (s1.1,s1.2))):Option (Out _ (Int×Int)))) ((0:Int),(0:Int))) λ(s1:Int×Int)=>some s1.1)
def ref07Xsize (t0:(List GA)) (deep1:Int):Option Int:=anyN λn=>xj n t0 deep1
def qb (t0:(List GA)):Option Bool :=
 ((ref07Xsize t0 (0:Int)).bind λv1=>some (decide (v1 > (1500:Int))))
def law10Xgreat (l0:(List GH)):Option Bool :=
 (lp (zp (λ(n1:Nat) (x1:GH) (s1:Unit)=>((lp (zp (λ(n2:Nat) (x2:zu) (s2:Int)=>(some (.nxt (IntKind.wrap .i64 (s2+((x2).length:Int)))):Option (Out _ Int))) x1.op.path 0 ((x1.op.text).length:Int)) λ(s2:Int)=>(if (((decide (((x1.op.path).length:Int) > (20:Int))) || (decide (((x1.op.dots).length:Int) > (100:Int)))) || (decide (s2 > (1000:Int))))=true then some (.ret true) else some (.nxt ()))):Option (Out _ Unit))) l0 0 ()) λ(s1:Unit)=>some (decide (((l0).length:Int) > (40:Int))))
def vg (s0:(List zu)):Option (List zu) :=
 (nilq s0 λb1=>(if b1=true then some ([]:List zu) else (yl ((([]:List zu)).length+(s0).length<=lim) (some (([]:List zu)++s0)))))
def yS (s0:(List GE)):Option (List GE) :=
 (nilq s0 λb1=>(if b1=true then some ([]:List GE) else (yl ((([]:List GE)).length+(s0).length<=lim) (some (([]:List GE)++s0)))))
def foldXown (e0:GH):Option GH :=
 ((vg e0.op.path).bind λv1=>((yS e0.op.dots).bind λv2=>some (GH.mk e0.dot e0.time (GK.mk e0.op.kind v1 e0.op.n e0.op.text v2))))
def cmpOrInt (vals0:(List Int)):Option Int :=
 (lp (zp (λ(n1:Nat) (x1:Int) (s1:Unit)=>((if (x1 != (0:Int))=true then some (.ret x1) else some (.nxt ())):Option (Out _ Unit))) vals0 0 ()) λ(s1:Unit)=>some (0:Int))
def wY (x0:Int):Option Bool :=
 some (x0 != x0)
def wG (x0:Int) (y1:Int):Option Int :=
 ((wY x0).bind λv1=>((wY y1).bind λv2=>(if v1=true then (if v2=true then some (0:Int) else some (-1:Int)) else (if v2=true then some (1:Int) else (if (decide (x0 < y1))=true then some (-1:Int) else (if (decide (x0 > y1))=true then some (1:Int) else some (0:Int)))))))
def vu (x0:Int):Option Bool :=
 some (x0 != x0)
def xX (x0:Int) (y1:Int):Option Int :=
 ((vu x0).bind λv1=>((vu y1).bind λv2=>(if v1=true then (if v2=true then some (0:Int) else some (-1:Int)) else (if v2=true then some (1:Int) else (if (decide (x0 < y1))=true then some (-1:Int) else (if (decide (x0 > y1))=true then some (1:Int) else some (0:Int)))))))
def dotXcompare (a0:GJ) (b1:GJ):Option Int :=
 ((xX a0.rep b1.rep).bind λv1=>((wG a0.inc b1.inc).bind λv2=>((cmpOrInt ([v1,v2]:List Int)).bind λv3=>some v3)))
def wX (x0:Int):Option Bool :=
 some (x0 != x0)
def we (x0:Int) (y1:Int):Option Int :=
 ((wX x0).bind λv1=>((wX y1).bind λv2=>(if v1=true then (if v2=true then some (0:Int) else some (-1:Int)) else (if v2=true then some (1:Int) else (if (decide (x0 < y1))=true then some (-1:Int) else (if (decide (x0 > y1))=true then some (1:Int) else some (0:Int)))))))
def wx (a0:GE) (b1:GE):Option Int :=
 ((dotXcompare a0.actor b1.actor).bind λv1=>((we a0.seq b1.seq).bind λv2=>((cmpOrInt ([v1,v2]:List Int)).bind λv3=>some v3)))
def vF (a0:Int) (d1:GE) (b2:Int) (o3:GE):Option Int :=
 ((we a0 b2).bind λv1=>((wx d1 o3).bind λv2=>((cmpOrInt ([v1,v2]:List Int)).bind λv3=>some v3)))
def w9 (time0:Int) (d1:GE) (other2:Int) (o3:GE):Option Bool :=
 ((vF time0 d1 other2 o3).bind λv1=>some (decide (v1 < (0:Int))))
def yF (h0:(List GI)) (i1:Int) (k2:Int):Option Bool :=
 ((zQ h0 i1).bind λy1=>((zQ h0 k2).bind λy2=>(if ((y1.e.time==y2.e.time)&&(y1.e.dot.actor.rep==y2.e.dot.actor.rep&&(y1.e.dot.actor.inc==y2.e.dot.actor.inc&&(y1.e.dot.seq==y2.e.dot.seq&&true))))=true then some (decide (y1.att < y2.att)) else ((w9 y1.e.time y1.e.dot y2.e.time y2.e.dot).bind λv4=>some v4))))
def xH (l0:(List GH)):Option (List GH) :=
 (lp (zp (λ(n1:Nat) (x1:GH) (s1:(List GI))=>(((foldXown x1).bind λv158=>(((((yl ((s1).length+(([(GI.mk v158 (n1:Int))]:List GI)).length<=lim) (some (s1++([(GI.mk v158 (n1:Int))]:List GI)))):Option (List GI)).bind λv235=>((some (((v235).length:Nat):Int):Option Int).bind λv238=>(((lp (zZ (λ(s2:Int×(List GI))=>((yl ((s2.2).length=(v235).length) (((if (((IntKind.wrap .i64 (Int.tdiv (IntKind.wrap .i64 (s2.1 - (1:Int))) (2:Int)))==s2.1)==false)=true then yF s2.2 s2.1 (IntKind.wrap .i64 (Int.tdiv (IntKind.wrap .i64 (s2.1 - (1:Int))) (2:Int))) else some default).bind λv298=>(if (((IntKind.wrap .i64 (Int.tdiv (IntKind.wrap .i64 (s2.1 - (1:Int))) (2:Int)))==s2.1) || (!v298))=true then some (.brk (s2.1,s2.2)) else ((((zQ s2.2 s2.1).bind λy305=>((zQ s2.2 (IntKind.wrap .i64 (Int.tdiv (IntKind.wrap .i64 (s2.1 - (1:Int))) (2:Int)))).bind λy306=>((zQ s2.2 (IntKind.wrap .i64 (Int.tdiv (IntKind.wrap .i64 (s2.1 - (1:Int))) (2:Int)))).bind λy307=>((zQ (s2.2.set (IntKind.wrap .i64 (Int.tdiv (IntKind.wrap .i64 (s2.1 - (1:Int))) (2:Int))).toNat y305) s2.1).bind λy308=>some ((s2.2.set (IntKind.wrap .i64 (Int.tdiv (IntKind.wrap .i64 (s2.1 - (1:Int))) (2:Int))).toNat y305).set s2.1.toNat y306))))):Option (List GI)).bind λv300=>(yl ((v300).length=(v235).length) (some (.nxt ((IntKind.wrap .i64 (Int.tdiv (IntKind.wrap .i64 (s2.1 - (1:Int))) (2:Int))),v300))))))))):Option (Out _ (Int×(List GI))))) ((IntKind.wrap .i64 (v238 - (1:Int))),v235)) λ(s2:Int×(List GI))=>some s2.2):Option (List GI)).bind λv241=>(yl ((v241).length=(v235).length) (some v241))))):Option (List GI)).bind λv159=>some (.nxt v159))):Option (Out _ (List GI)))) l0 0 ([]:List GI)) λ(s1:(List GI))=>(((lp (zZ (λ(s2:(List GH)×(List GI))=>(((some (((s2.2).length:Nat):Int):Option Int).bind λv1089=>(if (decide (v1089 > (0:Int)))=true then ((((some (((s2.2).length:Nat):Int):Option Int).bind λv1220=>((((zQ s2.2 (IntKind.wrap .i64 (v1220 - (1:Int)))).bind λy1228=>((zQ s2.2 (0:Int)).bind λy1229=>((zQ s2.2 (0:Int)).bind λy1230=>((zQ (s2.2.set (0:Int).toNat y1228) (IntKind.wrap .i64 (v1220 - (1:Int)))).bind λy1231=>some ((s2.2.set (0:Int).toNat y1228).set (IntKind.wrap .i64 (v1220 - (1:Int))).toNat y1229))))):Option (List GI)).bind λv1223=>(yl ((v1223).length=(s2.2).length) (((lp (zZ (λ(s3:Int×(List GI))=>((yl ((s3.2).length=(s2.2).length) ((if ((decide ((IntKind.wrap .i64 ((IntKind.wrap .i64 ((2:Int) * s3.1))+(1:Int))) >= (IntKind.wrap .i64 (v1220 - (1:Int))))) || (decide ((IntKind.wrap .i64 ((IntKind.wrap .i64 ((2:Int) * s3.1))+(1:Int))) < (0:Int))))=true then some (.brk (s3.1,s3.2)) else ((if ((decide ((IntKind.wrap .i64 ((IntKind.wrap .i64 ((IntKind.wrap .i64 ((2:Int) * s3.1))+(1:Int)))+(1:Int))) < (IntKind.wrap .i64 (v1220 - (1:Int)))))==true)=true then yF s3.2 (IntKind.wrap .i64 ((IntKind.wrap .i64 ((IntKind.wrap .i64 ((2:Int) * s3.1))+(1:Int)))+(1:Int))) (IntKind.wrap .i64 ((IntKind.wrap .i64 ((2:Int) * s3.1))+(1:Int))) else some default).bind λv1314=>(if ((decide ((IntKind.wrap .i64 ((IntKind.wrap .i64 ((IntKind.wrap .i64 ((2:Int) * s3.1))+(1:Int)))+(1:Int))) < (IntKind.wrap .i64 (v1220 - (1:Int)))))&&v1314)=true then ((yF s3.2 (IntKind.wrap .i64 ((IntKind.wrap .i64 ((IntKind.wrap .i64 ((2:Int) * s3.1))+(1:Int)))+(1:Int))) s3.1).bind λv1316=>(if (!v1316)=true then some (.brk (s3.1,s3.2)) else ((((zQ s3.2 (IntKind.wrap .i64 ((IntKind.wrap .i64 ((IntKind.wrap .i64 ((2:Int) * s3.1))+(1:Int)))+(1:Int)))).bind λy1323=>((zQ s3.2 s3.1).bind λy1324=>((zQ s3.2 s3.1).bind λy1325=>((zQ (s3.2.set s3.1.toNat y1323) (IntKind.wrap .i64 ((IntKind.wrap .i64 ((IntKind.wrap .i64 ((2:Int) * s3.1))+(1:Int)))+(1:Int)))).bind λy1326=>some ((s3.2.set s3.1.toNat y1323).set (IntKind.wrap .i64 ((IntKind.wrap .i64 ((IntKind.wrap .i64 ((2:Int) * s3.1))+(1:Int)))+(1:Int))).toNat y1324))))):Option (List GI)).bind λv1318=>(yl ((v1318).length=(s2.2).length) (some (.nxt ((IntKind.wrap .i64 ((IntKind.wrap .i64 ((IntKind.wrap .i64 ((2:Int) * s3.1))+(1:Int)))+(1:Int))),v1318))))))) else ((yF s3.2 (IntKind.wrap .i64 ((IntKind.wrap .i64 ((2:Int) * s3.1))+(1:Int))) s3.1).bind λv1327=>(if (!v1327)=true then some (.brk (s3.1,s3.2)) else ((((zQ s3.2 (IntKind.wrap .i64 ((IntKind.wrap .i64 ((2:Int) * s3.1))+(1:Int)))).bind λy1334=>((zQ s3.2 s3.1).bind λy1335=>((zQ s3.2 s3.1).bind λy1336=>((zQ (s3.2.set s3.1.toNat y1334) (IntKind.wrap .i64 ((IntKind.wrap .i64 ((2:Int) * s3.1))+(1:Int)))).bind λy1337=>some ((s3.2.set s3.1.toNat y1334).set (IntKind.wrap .i64 ((IntKind.wrap .i64 ((2:Int) * s3.1))+(1:Int))).toNat y1335))))):Option (List GI)).bind λv1329=>(yl ((v1329).length=(s2.2).length) (some (.nxt ((IntKind.wrap .i64 ((IntKind.wrap .i64 ((2:Int) * s3.1))+(1:Int))),v1329)))))))))))):Option (Out _ (Int×(List GI))))) ((0:Int),v1223)) λ(s3:Int×(List GI))=>some ((decide (s3.1 > (0:Int))),s3.2)):Option (Bool×(List GI))).bind λv1232=>(yl ((v1232.2).length=(s2.2).length) ((((zQ v1232.2 (IntKind.wrap .i64 ((((s2.2).length:Nat):Int) - (1:Int)))).bind λy1343=>((slc v1232.2 (0:Int) (IntKind.wrap .i64 ((((s2.2).length:Nat):Int) - (1:Int)))).bind λm1344=>some (y1343,m1344))):Option (GI×(List GI))).bind λv1338=>some (v1338.1,v1338.2))))))):Option (GI×(List GI))).bind λv1093=>(yl ((s2.1).length+(([v1093.1.e]:List GH)).length<=lim) (some (.nxt ((s2.1++([v1093.1.e]:List GH)),v1093.2))))) else some (.brk (s2.1,s2.2)))):Option (Out _ ((List GH)×(List GI))))) (([]:List GH),s1)) λ(s2:(List GH)×(List GI))=>some (s2.1,s2.2)):Option ((List GH)×(List GI))).bind λv309=>some v309.1))
def wu (rep0:Int) (time1:Int):Option GH :=
 some (GH.mk (GE.mk (GJ.mk rep0 (1:Int)) (1:Int)) time1 (GK.mk (0:Int) ([]:List zu) (0:Int) ([]:zu) ([]:List GE)))
def qp  : Option Bool :=
 ((wu (0:Int) (2:Int)).bind λv1=>((wu (1:Int) (1:Int)).bind λv2=>((xH ([v1,v2]:List GH)).bind λv3=>((wu (1:Int) (1:Int)).bind λv4=>((wu (0:Int) (1:Int)).bind λv5=>((xH ([v4,v5]:List GH)).bind λv6=>(yl ((((((v3).length:Int)==(2:Int))&&(((v6).length:Int)==(2:Int)))==true)=true->0<=(0:Int)/\(0:Int) < ((v3).length:Int)) ((yl (((((((v3).length:Int)==(2:Int))&&(((v6).length:Int)==(2:Int)))&&(((v3).getD (0:Int).toNat default).dot.actor.rep==(1:Int)))==true)=true->0<=(0:Int)/\(0:Int) < ((v6).length:Int)) (some ((((((v3).length:Int)==(2:Int))&&(((v6).length:Int)==(2:Int)))&&(((v3).getD (0:Int).toNat default).dot.actor.rep==(1:Int)))&&(((v6).getD (0:Int).toNat default).dot.actor.rep==(0:Int)))))))))))))
def ref07OwnN:Nat->(t0:(List GA))->Option (List GA)
 | 0,_=>none
 | n+1,t0=>(lp (zp (λ(n1:Nat) (x1:GA) (s1:(List GA))=>(((ref07OwnN n x1.subs).bind λv35=>(lp (zp (λ(n2:Nat) (x2:GC) (s2:(List GC))=>((yl ((([]:List GF)).length+(x2.items).length<=lim) ((yl ((([]:List GE)).length+(x2.tombs).length<=lim) ((yl ((s2).length+(([(GC.mk x2.typ x2.n x2.time x2.dot x2.text (([]:List GF)++x2.items) (([]:List GE)++x2.tombs))]:List GC)).length<=lim) (some (.nxt (s2++([(GC.mk x2.typ x2.n x2.time x2.dot x2.text (([]:List GF)++x2.items) (([]:List GE)++x2.tombs))]:List GC))))))))):Option (Out _ (List GC)))) x1.leaves 0 ([]:List GC)) λ(s2:(List GC))=>(yl ((s1).length+(([(GA.mk x1.name s2 v35)]:List GA)).length<=lim) (some (.nxt (s1++([(GA.mk x1.name s2 v35)]:List GA))))))):Option (Out _ (List GA)))) t0 0 ([]:List GA)) λ(s1:(List GA))=>some s1)
def ref07Own (t0:(List GA)):Option (List GA):=anyN λn=>ref07OwnN n t0
def vC (a0:GE) (b1:GE):Option Bool :=
 (if (a0.actor.rep != b1.actor.rep)=true then some (decide (a0.actor.rep < b1.actor.rep)) else (if (a0.actor.inc != b1.actor.inc)=true then some (decide (a0.actor.inc < b1.actor.inc)) else some (decide (a0.seq < b1.seq))))
def wi (time0:Int) (d1:GE) (other2:Int) (o3:GE):Option Bool :=
 (if (time0 != other2)=true then some (decide (time0 < other2)) else ((vC d1 o3).bind λv2=>some v2))
def vn (l0:(List GH)):Option (List GH) :=
 (yl ((([]:List GH)).length+(l0).length<=lim) ((lp (zZ (λ(s1:(List GH)×(List GH))=>((if (decide (((s1.1).length:Int) > (0:Int)))=true then (lp (zZ (λ(s2:Int×Int)=>((if (decide (s2.2 < ((s1.1).length:Int)))=true then ((zQ s1.1 s2.2).bind λy51=>((zQ s1.1 s2.2).bind λy52=>((zQ s1.1 s2.1).bind λy53=>((zQ s1.1 s2.1).bind λy54=>((wi y51.time y52.dot y53.time y54.dot).bind λv55=>(if v55=true then some (.nxt (s2.2,(IntKind.wrap .i64 (s2.2+(1:Int))))) else some (.nxt (s2.1,(IntKind.wrap .i64 (s2.2+(1:Int))))))))))) else some (.brk (s2.1,s2.2))):Option (Out _ (Int×Int)))) ((0:Int),(1:Int))) λ(s2:Int×Int)=>((zQ s1.1 s2.1).bind λy57=>(yl ((s1.2).length+(([y57]:List GH)).length<=lim) (((slc s1.1 (0:Int) s2.1).bind λm59=>(yl ((([]:List GH)).length+(m59).length<=lim) (((slc s1.1 (IntKind.wrap .i64 (s2.1+(1:Int))) ((s1.1).length:Int)).bind λm61=>(yl (((([]:List GH)++m59)).length+(m61).length<=lim) (some (.nxt (((([]:List GH)++m59)++m61),(s1.2++([y57]:List GH)))))))))))))) else some (.brk (s1.1,s1.2))):Option (Out _ ((List GH)×(List GH))))) ((([]:List GH)++l0),([]:List GH))) λ(s1:(List GH)×(List GH))=>some s1.2)))
def ref04Same (a0:GK) (b1:GK):Option Bool :=
 (if (((((a0.kind != b1.kind) || (a0.n != b1.n)) || (!(a0.text==b1.text))) || (((a0.path).length:Int) != ((b1.path).length:Int))) || (((a0.dots).length:Int) != ((b1.dots).length:Int)))=true then some false else (lp (zp (λ(n1:Nat) (x1:zu) (s1:Unit)=>(((zQ b1.path (n1:Int)).bind λy24=>(if (!(x1==y24))=true then some (.ret false) else some (.nxt ()))):Option (Out _ Unit))) a0.path 0 ()) λ(s1:Unit)=>(lp (zp (λ(n2:Nat) (x2:GE) (s2:Unit)=>(((zQ b1.dots (n2:Int)).bind λy44=>(if (!(x2.actor.rep==y44.actor.rep&&(x2.actor.inc==y44.actor.inc&&(x2.seq==y44.seq&&true))))=true then some (.ret false) else some (.nxt ()))):Option (Out _ Unit))) a0.dots 0 ()) λ(s2:Unit)=>some true)))
def wj (a0:GH) (b1:GH):Option Bool :=
 ((if (((a0.dot.actor.rep==b1.dot.actor.rep&&(a0.dot.actor.inc==b1.dot.actor.inc&&(a0.dot.seq==b1.dot.seq&&true)))&&(a0.time==b1.time))==true)=true then ref04Same a0.op b1.op else some default).bind λv1=>some (((a0.dot.actor.rep==b1.dot.actor.rep&&(a0.dot.actor.inc==b1.dot.actor.inc&&(a0.dot.seq==b1.dot.seq&&true)))&&(a0.time==b1.time))&&v1))
def opIsNameC1 (r0:Int):Option Bool :=
 some ((((decide (r0 < (97:Int))) || (decide (r0 > (122:Int))))&&((decide (r0 < (65:Int))) || (decide (r0 > (90:Int)))))&&((decide (r0 < (48:Int))) || (decide (r0 > (57:Int)))))
def vf (s0:zu) (f1:(Int->Option Bool)) (truth2:Bool):Option Int :=
 (lp (zZ (λ(s1:Nat)=>((if s1 < (s0).length then ((f1 ((dec s0 s1).1:Int)).bind λv6=>(if (v6==truth2)=true then some (.ret (s1:Int)) else some (.nxt (s1+(dec s0 s1).2)))) else some (.brk s1)):Option (Out _ Nat))) 0) λ(s1:Nat)=>some (-1:Int))
def vw (s0:zu) (f1:(Int->Option Bool)):Option Int :=
 ((vf s0 f1 true).bind λv1=>some v1)
def xZ (s0:zu) (f1:(Int->Option Bool)):Option Bool :=
 ((vw s0 f1).bind λv1=>some (decide (v1 >= (0:Int))))
def opIsName (s0:zu):Option Bool :=
 ((if (((decide (((s0).length:Int) >= (1:Int)))&&(decide (((s0).length:Int)<=(12:Int))))==true)=true then xZ s0 (λx0=>opIsNameC1 x0) else some default).bind λv3=>some (((decide (((s0).length:Int) >= (1:Int)))&&(decide (((s0).length:Int)<=(12:Int))))&&(!v3)))
def yE (s0:(List GF)) (f1:(GF->Option Bool)):Option Int :=
 (lp (zp (λ(n1:Nat) (x1:GF) (s1:Unit)=>(((f1 x1).bind λv7=>(if v7=true then some (.ret (n1:Int)) else some (.nxt ()))):Option (Out _ Unit))) s0 0 ()) λ(s1:Unit)=>some (-1:Int))
def xp (s0:(List GF)) (f1:(GF->Option Bool)):Option Bool :=
 ((yE s0 f1).bind λv1=>some (decide (v1 >= (0:Int))))
def leafXhasC1 (x0:GF) (c0:GE):Option Bool :=
 some (x0.dot.actor.rep==c0.actor.rep&&(x0.dot.actor.inc==c0.actor.inc&&(x0.dot.seq==c0.seq&&true)))
def leafXhas (l0:(List GF)) (d1:GE):Option Bool :=
 ((xp l0 (λx0=>leafXhasC1 x0 d1)).bind λv1=>some v1)
def dotMayActor (a0:GJ):Option Bool :=
 some (((decide (a0.rep < (16:Int)))&&(decide (a0.inc >= (1:Int))))&&(decide (a0.inc<=(4:Int))))
def dotMay (d0:GE):Option Bool :=
 ((dotMayActor d0.actor).bind λv1=>some ((v1&&(decide (d0.seq >= (1:Int))))&&(decide (d0.seq<=(1048576:Int)))))
def leafXtombs (l0:GC):Option Bool :=
 (lp (zp (λ(n1:Nat) (x1:GE) (s1:Unit)=>(((dotMay x1).bind λv19=>(yl ((((!v19)==false)&&((decide ((n1:Int) > (0:Int)))==true))=true->0<=(IntKind.wrap .i64 ((n1:Int) - (1:Int)))/\(IntKind.wrap .i64 ((n1:Int) - (1:Int))) < ((l0.tombs).length:Int)) (((if (((!v19)==false)&&((decide ((n1:Int) > (0:Int)))==true))=true then wx ((l0.tombs).getD (IntKind.wrap .i64 ((n1:Int) - (1:Int))).toNat default) x1 else some default).bind λv21=>((if (((!v19) || ((decide ((n1:Int) > (0:Int)))&&(decide (v21 >= (0:Int)))))==false)=true then leafXhas l0.items x1 else some default).bind λv22=>(if (((!v19) || ((decide ((n1:Int) > (0:Int)))&&(decide (v21 >= (0:Int))))) || v22)=true then some (.ret false) else some (.nxt ()))))))):Option (Out _ Unit))) l0.tombs 0 ()) λ(s1:Unit)=>some true)
def wU (s10:(List GF)) (s21:(List GF)):Option Bool :=
 (if (((s10).length:Int) != ((s21).length:Int))=true then some false else (lp (zp (λ(n1:Nat) (x1:GF) (s1:Unit)=>(((zQ s21 (n1:Int)).bind λy10=>(if (!(x1.time==y10.time&&(x1.dot.actor.rep==y10.dot.actor.rep&&(x1.dot.actor.inc==y10.dot.actor.inc&&(x1.dot.seq==y10.dot.seq&&(x1.text==y10.text&&true))))))=true then some (.ret false) else some (.nxt ()))):Option (Out _ Unit))) s10 0 ()) λ(s1:Unit)=>some true))
def vm (s10:(List GE)) (s21:(List GE)):Option Bool :=
 (if (((s10).length:Int) != ((s21).length:Int))=true then some false else (lp (zp (λ(n1:Nat) (x1:GE) (s1:Unit)=>(((zQ s21 (n1:Int)).bind λy10=>(if (!(x1.actor.rep==y10.actor.rep&&(x1.actor.inc==y10.actor.inc&&(x1.seq==y10.seq&&true))))=true then some (.ret false) else some (.nxt ()))):Option (Out _ Unit))) s10 0 ()) λ(s1:Unit)=>some true))
def leafSame (a0:GC) (b1:GC):Option Bool :=
 ((if ((((((a0.typ==b1.typ)&&(a0.n==b1.n))&&(a0.time==b1.time))&&(a0.dot.actor.rep==b1.dot.actor.rep&&(a0.dot.actor.inc==b1.dot.actor.inc&&(a0.dot.seq==b1.dot.seq&&true))))&&(a0.text==b1.text))==true)=true then wU a0.items b1.items else some default).bind λv1=>((if (((((((a0.typ==b1.typ)&&(a0.n==b1.n))&&(a0.time==b1.time))&&(a0.dot.actor.rep==b1.dot.actor.rep&&(a0.dot.actor.inc==b1.dot.actor.inc&&(a0.dot.seq==b1.dot.seq&&true))))&&(a0.text==b1.text))&&v1)==true)=true then vm a0.tombs b1.tombs else some default).bind λv2=>some (((((((a0.typ==b1.typ)&&(a0.n==b1.n))&&(a0.time==b1.time))&&(a0.dot.actor.rep==b1.dot.actor.rep&&(a0.dot.actor.inc==b1.dot.actor.inc&&(a0.dot.seq==b1.dot.seq&&true))))&&(a0.text==b1.text))&&v1)&&v2)))
def leafXisTime (n0:Int):Option Bool :=
 some ((decide (n0 >= (1:Int)))&&(decide (n0<=(1099511627776:Int))))
def qm (s0:zu):Option Bool :=
 some (decide (((s0).length:Int)<=(40:Int)))
def leafXtwice (l0:(List GF)):Option Bool :=
 (lp (zp (λ(n1:Nat) (x1:GF) (s1:List (GE×Int))=>(some (.nxt (vj GE.eqb s1 x1.dot (IntKind.wrap .i64 ((yC GE.eqb (0:Int) s1 x1.dot)+(1:Int))))):Option (Out _ (List (GE×Int))))) l0 0 ([]:List (GE×Int))) λ(s1:List (GE×Int))=>some (decide (((s1).length:Int) < ((l0).length:Int))))
def leafXitems (l0:(List GF)) (timed1:Bool):Option Bool :=
 (lp (zp (λ(n1:Nat) (x1:GF) (s1:Unit)=>(((dotMay x1.dot).bind λv13=>((if ((!v13)==false)=true then qm x1.text else some default).bind λv14=>((if (((!v13) || (!v14))==false)=true then leafXisTime x1.time else some default).bind λv15=>(if ((((!v13) || (!v14)) || (!(timed1==v15))) || ((!timed1)&&(x1.time != (0:Int))))=true then some (.ret false) else (yl (((decide ((n1:Int) > (0:Int)))==true)=true->0<=(IntKind.wrap .i64 ((n1:Int) - (1:Int)))/\(IntKind.wrap .i64 ((n1:Int) - (1:Int))) < ((l0).length:Int)) ((yl (((decide ((n1:Int) > (0:Int)))==true)=true->0<=(IntKind.wrap .i64 ((n1:Int) - (1:Int)))/\(IntKind.wrap .i64 ((n1:Int) - (1:Int))) < ((l0).length:Int)) (((if ((decide ((n1:Int) > (0:Int)))==true)=true then w9 (((l0).getD (IntKind.wrap .i64 ((n1:Int) - (1:Int))).toNat default).time) (((l0).getD (IntKind.wrap .i64 ((n1:Int) - (1:Int))).toNat default).dot) x1.time x1.dot else some default).bind λv19=>(if ((decide ((n1:Int) > (0:Int)))&&(!v19))=true then some (.ret false) else some (.nxt ()))))))))))):Option (Out _ Unit))) l0 0 ()) λ(s1:Unit)=>((leafXtwice l0).bind λv21=>some (!v21)))
def qI (l0:GC):Option Bool :=
 (if (l0.typ==(1:Int))=true then ((leafSame l0 (GC.mk l0.typ l0.n (0:Int) (GE.mk (GJ.mk (0:Int) (0:Int)) (0:Int)) ([]:zu) ([]:List GF) ([]:List GE))).bind λv2=>some v2) else (if (l0.typ==(2:Int))=true then ((if ((l0.time != (0:Int))==true)=true then leafXisTime l0.time else some default).bind λv4=>((if (((l0.time != (0:Int))==true)&&(v4==true))=true then dotMay l0.dot else some default).bind λv5=>((if (((l0.time != (0:Int))==true)&&((v4&&v5)==true))=true then qm l0.text else some default).bind λv6=>(if (((l0.time != (0:Int))&&(!((v4&&v5)&&v6))) || ((l0.time==(0:Int))&&((!(l0.dot.actor.rep==(0:Int)&&(l0.dot.actor.inc==(0:Int)&&(l0.dot.seq==(0:Int)&&true)))) || (!(l0.text==([]:zu))))))=true then some false else ((leafSame l0 (GC.mk l0.typ (0:Int) l0.time l0.dot l0.text ([]:List GF) ([]:List GE))).bind λv8=>some v8))))) else (if (l0.typ==(3:Int))=true then ((leafXitems l0.items false).bind λv10=>((if ((!v10)==false)=true then leafXtombs l0 else some default).bind λv11=>(if ((!v10) || (!v11))=true then some false else ((leafSame l0 (GC.mk l0.typ (0:Int) (0:Int) (GE.mk (GJ.mk (0:Int) (0:Int)) (0:Int)) ([]:zu) l0.items l0.tombs)).bind λv13=>some v13)))) else (if (l0.typ==(4:Int))=true then ((leafXitems l0.items true).bind λv15=>(if (!v15)=true then some false else ((leafSame l0 (GC.mk l0.typ (0:Int) (0:Int) (GE.mk (GJ.mk (0:Int) (0:Int)) (0:Int)) ([]:zu) l0.items ([]:List GE))).bind λv17=>some v17))) else some false))))
def qi:Nat->(t0:(List GA))->(deep1:Int)->Option Bool
 | 0,_,_=>none
 | n+1,t0,deep1=>(if ((decide (((t0).length:Int) > (0:Int)))&&(deep1==(3:Int)))=true then some false else (lp (zp (λ(n1:Nat) (x1:GA) (s1:Unit)=>(((opIsName x1.name).bind λv27=>(yl ((((!v27)==false)&&((decide ((n1:Int) > (0:Int)))==true))=true->0<=(IntKind.wrap .i64 ((n1:Int) - (1:Int)))/\(IntKind.wrap .i64 ((n1:Int) - (1:Int))) < ((t0).length:Int)) (((if ((((!v27) || ((decide ((n1:Int) > (0:Int)))&&(!(Op.bytesLess (((t0).getD (IntKind.wrap .i64 ((n1:Int) - (1:Int))).toNat default).name) x1.name)))) || ((IntKind.wrap .i64 (((x1.leaves).length:Int)+((x1.subs).length:Int)))==(0:Int)))==false)=true then qi n x1.subs (IntKind.wrap .i64 (deep1+(1:Int))) else some default).bind λv31=>(if ((((!v27) || ((decide ((n1:Int) > (0:Int)))&&(!(Op.bytesLess (((t0).getD (IntKind.wrap .i64 ((n1:Int) - (1:Int))).toNat default).name) x1.name)))) || ((IntKind.wrap .i64 (((x1.leaves).length:Int)+((x1.subs).length:Int)))==(0:Int))) || (!v31))=true then some (.ret false) else (lp (zp (λ(n2:Nat) (x2:GC) (s2:Unit)=>(((qI x2).bind λv43=>(yl ((((!v43)==false)&&((decide ((n2:Int) > (0:Int)))==true))=true->0<=(IntKind.wrap .i64 ((n2:Int) - (1:Int)))/\(IntKind.wrap .i64 ((n2:Int) - (1:Int))) < ((x1.leaves).length:Int)) ((if ((!v43) || ((decide ((n2:Int) > (0:Int)))&&(decide (((x1.leaves).getD (IntKind.wrap .i64 ((n2:Int) - (1:Int))).toNat default).typ >= x2.typ))))=true then some (.ret (.ret false)) else some (.nxt ()))))):Option (Out _ Unit))) x1.leaves 0 ()) λ(s2:Unit)=>some (.nxt ()))))))):Option (Out _ Unit))) t0 0 ()) λ(s1:Unit)=>some true))
def treeXmay (t0:(List GA)) (deep1:Int):Option Bool:=anyN λn=>qi n t0 deep1
def qx (t0:(List GA)):Option Bool :=
 ((treeXmay t0 (0:Int)).bind λv1=>some v1)
def wr (s0:(List GH)) (f1:(GH->Option Bool)):Option Int :=
 (lp (zp (λ(n1:Nat) (x1:GH) (s1:Unit)=>(((f1 x1).bind λv7=>(if v7=true then some (.ret (n1:Int)) else some (.nxt ()))):Option (Out _ Unit))) s0 0 ()) λ(s1:Unit)=>some (-1:Int))
def yR (s0:(List GH)) (f1:(GH->Option Bool)):Option Bool :=
 ((wr s0 f1).bind λv1=>some (decide (v1 >= (0:Int))))
def opXadds (o0:GK):Option Bool :=
 some ((((decide (o0.n >= (-1000000:Int)))&&(decide (o0.n<=(1000000:Int))))&&(o0.text==([]:zu)))&&(((o0.dots).length:Int)==(0:Int)))
def opXplain (o0:GK):Option Bool :=
 some (((o0.n==(0:Int))&&(decide (((o0.text).length:Int)<=(40:Int))))&&(((o0.dots).length:Int)==(0:Int)))
def opXdrops (o0:GK):Option Bool :=
 (if (((o0.n != (0:Int)) || (decide (((o0.text).length:Int) > (40:Int)))) || (decide (((o0.dots).length:Int) > (64:Int))))=true then some false else (lp (zp (λ(n1:Nat) (x1:GE) (s1:Unit)=>(((dotMay x1).bind λv17=>(yl ((((!v17)==false)&&((decide ((n1:Int) > (0:Int)))==true))=true->0<=(IntKind.wrap .i64 ((n1:Int) - (1:Int)))/\(IntKind.wrap .i64 ((n1:Int) - (1:Int))) < ((o0.dots).length:Int)) (((if (((!v17)==false)&&((decide ((n1:Int) > (0:Int)))==true))=true then wx ((o0.dots).getD (IntKind.wrap .i64 ((n1:Int) - (1:Int))).toNat default) x1 else some default).bind λv19=>(if ((!v17) || ((decide ((n1:Int) > (0:Int)))&&(decide (v19 >= (0:Int)))))=true then some (.ret false) else some (.nxt ())))))):Option (Out _ Unit))) o0.dots 0 ()) λ(s1:Unit)=>some true))
def opXof (k0:Int):Option (GM×Bool) :=
 (if ((decide (k0 < (1:Int))) || (decide (k0 > (5:Int))))=true then some ((GM.mk (0:Int) 0),false) else ((zQ ([(GM.mk (0:Int) 0),(GM.mk (1:Int) 1),(GM.mk (2:Int) 2),(GM.mk (3:Int) 2),(GM.mk (3:Int) 3),(GM.mk (4:Int) 2)]:List GM) k0).bind λy2=>some (y2,true)))
def wn (s0:(List zu)) (f1:(zu->Option Bool)):Option Int :=
 (lp (zp (λ(n1:Nat) (x1:zu) (s1:Unit)=>(((f1 x1).bind λv7=>(if v7=true then some (.ret (n1:Int)) else some (.nxt ()))):Option (Out _ Unit))) s0 0 ()) λ(s1:Unit)=>some (-1:Int))
def xd (s0:(List zu)) (f1:(zu->Option Bool)):Option Bool :=
 ((wn s0 f1).bind λv1=>some (decide (v1 >= (0:Int))))
def opMayPathC1 (s0:zu):Option Bool :=
 ((opIsName s0).bind λv1=>some (!v1))
def opMayPath (p0:(List zu)):Option Bool :=
 ((if (((decide (((p0).length:Int) >= (1:Int)))&&(decide (((p0).length:Int)<=(3:Int))))==true)=true then xd p0 (λx0=>opMayPathC1 x0) else some default).bind λv3=>some (((decide (((p0).length:Int) >= (1:Int)))&&(decide (((p0).length:Int)<=(3:Int))))&&(!v3)))
def callOp (c:Nat) (x0:GK):Option Bool:=match c with
 | 1=>opXadds x0
 | 2=>opXplain x0
 | 3=>opXdrops x0
 | _=>none
def opMay (o0:GK):Option Bool :=
 ((opXof o0.kind).bind λv1=>((if (v1.2==true)=true then opMayPath o0.path else some default).bind λv2=>((if ((v1.2&&v2)==true)=true then callOp v1.1.may o0 else some default).bind λv3=>some ((v1.2&&v2)&&v3))))
def qd (e0:GH):Option Bool :=
 ((dotMay e0.dot).bind λv1=>((if (((v1&&(decide (e0.time >= (1:Int))))&&(decide (e0.time<=(1099511627776:Int))))==true)=true then opMay e0.op else some default).bind λv2=>some (((v1&&(decide (e0.time >= (1:Int))))&&(decide (e0.time<=(1099511627776:Int))))&&v2)))
def foldFoldC1 (e0:GH):Option Bool :=
 ((qd e0).bind λv1=>some (!v1))
/-- slices.Sort[[]string,string]: sortS -/
def slicesSortStringX:Unit:=()
def xP (s0:(List zu)):Option (List zu) :=
 (if (decide (((s0).length:Int) < (2:Int)))=true then some s0 else (lp (zZ (λ(s1:Int)=>((if (decide (s1 < ((s0).length:Int)))=true then ((zQ s0 s1).bind λy35=>((zQ s0 (IntKind.wrap .i64 (s1 - (1:Int)))).bind λy36=>(if (y35==y36)=true then (yl (0<=s1/\s1<=((s0.length:Nat):Int)) ((lp (zZ (λ(s2:Int×Int×(List zu))=>((yl ((s2.2.2).length=s0.length) ((if (decide (s2.2.1 < ((s0.length - s1.toNat:Nat):Int)))=true then ((zQ (s2.2.2.drop s1.toNat) s2.2.1).bind λy51=>((zQ (s2.2.2.drop s1.toNat) (IntKind.wrap .i64 (s2.2.1 - (1:Int)))).bind λy52=>(if (!(y51==y52))=true then ((zQ (s2.2.2.drop s1.toNat) s2.2.1).bind λy54=>((zQ s2.2.2 s2.1).bind λy55=>some (.nxt ((IntKind.wrap .i64 (s2.1+(1:Int))),(IntKind.wrap .i64 (s2.2.1+(1:Int))),(s2.2.2.set s2.1.toNat y54))))) else some (.nxt (s2.1,(IntKind.wrap .i64 (s2.2.1+(1:Int))),s2.2.2))))) else some (.brk (s2.1,s2.2.1,s2.2.2))))):Option (Out _ (Int×Int×(List zu))))) (s1,(1:Int),s0)) λ(s2:Int×Int×(List zu))=>(yl (0<=s2.1/\s2.1<=((s0.length:Nat):Int)) (((slc (s2.2.2.take s2.1.toNat++List.replicate (s0.length - s2.1.toNat) ([]:zu)) (0:Int) s2.1).bind λm57=>some (.ret m57))))))) else some (.nxt (IntKind.wrap .i64 (s1+(1:Int))))))) else some (.brk s1)):Option (Out _ Int))) (1:Int)) λ(s1:Int)=>some s0))
def xS (s0:(List GA)) (f1:(GA->Option Bool)):Option Int :=
 (lp (zp (λ(n1:Nat) (x1:GA) (s1:Unit)=>(((f1 x1).bind λv7=>(if v7=true then some (.ret (n1:Int)) else some (.nxt ()))):Option (Out _ Unit))) s0 0 ()) λ(s1:Unit)=>some (-1:Int))
def treeXlinearC1 (n0:GA) (c0:zu):Option Bool :=
 some (n0.name==c0)
def xz (t0:(List GA)) (name1:zu):Option (GA×Bool) :=
 ((xS t0 (λx0=>treeXlinearC1 x0 name1)).bind λv1=>(if (decide (v1 < (0:Int)))=true then some ((GA.mk ([]:zu) ([]:List GC) ([]:List GA)),false) else ((zQ t0 v1).bind λy3=>some (y3,true))))
def treeNames (t0:(List GA)) (path1:(List zu)):Option (List zu) :=
 (lp (zp (λ(n1:Nat) (x1:zu) (s1:(List GA))=>(((xz s1 x1).bind λv7=>some (.nxt v7.1.subs)):Option (Out _ (List GA)))) path1 0 t0) λ(s1:(List GA))=>(lp (zp (λ(n2:Nat) (x2:GA) (s2:(List zu))=>((yl ((s2).length+(([x2.name]:List zu)).length<=lim) (some (.nxt (s2++([x2.name]:List zu))))):Option (Out _ (List zu)))) s1 0 ([]:List zu)) λ(s2:(List zu))=>((sortS s2).bind λv15=>some v15)))
def treeXnames (l0:(List (List GA))):Option (List zu) :=
 (lp (zp (λ(n1:Nat) (x1:(List GA)) (s1:(List zu))=>(((treeNames x1 ([]:List zu)).bind λv8=>(yl ((s1).length+(v8).length<=lim) (some (.nxt (s1++v8))))):Option (Out _ (List zu)))) l0 0 ([]:List zu)) λ(s1:(List zu))=>((sortS s1).bind λv10=>((xP v10).bind λv11=>some v11)))
def vX (kind0:Int):Option GC :=
 (if ((decide (kind0 < (1:Int))) || (decide (kind0 > (4:Int))))=true then some zLf else some (GC.mk kind0 (0:Int) (0:Int) (GE.mk (GJ.mk (0:Int) (0:Int)) (0:Int)) ([]:zu) ([]:List GF) ([]:List GE)))
def yW (s0:(List GF)):Option (List GF) :=
 (nilq s0 λb1=>(if b1=true then some ([]:List GF) else (yl ((([]:List GF)).length+(s0).length<=lim) (some (([]:List GF)++s0)))))
def yu (s0:(List GC)) (f1:(GC->Option Bool)):Option Int :=
 (lp (zp (λ(n1:Nat) (x1:GC) (s1:Unit)=>(((f1 x1).bind λv7=>(if v7=true then some (.ret (n1:Int)) else some (.nxt ()))):Option (Out _ Unit))) s0 0 ()) λ(s1:Unit)=>some (-1:Int))
def treeLeafC1 (l0:GC) (c0:Int):Option Bool :=
 some (l0.typ==c0)
def vP (t0:(List GA)) (path1:(List zu)) (kind2:Int):Option (GC×Bool) :=
 (lp ((lp (zp (λ(n2:Nat) (x2:zu) (s2:(List GA)×Bool×zu×(List GC)×(List GA))=>(((xz s2.1 x2).bind λv47=>(if (!v47.2)=true then some (.brk (s2.1,v47.2,v47.1.name,v47.1.leaves,v47.1.subs)) else some (.nxt (v47.1.subs,v47.2,v47.1.name,v47.1.leaves,v47.1.subs)))):Option (Out _ ((List GA)×Bool×zu×(List GC)×(List GA))))) path1 0 (t0,(decide (((path1).length:Int) > (0:Int))),([]:zu),([]:List GC),([]:List GA))) λ(s2:(List GA)×Bool×zu×(List GC)×(List GA))=>some (.inr (s2.2.1,s2.2.2.1,s2.2.2.2.1,s2.2.2.2.2))):Option (_ ⊕ (Bool×zu×(List GC)×(List GA)))) λ(s1:Bool×zu×(List GC)×(List GA))=>((yu s1.2.2.1 (λx0=>treeLeafC1 x0 kind2)).bind λv49=>((if (((!s1.1) || (decide (v49 < (0:Int))))==false)=true then vX kind2 else some default).bind λv50=>(if (((!s1.1) || (decide (v49 < (0:Int)))) || (v50.typ==(0:Int)))=true then ((vX kind2).bind λv52=>some (v52,false)) else ((zQ s1.2.2.1 v49).bind λy53=>((yW y53.items).bind λv54=>((yS y53.tombs).bind λv55=>some ((GC.mk y53.typ y53.n y53.time y53.dot y53.text v54 v55),true))))))))
def xM (n0:GA) (kind1:Int):Option (GC×Bool) :=
 ((vP ([n0]:List GA) ([n0.name]:List zu) kind1).bind λv1=>some (v1.1,v1.2))
def vH (l0:GC) (a1:GC) (b2:GC):Option GC :=
 some (GC.mk a1.typ (IntKind.wrap .i64 (a1.n+(IntKind.wrap .i64 (b2.n - l0.n)))) a1.time a1.dot a1.text a1.items a1.tombs)
def va (p0:GC) (a1:GC) (b2:GC):Option GC :=
 ((if (((a1.time==(0:Int))==false)&&((b2.time != (0:Int))==true))=true then w9 b2.time b2.dot a1.time a1.dot else some default).bind λv1=>(if ((a1.time==(0:Int)) || ((b2.time != (0:Int))&&(!v1)))=true then some b2 else some a1))
/-- slices.SortFunc[[]varve/api.Dot,varve/api.Dot]: qY -/
def slicesSortFuncDotX:Unit:=()
def xT (s0:(List GE)):Option (List GE) :=
 (if (decide (((s0).length:Int) < (2:Int)))=true then some s0 else (lp (zZ (λ(s1:Int)=>((if (decide (s1 < ((s0).length:Int)))=true then ((zQ s0 s1).bind λy35=>((zQ s0 (IntKind.wrap .i64 (s1 - (1:Int)))).bind λy36=>(if (y35.actor.rep==y36.actor.rep&&(y35.actor.inc==y36.actor.inc&&(y35.seq==y36.seq&&true)))=true then (yl (0<=s1/\s1<=((s0.length:Nat):Int)) ((lp (zZ (λ(s2:Int×Int×(List GE))=>((yl ((s2.2.2).length=s0.length) ((if (decide (s2.2.1 < ((s0.length - s1.toNat:Nat):Int)))=true then ((zQ (s2.2.2.drop s1.toNat) s2.2.1).bind λy51=>((zQ (s2.2.2.drop s1.toNat) (IntKind.wrap .i64 (s2.2.1 - (1:Int)))).bind λy52=>(if (!(y51.actor.rep==y52.actor.rep&&(y51.actor.inc==y52.actor.inc&&(y51.seq==y52.seq&&true))))=true then ((zQ (s2.2.2.drop s1.toNat) s2.2.1).bind λy54=>((zQ s2.2.2 s2.1).bind λy55=>some (.nxt ((IntKind.wrap .i64 (s2.1+(1:Int))),(IntKind.wrap .i64 (s2.2.1+(1:Int))),(s2.2.2.set s2.1.toNat y54))))) else some (.nxt (s2.1,(IntKind.wrap .i64 (s2.2.1+(1:Int))),s2.2.2))))) else some (.brk (s2.1,s2.2.1,s2.2.2))))):Option (Out _ (Int×Int×(List GE))))) (s1,(1:Int),s0)) λ(s2:Int×Int×(List GE))=>(yl (0<=s2.1/\s2.1<=((s0.length:Nat):Int)) (((slc (s2.2.2.take s2.1.toNat++List.replicate (s0.length - s2.1.toNat) (GE.mk (GJ.mk (0:Int) (0:Int)) (0:Int))) (0:Int) s2.1).bind λm57=>some (.ret m57))))))) else some (.nxt (IntKind.wrap .i64 (s1+(1:Int))))))) else some (.brk s1)):Option (Out _ Int))) (1:Int)) λ(s1:Int)=>some s0))
def vR (_s0:(List GE)) (n1:Int):Option (List GE) :=
 (if (decide (n1 < (0:Int)))=true then none else (if (decide ((IntKind.wrap .i64 (n1 - (IntKind.wrap .i64 ((0:Int) - ((0:Nat):Int))))) > (0:Int)))=true then (yl (0 < (IntKind.wrap .i64 (n1 - (IntKind.wrap .i64 ((0:Int) - ((0:Nat):Int)))))/\(IntKind.wrap .i64 (n1 - (IntKind.wrap .i64 ((0:Int) - ((0:Nat):Int)))))<=(lim:Int)) (((slc (List.replicate (IntKind.wrap .i64 (n1 - (IntKind.wrap .i64 ((0:Int) - ((0:Nat):Int))))).toNat (GE.mk (GJ.mk (0:Int) (0:Int)) (0:Int))) (0:Int) ((0:Nat):Int)).bind λm6=>some m6))) else some ([]:List GE)))
def wV (slices0:(List (List GE))):Option (List GE) :=
 (lp (zp (λ(n1:Nat) (x1:(List GE)) (s1:Int)=>((if (decide ((IntKind.wrap .i64 (s1+((x1).length:Int))) < (0:Int)))=true then none else some (.nxt (IntKind.wrap .i64 (s1+((x1).length:Int))))):Option (Out _ Int))) slices0 0 (0:Int)) λ(s1:Int)=>((vR ([]:List GE) s1).bind λv10=>(lp (zp (λ(n2:Nat) (x2:(List GE)) (s2:(List GE))=>((yl ((s2).length+(x2).length<=lim) (some (.nxt (s2++x2)))):Option (Out _ (List GE)))) slices0 0 v10) λ(s2:(List GE))=>some s2)))
/-- slices.SortFunc[[]varve/api.Item,varve/api.Item]: qY -/
def slicesSortFuncItemX:Unit:=()
def qq (x0:GF) (y1:GF):Option Int :=
 ((w9 x0.time x0.dot y1.time y1.dot).bind λv1=>(if v1=true then some (-1:Int) else some (1:Int)))
def qA (s0:(List GE)) (v1:GE):Option Int :=
 (lp (zp (λ(n1:Nat) (x1:GE) (s1:Unit)=>((if (v1.actor.rep==x1.actor.rep&&(v1.actor.inc==x1.actor.inc&&(v1.seq==x1.seq&&true)))=true then some (.ret (n1:Int)) else some (.nxt ())):Option (Out _ Unit))) s0 0 ()) λ(s1:Unit)=>some (-1:Int))
def y8 (s0:(List GE)) (v1:GE):Option Bool :=
 ((qA s0 v1).bind λv1=>some (decide (v1 >= (0:Int))))
def vl (_s0:(List GF)) (n1:Int):Option (List GF) :=
 (if (decide (n1 < (0:Int)))=true then none else (if (decide ((IntKind.wrap .i64 (n1 - (IntKind.wrap .i64 ((0:Int) - ((0:Nat):Int))))) > (0:Int)))=true then (yl (0 < (IntKind.wrap .i64 (n1 - (IntKind.wrap .i64 ((0:Int) - ((0:Nat):Int)))))/\(IntKind.wrap .i64 (n1 - (IntKind.wrap .i64 ((0:Int) - ((0:Nat):Int)))))<=(lim:Int)) (((slc (List.replicate (IntKind.wrap .i64 (n1 - (IntKind.wrap .i64 ((0:Int) - ((0:Nat):Int))))).toNat (GF.mk (0:Int) (GE.mk (GJ.mk (0:Int) (0:Int)) (0:Int)) ([]:zu))) (0:Int) ((0:Nat):Int)).bind λm6=>some m6))) else some ([]:List GF)))
def wc (slices0:(List (List GF))):Option (List GF) :=
 (lp (zp (λ(n1:Nat) (x1:(List GF)) (s1:Int)=>((if (decide ((IntKind.wrap .i64 (s1+((x1).length:Int))) < (0:Int)))=true then none else some (.nxt (IntKind.wrap .i64 (s1+((x1).length:Int))))):Option (Out _ Int))) slices0 0 (0:Int)) λ(s1:Int)=>((vl ([]:List GF) s1).bind λv10=>(lp (zp (λ(n2:Nat) (x2:(List GF)) (s2:(List GF))=>((yl ((s2).length+(x2).length<=lim) (some (.nxt (s2++x2)))):Option (Out _ (List GF)))) slices0 0 v10) λ(s2:(List GF))=>some s2)))
def fuseXboth (a0:(List GF)) (b1:(List GF)) (tombs2:(List GE)):Option (List GF) :=
 ((wc ([a0,b1]:List (List GF))).bind λv1=>(yl ((((v1).length:Nat):Int)<=9223372036854775807) (lp (zp (λ(n1:Nat) (x1:Nat) (s1:List (GE×Int)×(List GF))=>(((zQ v1 (n1:Int)).bind λy17=>((((if (((yC GE.eqb (0:Int) (vj GE.eqb s1.1 y17.dot (IntKind.wrap .i64 ((yC GE.eqb (0:Int) s1.1 y17.dot)+(1:Int)))) y17.dot)==(1:Int))==true)=true then y8 tombs2 y17.dot else some default).bind λv22=>(if (((yC GE.eqb (0:Int) (vj GE.eqb s1.1 y17.dot (IntKind.wrap .i64 ((yC GE.eqb (0:Int) s1.1 y17.dot)+(1:Int)))) y17.dot)==(1:Int))&&(!v22))=true then (yl ((s1.2).length+(([y17]:List GF)).length<=lim) (some ((vj GE.eqb s1.1 y17.dot (IntKind.wrap .i64 ((yC GE.eqb (0:Int) s1.1 y17.dot)+(1:Int)))),(s1.2++([y17]:List GF))))) else some ((vj GE.eqb s1.1 y17.dot (IntKind.wrap .i64 ((yC GE.eqb (0:Int) s1.1 y17.dot)+(1:Int)))),s1.2))):Option (List (GE×Int)×(List GF))).bind λv18=>some (.nxt (v18.1,v18.2)))):Option (Out _ (List (GE×Int)×(List GF))))) (List.range (((((v1).length:Nat):Int)).toNat)) 0 (([]:List (GE×Int)),([]:List GF))) λ(s1:List (GE×Int)×(List GF))=>((qY (λx y=>qq x y) s1.2).bind λv25=>some v25))))
def fuseXset (p0:GC) (a1:GC) (b2:GC):Option GC :=
 ((wV ([a1.tombs,b2.tombs]:List (List GE))).bind λv1=>((qY (λx y=>wx x y) v1).bind λv2=>((xT v2).bind λv3=>((fuseXboth a1.items b2.items v3).bind λv4=>some (GC.mk (3:Int) (0:Int) (0:Int) (GE.mk (GJ.mk (0:Int) (0:Int)) (0:Int)) ([]:zu) v4 v3)))))
def fuseXlog (p0:GC) (a1:GC) (b2:GC):Option GC :=
 ((fuseXboth a1.items b2.items ([]:List GE)).bind λv1=>some (GC.mk (4:Int) (0:Int) (0:Int) (GE.mk (GJ.mk (0:Int) (0:Int)) (0:Int)) ([]:zu) v1 ([]:List GE)))
def callFuse (c:Nat) (x0:GC) (x1:GC) (x2:GC):Option GC:=match c with
 | 1=>vH x0 x1 x2
 | 2=>va x0 x1 x2
 | 3=>fuseXset x0 x1 x2
 | 4=>fuseXlog x0 x1 x2
 | _=>none
def vI (l0:GC) (a1:GC) (b2:GC):Option (GC×Int) :=
 ((qI l0).bind λv1=>((if ((!v1)==false)=true then qI a1 else some default).bind λv2=>((if (((!v1) || (!v2))==false)=true then qI b2 else some default).bind λv3=>(if (((!v1) || (!v2)) || (!v3))=true then some (zLf,(2:Int)) else (if ((l0.typ != a1.typ) || (l0.typ != b2.typ))=true then some (zLf,(15:Int)) else ((zQ ([0,1,2,3,4]:List Nat) l0.typ).bind λy6=>((callFuse y6 l0 a1 b2).bind λv7=>some (v7,(0:Int)))))))))
def treeXthree (l0:GA) (a1:GA) (b2:GA):Option (List GC) :=
 (lp (zZ (λ(s1:(List GC)×Int)=>((if (decide (s1.2<=(4:Int)))=true then ((xM l0 s1.2).bind λv20=>((xM a1 s1.2).bind λv21=>((xM b2 s1.2).bind λv22=>(if ((v20.2 || v21.2) || v22.2)=true then ((vI v20.1 v21.1 v22.1).bind λv24=>(yl ((s1.1).length+(([v24.1]:List GC)).length<=lim) (some (.nxt ((s1.1++([v24.1]:List GC)),(IntKind.wrap .u8 (s1.2+(1:Int)))))))) else some (.nxt (s1.1,(IntKind.wrap .u8 (s1.2+(1:Int))))))))) else some (.brk (s1.1,s1.2))):Option (Out _ ((List GC)×Int)))) (([]:List GC),(1:Int))) λ(s1:(List GC)×Int)=>some s1.1)
def x4:Nat->(l0:(List GA))->(a1:(List GA))->(b2:(List GA))->Option (List GA)
 | 0,_,_,_=>none
 | n+1,l0,a1,b2=>((treeXnames ([l0,a1,b2]:List (List GA))).bind λv1=>(lp (zp (λ(n1:Nat) (x1:zu) (s1:(List GA))=>(((xz l0 x1).bind λv13=>((xz a1 x1).bind λv14=>((xz b2 x1).bind λv15=>((treeXthree v13.1 v14.1 v15.1).bind λv16=>((x4 n v13.1.subs v14.1.subs v15.1.subs).bind λv17=>(yl ((s1).length+(([(GA.mk x1 v16 v17)]:List GA)).length<=lim) (some (.nxt (s1++([(GA.mk x1 v16 v17)]:List GA)))))))))):Option (Out _ (List GA)))) v1 0 ([]:List GA)) λ(s1:(List GA))=>some s1))
def treeXmerged (l0:(List GA)) (a1:(List GA)) (b2:(List GA)):Option (List GA):=anyN λn=>x4 n l0 a1 b2
def treeMerge (l0:(List GA)) (a1:(List GA)) (b2:(List GA)):Option ((List GA)×Int) :=
 ((qx l0).bind λv1=>((if ((!v1)==false)=true then qx a1 else some default).bind λv2=>((if (((!v1) || (!v2))==false)=true then qx b2 else some default).bind λv3=>(if (((!v1) || (!v2)) || (!v3))=true then some (([]:List GA),(2:Int)) else ((treeXmerged l0 a1 b2).bind λv5=>some (v5,(0:Int)))))))
def opType (k0:Int):Option Int :=
 ((opXof k0).bind λv1=>some v1.1.leaf)
def zS (x0:(List GF)) (target1:GF) (cmp2:(GF->GF->Option Int)):Option (Int×Bool) :=
 (lp (zZ (λ(s1:Int×Int)=>((if (decide (s1.1 < s1.2))=true then ((zQ x0 (IntKind.wrap .i64 ((Int.fdiv (IntKind.wrap .u64 ((IntKind.wrap .i64 (s1.1+s1.2)))) (2 ^ (min (1:Int).toNat (IntKind.bits .u64))))))).bind λy14=>((cmp2 y14 target1).bind λv15=>(if (decide (v15 < (0:Int)))=true then some (.nxt ((IntKind.wrap .i64 ((IntKind.wrap .i64 ((Int.fdiv (IntKind.wrap .u64 ((IntKind.wrap .i64 (s1.1+s1.2)))) (2 ^ (min (1:Int).toNat (IntKind.bits .u64))))))+(1:Int))),s1.2)) else some (.nxt (s1.1,(IntKind.wrap .i64 ((Int.fdiv (IntKind.wrap .u64 ((IntKind.wrap .i64 (s1.1+s1.2)))) (2 ^ (min (1:Int).toNat (IntKind.bits .u64))))))))))) else some (.brk (s1.1,s1.2))):Option (Out _ (Int×Int)))) ((0:Int),((x0).length:Int))) λ(s1:Int×Int)=>(yl (((decide (s1.1 < ((x0).length:Int)))==true)=true->0<=s1.1/\s1.1 < ((x0).length:Int)) (((if ((decide (s1.1 < ((x0).length:Int)))==true)=true then cmp2 ((x0).getD s1.1.toNat default) target1 else some default).bind λv18=>some (s1.1,((decide (s1.1 < ((x0).length:Int)))&&(v18==(0:Int))))))))
def yQ (a0:GF) (b1:GF):Option Int :=
 ((vF a0.time a0.dot b1.time b1.dot).bind λv1=>some v1)
/-- slices.Insert[[]varve/api.Item,varve/api.Item]: insO -/
def slicesInsertItemX:Unit:=()
def xD (s0:(List GF)) (del1:(GF->Option Bool)):Option (List GF) :=
 ((yE s0 del1).bind λv1=>(if (v1==(-1:Int))=true then some s0 else (lp (zZ (λ(s1:Int×Int×(List GF))=>((yl ((s1.2.2).length=s0.length) ((if (decide (s1.2.1 < ((s0.length:Nat):Int)))=true then ((zQ s1.2.2 s1.2.1).bind λy14=>((del1 y14).bind λv15=>(if (!v15)=true then ((zQ s1.2.2 s1.1).bind λy17=>some (.nxt ((IntKind.wrap .i64 (s1.1+(1:Int))),(IntKind.wrap .i64 (s1.2.1+(1:Int))),(s1.2.2.set s1.1.toNat y14)))) else some (.nxt (s1.1,(IntKind.wrap .i64 (s1.2.1+(1:Int))),s1.2.2))))) else some (.brk (s1.1,s1.2.1,s1.2.2))))):Option (Out _ (Int×Int×(List GF))))) (v1,(IntKind.wrap .i64 (v1+(1:Int))),s0)) λ(s1:Int×Int×(List GF))=>(yl (0<=s1.1/\s1.1<=((s0.length:Nat):Int)) (((slc (s1.2.2.take s1.1.toNat++List.replicate (s0.length - s1.1.toNat) (GF.mk (0:Int) (GE.mk (GJ.mk (0:Int) (0:Int)) (0:Int)) ([]:zu))) (0:Int) s1.1).bind λm19=>some m19))))))
def wl (x0:GF) (c0:GH):Option Bool :=
 ((y8 c0.op.dots x0.dot).bind λv1=>some v1)
def leafApply (l0:GC) (e1:GH):Option (GC×Int) :=
 ((qI l0).bind λv1=>((if ((!v1)==false)=true then qd e1 else some default).bind λv2=>(if ((!v1) || (!v2))=true then some (zLf,(2:Int)) else ((opType e1.op.kind).bind λv4=>(if (v4 != l0.typ)=true then some (zLf,(15:Int)) else ((yW l0.items).bind λv6=>((yS l0.tombs).bind λv7=>(if e1.op.kind=1 then ((some (IntKind.wrap .i64 (l0.n+e1.op.n)):Option Int).bind λv9=>some ((GC.mk l0.typ v9 l0.time l0.dot l0.text v6 v7),(0:Int))) else (if e1.op.kind=2 then ((((if ((l0.time==(0:Int))==false)=true then w9 l0.time l0.dot e1.time e1.dot else some default).bind λv14=>(if ((l0.time==(0:Int)) || v14)=true then some (e1.time,e1.dot.actor.rep,e1.dot.actor.inc,e1.dot.seq,e1.op.text) else some (l0.time,l0.dot.actor.rep,l0.dot.actor.inc,l0.dot.seq,l0.text))):Option (Int×Int×Int×Int×zu)).bind λv11=>some ((GC.mk l0.typ l0.n v11.1 (GE.mk (GJ.mk v11.2.1 v11.2.2.1) v11.2.2.2.1) v11.2.2.2.2 v6 v7),(0:Int))) else (if e1.op.kind=3 then ((((y8 v7 e1.dot).bind λv29=>(if (!v29)=true then ((((leafXhas v6 e1.dot).bind λv36=>(if v36=true then some v6 else ((zS v6 (GF.mk (0:Int) e1.dot e1.op.text) (λx0 x1=>yQ x0 x1)).bind λv38=>((insO v6 v38.1 ([(GF.mk (0:Int) e1.dot e1.op.text)]:List GF)).bind λv39=>some v39)))):Option (List GF)).bind λv31=>some v31) else some v6)):Option (List GF)).bind λv17=>some ((GC.mk l0.typ l0.n l0.time l0.dot l0.text v17 v7),(0:Int))) else (if e1.op.kind=4 then (((yl ((v7).length+(e1.op.dots).length<=lim) (((qY (λx y=>wx x y) (v7++e1.op.dots)).bind λv47=>((xT v47).bind λv48=>((xD v6 (λx0=>wl x0 e1)).bind λv49=>some (v48,v49)))))):Option ((List GE)×(List GF))).bind λv41=>some ((GC.mk l0.typ l0.n l0.time l0.dot l0.text v41.2 v41.1),(0:Int))) else (if e1.op.kind=5 then ((((((leafXhas v6 e1.dot).bind λv66=>(if v66=true then some v6 else ((zS v6 (GF.mk e1.time e1.dot e1.op.text) (λx0 x1=>yQ x0 x1)).bind λv68=>((insO v6 v68.1 ([(GF.mk e1.time e1.dot e1.op.text)]:List GF)).bind λv69=>some v69)))):Option (List GF)).bind λv61=>some v61):Option (List GF)).bind λv51=>some ((GC.mk l0.typ l0.n l0.time l0.dot l0.text v51 v7),(0:Int))) else some ((GC.mk l0.typ l0.n l0.time l0.dot l0.text v6 v7),(0:Int))))))))))))))
def vY (l0:GC):Option GC :=
 ((yW l0.items).bind λv1=>((yS l0.tombs).bind λv2=>some (GC.mk l0.typ l0.n l0.time l0.dot l0.text v1 v2)))
def xN:Nat->(t0:(List GA))->(byy1:(GC->Option GC))->Option (List GA)
 | 0,_,_=>none
 | n+1,t0,byy1=>(lp (zp (λ(n1:Nat) (x1:GA) (s1:(List GA))=>(((xN n x1.subs byy1).bind λv23=>(lp (zp (λ(n2:Nat) (x2:GC) (s2:(List GC))=>(((byy1 x2).bind λv36=>(yl ((s2).length+(([v36]:List GC)).length<=lim) (some (.nxt (s2++([v36]:List GC)))))):Option (Out _ (List GC)))) x1.leaves 0 ([]:List GC)) λ(s2:(List GC))=>(yl ((s1).length+(([(GA.mk x1.name s2 v23)]:List GA)).length<=lim) (some (.nxt (s1++([(GA.mk x1.name s2 v23)]:List GA))))))):Option (Out _ (List GA)))) t0 0 ([]:List GA)) λ(s1:(List GA))=>some s1)
def treeXchanged (t0:(List GA)) (byy1:(GC->Option GC)):Option (List GA):=anyN λn=>xN n t0 byy1
def treeXown (t0:(List GA)):Option (List GA) :=
 ((treeXchanged t0 (λx0=>vY x0)).bind λv1=>some v1)
def yY (s0:(List GA)):Option (List GA) :=
 (nilq s0 λb1=>(if b1=true then some ([]:List GA) else (yl ((([]:List GA)).length+(s0).length<=lim) (some (([]:List GA)++s0)))))
def zn (x0:(List GA)) (target1:zu) (cmp2:(GA->zu->Option Int)):Option (Int×Bool) :=
 (lp (zZ (λ(sL1:Int×Int)=>((if (decide (sL1.1 < sL1.2))=true then ((zQ x0 (IntKind.wrap .i64 ((Int.fdiv (IntKind.wrap .u64 ((IntKind.wrap .i64 (sL1.1+sL1.2)))) (2 ^ (min (1:Int).toNat (IntKind.bits .u64))))))).bind λy9=>((cmp2 y9 target1).bind λv10=>(if (decide (v10 < (0:Int)))=true then some (.nxt ((IntKind.wrap .i64 ((IntKind.wrap .i64 ((Int.fdiv (IntKind.wrap .u64 ((IntKind.wrap .i64 (sL1.1+sL1.2)))) (2 ^ (min (1:Int).toNat (IntKind.bits .u64))))))+(1:Int))),sL1.2)) else some (.nxt (sL1.1,(IntKind.wrap .i64 ((Int.fdiv (IntKind.wrap .u64 ((IntKind.wrap .i64 (sL1.1+sL1.2)))) (2 ^ (min (1:Int).toNat (IntKind.bits .u64))))))))))) else some (.brk (sL1.1,sL1.2))):Option (Out _ (Int×Int)))) ((0:Int),((x0).length:Int))) λ(sL1:Int×Int)=>(yl (((decide (sL1.1 < ((x0).length:Int)))==true)=true->0<=sL1.1/\sL1.1 < ((x0).length:Int)) (((if ((decide (sL1.1 < ((x0).length:Int)))==true)=true then cmp2 ((x0).getD sL1.1.toNat default) target1 else some default).bind λv13=>some (sL1.1,((decide (sL1.1 < ((x0).length:Int)))&&(v13==(0:Int))))))))
/-- strings.Compare -/
def stringsCompare (p0:zu) (p1:zu):Option Int:=some (Go.Lib.compareBytes p0 p1)
def treeXfindC1 (n0:GA) (s1:zu):Option Int :=
 ((stringsCompare n0.name s1).bind λv1=>some v1)
def treeXfind (t0:(List GA)) (name1:zu):Option (Int×Bool) :=
 ((zn t0 name1 (λx0 x1=>treeXfindC1 x0 x1)).bind λv1=>some (v1.1,v1.2))
/-- slices.Insert[varve/api.Tree,varve/api.Node]: insO -/
def slicesInsertTreeNodeX:Unit:=()
def xA (s0:(List GC)):Option (List GC) :=
 (nilq s0 λb1=>(if b1=true then some ([]:List GC) else (yl ((([]:List GC)).length+(s0).length<=lim) (some (([]:List GC)++s0)))))
def zG (x0:(List GC)) (target1:Int) (cmp2:(GC->Int->Option Int)):Option (Int×Bool) :=
 (lp (zZ (λ(s1:Int×Int)=>((if (decide (s1.1 < s1.2))=true then ((zQ x0 (IntKind.wrap .i64 ((Int.fdiv (IntKind.wrap .u64 ((IntKind.wrap .i64 (s1.1+s1.2)))) (2 ^ (min (1:Int).toNat (IntKind.bits .u64))))))).bind λy9=>((cmp2 y9 target1).bind λv10=>(if (decide (v10 < (0:Int)))=true then some (.nxt ((IntKind.wrap .i64 ((IntKind.wrap .i64 ((Int.fdiv (IntKind.wrap .u64 ((IntKind.wrap .i64 (s1.1+s1.2)))) (2 ^ (min (1:Int).toNat (IntKind.bits .u64))))))+(1:Int))),s1.2)) else some (.nxt (s1.1,(IntKind.wrap .i64 ((Int.fdiv (IntKind.wrap .u64 ((IntKind.wrap .i64 (s1.1+s1.2)))) (2 ^ (min (1:Int).toNat (IntKind.bits .u64))))))))))) else some (.brk (s1.1,s1.2))):Option (Out _ (Int×Int)))) ((0:Int),((x0).length:Int))) λ(s1:Int×Int)=>(yl (((decide (s1.1 < ((x0).length:Int)))==true)=true->0<=s1.1/\s1.1 < ((x0).length:Int)) (((if ((decide (s1.1 < ((x0).length:Int)))==true)=true then cmp2 ((x0).getD s1.1.toNat default) target1 else some default).bind λv13=>some (s1.1,((decide (s1.1 < ((x0).length:Int)))&&(v13==(0:Int))))))))
def wJ (x0:GC) (kind1:Int):Option Int :=
 ((xX x0.typ kind1).bind λv1=>some v1)
/-- slices.Insert[[]varve/api.Leaf,varve/api.Leaf]: insO -/
def slicesInsertLeafX:Unit:=()
def wa:Nat->(t0:(List GA))->(path1:(List zu))->(l2:GC)->Option (List GA)
 | 0,_,_,_=>none
 | n+1,t0,path1,l2=>((yY t0).bind λv1=>((zQ path1 (0:Int)).bind λy2=>((treeXfind v1 y2).bind λv3=>(if (!v3.2)=true then ((zQ path1 (0:Int)).bind λy5=>((insO v1 v3.1 ([(GA.mk y5 ([]:List GC) ([]:List GA))]:List GA)).bind λv6=>((zQ v6 v3.1).bind λy7=>(if (decide (((path1).length:Int) > (1:Int)))=true then ((slc path1 (1:Int) ((path1).length:Int)).bind λm10=>((wa n y7.subs m10 l2).bind λv11=>((zQ v6 v3.1).bind λy12=>some (v6.set v3.1.toNat (GA.mk y7.name y7.leaves v11))))) else ((xA y7.leaves).bind λv13=>((zG v13 l2.typ (λx0 x1=>wJ x0 x1)).bind λv14=>(if (!v14.2)=true then ((insO v13 v14.1 ([l2]:List GC)).bind λv16=>((zQ v16 v14.1).bind λy17=>((zQ v6 v3.1).bind λy18=>some (v6.set v3.1.toNat (GA.mk y7.name (v16.set v14.1.toNat l2) y7.subs))))) else ((zQ v13 v14.1).bind λy19=>((zQ v6 v3.1).bind λy20=>some (v6.set v3.1.toNat (GA.mk y7.name (v13.set v14.1.toNat l2) y7.subs))))))))))) else ((zQ v1 v3.1).bind λy21=>(if (decide (((path1).length:Int) > (1:Int)))=true then ((slc path1 (1:Int) ((path1).length:Int)).bind λm24=>((wa n y21.subs m24 l2).bind λv25=>((zQ v1 v3.1).bind λy26=>some (v1.set v3.1.toNat (GA.mk y21.name y21.leaves v25))))) else ((xA y21.leaves).bind λv27=>((zG v27 l2.typ (λx0 x1=>wJ x0 x1)).bind λv28=>(if (!v28.2)=true then ((insO v27 v28.1 ([l2]:List GC)).bind λv30=>((zQ v30 v28.1).bind λy31=>((zQ v1 v3.1).bind λy32=>some (v1.set v3.1.toNat (GA.mk y21.name (v30.set v28.1.toNat l2) y21.subs))))) else ((zQ v27 v28.1).bind λy33=>((zQ v1 v3.1).bind λy34=>some (v1.set v3.1.toNat (GA.mk y21.name (v27.set v28.1.toNat l2) y21.subs)))))))))))))
def treeXput (t0:(List GA)) (path1:(List zu)) (l2:GC):Option (List GA):=anyN λn=>wa n t0 path1 l2
def treeApply (t0:(List GA)) (e1:GH):Option ((List GA)×Int) :=
 ((qx t0).bind λv1=>((if ((!v1)==false)=true then qd e1 else some default).bind λv2=>(if ((!v1) || (!v2))=true then some (([]:List GA),(2:Int)) else ((opType e1.op.kind).bind λv4=>((vP t0 e1.op.path v4).bind λv5=>((leafApply v5.1 e1).bind λv6=>(if (v6.2 != (0:Int))=true then some (([]:List GA),v6.2) else ((treeXput t0 e1.op.path v6.1).bind λv8=>((treeXown v8).bind λv9=>some (v9,(0:Int)))))))))))
def foldFold (t0:(List GA)) (l1:(List GH)):Option ((List GA)×Int) :=
 ((qx t0).bind λv1=>((if ((!v1)==false)=true then yR l1 (λx0=>foldFoldC1 x0) else some default).bind λv2=>(if ((!v1) || v2)=true then some (([]:List GA),(2:Int)) else (lp (zp (λ(n1:Nat) (x1:GH) (s1:List (GE×Int))=>(some (.nxt (vj GE.eqb s1 x1.dot (IntKind.wrap .i64 ((yC GE.eqb (0:Int) s1 x1.dot)+(1:Int))))):Option (Out _ (List (GE×Int))))) l1 0 ([]:List (GE×Int))) λ(s1:List (GE×Int))=>(if (decide (((s1).length:Int) < ((l1).length:Int)))=true then some (([]:List GA),(8:Int)) else ((treeMerge t0 t0 t0).bind λv12=>((xH l1).bind λv13=>(lp (zp (λ(n2:Nat) (x2:GH) (s2:(List GA))=>(((treeApply s2 x2).bind λv22=>(if (v22.2 != (0:Int))=true then some (.ret (([]:List GA),v22.2)) else some (.nxt v22.1))):Option (Out _ (List GA)))) v13 0 v12.1) λ(s2:(List GA))=>some (s2,(0:Int))))))))))
def qj (s0:zu):Option Bool :=
 (if ((decide (((s0).length:Int) < (1:Int))) || (decide (((s0).length:Int) > (12:Int))))=true then some false else (lp (zp (λ(n1:Nat) (x1:UInt8) (s1:Unit)=>((if (!((((decide ((x1.toNat:Int) >= (97:Int)))&&(decide ((x1.toNat:Int)<=(122:Int)))) || ((decide ((x1.toNat:Int) >= (65:Int)))&&(decide ((x1.toNat:Int)<=(90:Int))))) || ((decide ((x1.toNat:Int) >= (48:Int)))&&(decide ((x1.toNat:Int)<=(57:Int))))))=true then some (.ret false) else some (.nxt ())):Option (Out _ Unit))) s0 0 ()) λ(s1:Unit)=>some true))
def vB (l0:(List GE)) (d1:GE):Option Bool :=
 (lp (zp (λ(n1:Nat) (x1:GE) (s1:Unit)=>((if (x1.actor.rep==d1.actor.rep&&(x1.actor.inc==d1.actor.inc&&(x1.seq==d1.seq&&true)))=true then some (.ret true) else some (.nxt ())):Option (Out _ Unit))) l0 0 ()) λ(s1:Unit)=>some false)
def ref05Item (l0:(List GF)) (d1:GE):Option Int :=
 (lp (zp (λ(n1:Nat) (x1:GF) (s1:Unit)=>((if (x1.dot.actor.rep==d1.actor.rep&&(x1.dot.actor.inc==d1.actor.inc&&(x1.dot.seq==d1.seq&&true)))=true then some (.ret (n1:Int)) else some (.nxt ())):Option (Out _ Unit))) l0 0 ()) λ(s1:Unit)=>some (-1:Int))
def vU (a0:GJ):Option Bool :=
 some (((decide (a0.rep<=(15:Int)))&&(decide (a0.inc >= (1:Int))))&&(decide (a0.inc<=(4:Int))))
def qE (d0:GE):Option Bool :=
 ((vU d0.actor).bind λv1=>some ((v1&&(decide (d0.seq >= (1:Int))))&&(decide (d0.seq<=(1048576:Int)))))
def ref05May (l0:GC):Option Bool :=
 (if (((((decide (l0.typ < (1:Int))) || (decide (l0.typ > (4:Int)))) || ((l0.typ != (1:Int))&&(l0.n != (0:Int)))) || ((decide (l0.typ < (3:Int)))&&(decide (((l0.items).length:Int) > (0:Int))))) || ((l0.typ != (3:Int))&&(decide (((l0.tombs).length:Int) > (0:Int)))))=true then some false else (lp ((if ((l0.typ != (2:Int)) || (l0.time==(0:Int)))=true then (if (((l0.time != (0:Int)) || (!(l0.dot.actor.rep==(0:Int)&&(l0.dot.actor.inc==(0:Int)&&(l0.dot.seq==(0:Int)&&true))))) || (!(l0.text==([]:zu))))=true then some (.inl false) else some (.inr ())) else ((if ((decide (l0.time > (1099511627776:Int)))==false)=true then qE l0.dot else some default).bind λv11=>(if (((decide (l0.time > (1099511627776:Int))) || (!v11)) || (decide (((l0.text).length:Int) > (40:Int))))=true then some (.inl false) else some (.inr ())))):Option (_ ⊕ Unit)) λ(s1:Unit)=>(lp (zp (λ(n2:Nat) (x2:GF) (s2:Unit)=>(((qE x2.dot).bind λv41=>((if (((((!v41) || (decide (((x2.text).length:Int) > (40:Int)))) || ((l0.typ==(3:Int))&&(x2.time != (0:Int)))) || ((l0.typ==(4:Int))&&((decide (x2.time < (1:Int))) || (decide (x2.time > (1099511627776:Int))))))==false)=true then ref05Item l0.items x2.dot else some default).bind λv43=>((if ((((((!v41) || (decide (((x2.text).length:Int) > (40:Int)))) || ((l0.typ==(3:Int))&&(x2.time != (0:Int)))) || ((l0.typ==(4:Int))&&((decide (x2.time < (1:Int))) || (decide (x2.time > (1099511627776:Int)))))) || (v43 != (n2:Int)))==false)=true then vB l0.tombs x2.dot else some default).bind λv44=>(if ((((((!v41) || (decide (((x2.text).length:Int) > (40:Int)))) || ((l0.typ==(3:Int))&&(x2.time != (0:Int)))) || ((l0.typ==(4:Int))&&((decide (x2.time < (1:Int))) || (decide (x2.time > (1099511627776:Int)))))) || (v43 != (n2:Int))) || v44)=true then some (.ret false) else (yl (((decide ((n2:Int) > (0:Int)))==true)=true->0<=(IntKind.wrap .i64 ((n2:Int) - (1:Int)))/\(IntKind.wrap .i64 ((n2:Int) - (1:Int))) < ((l0.items).length:Int)) ((yl (((decide ((n2:Int) > (0:Int)))==true)=true->0<=(IntKind.wrap .i64 ((n2:Int) - (1:Int)))/\(IntKind.wrap .i64 ((n2:Int) - (1:Int))) < ((l0.items).length:Int)) (((if ((decide ((n2:Int) > (0:Int)))==true)=true then wi (((l0.items).getD (IntKind.wrap .i64 ((n2:Int) - (1:Int))).toNat default).time) (((l0.items).getD (IntKind.wrap .i64 ((n2:Int) - (1:Int))).toNat default).dot) x2.time x2.dot else some default).bind λv48=>(if ((decide ((n2:Int) > (0:Int)))&&(!v48))=true then some (.ret false) else some (.nxt ()))))))))))):Option (Out _ Unit))) l0.items 0 ()) λ(s2:Unit)=>(lp (zp (λ(n3:Nat) (x3:GE) (s3:Unit)=>(((qE x3).bind λv73=>(yl ((((!v73)==false)&&((decide ((n3:Int) > (0:Int)))==true))=true->0<=(IntKind.wrap .i64 ((n3:Int) - (1:Int)))/\(IntKind.wrap .i64 ((n3:Int) - (1:Int))) < ((l0.tombs).length:Int)) ((yl ((((!v73)==false)&&((decide ((n3:Int) > (0:Int)))==true))=true->0<=(n3:Int)/\(n3:Int) < ((l0.tombs).length:Int)) (((if (((!v73)==false)&&((decide ((n3:Int) > (0:Int)))==true))=true then vC ((l0.tombs).getD (IntKind.wrap .i64 ((n3:Int) - (1:Int))).toNat default) ((l0.tombs).getD (n3:Int).toNat default) else some default).bind λv76=>(if ((!v73) || ((decide ((n3:Int) > (0:Int)))&&(!v76)))=true then some (.ret false) else some (.nxt ())))))))):Option (Out _ Unit))) l0.tombs 0 ()) λ(s3:Unit)=>some true))))
def vp:Nat->(t0:(List GA))->(deep1:Int)->Option Bool
 | 0,_,_=>none
 | n+1,t0,deep1=>(lp (zp (λ(n1:Nat) (x1:GA) (s1:Unit)=>(((if ((decide (deep1 >= (3:Int)))==false)=true then qj x1.name else some default).bind λv31=>(yl (((((decide (deep1 >= (3:Int))) || (!v31))==false)&&((decide ((n1:Int) > (0:Int)))==true))=true->0<=(IntKind.wrap .i64 ((n1:Int) - (1:Int)))/\(IntKind.wrap .i64 ((n1:Int) - (1:Int))) < ((t0).length:Int)) (((if (((((decide (deep1 >= (3:Int))) || (!v31)) || ((decide ((n1:Int) > (0:Int)))&&(!(Op.bytesLess (((t0).getD (IntKind.wrap .i64 ((n1:Int) - (1:Int))).toNat default).name) x1.name)))) || ((((x1.leaves).length:Int)==(0:Int))&&(((x1.subs).length:Int)==(0:Int))))==false)=true then vp n x1.subs (IntKind.wrap .i64 (deep1+(1:Int))) else some default).bind λv35=>(if (((((decide (deep1 >= (3:Int))) || (!v31)) || ((decide ((n1:Int) > (0:Int)))&&(!(Op.bytesLess (((t0).getD (IntKind.wrap .i64 ((n1:Int) - (1:Int))).toNat default).name) x1.name)))) || ((((x1.leaves).length:Int)==(0:Int))&&(((x1.subs).length:Int)==(0:Int)))) || (!v35))=true then some (.ret false) else (lp (zp (λ(n2:Nat) (x2:GC) (s2:Unit)=>(((ref05May x2).bind λv50=>(yl ((((!v50)==false)&&((decide ((n2:Int) > (0:Int)))==true))=true->0<=(IntKind.wrap .i64 ((n2:Int) - (1:Int)))/\(IntKind.wrap .i64 ((n2:Int) - (1:Int))) < ((x1.leaves).length:Int)) ((yl ((((!v50)==false)&&((decide ((n2:Int) > (0:Int)))==true))=true->0<=(n2:Int)/\(n2:Int) < ((x1.leaves).length:Int)) ((if ((!v50) || ((decide ((n2:Int) > (0:Int)))&&(decide (((x1.leaves).getD (IntKind.wrap .i64 ((n2:Int) - (1:Int))).toNat default).typ >= ((x1.leaves).getD (n2:Int).toNat default).typ))))=true then some (.ret (.ret false)) else some (.nxt ()))))))):Option (Out _ Unit))) x1.leaves 0 ()) λ(s2:Unit)=>some (.nxt ()))))))):Option (Out _ Unit))) t0 0 ()) λ(s1:Unit)=>some true)
def ref07Xmay (t0:(List GA)) (deep1:Int):Option Bool:=anyN λn=>vp n t0 deep1
def ref07May (t0:(List GA)):Option Bool :=
 ((ref07Xmay t0 (0:Int)).bind λv1=>some v1)
def ref04Type (kind0:Int):Option Int :=
 (if (kind0==(1:Int))=true then some (1:Int) else (if (kind0==(2:Int))=true then some (2:Int) else (if (kind0==(3:Int))=true then (if (kind0==(3:Int))=true then some (3:Int) else (if (kind0==(5:Int))=true then some (4:Int) else some (0:Int))) else (if (kind0==(4:Int))=true then some (3:Int) else (if (kind0==(5:Int))=true then some (4:Int) else some (0:Int))))))
def ref04MayPath (p0:(List zu)):Option Bool :=
 (lp (zp (λ(n1:Nat) (x1:zu) (s1:Unit)=>(((qj x1).bind λv9=>(if (!v9)=true then some (.ret false) else some (.nxt ()))):Option (Out _ Unit))) p0 0 ()) λ(s1:Unit)=>some ((decide (((p0).length:Int) >= (1:Int)))&&(decide (((p0).length:Int)<=(3:Int)))))
def ref04May (o0:GK):Option Bool :=
 ((ref04Type o0.kind).bind λv1=>((if ((v1==(0:Int))==false)=true then ref04MayPath o0.path else some default).bind λv2=>(if ((((v1==(0:Int)) || (!v2)) || (decide (((o0.text).length:Int) > (40:Int)))) || (decide (((o0.dots).length:Int) > (64:Int))))=true then some false else (if (o0.kind==(1:Int))=true then some ((((decide (o0.n >= (-1000000:Int)))&&(decide (o0.n<=(1000000:Int))))&&(o0.text==([]:zu)))&&(((o0.dots).length:Int)==(0:Int))) else (if ((o0.n != (0:Int)) || ((o0.kind != (4:Int))&&(decide (((o0.dots).length:Int) > (0:Int)))))=true then some false else (lp (zp (λ(n1:Nat) (x1:GE) (s1:Unit)=>(((qE x1).bind λv26=>(yl ((((!v26)==false)&&((decide ((n1:Int) > (0:Int)))==true))=true->0<=(IntKind.wrap .i64 ((n1:Int) - (1:Int)))/\(IntKind.wrap .i64 ((n1:Int) - (1:Int))) < ((o0.dots).length:Int)) ((yl ((((!v26)==false)&&((decide ((n1:Int) > (0:Int)))==true))=true->0<=(n1:Int)/\(n1:Int) < ((o0.dots).length:Int)) (((if (((!v26)==false)&&((decide ((n1:Int) > (0:Int)))==true))=true then vC ((o0.dots).getD (IntKind.wrap .i64 ((n1:Int) - (1:Int))).toNat default) ((o0.dots).getD (n1:Int).toNat default) else some default).bind λv29=>(if ((!v26) || ((decide ((n1:Int) > (0:Int)))&&(!v29)))=true then some (.ret false) else some (.nxt ())))))))):Option (Out _ Unit))) o0.dots 0 ()) λ(s1:Unit)=>some true))))))
def x7 (e0:GH):Option Bool :=
 ((qE e0.dot).bind λv1=>((if (((v1&&(decide (e0.time >= (1:Int))))&&(decide (e0.time<=(1099511627776:Int))))==true)=true then ref04May e0.op else some default).bind λv2=>some (((v1&&(decide (e0.time >= (1:Int))))&&(decide (e0.time<=(1099511627776:Int))))&&v2)))
def ref05New (kind0:Int):Option GC :=
 (if ((decide (kind0 >= (1:Int)))&&(decide (kind0<=(4:Int))))=true then some (GC.mk kind0 (0:Int) (0:Int) (GE.mk (GJ.mk (0:Int) (0:Int)) (0:Int)) ([]:zu) ([]:List GF) ([]:List GE)) else some zLf)
def ref07Xnode (t0:(List GA)) (name1:zu):Option (GA×Bool) :=
 (lp (zp (λ(n1:Nat) (x1:GA) (sL1:Unit)=>((if (x1.name==name1)=true then some (.ret (x1,true)) else some (.nxt ())):Option (Out _ Unit))) t0 0 ()) λ(sL1:Unit)=>some ((GA.mk ([]:zu) ([]:List GC) ([]:List GA)),false))
def ref07Leaf (t0:(List GA)) (path1:(List zu)) (kind2:Int):Option (GC×Bool) :=
 ((ref05New kind2).bind λv1=>(lp (zp (λ(n1:Nat) (x1:zu) (s1:(List GA)×zu×(List GC)×(List GA))=>(((ref07Xnode s1.1 x1).bind λv32=>(if (!v32.2)=true then some (.ret (v1,false)) else some (.nxt (v32.1.subs,v32.1.name,v32.1.leaves,v32.1.subs)))):Option (Out _ ((List GA)×zu×(List GC)×(List GA))))) path1 0 (t0,([]:zu),([]:List GC),([]:List GA))) λ(s1:(List GA)×zu×(List GC)×(List GA))=>(lp (zZ (λ(s2:Int)=>((if (((decide (s2 < ((s1.2.2.1).length:Int)))&&(decide (kind2 >= (1:Int))))&&(decide (kind2<=(4:Int))))=true then ((zQ s1.2.2.1 s2).bind λy63=>(if (y63.typ==kind2)=true then ((zQ s1.2.2.1 s2).bind λy65=>some (.ret (y65,true))) else some (.nxt (IntKind.wrap .i64 (s2+(1:Int)))))) else some (.brk s2)):Option (Out _ Int))) (0:Int)) λ(s2:Int)=>some (v1,false))))
def ref05Lay (l0:(List GF)) (x1:GF):Option (List GF) :=
 ((ref05Item l0 x1.dot).bind λv1=>(if (decide (v1 >= (0:Int)))=true then (yl ((([]:List GF)).length+(l0).length<=lim) (some (([]:List GF)++l0))) else (lp (zZ (λ(s1:(List GF)×Int)=>((yl (((decide (s1.2 < ((l0).length:Int)))==true)=true->0<=s1.2/\s1.2 < ((l0).length:Int)) ((yl (((decide (s1.2 < ((l0).length:Int)))==true)=true->0<=s1.2/\s1.2 < ((l0).length:Int)) (((if ((decide (s1.2 < ((l0).length:Int)))==true)=true then wi (((l0).getD s1.2.toNat default).time) (((l0).getD s1.2.toNat default).dot) x1.time x1.dot else some default).bind λv21=>(if ((decide (s1.2 < ((l0).length:Int)))&&v21)=true then ((zQ l0 s1.2).bind λy23=>(yl ((s1.1).length+(([y23]:List GF)).length<=lim) (some (.nxt ((s1.1++([y23]:List GF)),(IntKind.wrap .i64 (s1.2+(1:Int)))))))) else some (.brk (s1.1,s1.2)))))))):Option (Out _ ((List GF)×Int)))) (([]:List GF),(0:Int))) λ(s1:(List GF)×Int)=>(yl ((s1.1).length+(([x1]:List GF)).length<=lim) (((slc l0 s1.2 ((l0).length:Int)).bind λm26=>(yl (((s1.1++([x1]:List GF))).length+(m26).length<=lim) (some ((s1.1++([x1]:List GF))++m26)))))))))
def ref05Bury (l0:(List GE)) (d1:GE):Option (List GE) :=
 ((vB l0 d1).bind λv1=>(if v1=true then some l0 else (lp (zZ (λ(s1:(List GE)×Int)=>((yl (((decide (s1.2 < ((l0).length:Int)))==true)=true->0<=s1.2/\s1.2 < ((l0).length:Int)) (((if ((decide (s1.2 < ((l0).length:Int)))==true)=true then vC ((l0).getD s1.2.toNat default) d1 else some default).bind λv16=>(if ((decide (s1.2 < ((l0).length:Int)))&&v16)=true then ((zQ l0 s1.2).bind λy18=>(yl ((s1.1).length+(([y18]:List GE)).length<=lim) (some (.nxt ((s1.1++([y18]:List GE)),(IntKind.wrap .i64 (s1.2+(1:Int)))))))) else some (.brk (s1.1,s1.2)))))):Option (Out _ ((List GE)×Int)))) (([]:List GE),(0:Int))) λ(s1:(List GE)×Int)=>(yl ((s1.1).length+(([d1]:List GE)).length<=lim) (((slc l0 s1.2 ((l0).length:Int)).bind λm21=>(yl (((s1.1++([d1]:List GE))).length+(m21).length<=lim) (some ((s1.1++([d1]:List GE))++m21)))))))))
def ref05Left (l0:(List GF)) (tombs1:(List GE)):Option (List GF) :=
 (lp (zp (λ(n1:Nat) (x1:GF) (s1:(List GF))=>(((vB tombs1 x1.dot).bind λv12=>(if (!v12)=true then (yl ((s1).length+(([x1]:List GF)).length<=lim) (some (.nxt (s1++([x1]:List GF))))) else some (.nxt s1))):Option (Out _ (List GF)))) l0 0 ([]:List GF)) λ(s1:(List GF))=>some s1)
def ref05Apply (l0:GC) (e1:GH):Option (GC×Int) :=
 ((ref05May l0).bind λv1=>((if ((!v1)==false)=true then x7 e1 else some default).bind λv2=>(if ((!v1) || (!v2))=true then some (zLf,(2:Int)) else ((ref04Type e1.op.kind).bind λv4=>(if (v4 != l0.typ)=true then some (zLf,(15:Int)) else (if (e1.op.kind==(1:Int))=true then some ((GC.mk l0.typ (IntKind.wrap .i64 (l0.n+e1.op.n)) l0.time l0.dot l0.text l0.items l0.tombs),(0:Int)) else (if (e1.op.kind==(2:Int))=true then ((if ((l0.time==(0:Int))==false)=true then wi l0.time l0.dot e1.time e1.dot else some default).bind λv8=>(if ((l0.time==(0:Int)) || v8)=true then some ((GC.mk l0.typ l0.n e1.time e1.dot e1.op.text l0.items l0.tombs),(0:Int)) else some (l0,(0:Int)))) else (if (e1.op.kind==(3:Int))=true then ((vB l0.tombs e1.dot).bind λv11=>(if (!v11)=true then ((ref05Lay l0.items (GF.mk (0:Int) e1.dot e1.op.text)).bind λv13=>some ((GC.mk l0.typ l0.n l0.time l0.dot l0.text v13 l0.tombs),(0:Int))) else some (l0,(0:Int)))) else (if (e1.op.kind==(4:Int))=true then (lp (zp (λ(n1:Nat) (x1:GE) (s1:(List GE))=>(((ref05Bury s1 x1).bind λv49=>some (.nxt v49)):Option (Out _ (List GE)))) e1.op.dots 0 l0.tombs) λ(s1:(List GE))=>((ref05Left l0.items s1).bind λv50=>some ((GC.mk l0.typ l0.n l0.time l0.dot l0.text v50 s1),(0:Int)))) else (if (e1.op.kind==(5:Int))=true then ((ref05Lay l0.items (GF.mk e1.time e1.dot e1.op.text)).bind λv52=>some ((GC.mk l0.typ l0.n l0.time l0.dot l0.text v52 l0.tombs),(0:Int))) else some (l0,(0:Int))))))))))))
def wp:Nat->(t0:(List GA))->(path1:(List zu))->(l2:GC)->Option (List GA)
 | 0,_,_,_=>none
 | n+1,t0,path1,l2=>(lp (zZ (λ(s1:(List GA)×Int)=>((yl (((decide (s1.2 < ((t0).length:Int)))==true)=true->0<=s1.2/\s1.2 < ((t0).length:Int)) ((yl (((decide (s1.2 < ((t0).length:Int)))==true)=true->0<=(0:Int)/\(0:Int) < ((path1).length:Int)) ((if ((decide (s1.2 < ((t0).length:Int)))&&(Op.bytesLess (((t0).getD s1.2.toNat default).name) ((path1).getD (0:Int).toNat default)))=true then ((zQ t0 s1.2).bind λy22=>(yl ((s1.1).length+(([y22]:List GA)).length<=lim) (some (.nxt ((s1.1++([y22]:List GA)),(IntKind.wrap .i64 (s1.2+(1:Int)))))))) else some (.brk (s1.1,s1.2))))))):Option (Out _ ((List GA)×Int)))) (([]:List GA),(0:Int))) λ(s1:(List GA)×Int)=>((zQ path1 (0:Int)).bind λy24=>(lp ((yl (((decide (s1.2 < ((t0).length:Int)))==true)=true->0<=s1.2/\s1.2 < ((t0).length:Int)) ((yl (((decide (s1.2 < ((t0).length:Int)))==true)=true->0<=(0:Int)/\(0:Int) < ((path1).length:Int)) ((if ((decide (s1.2 < ((t0).length:Int)))&&(((t0).getD s1.2.toNat default).name==((path1).getD (0:Int).toNat default)))=true then ((zQ t0 s1.2).bind λy34=>some (.inr ((IntKind.wrap .i64 (s1.2+(1:Int))),y34.name,y34.leaves,y34.subs))) else some (.inr (s1.2,y24,([]:List GC),([]:List GA)))))))):Option (_ ⊕ (Int×zu×(List GC)×(List GA)))) λ(s2:Int×zu×(List GC)×(List GA))=>(if (decide (((path1).length:Int) > (1:Int)))=true then ((slc path1 (1:Int) ((path1).length:Int)).bind λm37=>((wp n s2.2.2.2 m37 l2).bind λv38=>(yl ((s1.1).length+(([(GA.mk s2.2.1 s2.2.2.1 v38)]:List GA)).length<=lim) (((slc t0 s2.1 ((t0).length:Int)).bind λm40=>(yl (((s1.1++([(GA.mk s2.2.1 s2.2.2.1 v38)]:List GA))).length+(m40).length<=lim) (some ((s1.1++([(GA.mk s2.2.1 s2.2.2.1 v38)]:List GA))++m40)))))))) else (lp (zZ (λ(s3:(List GC)×Int)=>((yl (((decide (s3.2 < ((s2.2.2.1).length:Int)))==true)=true->0<=s3.2/\s3.2 < ((s2.2.2.1).length:Int)) ((if ((decide (s3.2 < ((s2.2.2.1).length:Int)))&&(decide (((s2.2.2.1).getD s3.2.toNat default).typ < l2.typ)))=true then ((zQ s2.2.2.1 s3.2).bind λy64=>(yl ((s3.1).length+(([y64]:List GC)).length<=lim) (some (.nxt ((s3.1++([y64]:List GC)),(IntKind.wrap .i64 (s3.2+(1:Int)))))))) else some (.brk (s3.1,s3.2))))):Option (Out _ ((List GC)×Int)))) (([]:List GC),(0:Int))) λ(s3:(List GC)×Int)=>(yl (((decide (s3.2 < ((s2.2.2.1).length:Int)))==true)=true->0<=s3.2/\s3.2 < ((s2.2.2.1).length:Int)) ((if ((decide (s3.2 < ((s2.2.2.1).length:Int)))&&(((s2.2.2.1).getD s3.2.toNat default).typ==l2.typ))=true then (yl ((s3.1).length+(([l2]:List GC)).length<=lim) (((slc s2.2.2.1 (IntKind.wrap .i64 (s3.2+(1:Int))) ((s2.2.2.1).length:Int)).bind λm70=>(yl (((s3.1++([l2]:List GC))).length+(m70).length<=lim) ((yl ((s1.1).length+(([(GA.mk s2.2.1 ((s3.1++([l2]:List GC))++m70) s2.2.2.2)]:List GA)).length<=lim) (((slc t0 s2.1 ((t0).length:Int)).bind λm73=>(yl (((s1.1++([(GA.mk s2.2.1 ((s3.1++([l2]:List GC))++m70) s2.2.2.2)]:List GA))).length+(m73).length<=lim) (some ((s1.1++([(GA.mk s2.2.1 ((s3.1++([l2]:List GC))++m70) s2.2.2.2)]:List GA))++m73))))))))))) else (yl ((s3.1).length+(([l2]:List GC)).length<=lim) (((slc s2.2.2.1 s3.2 ((s2.2.2.1).length:Int)).bind λm76=>(yl (((s3.1++([l2]:List GC))).length+(m76).length<=lim) ((yl ((s1.1).length+(([(GA.mk s2.2.1 ((s3.1++([l2]:List GC))++m76) s2.2.2.2)]:List GA)).length<=lim) (((slc t0 s2.1 ((t0).length:Int)).bind λm79=>(yl (((s1.1++([(GA.mk s2.2.1 ((s3.1++([l2]:List GC))++m76) s2.2.2.2)]:List GA))).length+(m79).length<=lim) (some ((s1.1++([(GA.mk s2.2.1 ((s3.1++([l2]:List GC))++m76) s2.2.2.2)]:List GA))++m79)))))))))))))))))))
def ref07Lay (t0:(List GA)) (path1:(List zu)) (l2:GC):Option (List GA):=anyN λn=>wp n t0 path1 l2
def qc (t0:(List GA)) (e1:GH):Option ((List GA)×Int) :=
 ((ref07May t0).bind λv1=>((if ((!v1)==false)=true then x7 e1 else some default).bind λv2=>(if ((!v1) || (!v2))=true then some (([]:List GA),(2:Int)) else ((ref04Type e1.op.kind).bind λv4=>((ref07Leaf t0 e1.op.path v4).bind λv5=>((ref05Apply v5.1 e1).bind λv6=>(if (v6.2 != (0:Int))=true then some (([]:List GA),v6.2) else ((ref07Lay t0 e1.op.path v6.1).bind λv8=>some (v8,(0:Int))))))))))
def ref10Fold (t0:(List GA)) (l1:(List GH)):Option ((List GA)×Int) :=
 ((ref07May t0).bind λv1=>(if (!v1)=true then some (([]:List GA),(2:Int)) else (lp (zp (λ(n1:Nat) (x1:GH) (s1:Unit)=>(((x7 x1).bind λv11=>(if (!v11)=true then some (.ret (([]:List GA),(2:Int))) else some (.nxt ()))):Option (Out _ Unit))) l1 0 ()) λ(s1:Unit)=>(lp (zp (λ(n2:Nat) (x2:GH) (s2:Unit)=>((yl ((n2:Int)<=9223372036854775807) (lp (zp (λ(n3:Nat) (x3:Nat) (s3:Unit)=>(((zQ l1 (n3:Int)).bind λy32=>(if (y32.dot.actor.rep==x2.dot.actor.rep&&(y32.dot.actor.inc==x2.dot.actor.inc&&(y32.dot.seq==x2.dot.seq&&true)))=true then some (.ret (.ret (([]:List GA),(8:Int)))) else some (.nxt ()))):Option (Out _ Unit))) (List.range (((n2:Int)).toNat)) 0 ()) λ(s3:Unit)=>some (.nxt ()))):Option (Out _ Unit))) l1 0 ()) λ(s2:Unit)=>((vn l1).bind λv34=>(lp (zp (λ(n3:Nat) (x3:GH) (s3:(List GA))=>(((qc s3 x3).bind λv44=>(if (v44.2 != (0:Int))=true then some (.ret (([]:List GA),v44.2)) else some (.nxt v44.1))):Option (Out _ (List GA)))) v34 0 t0) λ(s3:(List GA))=>some (s3,(0:Int))))))))
def ref05Same (a0:GC) (b1:GC):Option Bool :=
 (if (((((((a0.typ != b1.typ) || (a0.n != b1.n)) || (a0.time != b1.time)) || (!(a0.dot.actor.rep==b1.dot.actor.rep&&(a0.dot.actor.inc==b1.dot.actor.inc&&(a0.dot.seq==b1.dot.seq&&true))))) || (!(a0.text==b1.text))) || (((a0.items).length:Int) != ((b1.items).length:Int))) || (((a0.tombs).length:Int) != ((b1.tombs).length:Int)))=true then some false else (lp (zp (λ(n1:Nat) (x1:GF) (s1:Unit)=>(((zQ b1.items (n1:Int)).bind λy32=>(if (!(x1.time==y32.time&&(x1.dot.actor.rep==y32.dot.actor.rep&&(x1.dot.actor.inc==y32.dot.actor.inc&&(x1.dot.seq==y32.dot.seq&&(x1.text==y32.text&&true))))))=true then some (.ret false) else some (.nxt ()))):Option (Out _ Unit))) a0.items 0 ()) λ(s1:Unit)=>(lp (zp (λ(n2:Nat) (x2:GE) (s2:Unit)=>(((zQ b1.tombs (n2:Int)).bind λy60=>(if (!(x2.actor.rep==y60.actor.rep&&(x2.actor.inc==y60.actor.inc&&(x2.seq==y60.seq&&true))))=true then some (.ret false) else some (.nxt ()))):Option (Out _ Unit))) a0.tombs 0 ()) λ(s2:Unit)=>some true)))
def qa:Nat->(a0:(List GA))->(b1:(List GA))->Option Bool
 | 0,_,_=>none
 | n+1,a0,b1=>(if (((a0).length:Int) != ((b1).length:Int))=true then some false else (lp (zp (λ(n1:Nat) (x1:GA) (s1:Unit)=>(((zQ b1 (n1:Int)).bind λy41=>(yl (((!(x1.name==y41.name))==false)=true->0<=(n1:Int)/\(n1:Int) < ((a0).length:Int)) ((yl (((!(x1.name==y41.name))==false)=true->0<=(n1:Int)/\(n1:Int) < ((b1).length:Int)) ((yl ((((!(x1.name==y41.name)) || (((((a0).getD (n1:Int).toNat default).leaves).length:Int) != ((((b1).getD (n1:Int).toNat default).leaves).length:Int)))==false)=true->0<=(n1:Int)/\(n1:Int) < ((a0).length:Int)) ((yl ((((!(x1.name==y41.name)) || (((((a0).getD (n1:Int).toNat default).leaves).length:Int) != ((((b1).getD (n1:Int).toNat default).leaves).length:Int)))==false)=true->0<=(n1:Int)/\(n1:Int) < ((b1).length:Int)) (((if (((!(x1.name==y41.name)) || (((((a0).getD (n1:Int).toNat default).leaves).length:Int) != ((((b1).getD (n1:Int).toNat default).leaves).length:Int)))==false)=true then qa n (((a0).getD (n1:Int).toNat default).subs) (((b1).getD (n1:Int).toNat default).subs) else some default).bind λv48=>(if (((!(x1.name==y41.name)) || (((((a0).getD (n1:Int).toNat default).leaves).length:Int) != ((((b1).getD (n1:Int).toNat default).leaves).length:Int))) || (!v48))=true then some (.ret false) else (lp (zp (λ(n2:Nat) (x2:GC) (s2:Unit)=>(((zQ b1 (n1:Int)).bind λy60=>((zQ y60.leaves (n2:Int)).bind λy61=>((ref05Same x2 y61).bind λv62=>(if (!v62)=true then some (.ret (.ret false)) else some (.nxt ()))))):Option (Out _ Unit))) x1.leaves 0 ()) λ(s2:Unit)=>some (.nxt ()))))))))))))):Option (Out _ Unit))) a0 0 ()) λ(s1:Unit)=>some true))
def ref07Same (a0:(List GA)) (b1:(List GA)):Option Bool:=anyN λn=>qa n a0 b1
def vr (t0:(List GA)) (l1:(List GH)):Option Bool :=
 ((qb t0).bind λv1=>((if (v1==false)=true then law10Xgreat l1 else some default).bind λv2=>(if (v1 || v2)=true then ((qp).bind λv4=>some v4) else ((ref07Own t0).bind λv5=>((xH l1).bind λv6=>((vn l1).bind λv7=>(if (((v6).length:Int) != ((v7).length:Int))=true then some false else (lp (zp (λ(n1:Nat) (x1:GH) (s1:Unit)=>(((zQ v7 (n1:Int)).bind λy18=>((wj x1 y18).bind λv19=>(if (!v19)=true then some (.ret false) else some (.nxt ())))):Option (Out _ Unit))) v6 0 ()) λ(s1:Unit)=>((foldFold v5 l1).bind λv21=>((ref10Fold t0 l1).bind λv22=>((if ((v21.2 != v22.2)==false)=true then ref07Same v21.1 v22.1 else some default).bind λv23=>(if ((v21.2 != v22.2) || (!v23))=true then some false else (yl ((((v21.1).length:Nat):Int)<=9223372036854775807) (lp (zp (λ(n2:Nat) (x2:Nat) (s2:(List GA))=>((yl ((s2).length=(v21.1).length) (((zQ s2 (n2:Int)).bind λy30=>some (.nxt (s2.set (n2:Int).toNat (GA.mk ([33]:zu) y30.leaves y30.subs)))))):Option (Out _ (List GA)))) (List.range (((((v21.1).length:Nat):Int)).toNat)) 0 v21.1) λ(s2:(List GA))=>((ref07Same v5 t0).bind λv31=>((if (v31==true)=true then qp else some default).bind λv32=>some (v31&&v32)))))))))))))))))
end
end Go.Vv
