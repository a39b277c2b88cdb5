/- What the functions compute, as plain functions; printed by a program from the code. -/
import Derived.Test.YtlkpeiojgenhaaaVvY
import Derived.Test.YtlkpeiojgenhaaaVvZ
namespace Go.Vv
open Go
set_option linter.unusedVariables false
structure GRule where
  rep : Int
  path : (List Str)
  kinds : Int
  allow : Bool
  read : Bool
  deriving DecidableEq, Inhabited
structure GActor where
  rep : Int
  inc : Int
  deriving DecidableEq, Inhabited
structure GDot where
  actor : GActor
  seq : Int
  deriving DecidableEq, Inhabited
structure GOp where
  kind : Int
  path : (List Str)
  n : Int
  text : Str
  dots : (List GDot)
  deriving DecidableEq, Inhabited
structure GOpKind where
  leaf : Int
  may : Nat
  deriving DecidableEq, Inhabited
structure GEvent where
  dot : GDot
  time : Int
  op : GOp
  deriving DecidableEq, Inhabited
structure GItem where
  time : Int
  dot : GDot
  text : Str
  deriving DecidableEq, Inhabited
structure GLeaf where
  typ : Int
  n : Int
  time : Int
  dot : GDot
  text : Str
  items : (List GItem)
  tombs : (List GDot)
  deriving DecidableEq, Inhabited
structure GNode where
  name : Str
  leaves : (List GLeaf)
  subs : (List GNode)
  deriving Inhabited
structure GRow where
  path : (List Str)
  leaf : GLeaf
  deriving DecidableEq, Inhabited
structure GVarveref07Row where
  path : (List Str)
  l : GLeaf
  deriving DecidableEq, Inhabited
structure GQuota where
  name : Str
  leaves : Int
  items : Int
  tombs : Int
  bytes : Int
  deriving DecidableEq, Inhabited
def GRule.wf (x : GRule) : Prop := (InK .u8 x.rep) ∧ (x.path.length ≤ maxLen ∧ ∀ y ∈ x.path, y.length ≤ maxLen) ∧ (InK .u8 x.kinds) ∧ (True) ∧ (True)
def GActor.wf (x : GActor) : Prop := (InK .u8 x.rep) ∧ (InK .u32 x.inc)
def GDot.wf (x : GDot) : Prop := (GActor.wf x.actor) ∧ (InK .u64 x.seq)
def GOp.wf (x : GOp) : Prop := (InK .u8 x.kind) ∧ (x.path.length ≤ maxLen ∧ ∀ y ∈ x.path, y.length ≤ maxLen) ∧ (InK .i64 x.n) ∧ (x.text.length ≤ maxLen) ∧ (x.dots.length ≤ maxLen ∧ ∀ y ∈ x.dots, GDot.wf y)
def GEvent.wf (x : GEvent) : Prop := (GDot.wf x.dot) ∧ (InK .u64 x.time) ∧ (GOp.wf x.op)
def GItem.wf (x : GItem) : Prop := (InK .u64 x.time) ∧ (GDot.wf x.dot) ∧ (x.text.length ≤ maxLen)
def GLeaf.wf (x : GLeaf) : Prop := (InK .u8 x.typ) ∧ (InK .i64 x.n) ∧ (InK .u64 x.time) ∧ (GDot.wf x.dot) ∧ (x.text.length ≤ maxLen) ∧ (x.items.length ≤ maxLen ∧ ∀ y ∈ x.items, GItem.wf y) ∧ (x.tombs.length ≤ maxLen ∧ ∀ y ∈ x.tombs, GDot.wf y)
mutual
def GNode.wf : GNode → Prop
  | ⟨name, leaves, subs⟩ => (name.length ≤ maxLen) ∧ (leaves.length ≤ maxLen ∧ ∀ y ∈ leaves, GLeaf.wf y) ∧ (GNode.wfs subs)
def GNode.wfs : List GNode → Prop
  | [] => True
  | x :: r => x.wf ∧ GNode.wfs r
end
theorem GNode.wfs_iff (l : List GNode) : GNode.wfs l ↔ ∀ y ∈ l, GNode.wf y := by
  induction l with
  | nil => simp [GNode.wfs]
  | cons x r ih => simp [GNode.wfs, ih]
def GRow.wf (x : GRow) : Prop := (x.path.length ≤ maxLen ∧ ∀ y ∈ x.path, y.length ≤ maxLen) ∧ (GLeaf.wf x.leaf)
def GVarveref07Row.wf (x : GVarveref07Row) : Prop := (x.path.length ≤ maxLen ∧ ∀ y ∈ x.path, y.length ≤ maxLen) ∧ (GLeaf.wf x.l)
def GQuota.wf (x : GQuota) : Prop := (x.name.length ≤ maxLen) ∧ (InK .i64 x.leaves) ∧ (InK .i64 x.items) ∧ (InK .i64 x.tombs) ∧ (InK .i64 x.bytes)
noncomputable def cmpOrInt (vals0 : (List Int)) : Option Int :=
  (lp (loopL (fun (n1 : Nat) (x1 : Int) (s1 : Unit) => ((if (x1 != (0 : Int)) = true then some (.ret x1) else some (.nxt ())) : Option (Out _ Unit))) vals0 0 ()) fun (s1 : Unit) => some (0 : Int))
noncomputable def ref42Great (l0 : (List GRule)) : Option Bool :=
  (lp (loopL (fun (n1 : Nat) (x1 : GRule) (s1 : Unit) => ((if (decide (((x1.path).length : Int) > (10 : Int))) = true then some (.ret true) else (lp (loopL (fun (n2 : Nat) (x2 : Str) (s2 : Unit) => ((if (decide (((x2).length : Int) > (40 : Int))) = true then some (.ret (.ret true)) else some (.nxt ())) : Option (Out _ Unit))) x1.path 0 ()) fun (s2 : Unit) => some (.nxt ()))) : Option (Out _ Unit))) l0 0 ()) fun (s1 : Unit) => some (decide (((l0).length : Int) > (70 : Int))))
noncomputable def law42Xgreat (l0 : (List GRule)) (o1 : GOp) : Option Bool :=
  ((ref42Great l0).bind fun v1 => some (((v1 || (decide (((o1.dots).length : Int) > (100 : Int)))) || (decide (((o1.path).length : Int) > (10 : Int)))) || (decide (((o1.text).length : Int) > (200 : Int)))))
noncomputable def slicesIndexFuncRule (s0 : (List GRule)) (f1 : (GRule → Option Bool)) : Option Int :=
  (lp (loopL (fun (n1 : Nat) (x1 : GRule) (s1 : Unit) => (((f1 x1).bind fun v7 => (if v7 = true then some (.ret (n1 : Int)) else some (.nxt ()))) : Option (Out _ Unit))) s0 0 ()) fun (s1 : Unit) => some (-1 : Int))
noncomputable def slicesContainsFuncRule (s0 : (List GRule)) (f1 : (GRule → Option Bool)) : Option Bool :=
  ((slicesIndexFuncRule s0 f1).bind fun v1 => some (decide (v1 ≥ (0 : Int))))
noncomputable def opIsNameC1 (r0 : Int) : Option Bool :=
  some ((((decide (r0 < (97 : Int))) || (decide (r0 > (122 : Int)))) && ((decide (r0 < (65 : Int))) || (decide (r0 > (90 : Int))))) && ((decide (r0 < (48 : Int))) || (decide (r0 > (57 : Int)))))
noncomputable def stringsXindexFunc (s0 : Str) (f1 : (Int → Option Bool)) (truth2 : Bool) : Option Int :=
  (lp (loopW (fun (s1 : Nat) => ((if s1 < (s0).length then ((f1 ((dec s0 s1).1 : Int)).bind fun v6 => (if (v6 == truth2) = true then some (.ret (s1 : Int)) else some (.nxt (s1 + (dec s0 s1).2)))) else some (.brk s1)) : Option (Out _ Nat))) 0) fun (s1 : Nat) => some (-1 : Int))
noncomputable def stringsIndexFunc (s0 : Str) (f1 : (Int → Option Bool)) : Option Int :=
  ((stringsXindexFunc s0 f1 true).bind fun v1 => some v1)
noncomputable def stringsContainsFunc (s0 : Str) (f1 : (Int → Option Bool)) : Option Bool :=
  ((stringsIndexFunc s0 f1).bind fun v1 => some (decide (v1 ≥ (0 : Int))))
noncomputable def opIsName (s0 : Str) : Option Bool :=
  ((if (((decide (((s0).length : Int) ≥ (1 : Int))) && (decide (((s0).length : Int) ≤ (12 : Int)))) == true) = true then stringsContainsFunc s0 (fun x0 => opIsNameC1 x0) else some default).bind fun v3 => some (((decide (((s0).length : Int) ≥ (1 : Int))) && (decide (((s0).length : Int) ≤ (12 : Int)))) && (!v3)))
noncomputable def pathsMayPatternC1 (s0 : Str) : Option Bool :=
  ((if ((!(s0 == ([42] : Str))) == true) = true then opIsName s0 else some default).bind fun v1 => some ((!(s0 == ([42] : Str))) && (!v1)))
noncomputable def slicesIndexFuncString (s0 : (List Str)) (f1 : (Str → Option Bool)) : Option Int :=
  (lp (loopL (fun (n1 : Nat) (x1 : Str) (s1 : Unit) => (((f1 x1).bind fun v7 => (if v7 = true then some (.ret (n1 : Int)) else some (.nxt ()))) : Option (Out _ Unit))) s0 0 ()) fun (s1 : Unit) => some (-1 : Int))
noncomputable def slicesContainsFuncString (s0 : (List Str)) (f1 : (Str → Option Bool)) : Option Bool :=
  ((slicesIndexFuncString s0 f1).bind fun v1 => some (decide (v1 ≥ (0 : Int))))
noncomputable def pathsXparts (p0 : (List Str)) : Option ((List Str) × Bool) :=
  (chk (((decide (((p0).length : Int) > (0 : Int))) == true) = true → 0 ≤ (IntKind.wrap .i64 (((p0).length : Int) - (1 : Int))) ∧ (IntKind.wrap .i64 (((p0).length : Int) - (1 : Int))) < ((p0).length : Int)) ((if ((decide (((p0).length : Int) > (0 : Int))) && (((p0).getD (IntKind.wrap .i64 (((p0).length : Int) - (1 : Int))).toNat default) == ([42, 42] : Str))) = true then ((slc p0 (0 : Int) (IntKind.wrap .i64 (((p0).length : Int) - (1 : Int)))).bind fun m4 => some (m4, true)) else some (p0, false))))
noncomputable def pathsMayPattern (p0 : (List Str)) : Option Bool :=
  ((pathsXparts p0).bind fun v1 => ((if ((((decide (((v1.1).length : Int) > (0 : Int))) || v1.2) && (decide (((v1.1).length : Int) ≤ (3 : Int)))) == true) = true then slicesContainsFuncString v1.1 (fun x0 => pathsMayPatternC1 x0) else some default).bind fun v4 => some ((((decide (((v1.1).length : Int) > (0 : Int))) || v1.2) && (decide (((v1.1).length : Int) ≤ (3 : Int)))) && (!v4))))
noncomputable def rightsXmayOne (x0 : GRule) : Option Bool :=
  ((if (((decide (x0.rep < (16 : Int))) || (x0.rep == (255 : Int))) == true) = true then pathsMayPattern x0.path else some default).bind fun v1 => some ((((decide (x0.rep < (16 : Int))) || (x0.rep == (255 : Int))) && v1) && ((IntKind.wrap .u8 (((BitVec.ofInt (IntKind.bits .u8) x0.kinds &&& ~~~(BitVec.ofInt (IntKind.bits .u8) (62 : Int))).toNat : Int))) == (0 : Int))))
noncomputable def rightsMayC1 (x0 : GRule) : Option Bool :=
  ((rightsXmayOne x0).bind fun v1 => some (!v1))
noncomputable def rightsMay (l0 : (List GRule)) : Option Bool :=
  ((if ((decide (((l0).length : Int) ≤ (64 : Int))) == true) = true then slicesContainsFuncRule l0 (fun x0 => rightsMayC1 x0) else some default).bind fun v2 => some ((decide (((l0).length : Int) ≤ (64 : Int))) && (!v2)))
noncomputable def opMayPathC1 (s0 : Str) : Option Bool :=
  ((opIsName s0).bind fun v1 => some (!v1))
noncomputable def opMayPath (p0 : (List Str)) : Option Bool :=
  ((if (((decide (((p0).length : Int) ≥ (1 : Int))) && (decide (((p0).length : Int) ≤ (3 : Int)))) == true) = true then slicesContainsFuncString p0 (fun x0 => opMayPathC1 x0) else some default).bind fun v3 => some (((decide (((p0).length : Int) ≥ (1 : Int))) && (decide (((p0).length : Int) ≤ (3 : Int)))) && (!v3)))
noncomputable def pathsMatch (p0 : (List Str)) (path1 : (List Str)) : Option Bool :=
  ((pathsXparts p0).bind fun v1 => ((pathsMayPattern p0).bind fun v2 => ((if ((!v2) == false) = true then opMayPath path1 else some default).bind fun v3 => (if ((((!v2) || (!v3)) || (decide (((path1).length : Int) < ((v1.1).length : Int)))) || ((decide (((path1).length : Int) > ((v1.1).length : Int))) && (!v1.2))) = true then some false else (lp (loopL (fun (n1 : Nat) (x1 : Str) (s1 : Unit) => ((chk (((!(x1 == ([42] : Str))) == true) = true → 0 ≤ (n1 : Int) ∧ (n1 : Int) < ((path1).length : Int)) ((if ((!(x1 == ([42] : Str))) && (!(x1 == ((path1).getD (n1 : Int).toNat default)))) = true then some (.ret false) else some (.nxt ())))) : Option (Out _ Unit))) v1.1 0 ()) fun (s1 : Unit) => some true)))))
noncomputable def rightsXlast (l0 : (List GRule)) (rep1 : Int) (path2 : (List Str)) (is3 : (GRule → Option Bool)) : Option Int :=
  (lp (loopW (fun (s1 : Int) => ((if (decide (s1 ≥ (0 : Int))) = true then ((idx l0 s1).bind fun y9 => ((if (((y9.rep == rep1) || (y9.rep == (255 : Int))) == true) = true then is3 y9 else some default).bind fun v10 => ((if ((((y9.rep == rep1) || (y9.rep == (255 : Int))) && v10) == true) = true then pathsMatch y9.path path2 else some default).bind fun v11 => (if ((((y9.rep == rep1) || (y9.rep == (255 : Int))) && v10) && v11) = true then some (.ret s1) else some (.nxt (IntKind.wrap .i64 (s1 - (1 : Int)))))))) else some (.brk s1)) : Option (Out _ Int))) (IntKind.wrap .i64 (((l0).length : Int) - (1 : Int)))) fun (s1 : Int) => some (-1 : Int))
noncomputable def rightsWhyC1 (x0 : GRule) (c0 : GOp) : Option Bool :=
  (chk (¬ c0.kind < 0) (some ((IntKind.wrap .u8 (((BitVec.ofInt (IntKind.bits .u8) (Int.fdiv x0.kinds (2 ^ (min c0.kind.toNat (IntKind.bits .u8)))) &&& BitVec.ofInt (IntKind.bits .u8) (1 : Int)).toNat : Int))) == (1 : Int))))
noncomputable def opXplain (o0 : GOp) : Option Bool :=
  some (((o0.n == (0 : Int)) && (decide (((o0.text).length : Int) ≤ (40 : Int)))) && (((o0.dots).length : Int) == (0 : Int)))
noncomputable def dotMayActor (a0 : GActor) : Option Bool :=
  some (((decide (a0.rep < (16 : Int))) && (decide (a0.inc ≥ (1 : Int)))) && (decide (a0.inc ≤ (4 : Int))))
noncomputable def dotMay (d0 : GDot) : Option Bool :=
  ((dotMayActor d0.actor).bind fun v1 => some ((v1 && (decide (d0.seq ≥ (1 : Int)))) && (decide (d0.seq ≤ (1048576 : Int)))))
noncomputable def cmpXisNaNUint8 (x0 : Int) : Option Bool :=
  some (x0 != x0)
noncomputable def cmpCompareUint8 (x0 : Int) (y1 : Int) : Option Int :=
  ((cmpXisNaNUint8 x0).bind fun v1 => ((cmpXisNaNUint8 y1).bind fun v2 => (if v1 = true then (if v2 = true then some (0 : Int) else some (-1 : Int)) else (if v2 = true then some (1 : Int) else (if (decide (x0 < y1)) = true then some (-1 : Int) else (if (decide (x0 > y1)) = true then some (1 : Int) else some (0 : Int)))))))
noncomputable def cmpXisNaNUint32 (x0 : Int) : Option Bool :=
  some (x0 != x0)
noncomputable def cmpCompareUint32 (x0 : Int) (y1 : Int) : Option Int :=
  ((cmpXisNaNUint32 x0).bind fun v1 => ((cmpXisNaNUint32 y1).bind fun v2 => (if v1 = true then (if v2 = true then some (0 : Int) else some (-1 : Int)) else (if v2 = true then some (1 : Int) else (if (decide (x0 < y1)) = true then some (-1 : Int) else (if (decide (x0 > y1)) = true then some (1 : Int) else some (0 : Int)))))))
noncomputable def dotXcompare (a0 : GActor) (b1 : GActor) : Option Int :=
  ((cmpCompareUint8 a0.rep b1.rep).bind fun v1 => ((cmpCompareUint32 a0.inc b1.inc).bind fun v2 => ((cmpOrInt ([v1, v2] : List Int)).bind fun v3 => some v3)))
noncomputable def cmpXisNaNUint64 (x0 : Int) : Option Bool :=
  some (x0 != x0)
noncomputable def cmpCompareUint64 (x0 : Int) (y1 : Int) : Option Int :=
  ((cmpXisNaNUint64 x0).bind fun v1 => ((cmpXisNaNUint64 y1).bind fun v2 => (if v1 = true then (if v2 = true then some (0 : Int) else some (-1 : Int)) else (if v2 = true then some (1 : Int) else (if (decide (x0 < y1)) = true then some (-1 : Int) else (if (decide (x0 > y1)) = true then some (1 : Int) else some (0 : Int)))))))
noncomputable def dotCompare (a0 : GDot) (b1 : GDot) : Option Int :=
  ((dotXcompare a0.actor b1.actor).bind fun v1 => ((cmpCompareUint64 a0.seq b1.seq).bind fun v2 => ((cmpOrInt ([v1, v2] : List Int)).bind fun v3 => some v3)))
noncomputable def opXdrops (o0 : GOp) : Option Bool :=
  (if (((o0.n != (0 : Int)) || (decide (((o0.text).length : Int) > (40 : Int)))) || (decide (((o0.dots).length : Int) > (64 : Int)))) = true then some false else (lp (loopL (fun (n1 : Nat) (x1 : GDot) (s1 : Unit) => (((dotMay x1).bind fun v17 => (chk ((((!v17) == false) && ((decide ((n1 : Int) > (0 : Int))) == true)) = true → 0 ≤ (IntKind.wrap .i64 ((n1 : Int) - (1 : Int))) ∧ (IntKind.wrap .i64 ((n1 : Int) - (1 : Int))) < ((o0.dots).length : Int)) (((if (((!v17) == false) && ((decide ((n1 : Int) > (0 : Int))) == true)) = true then dotCompare ((o0.dots).getD (IntKind.wrap .i64 ((n1 : Int) - (1 : Int))).toNat default) x1 else some default).bind fun v19 => (if ((!v17) || ((decide ((n1 : Int) > (0 : Int))) && (decide (v19 ≥ (0 : Int))))) = true then some (.ret false) else some (.nxt ())))))) : Option (Out _ Unit))) o0.dots 0 ()) fun (s1 : Unit) => some true))
noncomputable def opXadds (o0 : GOp) : Option Bool :=
  some ((((decide (o0.n ≥ (-1000000 : Int))) && (decide (o0.n ≤ (1000000 : Int)))) && (o0.text == ([] : Str))) && (((o0.dots).length : Int) == (0 : Int)))
noncomputable def opXof (k0 : Int) : Option (GOpKind × Bool) :=
  (if ((decide (k0 < (1 : Int))) || (decide (k0 > (5 : Int)))) = true then some ((GOpKind.mk (0 : Int) 0), false) else ((idx ([(GOpKind.mk (0 : Int) 0), (GOpKind.mk (1 : Int) 1), (GOpKind.mk (2 : Int) 2), (GOpKind.mk (3 : Int) 2), (GOpKind.mk (3 : Int) 3), (GOpKind.mk (4 : Int) 2)] : List GOpKind) k0).bind fun y2 => some (y2, true)))
noncomputable def callOp (c : Nat) (x0 : GOp) : Option Bool := match c with
  | 1 => opXadds x0
  | 2 => opXplain x0
  | 3 => opXdrops x0
  | _ => none
noncomputable def opMay (o0 : GOp) : Option Bool :=
  ((opXof o0.kind).bind fun v1 => ((if (v1.2 == true) = true then opMayPath o0.path else some default).bind fun v2 => ((if ((v1.2 && v2) == true) = true then callOp v1.1.may o0 else some default).bind fun v3 => some ((v1.2 && v2) && v3))))
noncomputable def rightsWhy (l0 : (List GRule)) (rep1 : Int) (o2 : GOp) : Option Int :=
  ((rightsMay l0).bind fun v1 => ((if ((!v1) == false) = true then opMay o2 else some default).bind fun v2 => (if ((!v1) || (!v2)) = true then some (-1 : Int) else ((rightsXlast l0 rep1 o2.path (fun x0 => rightsWhyC1 x0 o2)).bind fun v4 => some v4))))
noncomputable def rightsAllows (l0 : (List GRule)) (rep1 : Int) (o2 : GOp) : Option Bool :=
  ((rightsWhy l0 rep1 o2).bind fun v1 => (chk (((decide (v1 ≥ (0 : Int))) == true) = true → 0 ≤ v1 ∧ v1 < ((l0).length : Int)) (some ((decide (v1 ≥ (0 : Int))) && ((l0).getD v1.toNat default).allow))))
noncomputable def law42Xknown  : Option Bool :=
  ((rightsMay ([(GRule.mk (255 : Int) ([([42, 42] : Str)] : List Str) (62 : Int) true false), (GRule.mk (1 : Int) ([([97] : Str), ([42, 42] : Str)] : List Str) (62 : Int) false false)] : List GRule)).bind fun v1 => ((if (v1 == true) = true then rightsAllows ([(GRule.mk (255 : Int) ([([42, 42] : Str)] : List Str) (62 : Int) true false), (GRule.mk (1 : Int) ([([97] : Str), ([42, 42] : Str)] : List Str) (62 : Int) false false)] : List GRule) (1 : Int) (GOp.mk (1 : Int) ([([97] : Str), ([98] : Str)] : List Str) (0 : Int) ([] : Str) ([] : List GDot)) else some default).bind fun v2 => ((if ((v1 && (!v2)) == true) = true then rightsAllows ([(GRule.mk (255 : Int) ([([42, 42] : Str)] : List Str) (62 : Int) true false), (GRule.mk (1 : Int) ([([97] : Str), ([42, 42] : Str)] : List Str) (62 : Int) false false)] : List GRule) (2 : Int) (GOp.mk (1 : Int) ([([97] : Str), ([98] : Str)] : List Str) (0 : Int) ([] : Str) ([] : List GDot)) else some default).bind fun v3 => ((if (((v1 && (!v2)) && v3) == true) = true then rightsWhy ([(GRule.mk (255 : Int) ([([42, 42] : Str)] : List Str) (62 : Int) true false), (GRule.mk (1 : Int) ([([97] : Str), ([42, 42] : Str)] : List Str) (62 : Int) false false)] : List GRule) (1 : Int) (GOp.mk (1 : Int) ([([97] : Str), ([98] : Str)] : List Str) (0 : Int) ([] : Str) ([] : List GDot)) else some default).bind fun v4 => some (((v1 && (!v2)) && v3) && (v4 == (1 : Int)))))))
noncomputable def rightsXparts (p0 : (List Str)) : Option ((List Str) × Bool) :=
  ((idx p0 (IntKind.wrap .i64 (((p0).length : Int) - (1 : Int)))).bind fun y2 => (if (y2 == ([42, 42] : Str)) = true then ((slc p0 (0 : Int) (IntKind.wrap .i64 (((p0).length : Int) - (1 : Int)))).bind fun m4 => some (m4, true)) else some (p0, false)))
noncomputable def rightsXwider (p0 : (List Str)) (q1 : (List Str)) : Option Bool :=
  ((rightsXparts p0).bind fun v1 => ((rightsXparts q1).bind fun v2 => (if ((decide (((v1.1).length : Int) > ((v2.1).length : Int))) || ((!v1.2) && (v2.2 || (decide (((v1.1).length : Int) < ((v2.1).length : Int)))))) = true then some false else (lp (loopL (fun (n1 : Nat) (x1 : Str) (s1 : Unit) => ((chk (((!(x1 == ([42] : Str))) == true) = true → 0 ≤ (n1 : Int) ∧ (n1 : Int) < ((v2.1).length : Int)) ((if ((!(x1 == ([42] : Str))) && (!(x1 == ((v2.1).getD (n1 : Int).toNat default)))) = true then some (.ret false) else some (.nxt ())))) : Option (Out _ Unit))) v1.1 0 ()) fun (s1 : Unit) => some true))))
noncomputable def rightsIdleC1 (y0 : GRule) (c0 : GRule) : Option Bool :=
  ((if (((((y0.rep == (255 : Int)) || (y0.rep == c0.rep)) && ((IntKind.wrap .u8 (((BitVec.ofInt (IntKind.bits .u8) c0.kinds &&& ~~~(BitVec.ofInt (IntKind.bits .u8) y0.kinds)).toNat : Int))) == (0 : Int))) && (y0.read || (!c0.read))) == true) = true then rightsXwider y0.path c0.path else some default).bind fun v1 => some (((((y0.rep == (255 : Int)) || (y0.rep == c0.rep)) && ((IntKind.wrap .u8 (((BitVec.ofInt (IntKind.bits .u8) c0.kinds &&& ~~~(BitVec.ofInt (IntKind.bits .u8) y0.kinds)).toNat : Int))) == (0 : Int))) && (y0.read || (!c0.read))) && v1))
noncomputable def rightsIdle (l0 : (List GRule)) : Option (List Int) :=
  ((rightsMay l0).bind fun v1 => (if (!v1) = true then some ([] : List Int) else (lp (loopL (fun (n1 : Nat) (x1 : GRule) (s1 : (List Int)) => (((slc l0 (IntKind.wrap .i64 ((n1 : Int) + (1 : Int))) ((l0).length : Int)).bind fun m12 => ((slicesContainsFuncRule m12 (fun x0 => rightsIdleC1 x0 x1)).bind fun v13 => (if v13 = true then (chk ((s1).length + (([(n1 : Int)] : List Int)).length ≤ lim) (some (.nxt (s1 ++ ([(n1 : Int)] : List Int))))) else some (.nxt s1)))) : Option (Out _ (List Int)))) l0 0 ([] : List Int)) fun (s1 : (List Int)) => some s1)))
noncomputable def slicesIndexInt (s0 : (List Int)) (v1 : Int) : Option Int :=
  (lp (loopL (fun (n1 : Nat) (x1 : Int) (s1 : Unit) => ((if (v1 == x1) = true then some (.ret (n1 : Int)) else some (.nxt ())) : Option (Out _ Unit))) s0 0 ()) fun (s1 : Unit) => some (-1 : Int))
noncomputable def slicesContainsInt (s0 : (List Int)) (v1 : Int) : Option Bool :=
  ((slicesIndexInt s0 v1).bind fun v1 => some (decide (v1 ≥ (0 : Int))))
noncomputable def rightsShowsC1 (x0 : GRule) : Option Bool :=
  some x0.read
noncomputable def rightsShows (l0 : (List GRule)) (rep1 : Int) (path2 : (List Str)) : Option Bool :=
  ((rightsMay l0).bind fun v1 => (if (!v1) = true then some false else ((rightsXlast l0 rep1 path2 (fun x0 => rightsShowsC1 x0)).bind fun v3 => (chk (((decide (v3 ≥ (0 : Int))) == true) = true → 0 ≤ v3 ∧ v3 < ((l0).length : Int)) (some ((decide (v3 ≥ (0 : Int))) && ((l0).getD v3.toNat default).allow))))))
noncomputable def law42RightsIdle (l0 : (List GRule)) (rep1 : Int) (o2 : GOp) (path3 : (List Str)) : Option Bool :=
  ((law42Xgreat l0 o2).bind fun v1 => ((if ((v1 || (decide (((path3).length : Int) > (10 : Int)))) == false) = true then rightsMay l0 else some default).bind fun v3 => (if ((v1 || (decide (((path3).length : Int) > (10 : Int)))) || (!v3)) = true then ((law42Xknown).bind fun v5 => some v5) else ((rightsIdle l0).bind fun v6 => (lp (loopL (fun (n1 : Nat) (x1 : GRule) (s1 : (List GRule)) => (((slicesContainsInt v6 (n1 : Int)).bind fun v20 => (if (!v20) = true then (chk ((s1).length + (([x1] : List GRule)).length ≤ lim) (some (.nxt (s1 ++ ([x1] : List GRule))))) else some (.nxt s1))) : Option (Out _ (List GRule)))) l0 0 ([] : List GRule)) fun (s1 : (List GRule)) => ((if (((IntKind.wrap .i64 (((s1).length : Int) + ((v6).length : Int))) == ((l0).length : Int)) == true) = true then rightsAllows s1 rep1 o2 else some default).bind fun v26 => ((if (((IntKind.wrap .i64 (((s1).length : Int) + ((v6).length : Int))) == ((l0).length : Int)) == true) = true then rightsAllows l0 rep1 o2 else some default).bind fun v27 => ((if ((((IntKind.wrap .i64 (((s1).length : Int) + ((v6).length : Int))) == ((l0).length : Int)) && (v26 == v27)) == true) = true then rightsShows s1 rep1 path3 else some default).bind fun v28 => ((if ((((IntKind.wrap .i64 (((s1).length : Int) + ((v6).length : Int))) == ((l0).length : Int)) && (v26 == v27)) == true) = true then rightsShows l0 rep1 path3 else some default).bind fun v29 => ((if (((((IntKind.wrap .i64 (((s1).length : Int) + ((v6).length : Int))) == ((l0).length : Int)) && (v26 == v27)) && (v28 == v29)) == true) = true then law42Xknown else some default).bind fun v30 => some (((((IntKind.wrap .i64 (((s1).length : Int) + ((v6).length : Int))) == ((l0).length : Int)) && (v26 == v27)) && (v28 == v29)) && v30)))))))))))
noncomputable def law04Xgreat (o0 : GOp) : Option Bool :=
  (lp (loopL (fun (n1 : Nat) (x1 : Str) (s1 : Unit) => ((if (decide (((x1).length : Int) > (100 : Int))) = true then some (.ret true) else some (.nxt ())) : Option (Out _ Unit))) o0.path 0 ()) fun (s1 : Unit) => some (((decide (((o0.path).length : Int) > (20 : Int))) || (decide (((o0.text).length : Int) > (200 : Int)))) || (decide (((o0.dots).length : Int) > (100 : Int)))))
noncomputable def law04Xknown  : Option Bool :=
  ((opMay (GOp.mk (1 : Int) ([([97] : Str)] : List Str) (5 : Int) ([] : Str) ([] : List GDot))).bind fun v1 => ((if (v1 == true) = true then opMay (GOp.mk (1 : Int) ([([97] : Str)] : List Str) (5 : Int) ([120] : Str) ([] : List GDot)) else some default).bind fun v2 => ((if ((v1 && (!v2)) == true) = true then opMay (GOp.mk (4 : Int) ([([97] : Str), ([98] : Str)] : List Str) (0 : Int) ([120] : Str) ([(GDot.mk (GActor.mk (0 : Int) (1 : Int)) (2 : Int)), (GDot.mk (GActor.mk (0 : Int) (1 : Int)) (1 : Int))] : List GDot)) else some default).bind fun v3 => some ((v1 && (!v2)) && (!v3)))))
noncomputable def ref04IsName (s0 : Str) : Option Bool :=
  (if ((decide (((s0).length : Int) < (1 : Int))) || (decide (((s0).length : Int) > (12 : Int)))) = true then some false else (lp (loopL (fun (n1 : Nat) (x1 : UInt8) (s1 : Unit) => ((if (!((((decide ((x1.toNat : Int) ≥ (97 : Int))) && (decide ((x1.toNat : Int) ≤ (122 : Int)))) || ((decide ((x1.toNat : Int) ≥ (65 : Int))) && (decide ((x1.toNat : Int) ≤ (90 : Int))))) || ((decide ((x1.toNat : Int) ≥ (48 : Int))) && (decide ((x1.toNat : Int) ≤ (57 : Int)))))) = true then some (.ret false) else some (.nxt ())) : Option (Out _ Unit))) s0 0 ()) fun (s1 : Unit) => some true))
noncomputable def ref04MayPath (p0 : (List Str)) : Option Bool :=
  (lp (loopL (fun (n1 : Nat) (x1 : Str) (s1 : Unit) => (((ref04IsName x1).bind fun v9 => (if (!v9) = true then some (.ret false) else some (.nxt ()))) : Option (Out _ Unit))) p0 0 ()) fun (s1 : Unit) => some ((decide (((p0).length : Int) ≥ (1 : Int))) && (decide (((p0).length : Int) ≤ (3 : Int)))))
noncomputable def ref03Less (a0 : GDot) (b1 : GDot) : Option Bool :=
  (if (a0.actor.rep != b1.actor.rep) = true then some (decide (a0.actor.rep < b1.actor.rep)) else (if (a0.actor.inc != b1.actor.inc) = true then some (decide (a0.actor.inc < b1.actor.inc)) else some (decide (a0.seq < b1.seq))))
noncomputable def ref04Type (kind0 : Int) : Option Int :=
  (if (kind0 == (1 : Int)) = true then some (1 : Int) else (if (kind0 == (2 : Int)) = true then some (2 : Int) else (if (kind0 == (3 : Int)) = true then (if (kind0 == (3 : Int)) = true then some (3 : Int) else (if (kind0 == (5 : Int)) = true then some (4 : Int) else some (0 : Int))) else (if (kind0 == (4 : Int)) = true then some (3 : Int) else (if (kind0 == (5 : Int)) = true then some (4 : Int) else some (0 : Int))))))
noncomputable def ref03MayActor (a0 : GActor) : Option Bool :=
  some (((decide (a0.rep ≤ (15 : Int))) && (decide (a0.inc ≥ (1 : Int)))) && (decide (a0.inc ≤ (4 : Int))))
noncomputable def ref03May (d0 : GDot) : Option Bool :=
  ((ref03MayActor d0.actor).bind fun v1 => some ((v1 && (decide (d0.seq ≥ (1 : Int)))) && (decide (d0.seq ≤ (1048576 : Int)))))
noncomputable def ref04May (o0 : GOp) : Option Bool :=
  ((ref04Type o0.kind).bind fun v1 => ((if ((v1 == (0 : Int)) == false) = true then ref04MayPath o0.path else some default).bind fun v2 => (if ((((v1 == (0 : Int)) || (!v2)) || (decide (((o0.text).length : Int) > (40 : Int)))) || (decide (((o0.dots).length : Int) > (64 : Int)))) = true then some false else (if (o0.kind == (1 : Int)) = true then some ((((decide (o0.n ≥ (-1000000 : Int))) && (decide (o0.n ≤ (1000000 : Int)))) && (o0.text == ([] : Str))) && (((o0.dots).length : Int) == (0 : Int))) else (if ((o0.n != (0 : Int)) || ((o0.kind != (4 : Int)) && (decide (((o0.dots).length : Int) > (0 : Int))))) = true then some false else (lp (loopL (fun (n1 : Nat) (x1 : GDot) (s1 : Unit) => (((ref03May x1).bind fun v26 => (chk ((((!v26) == false) && ((decide ((n1 : Int) > (0 : Int))) == true)) = true → 0 ≤ (IntKind.wrap .i64 ((n1 : Int) - (1 : Int))) ∧ (IntKind.wrap .i64 ((n1 : Int) - (1 : Int))) < ((o0.dots).length : Int)) ((chk ((((!v26) == false) && ((decide ((n1 : Int) > (0 : Int))) == true)) = true → 0 ≤ (n1 : Int) ∧ (n1 : Int) < ((o0.dots).length : Int)) (((if (((!v26) == false) && ((decide ((n1 : Int) > (0 : Int))) == true)) = true then ref03Less ((o0.dots).getD (IntKind.wrap .i64 ((n1 : Int) - (1 : Int))).toNat default) ((o0.dots).getD (n1 : Int).toNat default) else some default).bind fun v29 => (if ((!v26) || ((decide ((n1 : Int) > (0 : Int))) && (!v29))) = true then some (.ret false) else some (.nxt ())))))))) : Option (Out _ Unit))) o0.dots 0 ()) fun (s1 : Unit) => some true))))))
noncomputable def opMayEvent (e0 : GEvent) : Option Bool :=
  ((dotMay e0.dot).bind fun v1 => ((if (((v1 && (decide (e0.time ≥ (1 : Int)))) && (decide (e0.time ≤ (1099511627776 : Int)))) == true) = true then opMay e0.op else some default).bind fun v2 => some (((v1 && (decide (e0.time ≥ (1 : Int)))) && (decide (e0.time ≤ (1099511627776 : Int)))) && v2)))
noncomputable def ref04MayEvent (e0 : GEvent) : Option Bool :=
  ((ref03May e0.dot).bind fun v1 => ((if (((v1 && (decide (e0.time ≥ (1 : Int)))) && (decide (e0.time ≤ (1099511627776 : Int)))) == true) = true then ref04May e0.op else some default).bind fun v2 => some (((v1 && (decide (e0.time ≥ (1 : Int)))) && (decide (e0.time ≤ (1099511627776 : Int)))) && v2)))
noncomputable def opType (k0 : Int) : Option Int :=
  ((opXof k0).bind fun v1 => some v1.1.leaf)
noncomputable def slicesEqualString (s10 : (List Str)) (s21 : (List Str)) : Option Bool :=
  (if (((s10).length : Int) != ((s21).length : Int)) = true then some false else (lp (loopL (fun (n1 : Nat) (x1 : Str) (s1 : Unit) => (((idx s21 (n1 : Int)).bind fun y10 => (if (!(x1 == y10)) = true then some (.ret false) else some (.nxt ()))) : Option (Out _ Unit))) s10 0 ()) fun (s1 : Unit) => some true))
noncomputable def slicesEqualDot (s10 : (List GDot)) (s21 : (List GDot)) : Option Bool :=
  (if (((s10).length : Int) != ((s21).length : Int)) = true then some false else (lp (loopL (fun (n1 : Nat) (x1 : GDot) (s1 : Unit) => (((idx s21 (n1 : Int)).bind fun y10 => (if (!(x1.actor.rep == y10.actor.rep && (x1.actor.inc == y10.actor.inc && (x1.seq == y10.seq && true)))) = true then some (.ret false) else some (.nxt ()))) : Option (Out _ Unit))) s10 0 ()) fun (s1 : Unit) => some true))
noncomputable def opSame (a0 : GOp) (b1 : GOp) : Option Bool :=
  ((if ((a0.kind == b1.kind) == true) = true then slicesEqualString a0.path b1.path else some default).bind fun v1 => ((if (((((a0.kind == b1.kind) && v1) && (a0.n == b1.n)) && (a0.text == b1.text)) == true) = true then slicesEqualDot a0.dots b1.dots else some default).bind fun v2 => some (((((a0.kind == b1.kind) && v1) && (a0.n == b1.n)) && (a0.text == b1.text)) && v2)))
noncomputable def ref04Same (a0 : GOp) (b1 : GOp) : Option Bool :=
  (if (((((a0.kind != b1.kind) || (a0.n != b1.n)) || (!(a0.text == b1.text))) || (((a0.path).length : Int) != ((b1.path).length : Int))) || (((a0.dots).length : Int) != ((b1.dots).length : Int))) = true then some false else (lp (loopL (fun (n1 : Nat) (x1 : Str) (s1 : Unit) => (((idx b1.path (n1 : Int)).bind fun y24 => (if (!(x1 == y24)) = true then some (.ret false) else some (.nxt ()))) : Option (Out _ Unit))) a0.path 0 ()) fun (s1 : Unit) => (lp (loopL (fun (n2 : Nat) (x2 : GDot) (s2 : Unit) => (((idx b1.dots (n2 : Int)).bind fun y44 => (if (!(x2.actor.rep == y44.actor.rep && (x2.actor.inc == y44.actor.inc && (x2.seq == y44.seq && true)))) = true then some (.ret false) else some (.nxt ()))) : Option (Out _ Unit))) a0.dots 0 ()) fun (s2 : Unit) => some true)))
noncomputable def law04OpMay (a0 : GEvent) (b1 : GOp) (s2 : Str) : Option Bool :=
  ((law04Xgreat a0.op).bind fun v1 => ((if (v1 == false) = true then law04Xgreat b1 else some default).bind fun v2 => (if ((v1 || v2) || (decide (((s2).length : Int) > (100 : Int)))) = true then ((law04Xknown).bind fun v5 => some v5) else ((opIsName s2).bind fun v6 => ((ref04IsName s2).bind fun v7 => ((if ((v6 == v7) == true) = true then opMayPath a0.op.path else some default).bind fun v8 => ((if ((v6 == v7) == true) = true then ref04MayPath a0.op.path else some default).bind fun v9 => ((if (((v6 == v7) && (v8 == v9)) == true) = true then opMay a0.op else some default).bind fun v10 => ((if (((v6 == v7) && (v8 == v9)) == true) = true then ref04May a0.op else some default).bind fun v11 => ((if ((((v6 == v7) && (v8 == v9)) && (v10 == v11)) == true) = true then opMayEvent a0 else some default).bind fun v12 => ((if ((((v6 == v7) && (v8 == v9)) && (v10 == v11)) == true) = true then ref04MayEvent a0 else some default).bind fun v13 => ((if (((((v6 == v7) && (v8 == v9)) && (v10 == v11)) && (v12 == v13)) == true) = true then opType b1.kind else some default).bind fun v14 => ((if (((((v6 == v7) && (v8 == v9)) && (v10 == v11)) && (v12 == v13)) == true) = true then ref04Type b1.kind else some default).bind fun v15 => ((if ((((((v6 == v7) && (v8 == v9)) && (v10 == v11)) && (v12 == v13)) && (v14 == v15)) == true) = true then opSame a0.op b1 else some default).bind fun v16 => ((if ((((((v6 == v7) && (v8 == v9)) && (v10 == v11)) && (v12 == v13)) && (v14 == v15)) == true) = true then ref04Same a0.op b1 else some default).bind fun v17 => ((if (((((((v6 == v7) && (v8 == v9)) && (v10 == v11)) && (v12 == v13)) && (v14 == v15)) && (v16 == v17)) == true) = true then opSame b1 b1 else some default).bind fun v18 => ((if ((((((((v6 == v7) && (v8 == v9)) && (v10 == v11)) && (v12 == v13)) && (v14 == v15)) && (v16 == v17)) && v18) == true) = true then law04Xknown else some default).bind fun v19 => some ((((((((v6 == v7) && (v8 == v9)) && (v10 == v11)) && (v12 == v13)) && (v14 == v15)) && (v16 == v17)) && v18) && v19))))))))))))))))))
noncomputable def ref05Item (l0 : (List GItem)) (d1 : GDot) : Option Int :=
  (lp (loopL (fun (n1 : Nat) (x1 : GItem) (s1 : Unit) => ((if (x1.dot.actor.rep == d1.actor.rep && (x1.dot.actor.inc == d1.actor.inc && (x1.dot.seq == d1.seq && true))) = true then some (.ret (n1 : Int)) else some (.nxt ())) : Option (Out _ Unit))) l0 0 ()) fun (s1 : Unit) => some (-1 : Int))
noncomputable def ref05Tomb (l0 : (List GDot)) (d1 : GDot) : Option Bool :=
  (lp (loopL (fun (n1 : Nat) (x1 : GDot) (s1 : Unit) => ((if (x1.actor.rep == d1.actor.rep && (x1.actor.inc == d1.actor.inc && (x1.seq == d1.seq && true))) = true then some (.ret true) else some (.nxt ())) : Option (Out _ Unit))) l0 0 ()) fun (s1 : Unit) => some false)
noncomputable def ref05Ahead (time0 : Int) (d1 : GDot) (other2 : Int) (o3 : GDot) : Option Bool :=
  (if (time0 != other2) = true then some (decide (time0 < other2)) else ((ref03Less d1 o3).bind fun v2 => some v2))
noncomputable def ref05May (l0 : GLeaf) : Option Bool :=
  (if (((((decide (l0.typ < (1 : Int))) || (decide (l0.typ > (4 : Int)))) || ((l0.typ != (1 : Int)) && (l0.n != (0 : Int)))) || ((decide (l0.typ < (3 : Int))) && (decide (((l0.items).length : Int) > (0 : Int))))) || ((l0.typ != (3 : Int)) && (decide (((l0.tombs).length : Int) > (0 : Int))))) = true then some false else (lp ((if ((l0.typ != (2 : Int)) || (l0.time == (0 : Int))) = true then (if (((l0.time != (0 : Int)) || (!(l0.dot.actor.rep == (0 : Int) && (l0.dot.actor.inc == (0 : Int) && (l0.dot.seq == (0 : Int) && true))))) || (!(l0.text == ([] : Str)))) = true then some (.inl false) else some (.inr ())) else ((if ((decide (l0.time > (1099511627776 : Int))) == false) = true then ref03May l0.dot else some default).bind fun v11 => (if (((decide (l0.time > (1099511627776 : Int))) || (!v11)) || (decide (((l0.text).length : Int) > (40 : Int)))) = true then some (.inl false) else some (.inr ())))) : Option (_ ⊕ Unit)) fun (s1 : Unit) => (lp (loopL (fun (n2 : Nat) (x2 : GItem) (s2 : Unit) => (((ref03May x2.dot).bind fun v41 => ((if (((((!v41) || (decide (((x2.text).length : Int) > (40 : Int)))) || ((l0.typ == (3 : Int)) && (x2.time != (0 : Int)))) || ((l0.typ == (4 : Int)) && ((decide (x2.time < (1 : Int))) || (decide (x2.time > (1099511627776 : Int)))))) == false) = true then ref05Item l0.items x2.dot else some default).bind fun v43 => ((if ((((((!v41) || (decide (((x2.text).length : Int) > (40 : Int)))) || ((l0.typ == (3 : Int)) && (x2.time != (0 : Int)))) || ((l0.typ == (4 : Int)) && ((decide (x2.time < (1 : Int))) || (decide (x2.time > (1099511627776 : Int)))))) || (v43 != (n2 : Int))) == false) = true then ref05Tomb l0.tombs x2.dot else some default).bind fun v44 => (if ((((((!v41) || (decide (((x2.text).length : Int) > (40 : Int)))) || ((l0.typ == (3 : Int)) && (x2.time != (0 : Int)))) || ((l0.typ == (4 : Int)) && ((decide (x2.time < (1 : Int))) || (decide (x2.time > (1099511627776 : Int)))))) || (v43 != (n2 : Int))) || v44) = true then some (.ret false) else (chk (((decide ((n2 : Int) > (0 : Int))) == true) = true → 0 ≤ (IntKind.wrap .i64 ((n2 : Int) - (1 : Int))) ∧ (IntKind.wrap .i64 ((n2 : Int) - (1 : Int))) < ((l0.items).length : Int)) ((chk (((decide ((n2 : Int) > (0 : Int))) == true) = true → 0 ≤ (IntKind.wrap .i64 ((n2 : Int) - (1 : Int))) ∧ (IntKind.wrap .i64 ((n2 : Int) - (1 : Int))) < ((l0.items).length : Int)) (((if ((decide ((n2 : Int) > (0 : Int))) == true) = true then ref05Ahead (((l0.items).getD (IntKind.wrap .i64 ((n2 : Int) - (1 : Int))).toNat default).time) (((l0.items).getD (IntKind.wrap .i64 ((n2 : Int) - (1 : Int))).toNat default).dot) x2.time x2.dot else some default).bind fun v48 => (if ((decide ((n2 : Int) > (0 : Int))) && (!v48)) = true then some (.ret false) else some (.nxt ()))))))))))) : Option (Out _ Unit))) l0.items 0 ()) fun (s2 : Unit) => (lp (loopL (fun (n3 : Nat) (x3 : GDot) (s3 : Unit) => (((ref03May x3).bind fun v73 => (chk ((((!v73) == false) && ((decide ((n3 : Int) > (0 : Int))) == true)) = true → 0 ≤ (IntKind.wrap .i64 ((n3 : Int) - (1 : Int))) ∧ (IntKind.wrap .i64 ((n3 : Int) - (1 : Int))) < ((l0.tombs).length : Int)) ((chk ((((!v73) == false) && ((decide ((n3 : Int) > (0 : Int))) == true)) = true → 0 ≤ (n3 : Int) ∧ (n3 : Int) < ((l0.tombs).length : Int)) (((if (((!v73) == false) && ((decide ((n3 : Int) > (0 : Int))) == true)) = true then ref03Less ((l0.tombs).getD (IntKind.wrap .i64 ((n3 : Int) - (1 : Int))).toNat default) ((l0.tombs).getD (n3 : Int).toNat default) else some default).bind fun v76 => (if ((!v73) || ((decide ((n3 : Int) > (0 : Int))) && (!v76))) = true then some (.ret false) else some (.nxt ())))))))) : Option (Out _ Unit))) l0.tombs 0 ()) fun (s3 : Unit) => some true))))
noncomputable def ref07XmayN : Nat → (List GNode) → Int → Option Bool
  | 0, _, _ => none
  | n + 1, t0, deep1 => (lp (loopL (fun (n1 : Nat) (x1 : GNode) (s1 : Unit) => (((if ((decide (deep1 ≥ (3 : Int))) == false) = true then ref04IsName x1.name else some default).bind fun v31 => (chk (((((decide (deep1 ≥ (3 : Int))) || (!v31)) == false) && ((decide ((n1 : Int) > (0 : Int))) == true)) = true → 0 ≤ (IntKind.wrap .i64 ((n1 : Int) - (1 : Int))) ∧ (IntKind.wrap .i64 ((n1 : Int) - (1 : Int))) < ((t0).length : Int)) (((if (((((decide (deep1 ≥ (3 : Int))) || (!v31)) || ((decide ((n1 : Int) > (0 : Int))) && (!(Op.bytesLess (((t0).getD (IntKind.wrap .i64 ((n1 : Int) - (1 : Int))).toNat default).name) x1.name)))) || ((((x1.leaves).length : Int) == (0 : Int)) && (((x1.subs).length : Int) == (0 : Int)))) == false) = true then ref07XmayN n x1.subs (IntKind.wrap .i64 (deep1 + (1 : Int))) else some default).bind fun v35 => (if (((((decide (deep1 ≥ (3 : Int))) || (!v31)) || ((decide ((n1 : Int) > (0 : Int))) && (!(Op.bytesLess (((t0).getD (IntKind.wrap .i64 ((n1 : Int) - (1 : Int))).toNat default).name) x1.name)))) || ((((x1.leaves).length : Int) == (0 : Int)) && (((x1.subs).length : Int) == (0 : Int)))) || (!v35)) = true then some (.ret false) else (lp (loopL (fun (n2 : Nat) (x2 : GLeaf) (s2 : Unit) => (((ref05May x2).bind fun v50 => (chk ((((!v50) == false) && ((decide ((n2 : Int) > (0 : Int))) == true)) = true → 0 ≤ (IntKind.wrap .i64 ((n2 : Int) - (1 : Int))) ∧ (IntKind.wrap .i64 ((n2 : Int) - (1 : Int))) < ((x1.leaves).length : Int)) ((chk ((((!v50) == false) && ((decide ((n2 : Int) > (0 : Int))) == true)) = true → 0 ≤ (n2 : Int) ∧ (n2 : Int) < ((x1.leaves).length : Int)) ((if ((!v50) || ((decide ((n2 : Int) > (0 : Int))) && (decide (((x1.leaves).getD (IntKind.wrap .i64 ((n2 : Int) - (1 : Int))).toNat default).typ ≥ ((x1.leaves).getD (n2 : Int).toNat default).typ)))) = true then some (.ret (.ret false)) else some (.nxt ()))))))) : Option (Out _ Unit))) x1.leaves 0 ()) fun (s2 : Unit) => some (.nxt ()))))))) : Option (Out _ Unit))) t0 0 ()) fun (s1 : Unit) => some true)
noncomputable def ref07Xmay (t0 : (List GNode)) (deep1 : Int) : Option Bool := anyN fun n => ref07XmayN n t0 deep1
noncomputable def ref07May (t0 : (List GNode)) : Option Bool :=
  ((ref07Xmay t0 (0 : Int)).bind fun v1 => some v1)
noncomputable def leafXisTime (n0 : Int) : Option Bool :=
  some ((decide (n0 ≥ (1 : Int))) && (decide (n0 ≤ (1099511627776 : Int))))
noncomputable def leafXisText (s0 : Str) : Option Bool :=
  some (decide (((s0).length : Int) ≤ (40 : Int)))
noncomputable def leafXcompare (a0 : Int) (d1 : GDot) (b2 : Int) (o3 : GDot) : Option Int :=
  ((cmpCompareUint64 a0 b2).bind fun v1 => ((dotCompare d1 o3).bind fun v2 => ((cmpOrInt ([v1, v2] : List Int)).bind fun v3 => some v3)))
noncomputable def leafAhead (time0 : Int) (d1 : GDot) (other2 : Int) (o3 : GDot) : Option Bool :=
  ((leafXcompare time0 d1 other2 o3).bind fun v1 => some (decide (v1 < (0 : Int))))
noncomputable def slicesIndexFuncItem (s0 : (List GItem)) (f1 : (GItem → Option Bool)) : Option Int :=
  (lp (loopL (fun (n1 : Nat) (x1 : GItem) (s1 : Unit) => (((f1 x1).bind fun v7 => (if v7 = true then some (.ret (n1 : Int)) else some (.nxt ()))) : Option (Out _ Unit))) s0 0 ()) fun (s1 : Unit) => some (-1 : Int))
noncomputable def slicesContainsFuncItem (s0 : (List GItem)) (f1 : (GItem → Option Bool)) : Option Bool :=
  ((slicesIndexFuncItem s0 f1).bind fun v1 => some (decide (v1 ≥ (0 : Int))))
noncomputable def leafXhasC1 (x0 : GItem) (c0 : GDot) : Option Bool :=
  some (x0.dot.actor.rep == c0.actor.rep && (x0.dot.actor.inc == c0.actor.inc && (x0.dot.seq == c0.seq && true)))
noncomputable def leafXhas (l0 : (List GItem)) (d1 : GDot) : Option Bool :=
  ((slicesContainsFuncItem l0 (fun x0 => leafXhasC1 x0 d1)).bind fun v1 => some v1)
noncomputable def leafXtombs (l0 : GLeaf) : Option Bool :=
  (lp (loopL (fun (n1 : Nat) (x1 : GDot) (s1 : Unit) => (((dotMay x1).bind fun v19 => (chk ((((!v19) == false) && ((decide ((n1 : Int) > (0 : Int))) == true)) = true → 0 ≤ (IntKind.wrap .i64 ((n1 : Int) - (1 : Int))) ∧ (IntKind.wrap .i64 ((n1 : Int) - (1 : Int))) < ((l0.tombs).length : Int)) (((if (((!v19) == false) && ((decide ((n1 : Int) > (0 : Int))) == true)) = true then dotCompare ((l0.tombs).getD (IntKind.wrap .i64 ((n1 : Int) - (1 : Int))).toNat default) x1 else some default).bind fun v21 => ((if (((!v19) || ((decide ((n1 : Int) > (0 : Int))) && (decide (v21 ≥ (0 : Int))))) == false) = true then leafXhas l0.items x1 else some default).bind fun v22 => (if (((!v19) || ((decide ((n1 : Int) > (0 : Int))) && (decide (v21 ≥ (0 : Int))))) || v22) = true then some (.ret false) else some (.nxt ()))))))) : Option (Out _ Unit))) l0.tombs 0 ()) fun (s1 : Unit) => some true)
noncomputable def slicesEqualItem (s10 : (List GItem)) (s21 : (List GItem)) : Option Bool :=
  (if (((s10).length : Int) != ((s21).length : Int)) = true then some false else (lp (loopL (fun (n1 : Nat) (x1 : GItem) (s1 : Unit) => (((idx s21 (n1 : Int)).bind fun y10 => (if (!(x1.time == y10.time && (x1.dot.actor.rep == y10.dot.actor.rep && (x1.dot.actor.inc == y10.dot.actor.inc && (x1.dot.seq == y10.dot.seq && (x1.text == y10.text && true)))))) = true then some (.ret false) else some (.nxt ()))) : Option (Out _ Unit))) s10 0 ()) fun (s1 : Unit) => some true))
noncomputable def leafSame (a0 : GLeaf) (b1 : GLeaf) : Option Bool :=
  ((if ((((((a0.typ == b1.typ) && (a0.n == b1.n)) && (a0.time == b1.time)) && (a0.dot.actor.rep == b1.dot.actor.rep && (a0.dot.actor.inc == b1.dot.actor.inc && (a0.dot.seq == b1.dot.seq && true)))) && (a0.text == b1.text)) == true) = true then slicesEqualItem a0.items b1.items else some default).bind fun v1 => ((if (((((((a0.typ == b1.typ) && (a0.n == b1.n)) && (a0.time == b1.time)) && (a0.dot.actor.rep == b1.dot.actor.rep && (a0.dot.actor.inc == b1.dot.actor.inc && (a0.dot.seq == b1.dot.seq && true)))) && (a0.text == b1.text)) && v1) == true) = true then slicesEqualDot a0.tombs b1.tombs else some default).bind fun v2 => some (((((((a0.typ == b1.typ) && (a0.n == b1.n)) && (a0.time == b1.time)) && (a0.dot.actor.rep == b1.dot.actor.rep && (a0.dot.actor.inc == b1.dot.actor.inc && (a0.dot.seq == b1.dot.seq && true)))) && (a0.text == b1.text)) && v1) && v2)))
noncomputable def pathsSelectC1 (path0 : (List Str)) (c0 : (List Str)) : Option Bool :=
  ((pathsMatch c0 path0).bind fun v1 => some v1)
noncomputable def ref05Same (a0 : GLeaf) (b1 : GLeaf) : Option Bool :=
  (if (((((((a0.typ != b1.typ) || (a0.n != b1.n)) || (a0.time != b1.time)) || (!(a0.dot.actor.rep == b1.dot.actor.rep && (a0.dot.actor.inc == b1.dot.actor.inc && (a0.dot.seq == b1.dot.seq && true))))) || (!(a0.text == b1.text))) || (((a0.items).length : Int) != ((b1.items).length : Int))) || (((a0.tombs).length : Int) != ((b1.tombs).length : Int))) = true then some false else (lp (loopL (fun (n1 : Nat) (x1 : GItem) (s1 : Unit) => (((idx b1.items (n1 : Int)).bind fun y32 => (if (!(x1.time == y32.time && (x1.dot.actor.rep == y32.dot.actor.rep && (x1.dot.actor.inc == y32.dot.actor.inc && (x1.dot.seq == y32.dot.seq && (x1.text == y32.text && true)))))) = true then some (.ret false) else some (.nxt ()))) : Option (Out _ Unit))) a0.items 0 ()) fun (s1 : Unit) => (lp (loopL (fun (n2 : Nat) (x2 : GDot) (s2 : Unit) => (((idx b1.tombs (n2 : Int)).bind fun y60 => (if (!(x2.actor.rep == y60.actor.rep && (x2.actor.inc == y60.actor.inc && (x2.seq == y60.seq && true)))) = true then some (.ret false) else some (.nxt ()))) : Option (Out _ Unit))) a0.tombs 0 ()) fun (s2 : Unit) => some true)))
noncomputable def ref07SameN : Nat → (List GNode) → (List GNode) → Option Bool
  | 0, _, _ => none
  | n + 1, a0, b1 => (if (((a0).length : Int) != ((b1).length : Int)) = true then some false else (lp (loopL (fun (n1 : Nat) (x1 : GNode) (s1 : Unit) => (((idx b1 (n1 : Int)).bind fun y41 => (chk (((!(x1.name == y41.name)) == false) = true → 0 ≤ (n1 : Int) ∧ (n1 : Int) < ((a0).length : Int)) ((chk (((!(x1.name == y41.name)) == false) = true → 0 ≤ (n1 : Int) ∧ (n1 : Int) < ((b1).length : Int)) ((chk ((((!(x1.name == y41.name)) || (((((a0).getD (n1 : Int).toNat default).leaves).length : Int) != ((((b1).getD (n1 : Int).toNat default).leaves).length : Int))) == false) = true → 0 ≤ (n1 : Int) ∧ (n1 : Int) < ((a0).length : Int)) ((chk ((((!(x1.name == y41.name)) || (((((a0).getD (n1 : Int).toNat default).leaves).length : Int) != ((((b1).getD (n1 : Int).toNat default).leaves).length : Int))) == false) = true → 0 ≤ (n1 : Int) ∧ (n1 : Int) < ((b1).length : Int)) (((if (((!(x1.name == y41.name)) || (((((a0).getD (n1 : Int).toNat default).leaves).length : Int) != ((((b1).getD (n1 : Int).toNat default).leaves).length : Int))) == false) = true then ref07SameN n (((a0).getD (n1 : Int).toNat default).subs) (((b1).getD (n1 : Int).toNat default).subs) else some default).bind fun v48 => (if (((!(x1.name == y41.name)) || (((((a0).getD (n1 : Int).toNat default).leaves).length : Int) != ((((b1).getD (n1 : Int).toNat default).leaves).length : Int))) || (!v48)) = true then some (.ret false) else (lp (loopL (fun (n2 : Nat) (x2 : GLeaf) (s2 : Unit) => (((idx b1 (n1 : Int)).bind fun y60 => ((idx y60.leaves (n2 : Int)).bind fun y61 => ((ref05Same x2 y61).bind fun v62 => (if (!v62) = true then some (.ret (.ret false)) else some (.nxt ()))))) : Option (Out _ Unit))) x1.leaves 0 ()) fun (s2 : Unit) => some (.nxt ()))))))))))))) : Option (Out _ Unit))) a0 0 ()) fun (s1 : Unit) => some true))
noncomputable def ref07Same (a0 : (List GNode)) (b1 : (List GNode)) : Option Bool := anyN fun n => ref07SameN n a0 b1
noncomputable def ref30SamePath (a0 : (List Str)) (b1 : (List Str)) : Option Bool :=
  (if (((a0).length : Int) != ((b1).length : Int)) = true then some false else (lp (loopL (fun (n1 : Nat) (x1 : Str) (s1 : Unit) => (((idx b1 (n1 : Int)).bind fun y12 => (if (!(x1 == y12)) = true then some (.ret false) else some (.nxt ()))) : Option (Out _ Unit))) a0 0 ()) fun (s1 : Unit) => some true))
noncomputable def ref30Same (a0 : (List GRow)) (b1 : (List GRow)) : Option Bool :=
  (if (((a0).length : Int) != ((b1).length : Int)) = true then some false else (lp (loopL (fun (n1 : Nat) (x1 : GRow) (s1 : Unit) => (((idx b1 (n1 : Int)).bind fun y16 => ((ref30SamePath x1.path y16.path).bind fun v17 => (chk (((!v17) == false) = true → 0 ≤ (n1 : Int) ∧ (n1 : Int) < ((a0).length : Int)) ((chk (((!v17) == false) = true → 0 ≤ (n1 : Int) ∧ (n1 : Int) < ((b1).length : Int)) (((if ((!v17) == false) = true then ref05Same (((a0).getD (n1 : Int).toNat default).leaf) (((b1).getD (n1 : Int).toNat default).leaf) else some default).bind fun v20 => (if ((!v17) || (!v20)) = true then some (.ret false) else some (.nxt ()))))))))) : Option (Out _ Unit))) a0 0 ()) fun (s1 : Unit) => some true))
noncomputable def ref07XsizeN : Nat → (List GNode) → Int → Option Int
  | 0, _, _ => none
  | n + 1, t0, deep1 => (lp (loopW (fun (s1 : Int × Int) => ((if ((decide (s1.2 < ((t0).length : Int))) && (decide (deep1 < (10 : Int)))) = true then ((idx t0 s1.2).bind fun y68 => ((idx t0 s1.2).bind fun y70 => ((ref07XsizeN n y70.subs (IntKind.wrap .i64 (deep1 + (1 : Int)))).bind fun v71 => (lp (loopW (fun (s2 : Int × Int) => (((idx t0 s1.2).bind fun y102 => (if (decide (s2.2 < ((y102.leaves).length : Int))) = true then ((idx t0 s1.2).bind fun y105 => ((idx y105.leaves s2.2).bind fun y106 => (lp (loopL (fun (n3 : Nat) (x3 : GItem) (s3 : Int) => (some (.nxt (IntKind.wrap .i64 ((IntKind.wrap .i64 (s3 + (1 : Int))) + ((x3.text).length : Int)))) : Option (Out _ Int))) y106.items 0 (IntKind.wrap .i64 ((IntKind.wrap .i64 ((IntKind.wrap .i64 (s2.1 + (1 : Int))) + ((y106.text).length : Int))) + ((y106.tombs).length : Int)))) fun (s3 : Int) => some (.nxt (s3, (IntKind.wrap .i64 (s2.2 + (1 : Int)))))))) else some (.brk (s2.1, s2.2)))) : Option (Out _ (Int × Int)))) ((IntKind.wrap .i64 ((IntKind.wrap .i64 ((IntKind.wrap .i64 (s1.1 + (1 : Int))) + ((y68.name).length : Int))) + v71)), (0 : Int))) fun (s2 : Int × Int) => some (.nxt (s2.1, (IntKind.wrap .i64 (s1.2 + (1 : Int))))))))) else some (.brk (s1.1, s1.2))) : Option (Out _ (Int × Int)))) ((0 : Int), (0 : Int))) fun (s1 : Int × Int) => some s1.1)
noncomputable def ref07Xsize (t0 : (List GNode)) (deep1 : Int) : Option Int := anyN fun n => ref07XsizeN n t0 deep1
noncomputable def ref07Great (t0 : (List GNode)) : Option Bool :=
  ((ref07Xsize t0 (0 : Int)).bind fun v1 => some (decide (v1 > (1500 : Int))))
noncomputable def law30Xgreat (l0 : (List (List Str))) : Option Bool :=
  (lp (loopL (fun (n1 : Nat) (x1 : (List Str)) (s1 : Unit) => ((lp (loopL (fun (n2 : Nat) (x2 : Str) (s2 : Unit) => ((if (decide (((x2).length : Int) > (40 : Int))) = true then some (.ret (.ret true)) else some (.nxt ())) : Option (Out _ Unit))) x1 0 ()) fun (s2 : Unit) => (if (decide (((x1).length : Int) > (10 : Int))) = true then some (.ret true) else some (.nxt ()))) : Option (Out _ Unit))) l0 0 ()) fun (s1 : Unit) => some false)
noncomputable def ref07RowsN : Nat → (List GNode) → (List Str) → Option (List GVarveref07Row)
  | 0, _, _ => none
  | n + 1, t0, ahead1 => (lp (loopL (fun (n1 : Nat) (x1 : GNode) (s1 : (List GVarveref07Row)) => ((chk ((([] : List Str)).length + (ahead1).length ≤ lim) ((chk (((([] : List Str) ++ ahead1)).length + (([x1.name] : List Str)).length ≤ lim) ((lp (loopL (fun (n2 : Nat) (x2 : GLeaf) (s2 : (List GVarveref07Row)) => ((chk ((s2).length + (([(GVarveref07Row.mk ((([] : List Str) ++ ahead1) ++ ([x1.name] : List Str)) x2)] : List GVarveref07Row)).length ≤ lim) (some (.nxt (s2 ++ ([(GVarveref07Row.mk ((([] : List Str) ++ ahead1) ++ ([x1.name] : List Str)) x2)] : List GVarveref07Row))))) : Option (Out _ (List GVarveref07Row)))) x1.leaves 0 s1) fun (s2 : (List GVarveref07Row)) => ((ref07RowsN n x1.subs ((([] : List Str) ++ ahead1) ++ ([x1.name] : List Str))).bind fun v44 => (chk ((s2).length + (v44).length ≤ lim) (some (.nxt (s2 ++ v44)))))))))) : Option (Out _ (List GVarveref07Row)))) t0 0 ([] : List GVarveref07Row)) fun (s1 : (List GVarveref07Row)) => some s1)
noncomputable def ref07Rows (t0 : (List GNode)) (ahead1 : (List Str)) : Option (List GVarveref07Row) := anyN fun n => ref07RowsN n t0 ahead1
noncomputable def ref30Rows (t0 : (List GNode)) : Option (List GRow) :=
  ((ref07May t0).bind fun v1 => (if (!v1) = true then some ([] : List GRow) else ((ref07Rows t0 ([] : List Str)).bind fun v3 => (lp (loopL (fun (n1 : Nat) (x1 : GVarveref07Row) (s1 : (List GRow)) => ((chk ((s1).length + (([(GRow.mk x1.path x1.l)] : List GRow)).length ≤ lim) (some (.nxt (s1 ++ ([(GRow.mk x1.path x1.l)] : List GRow))))) : Option (Out _ (List GRow)))) v3 0 ([] : List GRow)) fun (s1 : (List GRow)) => some s1))))
noncomputable def ref30MayPattern (p0 : (List Str)) : Option Bool :=
  (chk (((decide (((p0).length : Int) > (0 : Int))) == true) = true → 0 ≤ (IntKind.wrap .i64 (((p0).length : Int) - (1 : Int))) ∧ (IntKind.wrap .i64 (((p0).length : Int) - (1 : Int))) < ((p0).length : Int)) ((if ((decide (((p0).length : Int) > (0 : Int))) && (((p0).getD (IntKind.wrap .i64 (((p0).length : Int) - (1 : Int))).toNat default) == ([42, 42] : Str))) = true then (if ((IntKind.wrap .i64 (((p0).length : Int) - (1 : Int))) == (0 : Int)) = true then some true else (if ((decide ((IntKind.wrap .i64 (((p0).length : Int) - (1 : Int))) < (1 : Int))) || (decide ((IntKind.wrap .i64 (((p0).length : Int) - (1 : Int))) > (3 : Int)))) = true then some false else (chk ((IntKind.wrap .i64 (((p0).length : Int) - (1 : Int))) ≤ 9223372036854775807) (lp (loopL (fun (n1 : Nat) (x1 : Nat) (s1 : Unit) => (((idx p0 (n1 : Int)).bind fun y12 => (chk (((!(y12 == ([42] : Str))) == true) = true → 0 ≤ (n1 : Int) ∧ (n1 : Int) < ((p0).length : Int)) (((if ((!(y12 == ([42] : Str))) == true) = true then ref04IsName ((p0).getD (n1 : Int).toNat default) else some default).bind fun v14 => (if ((!(y12 == ([42] : Str))) && (!v14)) = true then some (.ret false) else some (.nxt ())))))) : Option (Out _ Unit))) (List.range (((IntKind.wrap .i64 (((p0).length : Int) - (1 : Int)))).toNat)) 0 ()) fun (s1 : Unit) => some true)))) else (if ((decide (((p0).length : Int) < (1 : Int))) || (decide (((p0).length : Int) > (3 : Int)))) = true then some false else (lp (loopL (fun (n1 : Nat) (x1 : Str) (s1 : Unit) => ((chk (((!(x1 == ([42] : Str))) == true) = true → 0 ≤ (n1 : Int) ∧ (n1 : Int) < ((p0).length : Int)) (((if ((!(x1 == ([42] : Str))) == true) = true then ref04IsName ((p0).getD (n1 : Int).toNat default) else some default).bind fun v24 => (if ((!(x1 == ([42] : Str))) && (!v24)) = true then some (.ret false) else some (.nxt ()))))) : Option (Out _ Unit))) p0 0 ()) fun (s1 : Unit) => some true)))))
noncomputable def ref30XmatchesN : Nat → (List Str) → (List Str) → Option Bool
  | 0, _, _ => none
  | n + 1, p0, path1 => (if (((p0).length : Int) == (0 : Int)) = true then some (((path1).length : Int) == (0 : Int)) else ((idx p0 (0 : Int)).bind fun y4 => (if (y4 == ([42, 42] : Str)) = true then some true else (chk (((decide (((path1).length : Int) > (0 : Int))) == true) = true → 0 ≤ (0 : Int) ∧ (0 : Int) < ((p0).length : Int)) ((chk ((((decide (((path1).length : Int) > (0 : Int))) == true) && ((((p0).getD (0 : Int).toNat default) == ([42] : Str)) == false)) = true → 0 ≤ (0 : Int) ∧ (0 : Int) < ((p0).length : Int)) ((chk ((((decide (((path1).length : Int) > (0 : Int))) == true) && ((((p0).getD (0 : Int).toNat default) == ([42] : Str)) == false)) = true → 0 ≤ (0 : Int) ∧ (0 : Int) < ((path1).length : Int)) ((chk ((((decide (((path1).length : Int) > (0 : Int))) && ((((p0).getD (0 : Int).toNat default) == ([42] : Str)) || (((p0).getD (0 : Int).toNat default) == ((path1).getD (0 : Int).toNat default)))) == true) = true → 0 ≤ (1 : Int) ∧ (1 : Int) ≤ ((p0).length : Int) ∧ ((p0).length : Int) ≤ ((p0).length : Int)) ((chk ((((decide (((path1).length : Int) > (0 : Int))) && ((((p0).getD (0 : Int).toNat default) == ([42] : Str)) || (((p0).getD (0 : Int).toNat default) == ((path1).getD (0 : Int).toNat default)))) == true) = true → 0 ≤ (1 : Int) ∧ (1 : Int) ≤ ((path1).length : Int) ∧ ((path1).length : Int) ≤ ((path1).length : Int)) (((if (((decide (((path1).length : Int) > (0 : Int))) && ((((p0).getD (0 : Int).toNat default) == ([42] : Str)) || (((p0).getD (0 : Int).toNat default) == ((path1).getD (0 : Int).toNat default)))) == true) = true then ref30XmatchesN n ((p0.take ((p0).length : Int).toNat).drop (1 : Int).toNat) ((path1.take ((path1).length : Int).toNat).drop (1 : Int).toNat) else some default).bind fun v14 => some (((decide (((path1).length : Int) > (0 : Int))) && ((((p0).getD (0 : Int).toNat default) == ([42] : Str)) || (((p0).getD (0 : Int).toNat default) == ((path1).getD (0 : Int).toNat default)))) && v14)))))))))))))))
noncomputable def ref30Xmatches (p0 : (List Str)) (path1 : (List Str)) : Option Bool := anyN fun n => ref30XmatchesN n p0 path1
noncomputable def ref30Match (p0 : (List Str)) (path1 : (List Str)) : Option Bool :=
  ((ref30MayPattern p0).bind fun v1 => ((if (v1 == true) = true then ref04MayPath path1 else some default).bind fun v2 => ((if ((v1 && v2) == true) = true then ref30Xmatches p0 path1 else some default).bind fun v3 => some ((v1 && v2) && v3))))
noncomputable def ref07LayN : Nat → (List GNode) → (List Str) → GLeaf → Option (List GNode)
  | 0, _, _, _ => none
  | n + 1, t0, path1, l2 => (lp (loopW (fun (s1 : (List GNode) × Int) => ((chk (((decide (s1.2 < ((t0).length : Int))) == true) = true → 0 ≤ s1.2 ∧ s1.2 < ((t0).length : Int)) ((chk (((decide (s1.2 < ((t0).length : Int))) == true) = true → 0 ≤ (0 : Int) ∧ (0 : Int) < ((path1).length : Int)) ((if ((decide (s1.2 < ((t0).length : Int))) && (Op.bytesLess (((t0).getD s1.2.toNat default).name) ((path1).getD (0 : Int).toNat default))) = true then ((idx t0 s1.2).bind fun y22 => (chk ((s1.1).length + (([y22] : List GNode)).length ≤ lim) (some (.nxt ((s1.1 ++ ([y22] : List GNode)), (IntKind.wrap .i64 (s1.2 + (1 : Int)))))))) else some (.brk (s1.1, s1.2))))))) : Option (Out _ ((List GNode) × Int)))) (([] : List GNode), (0 : Int))) fun (s1 : (List GNode) × Int) => ((idx path1 (0 : Int)).bind fun y24 => (lp ((chk (((decide (s1.2 < ((t0).length : Int))) == true) = true → 0 ≤ s1.2 ∧ s1.2 < ((t0).length : Int)) ((chk (((decide (s1.2 < ((t0).length : Int))) == true) = true → 0 ≤ (0 : Int) ∧ (0 : Int) < ((path1).length : Int)) ((if ((decide (s1.2 < ((t0).length : Int))) && (((t0).getD s1.2.toNat default).name == ((path1).getD (0 : Int).toNat default))) = true then ((idx t0 s1.2).bind fun y35 => some (.inr ((IntKind.wrap .i64 (s1.2 + (1 : Int))), y35.name, y35.leaves, y35.subs))) else some (.inr (s1.2, y24, ([] : List GLeaf), ([] : List GNode)))))))) : Option (_ ⊕ (Int × Str × (List GLeaf) × (List GNode)))) fun (sd30 : Int × Str × (List GLeaf) × (List GNode)) => (if (decide (((path1).length : Int) > (1 : Int))) = true then ((slc path1 (1 : Int) ((path1).length : Int)).bind fun m38 => ((ref07LayN n sd30.2.2.2 m38 l2).bind fun v39 => (chk ((s1.1).length + (([(GNode.mk sd30.2.1 sd30.2.2.1 v39)] : List GNode)).length ≤ lim) (((slc t0 sd30.1 ((t0).length : Int)).bind fun m41 => (chk (((s1.1 ++ ([(GNode.mk sd30.2.1 sd30.2.2.1 v39)] : List GNode))).length + (m41).length ≤ lim) (some ((s1.1 ++ ([(GNode.mk sd30.2.1 sd30.2.2.1 v39)] : List GNode)) ++ m41)))))))) else (lp (loopW (fun (sd62 : (List GLeaf) × Int) => ((chk (((decide (sd62.2 < ((sd30.2.2.1).length : Int))) == true) = true → 0 ≤ sd62.2 ∧ sd62.2 < ((sd30.2.2.1).length : Int)) ((if ((decide (sd62.2 < ((sd30.2.2.1).length : Int))) && (decide (((sd30.2.2.1).getD sd62.2.toNat default).typ < l2.typ))) = true then ((idx sd30.2.2.1 sd62.2).bind fun y66 => (chk ((sd62.1).length + (([y66] : List GLeaf)).length ≤ lim) (some (.nxt ((sd62.1 ++ ([y66] : List GLeaf)), (IntKind.wrap .i64 (sd62.2 + (1 : Int)))))))) else some (.brk (sd62.1, sd62.2))))) : Option (Out _ ((List GLeaf) × Int)))) (([] : List GLeaf), (0 : Int))) fun (sd62 : (List GLeaf) × Int) => (chk (((decide (sd62.2 < ((sd30.2.2.1).length : Int))) == true) = true → 0 ≤ sd62.2 ∧ sd62.2 < ((sd30.2.2.1).length : Int)) ((if ((decide (sd62.2 < ((sd30.2.2.1).length : Int))) && (((sd30.2.2.1).getD sd62.2.toNat default).typ == l2.typ)) = true then (chk ((sd62.1).length + (([l2] : List GLeaf)).length ≤ lim) (((slc sd30.2.2.1 (IntKind.wrap .i64 (sd62.2 + (1 : Int))) ((sd30.2.2.1).length : Int)).bind fun m72 => (chk (((sd62.1 ++ ([l2] : List GLeaf))).length + (m72).length ≤ lim) ((chk ((s1.1).length + (([(GNode.mk sd30.2.1 ((sd62.1 ++ ([l2] : List GLeaf)) ++ m72) sd30.2.2.2)] : List GNode)).length ≤ lim) (((slc t0 sd30.1 ((t0).length : Int)).bind fun m75 => (chk (((s1.1 ++ ([(GNode.mk sd30.2.1 ((sd62.1 ++ ([l2] : List GLeaf)) ++ m72) sd30.2.2.2)] : List GNode))).length + (m75).length ≤ lim) (some ((s1.1 ++ ([(GNode.mk sd30.2.1 ((sd62.1 ++ ([l2] : List GLeaf)) ++ m72) sd30.2.2.2)] : List GNode)) ++ m75))))))))))) else (chk ((sd62.1).length + (([l2] : List GLeaf)).length ≤ lim) (((slc sd30.2.2.1 sd62.2 ((sd30.2.2.1).length : Int)).bind fun m78 => (chk (((sd62.1 ++ ([l2] : List GLeaf))).length + (m78).length ≤ lim) ((chk ((s1.1).length + (([(GNode.mk sd30.2.1 ((sd62.1 ++ ([l2] : List GLeaf)) ++ m78) sd30.2.2.2)] : List GNode)).length ≤ lim) (((slc t0 sd30.1 ((t0).length : Int)).bind fun m81 => (chk (((s1.1 ++ ([(GNode.mk sd30.2.1 ((sd62.1 ++ ([l2] : List GLeaf)) ++ m78) sd30.2.2.2)] : List GNode))).length + (m81).length ≤ lim) (some ((s1.1 ++ ([(GNode.mk sd30.2.1 ((sd62.1 ++ ([l2] : List GLeaf)) ++ m78) sd30.2.2.2)] : List GNode)) ++ m81)))))))))))))))))))
noncomputable def ref07Lay (t0 : (List GNode)) (path1 : (List Str)) (l2 : GLeaf) : Option (List GNode) := anyN fun n => ref07LayN n t0 path1 l2
noncomputable def ref30Made (l0 : (List GRow)) : Option (List GNode) :=
  (lp (loopL (fun (n1 : Nat) (x1 : GRow) (s1 : (List GNode)) => (((ref07Lay s1 x1.path x1.leaf).bind fun v10 => some (.nxt v10)) : Option (Out _ (List GNode)))) l0 0 ([] : List GNode)) fun (s1 : (List GNode)) => some s1)
noncomputable def ref30Kept (t0 : (List GNode)) (p1 : (List Str)) (mtch2 : Bool) : Option ((List GNode) × Int) :=
  ((ref07May t0).bind fun v1 => ((if ((!v1) == false) = true then ref30MayPattern p1 else some default).bind fun v2 => (if ((!v1) || (!v2)) = true then some (([] : List GNode), (2 : Int)) else ((ref30Rows t0).bind fun v4 => (lp (loopL (fun (n1 : Nat) (x1 : GRow) (s1 : (List GRow)) => (((ref30Match p1 x1.path).bind fun v16 => (if (v16 == mtch2) = true then (chk ((s1).length + (([x1] : List GRow)).length ≤ lim) (some (.nxt (s1 ++ ([x1] : List GRow))))) else some (.nxt s1))) : Option (Out _ (List GRow)))) v4 0 ([] : List GRow)) fun (s1 : (List GRow)) => ((ref30Made s1).bind fun v19 => some (v19, (0 : Int))))))))
noncomputable def pathsWithoutC1 (path0 : (List Str)) (c0 : (List Str)) : Option Bool :=
  ((pathsMatch c0 path0).bind fun v1 => some (!v1))
noncomputable def law45Xgreat (l0 : (List GQuota)) (t1 : (List GNode)) (o2 : GOp) : Option Bool :=
  (lp (loopL (fun (n1 : Nat) (x1 : GQuota) (s1 : Unit) => ((if (decide (((x1.name).length : Int) > (40 : Int))) = true then some (.ret true) else some (.nxt ())) : Option (Out _ Unit))) l0 0 ()) fun (s1 : Unit) => ((if ((decide (((l0).length : Int) > (20 : Int))) == false) = true then ref07Great t1 else some default).bind fun v15 => some (((((decide (((l0).length : Int) > (20 : Int))) || v15) || (decide (((o2.dots).length : Int) > (100 : Int)))) || (decide (((o2.path).length : Int) > (10 : Int)))) || (decide (((o2.text).length : Int) > (200 : Int))))))
noncomputable def law45XknownC1 (n0 : Int) : Option GDot :=
  some (GDot.mk (GActor.mk (0 : Int) (1 : Int)) n0)
noncomputable def meterHeaviestC1 (r0 : GRow) : Option Int :=
  some (IntKind.wrap .i64 (((r0.leaf.items).length : Int) + ((r0.leaf.tombs).length : Int)))
noncomputable def cmpXisNaNInt (x0 : Int) : Option Bool :=
  some (x0 != x0)
noncomputable def cmpCompareInt (x0 : Int) (y1 : Int) : Option Int :=
  ((cmpXisNaNInt x0).bind fun v1 => ((cmpXisNaNInt y1).bind fun v2 => (if v1 = true then (if v2 = true then some (0 : Int) else some (-1 : Int)) else (if v2 = true then some (1 : Int) else (if (decide (x0 < y1)) = true then some (-1 : Int) else (if (decide (x0 > y1)) = true then some (1 : Int) else some (0 : Int)))))))
noncomputable def ref07Items (t0 : (List GNode)) : Option Int :=
  ((ref07Rows t0 ([] : List Str)).bind fun v1 => (lp (loopL (fun (n1 : Nat) (x1 : GVarveref07Row) (s1 : Int) => (some (.nxt (IntKind.wrap .i64 (s1 + ((x1.l.items).length : Int)))) : Option (Out _ Int))) v1 0 ((v1).length : Int)) fun (s1 : Int) => some s1))
noncomputable def ref07Tombs (t0 : (List GNode)) : Option Int :=
  ((ref07Rows t0 ([] : List Str)).bind fun v1 => (lp (loopL (fun (n1 : Nat) (x1 : GVarveref07Row) (s1 : Int) => (some (.nxt (IntKind.wrap .i64 (s1 + ((x1.l.tombs).length : Int)))) : Option (Out _ Int))) v1 0 (0 : Int)) fun (s1 : Int) => some s1))
end Go.Vv
