/- What the functions that the law reaches compute, as plain functions; printed by a program from the code. -/
import Derived.Test.YtlkpeiojgenhaaaVvY
import Derived.Test.YtlkpeiojgenhaaaVvZ
namespace Go.Vv
open Go
set_option linter.unusedVariables false
structure GActor where
  rep : Int
  inc : Int
  deriving DecidableEq, Inhabited
structure GDot where
  actor : GActor
  seq : Int
  deriving DecidableEq, Inhabited
structure GOp where
  kind : Int
  path : (List Str)
  n : Int
  text : Str
  dots : (List GDot)
  deriving DecidableEq, Inhabited
structure GOpKind where
  leaf : Int
  may : Nat
  deriving DecidableEq, Inhabited
structure GEvent where
  dot : GDot
  time : Int
  op : GOp
  deriving DecidableEq, Inhabited
def GActor.wf (x : GActor) : Prop := (InK .u8 x.rep) ∧ (InK .u32 x.inc)
def GDot.wf (x : GDot) : Prop := (GActor.wf x.actor) ∧ (InK .u64 x.seq)
def GOp.wf (x : GOp) : Prop := (InK .u8 x.kind) ∧ (x.path.length ≤ maxLen ∧ ∀ y ∈ x.path, y.length ≤ maxLen) ∧ (InK .i64 x.n) ∧ (x.text.length ≤ maxLen) ∧ (x.dots.length ≤ maxLen ∧ ∀ y ∈ x.dots, GDot.wf y)
def GEvent.wf (x : GEvent) : Prop := (GDot.wf x.dot) ∧ (InK .u64 x.time) ∧ (GOp.wf x.op)
noncomputable def law04Xgreat (o0 : GOp) : Option Bool :=
  (lp (loopL (fun (n1 : Nat) (x1 : Str) (s1 : Unit) => ((if (decide (((x1).length : Int) > (100 : Int))) = true then some (.ret true) else some (.nxt ())) : Option (Out _ Unit))) o0.path 0 ()) fun (s1 : Unit) => some (((decide (((o0.path).length : Int) > (20 : Int))) || (decide (((o0.text).length : Int) > (200 : Int)))) || (decide (((o0.dots).length : Int) > (100 : Int)))))
noncomputable def slicesIndexFuncString (s0 : (List Str)) (f1 : (Str → Option Bool)) : Option Int :=
  (lp (loopL (fun (n1 : Nat) (x1 : Str) (s1 : Unit) => (((f1 x1).bind fun v7 => (if v7 = true then some (.ret (n1 : Int)) else some (.nxt ()))) : Option (Out _ Unit))) s0 0 ()) fun (s1 : Unit) => some (-1 : Int))
noncomputable def slicesContainsFuncString (s0 : (List Str)) (f1 : (Str → Option Bool)) : Option Bool :=
  ((slicesIndexFuncString s0 f1).bind fun v1 => some (decide (v1 ≥ (0 : Int))))
noncomputable def opIsNameC1 (r0 : Int) : Option Bool :=
  some ((((decide (r0 < (97 : Int))) || (decide (r0 > (122 : Int)))) && ((decide (r0 < (65 : Int))) || (decide (r0 > (90 : Int))))) && ((decide (r0 < (48 : Int))) || (decide (r0 > (57 : Int)))))
noncomputable def stringsXindexFunc (s0 : Str) (f1 : (Int → Option Bool)) (truth2 : Bool) : Option Int :=
  (lp (loopW (fun (s1 : Nat) => ((if s1 < (s0).length then ((f1 ((dec s0 s1).1 : Int)).bind fun v6 => (if (v6 == truth2) = true then some (.ret (s1 : Int)) else some (.nxt (s1 + (dec s0 s1).2)))) else some (.brk s1)) : Option (Out _ Nat))) 0) fun (s1 : Nat) => some (-1 : Int))
noncomputable def stringsIndexFunc (s0 : Str) (f1 : (Int → Option Bool)) : Option Int :=
  ((stringsXindexFunc s0 f1 true).bind fun v1 => some v1)
noncomputable def stringsContainsFunc (s0 : Str) (f1 : (Int → Option Bool)) : Option Bool :=
  ((stringsIndexFunc s0 f1).bind fun v1 => some (decide (v1 ≥ (0 : Int))))
noncomputable def opIsName (s0 : Str) : Option Bool :=
  ((if (((decide (((s0).length : Int) ≥ (1 : Int))) && (decide (((s0).length : Int) ≤ (12 : Int)))) == true) = true then stringsContainsFunc s0 (fun x0 => opIsNameC1 x0) else some default).bind fun v3 => some (((decide (((s0).length : Int) ≥ (1 : Int))) && (decide (((s0).length : Int) ≤ (12 : Int)))) && (!v3)))
noncomputable def opMayPathC1 (s0 : Str) : Option Bool :=
  ((opIsName s0).bind fun v1 => some (!v1))
noncomputable def opMayPath (p0 : (List Str)) : Option Bool :=
  ((if (((decide (((p0).length : Int) ≥ (1 : Int))) && (decide (((p0).length : Int) ≤ (3 : Int)))) == true) = true then slicesContainsFuncString p0 (fun x0 => opMayPathC1 x0) else some default).bind fun v3 => some (((decide (((p0).length : Int) ≥ (1 : Int))) && (decide (((p0).length : Int) ≤ (3 : Int)))) && (!v3)))
noncomputable def opXplain (o0 : GOp) : Option Bool :=
  some (((o0.n == (0 : Int)) && (decide (((o0.text).length : Int) ≤ (40 : Int)))) && (((o0.dots).length : Int) == (0 : Int)))
noncomputable def dotMayActor (a0 : GActor) : Option Bool :=
  some (((decide (a0.rep < (16 : Int))) && (decide (a0.inc ≥ (1 : Int)))) && (decide (a0.inc ≤ (4 : Int))))
noncomputable def dotMay (d0 : GDot) : Option Bool :=
  ((dotMayActor d0.actor).bind fun v1 => some ((v1 && (decide (d0.seq ≥ (1 : Int)))) && (decide (d0.seq ≤ (1048576 : Int)))))
noncomputable def cmpOrInt (vals0 : (List Int)) : Option Int :=
  (lp (loopL (fun (n1 : Nat) (x1 : Int) (s1 : Unit) => ((if (x1 != (0 : Int)) = true then some (.ret x1) else some (.nxt ())) : Option (Out _ Unit))) vals0 0 ()) fun (s1 : Unit) => some (0 : Int))
noncomputable def cmpXisNaNUint8 (x0 : Int) : Option Bool :=
  some (x0 != x0)
noncomputable def cmpCompareUint8 (x0 : Int) (y1 : Int) : Option Int :=
  ((cmpXisNaNUint8 x0).bind fun v1 => ((cmpXisNaNUint8 y1).bind fun v2 => (if v1 = true then (if v2 = true then some (0 : Int) else some (-1 : Int)) else (if v2 = true then some (1 : Int) else (if (decide (x0 < y1)) = true then some (-1 : Int) else (if (decide (x0 > y1)) = true then some (1 : Int) else some (0 : Int)))))))
noncomputable def cmpXisNaNUint32 (x0 : Int) : Option Bool :=
  some (x0 != x0)
noncomputable def cmpCompareUint32 (x0 : Int) (y1 : Int) : Option Int :=
  ((cmpXisNaNUint32 x0).bind fun v1 => ((cmpXisNaNUint32 y1).bind fun v2 => (if v1 = true then (if v2 = true then some (0 : Int) else some (-1 : Int)) else (if v2 = true then some (1 : Int) else (if (decide (x0 < y1)) = true then some (-1 : Int) else (if (decide (x0 > y1)) = true then some (1 : Int) else some (0 : Int)))))))
noncomputable def dotXcompare (a0 : GActor) (b1 : GActor) : Option Int :=
  ((cmpCompareUint8 a0.rep b1.rep).bind fun v1 => ((cmpCompareUint32 a0.inc b1.inc).bind fun v2 => ((cmpOrInt ([v1, v2] : List Int)).bind fun v3 => some v3)))
noncomputable def cmpXisNaNUint64 (x0 : Int) : Option Bool :=
  some (x0 != x0)
noncomputable def cmpCompareUint64 (x0 : Int) (y1 : Int) : Option Int :=
  ((cmpXisNaNUint64 x0).bind fun v1 => ((cmpXisNaNUint64 y1).bind fun v2 => (if v1 = true then (if v2 = true then some (0 : Int) else some (-1 : Int)) else (if v2 = true then some (1 : Int) else (if (decide (x0 < y1)) = true then some (-1 : Int) else (if (decide (x0 > y1)) = true then some (1 : Int) else some (0 : Int)))))))
noncomputable def dotCompare (a0 : GDot) (b1 : GDot) : Option Int :=
  ((dotXcompare a0.actor b1.actor).bind fun v1 => ((cmpCompareUint64 a0.seq b1.seq).bind fun v2 => ((cmpOrInt ([v1, v2] : List Int)).bind fun v3 => some v3)))
noncomputable def opXdrops (o0 : GOp) : Option Bool :=
  (if (((o0.n != (0 : Int)) || (decide (((o0.text).length : Int) > (40 : Int)))) || (decide (((o0.dots).length : Int) > (64 : Int)))) = true then some false else (lp (loopL (fun (n1 : Nat) (x1 : GDot) (s1 : Unit) => (((dotMay x1).bind fun v17 => (chk ((((!v17) == false) && ((decide ((n1 : Int) > (0 : Int))) == true)) = true → 0 ≤ (IntKind.wrap .i64 ((n1 : Int) - (1 : Int))) ∧ (IntKind.wrap .i64 ((n1 : Int) - (1 : Int))) < ((o0.dots).length : Int)) (((if (((!v17) == false) && ((decide ((n1 : Int) > (0 : Int))) == true)) = true then dotCompare ((o0.dots).getD (IntKind.wrap .i64 ((n1 : Int) - (1 : Int))).toNat default) x1 else some default).bind fun v19 => (if ((!v17) || ((decide ((n1 : Int) > (0 : Int))) && (decide (v19 ≥ (0 : Int))))) = true then some (.ret false) else some (.nxt ())))))) : Option (Out _ Unit))) o0.dots 0 ()) fun (s1 : Unit) => some true))
noncomputable def opXadds (o0 : GOp) : Option Bool :=
  some ((((decide (o0.n ≥ (-1000000 : Int))) && (decide (o0.n ≤ (1000000 : Int)))) && (o0.text == ([] : Str))) && (((o0.dots).length : Int) == (0 : Int)))
noncomputable def opXof (k0 : Int) : Option (GOpKind × Bool) :=
  (if ((decide (k0 < (1 : Int))) || (decide (k0 > (5 : Int)))) = true then some ((GOpKind.mk (0 : Int) 0), false) else ((idx ([(GOpKind.mk (0 : Int) 0), (GOpKind.mk (1 : Int) 1), (GOpKind.mk (2 : Int) 2), (GOpKind.mk (3 : Int) 2), (GOpKind.mk (3 : Int) 3), (GOpKind.mk (4 : Int) 2)] : List GOpKind) k0).bind fun y2 => some (y2, true)))
noncomputable def callOp (c : Nat) (x0 : GOp) : Option Bool := match c with
  | 1 => opXadds x0
  | 2 => opXplain x0
  | 3 => opXdrops x0
  | _ => none
noncomputable def opMay (o0 : GOp) : Option Bool :=
  ((opXof o0.kind).bind fun v1 => ((if (v1.2 == true) = true then opMayPath o0.path else some default).bind fun v2 => ((if ((v1.2 && v2) == true) = true then callOp v1.1.may o0 else some default).bind fun v3 => some ((v1.2 && v2) && v3))))
noncomputable def law04Xknown  : Option Bool :=
  ((opMay (GOp.mk (1 : Int) ([([97] : Str)] : List Str) (5 : Int) ([] : Str) ([] : List GDot))).bind fun v1 => ((if (v1 == true) = true then opMay (GOp.mk (1 : Int) ([([97] : Str)] : List Str) (5 : Int) ([120] : Str) ([] : List GDot)) else some default).bind fun v2 => ((if ((v1 && (!v2)) == true) = true then opMay (GOp.mk (4 : Int) ([([97] : Str), ([98] : Str)] : List Str) (0 : Int) ([120] : Str) ([(GDot.mk (GActor.mk (0 : Int) (1 : Int)) (2 : Int)), (GDot.mk (GActor.mk (0 : Int) (1 : Int)) (1 : Int))] : List GDot)) else some default).bind fun v3 => some ((v1 && (!v2)) && (!v3)))))
noncomputable def ref04IsName (s0 : Str) : Option Bool :=
  (if ((decide (((s0).length : Int) < (1 : Int))) || (decide (((s0).length : Int) > (12 : Int)))) = true then some false else (lp (loopL (fun (n1 : Nat) (x1 : UInt8) (s1 : Unit) => ((if (!((((decide ((x1.toNat : Int) ≥ (97 : Int))) && (decide ((x1.toNat : Int) ≤ (122 : Int)))) || ((decide ((x1.toNat : Int) ≥ (65 : Int))) && (decide ((x1.toNat : Int) ≤ (90 : Int))))) || ((decide ((x1.toNat : Int) ≥ (48 : Int))) && (decide ((x1.toNat : Int) ≤ (57 : Int)))))) = true then some (.ret false) else some (.nxt ())) : Option (Out _ Unit))) s0 0 ()) fun (s1 : Unit) => some true))
noncomputable def ref04MayPath (p0 : (List Str)) : Option Bool :=
  (lp (loopL (fun (n1 : Nat) (x1 : Str) (s1 : Unit) => (((ref04IsName x1).bind fun v9 => (if (!v9) = true then some (.ret false) else some (.nxt ()))) : Option (Out _ Unit))) p0 0 ()) fun (s1 : Unit) => some ((decide (((p0).length : Int) ≥ (1 : Int))) && (decide (((p0).length : Int) ≤ (3 : Int)))))
noncomputable def ref03Less (a0 : GDot) (b1 : GDot) : Option Bool :=
  (if (a0.actor.rep != b1.actor.rep) = true then some (decide (a0.actor.rep < b1.actor.rep)) else (if (a0.actor.inc != b1.actor.inc) = true then some (decide (a0.actor.inc < b1.actor.inc)) else some (decide (a0.seq < b1.seq))))
noncomputable def ref04Type (kind0 : Int) : Option Int :=
  (if (kind0 == (1 : Int)) = true then some (1 : Int) else (if (kind0 == (2 : Int)) = true then some (2 : Int) else (if (kind0 == (3 : Int)) = true then (if (kind0 == (3 : Int)) = true then some (3 : Int) else (if (kind0 == (5 : Int)) = true then some (4 : Int) else some (0 : Int))) else (if (kind0 == (4 : Int)) = true then some (3 : Int) else (if (kind0 == (5 : Int)) = true then some (4 : Int) else some (0 : Int))))))
noncomputable def ref03MayActor (a0 : GActor) : Option Bool :=
  some (((decide (a0.rep ≤ (15 : Int))) && (decide (a0.inc ≥ (1 : Int)))) && (decide (a0.inc ≤ (4 : Int))))
noncomputable def ref03May (d0 : GDot) : Option Bool :=
  ((ref03MayActor d0.actor).bind fun v1 => some ((v1 && (decide (d0.seq ≥ (1 : Int)))) && (decide (d0.seq ≤ (1048576 : Int)))))
noncomputable def ref04May (o0 : GOp) : Option Bool :=
  ((ref04Type o0.kind).bind fun v1 => ((if ((v1 == (0 : Int)) == false) = true then ref04MayPath o0.path else some default).bind fun v2 => (if ((((v1 == (0 : Int)) || (!v2)) || (decide (((o0.text).length : Int) > (40 : Int)))) || (decide (((o0.dots).length : Int) > (64 : Int)))) = true then some false else (if (o0.kind == (1 : Int)) = true then some ((((decide (o0.n ≥ (-1000000 : Int))) && (decide (o0.n ≤ (1000000 : Int)))) && (o0.text == ([] : Str))) && (((o0.dots).length : Int) == (0 : Int))) else (if ((o0.n != (0 : Int)) || ((o0.kind != (4 : Int)) && (decide (((o0.dots).length : Int) > (0 : Int))))) = true then some false else (lp (loopL (fun (n1 : Nat) (x1 : GDot) (s1 : Unit) => (((ref03May x1).bind fun v26 => (chk ((((!v26) == false) && ((decide ((n1 : Int) > (0 : Int))) == true)) = true → 0 ≤ (IntKind.wrap .i64 ((n1 : Int) - (1 : Int))) ∧ (IntKind.wrap .i64 ((n1 : Int) - (1 : Int))) < ((o0.dots).length : Int)) ((chk ((((!v26) == false) && ((decide ((n1 : Int) > (0 : Int))) == true)) = true → 0 ≤ (n1 : Int) ∧ (n1 : Int) < ((o0.dots).length : Int)) (((if (((!v26) == false) && ((decide ((n1 : Int) > (0 : Int))) == true)) = true then ref03Less ((o0.dots).getD (IntKind.wrap .i64 ((n1 : Int) - (1 : Int))).toNat default) ((o0.dots).getD (n1 : Int).toNat default) else some default).bind fun v29 => (if ((!v26) || ((decide ((n1 : Int) > (0 : Int))) && (!v29))) = true then some (.ret false) else some (.nxt ())))))))) : Option (Out _ Unit))) o0.dots 0 ()) fun (s1 : Unit) => some true))))))
noncomputable def opMayEvent (e0 : GEvent) : Option Bool :=
  ((dotMay e0.dot).bind fun v1 => ((if (((v1 && (decide (e0.time ≥ (1 : Int)))) && (decide (e0.time ≤ (1099511627776 : Int)))) == true) = true then opMay e0.op else some default).bind fun v2 => some (((v1 && (decide (e0.time ≥ (1 : Int)))) && (decide (e0.time ≤ (1099511627776 : Int)))) && v2)))
noncomputable def ref04MayEvent (e0 : GEvent) : Option Bool :=
  ((ref03May e0.dot).bind fun v1 => ((if (((v1 && (decide (e0.time ≥ (1 : Int)))) && (decide (e0.time ≤ (1099511627776 : Int)))) == true) = true then ref04May e0.op else some default).bind fun v2 => some (((v1 && (decide (e0.time ≥ (1 : Int)))) && (decide (e0.time ≤ (1099511627776 : Int)))) && v2)))
noncomputable def opType (k0 : Int) : Option Int :=
  ((opXof k0).bind fun v1 => some v1.1.leaf)
noncomputable def slicesEqualString (s10 : (List Str)) (s21 : (List Str)) : Option Bool :=
  (if (((s10).length : Int) != ((s21).length : Int)) = true then some false else (lp (loopL (fun (n1 : Nat) (x1 : Str) (s1 : Unit) => (((idx s21 (n1 : Int)).bind fun y10 => (if (!(x1 == y10)) = true then some (.ret false) else some (.nxt ()))) : Option (Out _ Unit))) s10 0 ()) fun (s1 : Unit) => some true))
noncomputable def slicesEqualDot (s10 : (List GDot)) (s21 : (List GDot)) : Option Bool :=
  (if (((s10).length : Int) != ((s21).length : Int)) = true then some false else (lp (loopL (fun (n1 : Nat) (x1 : GDot) (s1 : Unit) => (((idx s21 (n1 : Int)).bind fun y10 => (if (!(x1.actor.rep == y10.actor.rep && (x1.actor.inc == y10.actor.inc && (x1.seq == y10.seq && true)))) = true then some (.ret false) else some (.nxt ()))) : Option (Out _ Unit))) s10 0 ()) fun (s1 : Unit) => some true))
noncomputable def opSame (a0 : GOp) (b1 : GOp) : Option Bool :=
  ((if ((a0.kind == b1.kind) == true) = true then slicesEqualString a0.path b1.path else some default).bind fun v1 => ((if (((((a0.kind == b1.kind) && v1) && (a0.n == b1.n)) && (a0.text == b1.text)) == true) = true then slicesEqualDot a0.dots b1.dots else some default).bind fun v2 => some (((((a0.kind == b1.kind) && v1) && (a0.n == b1.n)) && (a0.text == b1.text)) && v2)))
noncomputable def ref04Same (a0 : GOp) (b1 : GOp) : Option Bool :=
  (if (((((a0.kind != b1.kind) || (a0.n != b1.n)) || (!(a0.text == b1.text))) || (((a0.path).length : Int) != ((b1.path).length : Int))) || (((a0.dots).length : Int) != ((b1.dots).length : Int))) = true then some false else (lp (loopL (fun (n1 : Nat) (x1 : Str) (s1 : Unit) => (((idx b1.path (n1 : Int)).bind fun y24 => (if (!(x1 == y24)) = true then some (.ret false) else some (.nxt ()))) : Option (Out _ Unit))) a0.path 0 ()) fun (s1 : Unit) => (lp (loopL (fun (n2 : Nat) (x2 : GDot) (s2 : Unit) => (((idx b1.dots (n2 : Int)).bind fun y44 => (if (!(x2.actor.rep == y44.actor.rep && (x2.actor.inc == y44.actor.inc && (x2.seq == y44.seq && true)))) = true then some (.ret false) else some (.nxt ()))) : Option (Out _ Unit))) a0.dots 0 ()) fun (s2 : Unit) => some true)))
noncomputable def law04OpMay (a0 : GEvent) (b1 : GOp) (s2 : Str) : Option Bool :=
  ((law04Xgreat a0.op).bind fun v1 => ((if (v1 == false) = true then law04Xgreat b1 else some default).bind fun v2 => (if ((v1 || v2) || (decide (((s2).length : Int) > (100 : Int)))) = true then ((law04Xknown).bind fun v5 => some v5) else ((opIsName s2).bind fun v6 => ((ref04IsName s2).bind fun v7 => ((if ((v6 == v7) == true) = true then opMayPath a0.op.path else some default).bind fun v8 => ((if ((v6 == v7) == true) = true then ref04MayPath a0.op.path else some default).bind fun v9 => ((if (((v6 == v7) && (v8 == v9)) == true) = true then opMay a0.op else some default).bind fun v10 => ((if (((v6 == v7) && (v8 == v9)) == true) = true then ref04May a0.op else some default).bind fun v11 => ((if ((((v6 == v7) && (v8 == v9)) && (v10 == v11)) == true) = true then opMayEvent a0 else some default).bind fun v12 => ((if ((((v6 == v7) && (v8 == v9)) && (v10 == v11)) == true) = true then ref04MayEvent a0 else some default).bind fun v13 => ((if (((((v6 == v7) && (v8 == v9)) && (v10 == v11)) && (v12 == v13)) == true) = true then opType b1.kind else some default).bind fun v14 => ((if (((((v6 == v7) && (v8 == v9)) && (v10 == v11)) && (v12 == v13)) == true) = true then ref04Type b1.kind else some default).bind fun v15 => ((if ((((((v6 == v7) && (v8 == v9)) && (v10 == v11)) && (v12 == v13)) && (v14 == v15)) == true) = true then opSame a0.op b1 else some default).bind fun v16 => ((if ((((((v6 == v7) && (v8 == v9)) && (v10 == v11)) && (v12 == v13)) && (v14 == v15)) == true) = true then ref04Same a0.op b1 else some default).bind fun v17 => ((if (((((((v6 == v7) && (v8 == v9)) && (v10 == v11)) && (v12 == v13)) && (v14 == v15)) && (v16 == v17)) == true) = true then opSame b1 b1 else some default).bind fun v18 => ((if ((((((((v6 == v7) && (v8 == v9)) && (v10 == v11)) && (v12 == v13)) && (v14 == v15)) && (v16 == v17)) && v18) == true) = true then law04Xknown else some default).bind fun v19 => some ((((((((v6 == v7) && (v8 == v9)) && (v10 == v11)) && (v12 == v13)) && (v14 == v15)) && (v16 == v17)) && v18) && v19))))))))))))))))))
end Go.Vv
