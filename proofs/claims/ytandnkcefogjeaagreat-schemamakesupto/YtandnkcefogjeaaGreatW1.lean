/- Each function that the law reaches computes what its reading says; printed by a program. -/
import Derived.Test.YtandnkcefogjeaaGreatVvSh
import Derived.Test.YtandnkcefogjeaaGreatVvMl
import Derived.Test.YtandnkcefogjeaaGreatVvRb
import Derived.Test.YtandnkcefogjeaaGreatVvSo
import Derived.Test.YtandnkcefogjeaaGreatVvPt
import Derived.Test.YtandnkcefogjeaaGreatVvIn
import Derived.Test.YtandnkcefogjeaaGreatVvZ
import Derived.Test.YtandnkcefogjeaaGreatVvAn
import Derived.Test.YtandnkcefogjeaaGreatVvLb
import Derived.Test.YtandnkcefogjeaaGreatVvLc
import Derived.Test.YtandnkcefogjeaaGreatVvMr
import Derived.Test.YtandnkcefogjeaaGreatVvIt
import Derived.Test.YtandnkcefogjeaaGreatVvRd
import Derived.Test.YtandnkcefogjeaaGreatD
import Derived.Test.YtandnkcefogjeaaGreatProg
namespace Go.Vv
open Go Go.Proofs
set_option maxRecDepth 100000
set_option synthInstance.maxSize 100000
set_option synthInstance.maxHeartbeats 1000000
set_option maxHeartbeats 1000000
set_option linter.unusedSimpArgs false
set_option linter.unusedVariables false
section
variable {v a0 a1 a2 a3 a4 a5 a6 a7 a8 a9 a10 a11 a12 a13 a14 a15 a16 a17 a18 a19 a20 a21 a22 a23 a24 a25 a26 a27 a28 a29 a30 a31 a32 a33 a34 a35 a36 a37 a38 a39:AV} {r q:List AV} {t:Nat}
theorem gt0:yz (a0::r) (.tmp 0)=some a0:=rfl
theorem st0:dso (some 0) (a0::r) v=some (v::r):=rfl
theorem gt1:yz (a0::a1::r) (.tmp 1)=some a1:=rfl
theorem st1:dso (some 1) (a0::a1::r) v=some (a0::v::r):=rfl
theorem gt3:yz (a0::a1::a2::a3::r) (.tmp 3)=some a3:=rfl
theorem st3:dso (some 3) (a0::a1::a2::a3::r) v=some (a0::a1::a2::v::r):=rfl
theorem gt4:yz (a0::a1::a2::a3::a4::r) (.tmp 4)=some a4:=rfl
theorem st4:dso (some 4) (a0::a1::a2::a3::a4::r) v=some (a0::a1::a2::a3::v::r):=rfl
theorem gt5:yz (a0::a1::a2::a3::a4::a5::r) (.tmp 5)=some a5:=rfl
theorem st5:dso (some 5) (a0::a1::a2::a3::a4::a5::r) v=some (a0::a1::a2::a3::a4::v::r):=rfl
theorem gt6:yz (a0::a1::a2::a3::a4::a5::a6::r) (.tmp 6)=some a6:=rfl
theorem st6:dso (some 6) (a0::a1::a2::a3::a4::a5::a6::r) v=some (a0::a1::a2::a3::a4::a5::v::r):=rfl
theorem gt7:yz (a0::a1::a2::a3::a4::a5::a6::a7::r) (.tmp 7)=some a7:=rfl
theorem st7:dso (some 7) (a0::a1::a2::a3::a4::a5::a6::a7::r) v=some (a0::a1::a2::a3::a4::a5::a6::v::r):=rfl
theorem gt10:yz (a0::a1::a2::a3::a4::a5::a6::a7::a8::a9::a10::r) (.tmp 10)=some a10:=rfl
theorem st10:dso (some 10) (a0::a1::a2::a3::a4::a5::a6::a7::a8::a9::a10::r) v=some (a0::a1::a2::a3::a4::a5::a6::a7::a8::a9::v::r):=rfl
theorem gt28:yz (a0::a1::a2::a3::a4::a5::a6::a7::a8::a9::a10::a11::a12::a13::a14::a15::a16::a17::a18::a19::a20::a21::a22::a23::a24::a25::a26::a27::a28::r) (.tmp 28)=some a28:=rfl
theorem st28:dso (some 28) (a0::a1::a2::a3::a4::a5::a6::a7::a8::a9::a10::a11::a12::a13::a14::a15::a16::a17::a18::a19::a20::a21::a22::a23::a24::a25::a26::a27::a28::r) v=some (a0::a1::a2::a3::a4::a5::a6::a7::a8::a9::a10::a11::a12::a13::a14::a15::a16::a17::a18::a19::a20::a21::a22::a23::a24::a25::a26::a27::v::r):=rfl
theorem gt38:yz (a0::a1::a2::a3::a4::a5::a6::a7::a8::a9::a10::a11::a12::a13::a14::a15::a16::a17::a18::a19::a20::a21::a22::a23::a24::a25::a26::a27::a28::a29::a30::a31::a32::a33::a34::a35::a36::a37::a38::r) (.tmp 38)=some a38:=rfl
theorem st38:dso (some 38) (a0::a1::a2::a3::a4::a5::a6::a7::a8::a9::a10::a11::a12::a13::a14::a15::a16::a17::a18::a19::a20::a21::a22::a23::a24::a25::a26::a27::a28::a29::a30::a31::a32::a33::a34::a35::a36::a37::a38::r) v=some (a0::a1::a2::a3::a4::a5::a6::a7::a8::a9::a10::a11::a12::a13::a14::a15::a16::a17::a18::a19::a20::a21::a22::a23::a24::a25::a26::a27::a28::a29::a30::a31::a32::a33::a34::a35::a36::a37::v::r):=rfl
end
def fvOp:Nat->AV
  | 1=>.fn (.func 124) [] []
  | 2=>.fn (.func 125) [] []
  | 3=>.fn (.func 126) [] []
  | _=>.nilf
def fnOp:Nat->FuncId
  | 1=>124
  | 2=>125
  | 3=>126
  | _=>0
theorem fvlOp (c n m:Nat):(fvOp c).low n m=true:=by unfold fvOp;split <;> rfl
theorem fvtOp (P:Program) (t:TypeId) (c:Nat):tyfix P t (fvOp c)=fvOp c:=by unfold fvOp;split <;> rfl
abbrev GField.row (x:GField):List AV:=[.sl 1 (x.path.map zC),.int .u8 x.types,.int .i64 x.min,.int .i64 x.max,.int .i64 x.items]
abbrev GActor.row (x:GActor):List AV:=[.int .u8 x.rep,.int .u32 x.inc]
abbrev GDot.row (x:GDot):List AV:=[.int .u8 x.actor.rep,.int .u32 x.actor.inc,.int .u64 x.seq]
abbrev GItem.row (x:GItem):List AV:=[.int .u64 x.time,.int .u8 x.dot.actor.rep,.int .u32 x.dot.actor.inc,.int .u64 x.dot.seq,.str x.text]
abbrev GLeaf.row (x:GLeaf):List AV:=[.int .u8 x.typ,.int .i64 x.n,.int .u64 x.time,.int .u8 x.dot.actor.rep,.int .u32 x.dot.actor.inc,.int .u64 x.dot.seq,.str x.text,.sl 5 (x.items.map GItem.row),.sl 3 (x.tombs.map GDot.row)]
mutual
def GNode.row:GNode->List AV
  | ⟨name,leaves,subs⟩=>[.str name,.sl 9 (leaves.map GLeaf.row),.sl 3 (GNode.rows subs)]
def GNode.rows:List GNode->List (List AV)
  | []=>[]
  | x::r=>x.row::GNode.rows r
end
theorem GNode.rows_eq (l:List GNode):GNode.rows l=l.map GNode.row:=by
  induction l with
  | nil=>rfl
  | cons x r ih=>simp only [GNode.rows,List.map_cons,ih]
theorem GNode.row_eq (x:GNode):x.row=[.str x.name,.sl 9 (x.leaves.map GLeaf.row),.sl 3 (x.subs.map GNode.row)]:=by
  cases x;simp only [GNode.row,GNode.rows_eq]
abbrev GOp.row (x:GOp):List AV:=[.int .u8 x.kind,.sl 1 (x.path.map zC),.int .i64 x.n,.str x.text,.sl 3 (x.dots.map GDot.row)]
abbrev GOpKind.row (x:GOpKind):List AV:=[.int .u8 x.leaf,fvOp x.may]
abbrev GEvent.row (x:GEvent):List AV:=[.int .u8 x.dot.actor.rep,.int .u32 x.dot.actor.inc,.int .u64 x.dot.seq,.int .u64 x.time,.int .u8 x.op.kind,.sl 1 (x.op.path.map zC),.int .i64 x.op.n,.str x.op.text,.sl 3 (x.op.dots.map GDot.row)]
abbrev GRow.row (x:GRow):List AV:=[.sl 1 (x.path.map zC),.int .u8 x.leaf.typ,.int .i64 x.leaf.n,.int .u64 x.leaf.time,.int .u8 x.leaf.dot.actor.rep,.int .u32 x.leaf.dot.actor.inc,.int .u64 x.leaf.dot.seq,.str x.leaf.text,.sl 5 (x.leaf.items.map GItem.row),.sl 3 (x.leaf.tombs.map GDot.row)]
abbrev GBreach.row (x:GBreach):List AV:=[.sl 1 (x.path.map zC),.int .u8 x.typ,.int .i64 x.e]
abbrev GVarveref07Row.row (x:GVarveref07Row):List AV:=[.sl 1 (x.path.map zC),.int .u8 x.l.typ,.int .i64 x.l.n,.int .u64 x.l.time,.int .u8 x.l.dot.actor.rep,.int .u32 x.l.dot.actor.inc,.int .u64 x.l.dot.seq,.str x.l.text,.sl 5 (x.l.items.map GItem.row),.sl 3 (x.l.tombs.map GDot.row)]
abbrev GEdit.row (x:GEdit):List AV:=[.sl 1 (x.path.map zC),.int .u8 x.typ,.bool x.had,.bool x.has,.int .u8 x.was.typ,.int .i64 x.was.n,.int .u64 x.was.time,.int .u8 x.was.dot.actor.rep,.int .u32 x.was.dot.actor.inc,.int .u64 x.was.dot.seq,.str x.was.text,.sl 5 (x.was.items.map GItem.row),.sl 3 (x.was.tombs.map GDot.row),.int .u8 x.is.typ,.int .i64 x.is.n,.int .u64 x.is.time,.int .u8 x.is.dot.actor.rep,.int .u32 x.is.dot.actor.inc,.int .u64 x.is.dot.seq,.str x.is.text,.sl 5 (x.is.items.map GItem.row),.sl 3 (x.is.tombs.map GDot.row)]
instance el22:El Tryz.prog 22 52 5:=mkEl Tryz.underlying22 (by kernel_rfl)
instance fo52x0:Fo Tryz.prog 52 0 0 31 1:=xY (by kernel_rfl) (by kernel_rfl)
instance ty31:Ty Tryz.prog 31 (.slice 9) 1:=qQ Tryz.underlying31 (by kernel_rfl)
instance el31:El Tryz.prog 31 9 1:=mkEl Tryz.underlying31 (by kernel_rfl)
instance ty9:Ty Tryz.prog 9 .string 1:=qQ Tryz.underlying9 (by kernel_rfl)
instance el24:El Tryz.prog 24 58 3:=mkEl Tryz.underlying24 (by kernel_rfl)
theorem mixed:Tryz.prog.follows .mixedOrders=true:=by kernel_rfl
instance fo58x0:Fo Tryz.prog 58 0 0 9 1:=xY (by kernel_rfl) (by kernel_rfl)
instance fo58x2:Fo Tryz.prog 58 2 2 24 1:=xY (by kernel_rfl) (by kernel_rfl)
instance ty24:Ty Tryz.prog 24 (.slice 58) 1:=qQ Tryz.underlying24 (by kernel_rfl)
instance fo58x1:Fo Tryz.prog 58 1 1 56 1:=xY (by kernel_rfl) (by kernel_rfl)
instance ty56:Ty Tryz.prog 56 (.slice 55) 1:=qQ Tryz.underlying56 (by kernel_rfl)
instance el56:El Tryz.prog 56 55 9:=mkEl Tryz.underlying56 (by kernel_rfl)
theorem ty55:∃d,Ty Tryz.prog 55 d 9/\z7 d=true:=⟨_,qQ Tryz.underlying55 (by kernel_rfl),by kernel_rfl⟩
instance:TA Tryz.prog 55 9:=⟨ty55⟩
abbrev xk:List AV:=[.int .u8 (0:Int),.int .i64 (0:Int),.int .u64 (0:Int),.int .u8 (0:Int),.int .u32 (0:Int),.int .u64 (0:Int),.str ([]:zk),.osl none 5 (([]:List GItem).map GItem.row),.osl none 3 (([]:List GDot).map GDot.row)]
abbrev xj:List (AV×AV):=[(.int .u8 1,.fn (.func 110) [] []),(.int .u8 2,.fn (.func 111) [] []),(.int .u8 3,.fn (.func 112) [] []),(.int .u8 4,.fn (.func 113) [] []),(.int .u8 5,.fn (.func 114) [] [])]
abbrev lit2x:List AV:=[.osl none 1 [],.int .u8 0,.int .i64 0,.int .u64 0,.int .u8 0,.int .u32 0,.int .u64 0,.str [],.osl none 5 [],.osl none 3 []]
abbrev lit3x:List AV:=[.int .u8 0,.int .i64 0,.int .u64 0,.int .u8 0,.int .u32 0,.int .u64 0,.str [],.osl none 5 [],.osl none 3 []]
abbrev lit4x:List AV:=[.str ([]:zk),.osl none 9 (([]:List GLeaf).map GLeaf.row),.osl none 3 (([]:List GNode).map GNode.row)]
abbrev lit5x:List AV:=[.osl none 1 [],.int .u8 0,.bool false,.bool false,.int .u8 0,.int .i64 0,.int .u64 0,.int .u8 0,.int .u32 0,.int .u64 0,.str [],.osl none 5 [],.osl none 3 [],.int .u8 0,.int .i64 0,.int .u64 0,.int .u8 0,.int .u32 0,.int .u64 0,.str [],.osl none 5 [],.osl none 3 []]
abbrev lit6x:List AV:=[.int .u8 (0:Int),.int .u32 (0:Int),.int .u64 (0:Int)]
theorem qE:xq Tryz.prog 55=some lit3x:=by kernel_rfl
instance:ZE Tryz.prog 55 lit3x:=⟨qE⟩
instance fo55x4:Fo Tryz.prog 55 4 6 9 1:=xY (by kernel_rfl) (by kernel_rfl)
instance fo55x6:Fo Tryz.prog 55 6 8 32 1:=xY (by kernel_rfl) (by kernel_rfl)
instance ty32:Ty Tryz.prog 32 (.slice 30) 1:=qQ Tryz.underlying32 (by kernel_rfl)
instance el32:El Tryz.prog 32 30 3:=mkEl Tryz.underlying32 (by kernel_rfl)
instance fo55x5:Fo Tryz.prog 55 5 7 53 1:=xY (by kernel_rfl) (by kernel_rfl)
instance ty53:Ty Tryz.prog 53 (.slice 115) 1:=qQ Tryz.underlying53 (by kernel_rfl)
instance el53:El Tryz.prog 53 115 5:=mkEl Tryz.underlying53 (by kernel_rfl)
instance fo115x2:Fo Tryz.prog 115 2 4 9 1:=xY (by kernel_rfl) (by kernel_rfl)
instance fo34x4:Fo Tryz.prog 34 4 4 32 1:=xY (by kernel_rfl) (by kernel_rfl)
instance fo34x1:Fo Tryz.prog 34 1 1 31 1:=xY (by kernel_rfl) (by kernel_rfl)
instance fo34x3:Fo Tryz.prog 34 3 3 9 1:=xY (by kernel_rfl) (by kernel_rfl)
noncomputable def sf58:Array Field:=match Tryz.prog.underlying 58 with | some (.struct fs)=>fs | _=>#[]
theorem su58:Tryz.prog.underlying 58=some (.struct sf58):=by kernel_rfl
theorem ze58:xq Tryz.prog 58=some [.str [],.osl none 9 [],.osl none 3 []]:=by kernel_rfl
instance:ZE Tryz.prog 58 [.str [],.osl none 9 [],.osl none 3 []]:=⟨ze58⟩
theorem pl58:xX Tryz.prog sf58=some [(0,1),(1,1),(2,1)]:=by kernel_rfl
instance fo27x0:Fo Tryz.prog 27 0 0 5 1:=xY (by kernel_rfl) (by kernel_rfl)
instance ty5:Ty Tryz.prog 5 (.int .u8) 1:=qQ Tryz.underlying5 (by kernel_rfl)
instance fo27x1:Fo Tryz.prog 27 1 1 25 1:=xY (by kernel_rfl) (by kernel_rfl)
instance ty25:Ty Tryz.prog 25 (.int .u32) 1:=qQ Tryz.underlying25 (by kernel_rfl)
instance fo30x0:Fo Tryz.prog 30 0 0 27 2:=xY (by kernel_rfl) (by kernel_rfl)
theorem ty27:∃d,Ty Tryz.prog 27 d 2/\z7 d=true:=⟨_,qQ Tryz.underlying27 (by kernel_rfl),by kernel_rfl⟩
instance:TA Tryz.prog 27 2:=⟨ty27⟩
instance fo30x1:Fo Tryz.prog 30 1 2 28 1:=xY (by kernel_rfl) (by kernel_rfl)
instance ty28:Ty Tryz.prog 28 (.int .u64) 1:=qQ Tryz.underlying28 (by kernel_rfl)
instance fo34x2:Fo Tryz.prog 34 2 2 2 1:=xY (by kernel_rfl) (by kernel_rfl)
instance ty2:Ty Tryz.prog 2 (.int .i64) 1:=qQ Tryz.underlying2 (by kernel_rfl)
instance el189:El Tryz.prog 189 3 1:=mkEl Tryz.underlying189 (by kernel_rfl)
instance ty3:Ty Tryz.prog 3 (.int .i64) 1:=qQ Tryz.underlying3 (by kernel_rfl)
theorem ze3:xq Tryz.prog 3=some [.int .i64 0]:=by kernel_rfl
instance:ZE Tryz.prog 3 [.int .i64 0]:=⟨ze3⟩
theorem ty30:∃d,Ty Tryz.prog 30 d 3/\z7 d=true:=⟨_,qQ Tryz.underlying30 (by kernel_rfl),by kernel_rfl⟩
instance:TA Tryz.prog 30 3:=⟨ty30⟩
theorem ze30:xq Tryz.prog 30=some [.int .u8 0,.int .u32 0,.int .u64 0]:=by kernel_rfl
instance:ZE Tryz.prog 30 [.int .u8 0,.int .u32 0,.int .u64 0]:=⟨ze30⟩
theorem ze118:xq Tryz.prog 118=some [.int .u8 0,.nilf]:=by kernel_rfl
instance:ZE Tryz.prog 118 [.int .u8 0,.nilf]:=⟨ze118⟩
noncomputable def sf118:Array Field:=match Tryz.prog.underlying 118 with | some (.struct fs)=>fs | _=>#[]
theorem su118:Tryz.prog.underlying 118=some (.struct sf118):=by kernel_rfl
theorem pl118:xX Tryz.prog sf118=some [(0,1),(1,1)]:=by kernel_rfl
instance ty158:Ty Tryz.prog 158 (.array 6 118) 12:=qQ Tryz.underlying158 (by kernel_rfl)
theorem ze158:xq Tryz.prog 158=some [.int .u8 0,.nilf,.int .u8 0,.nilf,.int .u8 0,.nilf,.int .u8 0,.nilf,.int .u8 0,.nilf,.int .u8 0,.nilf]:=by kernel_rfl
instance:ZE Tryz.prog 158 [.int .u8 0,.nilf,.int .u8 0,.nilf,.int .u8 0,.nilf,.int .u8 0,.nilf,.int .u8 0,.nilf,.int .u8 0,.nilf]:=⟨ze158⟩
theorem ty118:∃d,Ty Tryz.prog 118 d 2/\z7 d=true:=⟨_,qQ Tryz.underlying118 (by kernel_rfl),by kernel_rfl⟩
instance:TA Tryz.prog 118 2:=⟨ty118⟩
instance ty4:Ty Tryz.prog 4 .bool 1:=qQ Tryz.underlying4 (by kernel_rfl)
instance fo34x0:Fo Tryz.prog 34 0 0 5 1:=xY (by kernel_rfl) (by kernel_rfl)
instance fo118x1:Fo Tryz.prog 118 1 1 104 1:=xY (by kernel_rfl) (by kernel_rfl)
instance ty104:Ty Tryz.prog 104 (.func #[34] #[4] false) 1:=qQ Tryz.underlying104 (by kernel_rfl)
theorem ty34:∃d,Ty Tryz.prog 34 d 5/\z7 d=true:=⟨_,qQ Tryz.underlying34 (by kernel_rfl),by kernel_rfl⟩
instance:TA Tryz.prog 34 5:=⟨ty34⟩
instance fo36x0:Fo Tryz.prog 36 0 0 30 3:=xY (by kernel_rfl) (by kernel_rfl)
instance fo36x1:Fo Tryz.prog 36 1 3 28 1:=xY (by kernel_rfl) (by kernel_rfl)
instance fo36x2:Fo Tryz.prog 36 2 4 34 5:=xY (by kernel_rfl) (by kernel_rfl)
theorem ty58:∃d,Ty Tryz.prog 58 d 3/\z7 d=true:=⟨_,qQ Tryz.underlying58 (by kernel_rfl),by kernel_rfl⟩
instance:TA Tryz.prog 58 3:=⟨ty58⟩
theorem ze115:xq Tryz.prog 115=some [.int .u64 0,.int .u8 0,.int .u32 0,.int .u64 0,.str []]:=by kernel_rfl
instance:ZE Tryz.prog 115 [.int .u64 0,.int .u8 0,.int .u32 0,.int .u64 0,.str []]:=⟨ze115⟩
instance ty172:Ty Tryz.prog 172 (.int .u64) 1:=qQ Tryz.underlying172 (by kernel_rfl)
instance fo55x0:Fo Tryz.prog 55 0 0 5 1:=xY (by kernel_rfl) (by kernel_rfl)
instance el23:El Tryz.prog 23 58 3:=mkEl Tryz.underlying23 (by kernel_rfl)
noncomputable def sf55:Array Field:=match Tryz.prog.underlying 55 with | some (.struct fs)=>fs | _=>#[]
theorem su55:Tryz.prog.underlying 55=some (.struct sf55):=by kernel_rfl
theorem pl55:xX Tryz.prog sf55=some [(0,1),(1,1),(2,1),(3,3),(6,1),(7,1),(8,1)]:=by kernel_rfl
instance fo118x0:Fo Tryz.prog 118 0 0 5 1:=xY (by kernel_rfl) (by kernel_rfl)
theorem ty115:∃d,Ty Tryz.prog 115 d 5/\z7 d=true:=⟨_,qQ Tryz.underlying115 (by kernel_rfl),by kernel_rfl⟩
instance:TA Tryz.prog 115 5:=⟨ty115⟩
instance fo115x1:Fo Tryz.prog 115 1 1 30 3:=xY (by kernel_rfl) (by kernel_rfl)
noncomputable def sf30:Array Field:=match Tryz.prog.underlying 30 with | some (.struct fs)=>fs | _=>#[]
theorem su30:Tryz.prog.underlying 30=some (.struct sf30):=by kernel_rfl
theorem pk30:PK Tryz.prog 30 [.i,.i,.i]:=mkPK (by kernel_rfl) (by kernel_rfl) (by kernel_rfl)
theorem kq30:KQ Tryz.prog 30 (λx=>AV.agg (GDot.row x)) GDot.eqb:=.struct su30 pk30 (λ_ _=>rfl) (λa=>by simp [GDot.eqb])
theorem az3:aZeroM Tryz.prog 3=some ((AV.int .i64) (0:Int)):=by kernel_rfl
instance fo115x0:Fo Tryz.prog 115 0 0 28 1:=xY (by kernel_rfl) (by kernel_rfl)
theorem pk115:PK Tryz.prog 115 [.i,.i,.i,.i,.s]:=mkPK (by kernel_rfl) (by kernel_rfl) (by kernel_rfl)
instance fo55x1:Fo Tryz.prog 55 1 1 2 1:=xY (by kernel_rfl) (by kernel_rfl)
instance fo55x2:Fo Tryz.prog 55 2 2 28 1:=xY (by kernel_rfl) (by kernel_rfl)
instance fo55x3:Fo Tryz.prog 55 3 3 30 3:=xY (by kernel_rfl) (by kernel_rfl)
theorem pl30:xX Tryz.prog sf30=some [(0,2),(2,1)]:=by kernel_rfl
theorem ty36:∃d,Ty Tryz.prog 36 d 9/\z7 d=true:=⟨_,qQ Tryz.underlying36 (by kernel_rfl),by kernel_rfl⟩
instance:TA Tryz.prog 36 9:=⟨ty36⟩
noncomputable def sf148:Array Field:=match Tryz.prog.underlying 148 with | some (.struct fs)=>fs | _=>#[]
theorem su148:Tryz.prog.underlying 148=some (.struct sf148):=by kernel_rfl
theorem ze148:xq Tryz.prog 148=some lit3x:=by kernel_rfl
instance:ZE Tryz.prog 148 lit3x:=⟨ze148⟩
theorem pl148:xX Tryz.prog sf148=some [(0,9)]:=by kernel_rfl
instance fo148x0:Fo Tryz.prog 148 0 0 55 9:=xY (by kernel_rfl) (by kernel_rfl)
noncomputable def sf115:Array Field:=match Tryz.prog.underlying 115 with | some (.struct fs)=>fs | _=>#[]
theorem su115:Tryz.prog.underlying 115=some (.struct sf115):=by kernel_rfl
theorem pl115:xX Tryz.prog sf115=some [(0,1),(1,3),(4,1)]:=by kernel_rfl
theorem azf143:aZeroM Tryz.prog 143=some .nilf:=by kernel_rfl
theorem ty52:∃d,Ty Tryz.prog 52 d 5/\z7 d=true:=⟨_,qQ Tryz.underlying52 (by kernel_rfl),by kernel_rfl⟩
instance:TA Tryz.prog 52 5:=⟨ty52⟩
instance fo52x1:Fo Tryz.prog 52 1 1 5 1:=xY (by kernel_rfl) (by kernel_rfl)
instance fo52x2:Fo Tryz.prog 52 2 2 2 1:=xY (by kernel_rfl) (by kernel_rfl)
instance fo52x3:Fo Tryz.prog 52 3 3 2 1:=xY (by kernel_rfl) (by kernel_rfl)
instance fo52x4:Fo Tryz.prog 52 4 4 3 1:=xY (by kernel_rfl) (by kernel_rfl)
theorem ze52:xq Tryz.prog 52=some [.osl none 1 [],.int .u8 0,.int .i64 0,.int .i64 0,.int .i64 0]:=by kernel_rfl
instance:ZE Tryz.prog 52 [.osl none 1 [],.int .u8 0,.int .i64 0,.int .i64 0,.int .i64 0]:=⟨ze52⟩
noncomputable def sf52:Array Field:=match Tryz.prog.underlying 52 with | some (.struct fs)=>fs | _=>#[]
theorem su52:Tryz.prog.underlying 52=some (.struct sf52):=by kernel_rfl
theorem pl52:xX Tryz.prog sf52=some [(0,1),(1,1),(2,1),(3,1),(4,1)]:=by kernel_rfl
theorem azf38:aZeroM Tryz.prog 38=some .nilf:=by kernel_rfl
theorem ze9:xq Tryz.prog 9=some [.str []]:=by kernel_rfl
instance:ZE Tryz.prog 9 [.str []]:=⟨ze9⟩
instance ty122:Ty Tryz.prog 122 (.func #[65] #[4] false) 1:=qQ Tryz.underlying122 (by kernel_rfl)
noncomputable def sf65:Array Field:=match Tryz.prog.underlying 65 with | some (.struct fs)=>fs | _=>#[]
theorem su65:Tryz.prog.underlying 65=some (.struct sf65):=by kernel_rfl
theorem ze65:xq Tryz.prog 65=some lit2x:=by kernel_rfl
instance:ZE Tryz.prog 65 lit2x:=⟨ze65⟩
theorem pl65:xX Tryz.prog sf65=some [(0,1),(1,9)]:=by kernel_rfl
theorem ty65:∃d,Ty Tryz.prog 65 d 10/\z7 d=true:=⟨_,qQ Tryz.underlying65 (by kernel_rfl),by kernel_rfl⟩
instance:TA Tryz.prog 65 10:=⟨ty65⟩
instance el62:El Tryz.prog 62 65 10:=mkEl Tryz.underlying62 (by kernel_rfl)
instance ty62:Ty Tryz.prog 62 (.slice 65) 1:=qQ Tryz.underlying62 (by kernel_rfl)
instance el39:El Tryz.prog 39 61 3:=mkEl Tryz.underlying39 (by kernel_rfl)
instance fo65x0:Fo Tryz.prog 65 0 0 31 1:=xY (by kernel_rfl) (by kernel_rfl)
instance fo65x1:Fo Tryz.prog 65 1 1 55 9:=xY (by kernel_rfl) (by kernel_rfl)
noncomputable def sf61:Array Field:=match Tryz.prog.underlying 61 with | some (.struct fs)=>fs | _=>#[]
theorem su61:Tryz.prog.underlying 61=some (.struct sf61):=by kernel_rfl
theorem ze61:xq Tryz.prog 61=some [.osl none 1 [],.int .u8 0,.int .i64 0]:=by kernel_rfl
instance:ZE Tryz.prog 61 [.osl none 1 [],.int .u8 0,.int .i64 0]:=⟨ze61⟩
theorem pl61:xX Tryz.prog sf61=some [(0,1),(1,1),(2,1)]:=by kernel_rfl
noncomputable def sf27:Array Field:=match Tryz.prog.underlying 27 with | some (.struct fs)=>fs | _=>#[]
theorem su27:Tryz.prog.underlying 27=some (.struct sf27):=by kernel_rfl
theorem ze27:xq Tryz.prog 27=some [.int .u8 0,.int .u32 0]:=by kernel_rfl
instance:ZE Tryz.prog 27 [.int .u8 0,.int .u32 0]:=⟨ze27⟩
theorem pl27:xX Tryz.prog sf27=some [(0,1),(1,1)]:=by kernel_rfl
noncomputable def sf34:Array Field:=match Tryz.prog.underlying 34 with | some (.struct fs)=>fs | _=>#[]
theorem su34:Tryz.prog.underlying 34=some (.struct sf34):=by kernel_rfl
theorem ze34:xq Tryz.prog 34=some [.int .u8 0,.osl none 1 [],.int .i64 0,.str [],.osl none 3 []]:=by kernel_rfl
instance:ZE Tryz.prog 34 [.int .u8 0,.osl none 1 [],.int .i64 0,.str [],.osl none 3 []]:=⟨ze34⟩
theorem pl34:xX Tryz.prog sf34=some [(0,1),(1,1),(2,1),(3,1),(4,1)]:=by kernel_rfl
noncomputable def sf36:Array Field:=match Tryz.prog.underlying 36 with | some (.struct fs)=>fs | _=>#[]
theorem su36:Tryz.prog.underlying 36=some (.struct sf36):=by kernel_rfl
theorem ze36:xq Tryz.prog 36=some [.int .u8 0,.int .u32 0,.int .u64 0,.int .u64 0,.int .u8 0,.osl none 1 [],.int .i64 0,.str [],.osl none 3 []]:=by kernel_rfl
instance:ZE Tryz.prog 36 [.int .u8 0,.int .u32 0,.int .u64 0,.int .u64 0,.int .u8 0,.osl none 1 [],.int .i64 0,.str [],.osl none 3 []]:=⟨ze36⟩
theorem pl36:xX Tryz.prog sf36=some [(0,3),(3,1),(4,5)]:=by kernel_rfl
instance fo61x2:Fo Tryz.prog 61 2 2 40 1:=xY (by kernel_rfl) (by kernel_rfl)
instance ty40:Ty Tryz.prog 40 (.int .i64) 1:=qQ Tryz.underlying40 (by kernel_rfl)
instance el92:El Tryz.prog 92 95 10:=mkEl Tryz.underlying92 (by kernel_rfl)
noncomputable def sf95:Array Field:=match Tryz.prog.underlying 95 with | some (.struct fs)=>fs | _=>#[]
theorem su95:Tryz.prog.underlying 95=some (.struct sf95):=by kernel_rfl
theorem ze95:xq Tryz.prog 95=some lit2x:=by kernel_rfl
instance:ZE Tryz.prog 95 lit2x:=⟨ze95⟩
theorem pl95:xX Tryz.prog sf95=some [(0,1),(1,9)]:=by kernel_rfl
instance fo95x0:Fo Tryz.prog 95 0 0 31 1:=xY (by kernel_rfl) (by kernel_rfl)
instance fo95x1:Fo Tryz.prog 95 1 1 55 9:=xY (by kernel_rfl) (by kernel_rfl)
instance fo69x0:Fo Tryz.prog 69 0 0 31 1:=xY (by kernel_rfl) (by kernel_rfl)
instance fo69x1:Fo Tryz.prog 69 1 1 5 1:=xY (by kernel_rfl) (by kernel_rfl)
instance el67:El Tryz.prog 67 69 22:=mkEl Tryz.underlying67 (by kernel_rfl)
theorem ty69:∃d,Ty Tryz.prog 69 d 22/\z7 d=true:=⟨_,qQ Tryz.underlying69 (by kernel_rfl),by kernel_rfl⟩
instance:TA Tryz.prog 69 22:=⟨ty69⟩
theorem ze69:xq Tryz.prog 69=some lit5x:=by kernel_rfl
instance:ZE Tryz.prog 69 lit5x:=⟨ze69⟩
instance fo69x2:Fo Tryz.prog 69 2 2 4 1:=xY (by kernel_rfl) (by kernel_rfl)
instance fo69x3:Fo Tryz.prog 69 3 3 4 1:=xY (by kernel_rfl) (by kernel_rfl)
instance fo69x4:Fo Tryz.prog 69 4 4 55 9:=xY (by kernel_rfl) (by kernel_rfl)
instance fo69x5:Fo Tryz.prog 69 5 13 55 9:=xY (by kernel_rfl) (by kernel_rfl)
noncomputable def sf69:Array Field:=match Tryz.prog.underlying 69 with | some (.struct fs)=>fs | _=>#[]
theorem su69:Tryz.prog.underlying 69=some (.struct sf69):=by kernel_rfl
theorem pl69:xX Tryz.prog sf69=some [(0,1),(1,1),(2,1),(3,1),(4,9),(13,9)]:=by kernel_rfl
instance fo61x0:Fo Tryz.prog 61 0 0 31 1:=xY (by kernel_rfl) (by kernel_rfl)
instance fo61x1:Fo Tryz.prog 61 1 1 5 1:=xY (by kernel_rfl) (by kernel_rfl)
abbrev zu (x:GLeaf) (p q:AV):List AV:=[.int .u8 x.typ,.int .i64 x.n,.int .u64 x.time,.int .u8 x.dot.actor.rep,.int .u32 x.dot.actor.inc,.int .u64 x.dot.seq,.str x.text,p,q]
theorem ok16 {u:(List GField)} {res:Bool} {h:AH}  (a:ref43Great u=some res):Spec Tryz.prog 16 [.sl 5 (u.map GField.row)] h (ya (.bool res) h):=by
 unfold ref43Great at a;refine za Tryz.func16 rfl (by kernel_rfl) (yj 41 rfl) (R.r ?_);refine zx (λ(w:Nat) (s:Unit)=>zD [1,2,4,5,6,7,8,9,10,11,12,13,14,15,16,17,18,19,20,21,22,23,24,25,26,27,28,29,30,31,32,33,34,35,36,37,38,39,40] [(3,.int .i64 (w:Int))]) (λs=>h.ext [] []) a (λ_ _=>by simp only [zD,wg,List.set_cons_succ,List.set_cons_zero];try rfl) (wk.le LEL.o) ?_;intro w s y a;refine R.r ?_;refine ln λe=>?_;replace e:=zU e;refine R.r ?_;refine zF gg a (λB C m i a g=>?_) (λa=>?_)
 ·refine R.r ?_;refine ix (zw i) (R.r ?_);refine ln λb=>?_;replace b:=zU b;refine R.r ?_;refine zc gg a (λj a=>?_) (λj a=>?_)
  ·refine R.r ?_;cases a;replace a:=g;refine R.r ?_;cases a;exact fz rfl rfl
  ·refine R.r ?_;refine zx (λ(n2:Nat) (s2:Unit)=>zD [1,2,5,6,7,8,9,10,11,12,13,14,15,16,17,18,19,20,21,22,23,24,25,26,27,28,29,30,31,32,33,34,35,36,37,38,39,40] [(4,.int .i64 (n2:Int))]) (λs2=>h.ext [] []) a (λ_ _=>by simp only [zD,wg,List.set_cons_succ,List.set_cons_zero];try rfl) (wk.le LEL.o) ?_;intro n2 s2 x a;refine R.r ?_;refine ix (zw i) (R.r ?_);refine ln λc=>?_;replace c:=zU c;refine R.r ?_;refine zF gg a (λA z p n a l=>?_) (λa=>?_)
   ·refine R.r ?_;refine ix (zw i) (R.r ?_);refine ix (zw n) (R.r ?_);refine ln λd=>?_;replace d:=zU d;refine R.r ?_;refine zc gg a (λk a=>?_) (λk a=>?_)
    ·refine R.r ?_;cases a;replace a:=l;refine R.r ?_;cases a;replace a:=g;refine R.r ?_;cases a;exact fz rfl rfl
    ·refine R.r ?_;cases a;exact ⟨(),p,l,wk.le (by exact (.eq (.drop (.drop (.eq (.cons (leV.of_eq (yL (by omega) (by omega))) (.d16 (.d16 (.d4 leL.nil)))))))))⟩
   ·refine R.r ?_;cases a;exact ⟨(),m,g,wk.le (by exact (.eq (.drop (.drop (.cons (leV.of_eq (yL (by omega) (by omega))) (.d16 (.d16 (.d4 (.drop leL.nil)))))))))⟩
 ·refine R.r ?_;refine ln λf=>?_;replace f:=zU f;refine R.r ?_;cases a;exact fz rfl rfl
theorem ok42N (n:Nat):∀{t0:(List GNode)} {b:Int} {res:Int} {h:AH} , xy n t0 b=some res->Spec Tryz.prog 42 [.sl 3 (t0.map GNode.row),.int .i64 b] h (ya (.int .i64 res) h):=by
 induction n with
 | zero=>intro t0 b res h  a;simp [xy] at a
 | succ n ih =>
  intro t0 b res h  a;unfold xy at a;refine za Tryz.func42 rfl (by kernel_rfl) (yj 84 rfl) (R.r ?_);refine xQ (λ(u:Int×Int)=>zD [2,3,4,7,8,9,10,11,12,13,14,15,16,17,18,19,20,21,22,23,24,25,26,27,28,29,30,31,32,33,34,35,36,37,38,39,40,41,42,43,44,45,46,47,48,49,50,51,52,53,54,55,56,57,58,59,60,61,62,63,64,65,66,67,68,69,70,71,72,73,74,75,76,77,78,79,80,81,82,83] [(5,.int .i64 u.1),(6,.int .i64 u.2)]) (λu=>h.ext [] []) a (λ_=>by simp only [zD,wg,List.set_cons_succ,List.set_cons_zero];try rfl) (wk.le LEL.o) ?_;intro Q u S a p;refine R.r ?_;refine ln λi=>?_;replace i:=zU i;refine R.r ?_;refine zc gg a (λy a=>?_) (λy a=>?_)
  ·refine R.r ?_;refine zt [16] [] trivial mixed (by kernel_rfl) (R.r ?_);refine zf a (λJ A a=>zz rfl rfl (yc rfl el24 gg gg isl A (GNode.row_eq _)) ss ?_);refine R.r ?_;refine vO rfl rfl (s_lenStr rfl rfl rfl rfl ty9 gg) ss (R.r ?_);refine zf a (λM s a=>zz rfl rfl (yc rfl el24 gg gg isl s (GNode.row_eq _)) ss ?_);refine R.r ?_;refine zf a (λK B a=>zy rfl rfl (λ_=>sc rfl) (by rintro _ ⟨B2,T2,rfl,N⟩;exact ih B) ss ?_);refine R.r ?_;refine xQ (λ(s2:Int×Int)=>zD [2,3,4,8,9,10,11,12,13,14,15,16,17,18,19,20,21,22,23,24,25,26,27,28,29,30,31,32,33,34,35,36,37,38,39,40,41,42,43,44,45,46,47,48,49,50,51,52,53,54,55,56,57,58,59,60,61,62,63,64,65,66,67,68,69,70,71,72,73,74,75,76,77,78,79,80,81,82,83] [(5,.int .i64 s2.1),(7,.int .i64 s2.2)]) (λs2=>h.ext [] []) a (λ_=>by simp only [zD,wg,List.set_cons_succ,List.set_cons_zero];try rfl) (wk.le LEL.o) ?_;intro n2 s2 O a w;refine R.r ?_;refine zf a (λG k a=>zd rfl (yc rfl el24 gg gg isl k (GNode.row_eq _)) ss ?_);refine R.r ?_;refine ln λf=>?_;replace f:=zU f;refine R.r ?_;refine zc gg a (λl a=>?_) (λl a=>?_)
   ·refine R.r ?_;refine zf a (λH m a=>zd rfl (yc rfl el24 gg gg isl m (GNode.row_eq _)) ss ?_);refine R.r ?_;refine zf a (λx j a=>ix j ?_);refine R.r ?_;refine ln λe=>?_;replace e:=zU e;refine R.r ?_;refine ln λd=>?_;replace d:=zU d;refine R.r ?_;refine zx (λ(F:Nat) (z:Int)=>zD [2,3,4,10,11,12,13,14,15,16,17,18,19,20,21,22,23,24,25,26,27,28,29,30,31,32,33,34,35,36,37,38,39,40,41,42,43,44,45,46,47,48,49,50,51,52,53,54,55,56,57,58,59,60,61,62,63,64,65,66,67,68,69,70,71,72,73,74,75,76,77,78,79,80,81,82,83] [(5,.int .i64 z),(9,.int .i64 (F:Int))]) (λz=>h.ext [.cells (GLeaf.row x)] []) a (λ_ _=>by simp only [zD,wg,List.set_cons_succ,List.set_cons_zero];try rfl) (wk.le LEL.o) ?_;intro F z I a;refine R.r ?_;refine ln λc=>?_;replace c:=zU c;refine R.r ?_;refine zF gg a (λL P E C a D=>?_) (λa=>?_)
    ·refine R.r ?_;refine ix (zw C) (R.r ?_);refine ln λg=>?_;replace g:=zU g;refine R.r ?_;cases a;exact ⟨(IntKind.wrap .i64 ((IntKind.wrap .i64 (z+(1:Int)))+((L.text).length:Int))),E,D,wk.le (by exact (.eq (.eq (.drop (.drop (.drop (.cons (leV.of_eq rfl) (.eq (.eq (.eq (.cons (leV.of_eq (yL (by omega) (by omega))) (.d16 (.d16 (.d16 (.d16 (.d4 (.d4 (.drop (.drop leL.nil)))))))))))))))))))⟩
    ·refine R.r ?_;cases a;exact ⟨(z,(IntKind.wrap .i64 (s2.2+(1:Int)))),w,wk.trans (wk.le LEL.o) (yl (by simp [zB,AV.low]) rfl rfl (by simp [Blk.low,zB,AV.low]))⟩
   ·refine R.r ?_;cases a;replace a:=w;refine R.r ?_;cases a;exact ⟨(s2.1,(IntKind.wrap .i64 (u.2+(1:Int)))),p,wk.le LEL.o⟩
  ·refine R.r ?_;cases a;replace a:=p;refine R.r ?_;cases a;exact fz rfl rfl
theorem ok42 {t0:(List GNode)} {a:Int} {res:Int} {h:AH}  (b:ref07Xsize t0 a=some res):Spec Tryz.prog 42 [.sl 3 (t0.map GNode.row),.int .i64 a] h (ya (.int .i64 res) h):=by
 obtain ⟨n,c⟩:=vY b;exact ok42N n c
theorem ok17 {t0:(List GNode)} {res:Bool} {h:AH}  (a:ref07Great t0=some res):Spec Tryz.prog 17 [.sl 3 (t0.map GNode.row)] h (ya (.bool res) h):=by
 unfold ref07Great at a;refine za Tryz.func17 rfl (by kernel_rfl) (yj 6 rfl) (R.r ?_);refine zf a (λc b a=>cp (ok42 b) ?_);refine R.r ?_;cases a;exact fz rfl rfl
theorem ok4 {f:(List GField)} {d:(List GNode)} {e:GOp} {res:Bool} {h:AH}  (a:law43Xgreat f d e=some res):Spec Tryz.prog 4 [.sl 5 (f.map GField.row),.sl 3 (d.map GNode.row),.agg (GOp.row e)] h (ya (.bool res) h):=by
 unfold law43Xgreat at a;refine za Tryz.func4 rfl (by kernel_rfl) (yj 31 rfl) (R.r ?_);refine zf a (λl c a=>cp (ok16 c) ?_);refine R.r ?_;refine zG a (λm b a=>zA rfl sc (λj=>ok17 (b j)) ss ?_);refine R.r ?_;refine lng λi=>R.r ?_;refine lng λg=>R.r ?_;refine lng λk=>R.r ?_;cases a;exact fz rfl rfl
theorem ok18 {a:GLeaf} {res:(List GNode)} {h:AH}  (b:vM a=some res):Spec Tryz.prog 18 [.agg (GLeaf.row a)] h (ya (.sl 3 (res.map GNode.row)) h):=by
 unfold vM at b;refine za Tryz.func18 rfl (by kernel_rfl) (yj 9 rfl) (R.r ?_);refine zd rfl (zp (es:=([a]:List GLeaf).map GLeaf.row) rfl el56 qE rfl rfl (ze gg zg) (.cons (zb rfl) .nil) rfl rfl rfl) ss ?_;refine zd rfl (zQ (cs':=[.str ([98]:zk),.osl none 9 (([a]:List GLeaf).map GLeaf.row),.osl none 3 (([]:List GNode).map GNode.row)]) rfl su58 ze58 pl58 (ze rfl (ze gg zg)) (.cons (zb rfl) (.cons (zb rfl) .nil)) rfl rfl) ss ?_;refine zd rfl (zp (es:=([(GNode.mk ([98]:zk) ([a]:List GLeaf) ([]:List GNode))]:List GNode).map GNode.row) rfl el24 ze58 rfl rfl (ze gg zg) (.cons (zb rfl) .nil) rfl rfl (by simp only [List.map_cons,List.map_nil,GNode.row_eq];rfl)) ss ?_;refine zd rfl (zQ (cs':=[.str ([97]:zk),.osl none 9 (([]:List GLeaf).map GLeaf.row),.osl none 3 (([(GNode.mk ([98]:zk) ([a]:List GLeaf) ([]:List GNode))]:List GNode).map GNode.row)]) rfl su58 ze58 pl58 (ze rfl (ze gg zg)) (.cons (zb rfl) (.cons (zb rfl) .nil)) rfl rfl) ss ?_;refine zd rfl (zp (es:=([(GNode.mk ([97]:zk) ([]:List GLeaf) ([(GNode.mk ([98]:zk) ([a]:List GLeaf) ([]:List GNode))]:List GNode))]:List GNode).map GNode.row) rfl el24 ze58 rfl rfl (ze gg zg) (.cons (zb rfl) .nil) rfl rfl (by simp only [List.map_cons,List.map_nil,GNode.row_eq];rfl)) ss (R.r ?_);cases b;exact fe rfl rfl (leV.osl _ _ _)
theorem ok109 {a0:GActor} {res:Bool} {h:AH}  (a:dotMayActor a0=some res):Spec Tryz.prog 109 [.agg (GActor.row a0)] h (ya (.bool res) h):=by
 unfold dotMayActor at a;refine za Tryz.func109 rfl (by kernel_rfl) (yj 16 rfl) (R.r ?_);cases a;exact fz rfl rfl
theorem ok61 {c:GDot} {res:Bool} {h:AH}  (a:dotMay c=some res):Spec Tryz.prog 61 [.agg (GDot.row c)] h (ya (.bool res) h):=by
 unfold dotMay at a;refine za Tryz.func61 rfl (by kernel_rfl) (yj 16 rfl) (R.r ?_);refine zf a (λd b a=>cp (ok109 b) ?_);refine R.r ?_;cases a;exact fz rfl rfl
theorem ok124 {a:GOp} {res:Bool} {h:AH}  (b:opXadds a=some res):Spec Tryz.prog 124 [.agg (GOp.row a)] h (ya (.bool res) h):=by
 unfold opXadds at b;refine za Tryz.func124 rfl (by kernel_rfl) (yj 22 rfl) (R.r ?_);refine lng λc=>R.r ?_;cases b;exact fz rfl rfl
theorem ok125 {a:GOp} {res:Bool} {h:AH}  (b:opXplain a=some res):Spec Tryz.prog 125 [.agg (GOp.row a)] h (ya (.bool res) h):=by
 unfold opXplain at b;refine za Tryz.func125 rfl (by kernel_rfl) (yj 18 rfl) (R.r ?_);refine lng λc=>R.r ?_;refine lng λd=>R.r ?_;cases b;exact fz rfl rfl
theorem ok144 {b:(List Int)} {res:Int} {h:AH}  (a:cmpOrInt b=some res):Spec Tryz.prog 144 [.sl 1 (b.map (intRow .i64))] h (ya (.int .i64 res) h):=by
 unfold cmpOrInt at a;refine za Tryz.func144 rfl (by kernel_rfl) (yj 18 rfl) (R.r ?_);refine ln λc=>?_;replace c:=zU c;refine R.r ?_;refine zx (λ(j:Nat) (i:Unit)=>zD [0,1,2,4,5,9,10,11,12,13,14,15,16,17] [(8,.int .i64 (j:Int))]) (λi=>h.ext [] []) a (λ_ _=>by simp only [zD,wg,List.set_cons_succ,List.set_cons_zero];try rfl) (wk.le LEL.o) ?_;intro j i k a;refine R.r ?_;refine zF gg a (λl m e g a d=>?_) (λa=>?_)
 ·refine R.r ?_;refine ix (zw g) (R.r ?_);refine zc gg a (λf a=>?_) (λf a=>?_)
  ·refine R.r ?_;cases a;replace a:=d;refine R.r ?_;cases a;exact fz rfl rfl
  ·refine R.r ?_;cases a;exact ⟨(),e,d,wk.le (by exact (.drop (.drop (.drop (.eq (.drop (.drop (.eq (.eq (.cons (leV.of_eq (yL (by omega) (by omega))) (.d4 (.d4 (.drop leL.nil)))))))))))))⟩
 ·refine R.r ?_;cases a;exact fz rfl rfl
theorem ok149 {a:Int} {res:Bool} {h:AH}  (b:vm a=some res):Spec Tryz.prog 149 [.int .u8 a] h (ya (.bool res) h):=by
 unfold vm at b;refine za Tryz.func149 rfl (by kernel_rfl) (yj 6 rfl) (R.r ?_);cases b;exact fz rfl rfl
theorem ok104 {j:Int} {k:Int} {res:Int} {h:AH}  (a:xe j k=some res):Spec Tryz.prog 104 [.int .u8 j,.int .u8 k] h (ya (.int .i64 res) h):=by
 unfold xe at a;refine za Tryz.func104 rfl (by kernel_rfl) (yj 20 rfl) (R.r ?_);refine zf a (λl d a=>cp (ok149 d) ?_);refine R.r ?_;refine zf a (λm c a=>cp (ok149 c) ?_);refine R.r ?_;refine zc gg a (λf a=>?_) (λf a=>?_)
 ·refine R.r ?_;refine zc gg a (λg a=>?_) (λg a=>?_)
  ·refine R.r ?_;cases a;exact fz rfl rfl
  ·refine R.r ?_;cases a;exact fz rfl rfl
 ·refine R.r ?_;refine zc gg a (λb a=>?_) (λb a=>?_)
  ·refine R.r ?_;cases a;exact fz rfl rfl
  ·refine R.r ?_;refine zc gg a (λi a=>?_) (λi a=>?_)
   ·refine R.r ?_;cases a;exact fz rfl rfl
   ·refine R.r ?_;refine zc gg a (λe a=>?_) (λe a=>?_)
    ·refine R.r ?_;cases a;exact fz rfl rfl
    ·refine R.r ?_;cases a;exact fz rfl rfl
theorem ok218 {a:Int} {res:Bool} {h:AH}  (b:wT a=some res):Spec Tryz.prog 218 [.int .u32 a] h (ya (.bool res) h):=by
 unfold wT at b;refine za Tryz.func218 rfl (by kernel_rfl) (yj 6 rfl) (R.r ?_);cases b;exact fz rfl rfl
theorem ok209 {j:Int} {k:Int} {res:Int} {h:AH}  (a:wy j k=some res):Spec Tryz.prog 209 [.int .u32 j,.int .u32 k] h (ya (.int .i64 res) h):=by
 unfold wy at a;refine za Tryz.func209 rfl (by kernel_rfl) (yj 20 rfl) (R.r ?_);refine zf a (λl d a=>cp (ok218 d) ?_);refine R.r ?_;refine zf a (λm c a=>cp (ok218 c) ?_);refine R.r ?_;refine zc gg a (λf a=>?_) (λf a=>?_)
 ·refine R.r ?_;refine zc gg a (λg a=>?_) (λg a=>?_)
  ·refine R.r ?_;cases a;exact fz rfl rfl
  ·refine R.r ?_;cases a;exact fz rfl rfl
 ·refine R.r ?_;refine zc gg a (λb a=>?_) (λb a=>?_)
  ·refine R.r ?_;cases a;exact fz rfl rfl
  ·refine R.r ?_;refine zc gg a (λi a=>?_) (λi a=>?_)
   ·refine R.r ?_;cases a;exact fz rfl rfl
   ·refine R.r ?_;refine zc gg a (λe a=>?_) (λe a=>?_)
    ·refine R.r ?_;cases a;exact fz rfl rfl
    ·refine R.r ?_;cases a;exact fz rfl rfl
theorem ok185 {a0:GActor} {f:GActor} {res:Int} {h:AH}  (a:dotXcompare a0 f=some res):Spec Tryz.prog 185 [.agg (GActor.row a0),.agg (GActor.row f)] h (ya (.int .i64 res) h):=by
 unfold dotXcompare at a;refine za Tryz.func185 rfl (by kernel_rfl) (yj 17 rfl) (R.r ?_);refine zt [4,9,11] [] trivial mixed (by kernel_rfl) (R.r ?_);refine zf a (λg e a=>zy rfl rfl (λ_=>sc rfl) (by rintro _ ⟨B2,T2,rfl,b⟩;exact ok104 e) ss ?_);refine R.r ?_;refine zf a (λi c a=>zy rfl rfl (λ_=>sc rfl) (by rintro _ ⟨B2,T2,rfl,b⟩;exact ok209 c) ss ?_);refine zz rfl rfl (zp (es:=([g,i]:List Int).map (intRow .i64)) rfl el189 ze3 rfl rfl (ze gg (ze gg zg)) (.cons (zb rfl) (.cons (zb rfl) .nil)) rfl rfl rfl) ss ?_;refine zf a (λv3 d a=>zy rfl rfl (λ_=>sc rfl) (by rintro _ ⟨B2,T2,rfl,b⟩;exact (ok144 d).le (.cons (leV.osl _ _ _) leL.nil)) ss ?_);refine R.r ?_;cases a;exact fz rfl rfl
theorem ok210 {a:Int} {res:Bool} {h:AH}  (b:wR a=some res):Spec Tryz.prog 210 [.int .u64 a] h (ya (.bool res) h):=by
 unfold wR at b;refine za Tryz.func210 rfl (by kernel_rfl) (yj 6 rfl) (R.r ?_);cases b;exact fz rfl rfl
theorem ok186 {j:Int} {k:Int} {res:Int} {h:AH}  (a:xM j k=some res):Spec Tryz.prog 186 [.int .u64 j,.int .u64 k] h (ya (.int .i64 res) h):=by
 unfold xM at a;refine za Tryz.func186 rfl (by kernel_rfl) (yj 20 rfl) (R.r ?_);refine zf a (λl d a=>cp (ok210 d) ?_);refine R.r ?_;refine zf a (λm c a=>cp (ok210 c) ?_);refine R.r ?_;refine zc gg a (λf a=>?_) (λf a=>?_)
 ·refine R.r ?_;refine zc gg a (λg a=>?_) (λg a=>?_)
  ·refine R.r ?_;cases a;exact fz rfl rfl
  ·refine R.r ?_;cases a;exact fz rfl rfl
 ·refine R.r ?_;refine zc gg a (λb a=>?_) (λb a=>?_)
  ·refine R.r ?_;cases a;exact fz rfl rfl
  ·refine R.r ?_;refine zc gg a (λi a=>?_) (λi a=>?_)
   ·refine R.r ?_;cases a;exact fz rfl rfl
   ·refine R.r ?_;refine zc gg a (λe a=>?_) (λe a=>?_)
    ·refine R.r ?_;cases a;exact fz rfl rfl
    ·refine R.r ?_;cases a;exact fz rfl rfl
theorem ok155 {a0:GDot} {f:GDot} {res:Int} {h:AH}  (a:wK a0 f=some res):Spec Tryz.prog 155 [.agg (GDot.row a0),.agg (GDot.row f)] h (ya (.int .i64 res) h):=by
 unfold wK at a;refine za Tryz.func155 rfl (by kernel_rfl) (yj 17 rfl) (R.r ?_);refine zt [4,9,11] [] trivial mixed (by kernel_rfl) (R.r ?_);refine zf a (λg e a=>zy rfl rfl (λ_=>sc rfl) (by rintro _ ⟨B2,T2,rfl,b⟩;exact ok185 e) ss ?_);refine R.r ?_;refine zf a (λi c a=>zy rfl rfl (λ_=>sc rfl) (by rintro _ ⟨B2,T2,rfl,b⟩;exact ok186 c) ss ?_);refine zz rfl rfl (zp (es:=([g,i]:List Int).map (intRow .i64)) rfl el189 ze3 rfl rfl (ze gg (ze gg zg)) (.cons (zb rfl) (.cons (zb rfl) .nil)) rfl rfl rfl) ss ?_;refine zf a (λv3 d a=>zy rfl rfl (λ_=>sc rfl) (by rintro _ ⟨B2,T2,rfl,b⟩;exact (ok144 d).le (.cons (leV.osl _ _ _) leL.nil)) ss ?_);refine R.r ?_;cases a;exact fz rfl rfl
theorem ok126 {k:GOp} {res:Bool} {h:AH}  (a:opXdrops k=some res):Spec Tryz.prog 126 [.agg (GOp.row k)] h (ya (.bool res) h):=by
 unfold opXdrops at a;refine za Tryz.func126 rfl (by kernel_rfl) (yj 47 rfl) (R.r ?_);refine lng λx=>R.r ?_;refine lng λu=>R.r ?_;refine zc gg a (λj a=>?_) (λj a=>?_)
 ·refine R.r ?_;cases a;exact fz rfl rfl
 ·refine R.r ?_;refine ln λe=>?_;replace e:=zU e;refine R.r ?_;refine zx (λ(n:Nat) (m:Unit)=>zD [0,2,3,4,5,6,7,8,9,10,11,12,13,14,15,16,17,18,19,20,24,25,26,27,28,29,30,31,32,33,34,35,36,37,38,39,40,41,42,43,44,45,46] [(23,.int .i64 (n:Int))]) (λm=>h.ext [.cells (GOp.row k)] []) a (λ_ _=>by simp only [zD,wg,List.set_cons_succ,List.set_cons_zero];try rfl) (wk.le LEL.o) ?_;intro n m y a;refine R.r ?_;refine zF gg a (λA B i l a c=>?_) (λa=>?_)
  ·refine R.r ?_;refine ix (zw l) (R.r ?_);refine zt [1] [] trivial mixed (by kernel_rfl) (R.r ?_);refine zf a (λp d a=>zy rfl rfl (λ_=>sc rfl) (by rintro _ ⟨B2,T2,rfl,z⟩;exact ok61 d) ss ?_);refine R.r ?_;refine zV a (λf a=>vP f ?_);refine R.r ?_;refine zG a (λw g a=>yd rfl (aG_gv rfl rfl rfl) sc (λs=>ok155 (g s)) ss ?_);refine R.r ?_;refine zc gg a (λb a=>?_) (λb a=>?_)
   ·refine R.r ?_;cases a;replace a:=c;refine R.r ?_;cases a;exact fz rfl rfl
   ·refine R.r ?_;cases a;exact ⟨(),i,c,wk.trans (wk.le (by exact (.drop (.eq (.d16 (.drop (.drop (.drop (.eq (.eq (.cons (leV.of_eq (yL (by omega) (by omega))) (.d16 (.d4 (.drop (.drop (.drop leL.nil)))))))))))))))) (yl (by simp [zB,AV.low]) rfl rfl (by simp [Blk.low,zB,AV.low]))⟩
  ·refine R.r ?_;cases a;exact fz rfl rfl
theorem ok72 {k0:Int} {res:(GOpKind×Bool)} {h:AH}  (a:opXof k0=some res):Spec Tryz.prog 72 [.int .u8 k0] h (ya (.tup [.agg (GOpKind.row res.1),.bool res.2]) h):=by
 unfold opXof at a;refine za Tryz.func72 rfl (by kernel_rfl) (yj 21 rfl) (R.r ?_);refine zd rfl (zQ (cs':=[.int .u8 (1:Int),.fn (.func 124) [] []]) rfl su118 ze118 pl118 (ze rfl (ze rfl zg)) (.cons (zb rfl) (.cons (zb rfl) .nil)) rfl rfl) ss ?_;refine zd rfl (zQ (cs':=[.int .u8 (2:Int),.fn (.func 125) [] []]) rfl su118 ze118 pl118 (ze rfl (ze rfl zg)) (.cons (zb rfl) (.cons (zb rfl) .nil)) rfl rfl) ss ?_;refine zd rfl (zQ (cs':=[.int .u8 (3:Int),.fn (.func 125) [] []]) rfl su118 ze118 pl118 (ze rfl (ze rfl zg)) (.cons (zb rfl) (.cons (zb rfl) .nil)) rfl rfl) ss ?_;refine zd rfl (zQ (cs':=[.int .u8 (3:Int),.fn (.func 126) [] []]) rfl su118 ze118 pl118 (ze rfl (ze rfl zg)) (.cons (zb rfl) (.cons (zb rfl) .nil)) rfl rfl) ss ?_;refine zd rfl (zQ (cs':=[.int .u8 (4:Int),.fn (.func 125) [] []]) rfl su118 ze118 pl118 (ze rfl (ze rfl zg)) (.cons (zb rfl) (.cons (zb rfl) .nil)) rfl rfl) ss ?_;refine zd rfl (s_buildArr (cs':=[.int .u8 (0:Int),.nilf,.int .u8 (1:Int),.fn (.func 124) [] [],.int .u8 (2:Int),.fn (.func 125) [] [],.int .u8 (3:Int),.fn (.func 125) [] [],.int .u8 (3:Int),.fn (.func 126) [] [],.int .u8 (4:Int),.fn (.func 125) [] []]) rfl ty158.u ze158 ty118.choose_spec.1 (ze gg (ze gg (ze gg (ze gg (ze gg zg))))) (.cons (zb rfl) (.cons (zb rfl) (.cons (zb rfl) (.cons (zb rfl) (.cons (zb rfl) .nil))))) rfl rfl) ss (R.r ?_);refine zc gg a (λd a=>?_) (λd a=>?_)
 ·refine R.r ?_;refine zd rfl (zQ (cs':=[.int .u8 (0:Int),.nilf]) rfl su118 ze118 pl118 zg .nil rfl rfl) ss (R.r ?_);cases a;exact fz rfl rfl
 ·refine R.r ?_;refine zf a (λe c a=>zd rfl (s_idxArr rfl ty158 ty118.choose_spec.1 gg gg rfl c) ss ?_);refine zd rfl (xT rfl ty118.choose_spec.1 gg rfl ((congrArg (λb=>ldC b _ _ _) ty118.choose_spec.2).trans (ldC_arr (row:=GOpKind.row) (L:=([(GOpKind.mk (0:Int) 0),(GOpKind.mk (1:Int) 1),(GOpKind.mk (2:Int) 2),(GOpKind.mk (3:Int) 2),(GOpKind.mk (3:Int) 3),(GOpKind.mk (4:Int) 2)]:List GOpKind)) (λ_=>rfl) c rfl)) (zb rfl)) ss (R.r ?_);cases a;refine fr rfl (wJ (leV.refl _) (by simp [AV.low,zB,fvlOp]) ?_);exact ⟨rfl,rfl⟩
theorem ok150 {C:(List zk)} {A:(zk->Option Bool)} {g:FuncId} {d c:List AV} {res:Int} {h:AH} (p:∀y v (L:List Blk) (M:List Nat),A y=some v->Spec Tryz.prog g (d++[.str y]++c) (h.ext L M) (ya (.bool v) (h.ext L M))) (a:xW C A=some res):Spec Tryz.prog 150 [.sl 1 (C.map zC),.fn (.func g) d c] h (ya (.int .i64 res) h):=by
 unfold xW at a;refine zL Tryz.func150 rfl (by kernel_rfl) (yj 19 rfl) (λb E=>?_);simp only [zB,AV.low,Bool.and_eq_true,Bool.true_and,and_true] at b;have s:∀n m,h.blks.length<=n->h.toks.length<=m->zB n m d=true:=λn m l x=>zW l x _ (by simp [b]);have k:∀n m,h.blks.length<=n->h.toks.length<=m->zB n m c=true:=λn m l x=>zW l x _ (by simp [b]);refine R.r ?_;refine ln λf=>?_;replace f:=zU f;refine R.r ?_;refine zx (λ(B:Nat) (z:Unit)=>zD [2,3,4,5,6,9,10,11,12,13,14,15,16,17,18] [(8,.int .i64 (B:Int))]) (λz=>h.ext [] []) a (λ_ _=>by simp only [zD,wg,List.set_cons_succ,List.set_cons_zero];try rfl) (wk.le LEL.o) ?_;intro B z D a;refine R.r ?_;refine zF gg a (λG H i u a e=>?_) (λa=>?_)
 ·refine R.r ?_;refine ix (zw u) (R.r ?_);refine zf a (λF j a=>yM rfl (scC rfl) (p _ _ _ _ j) ss ?_);refine R.r ?_;refine zc gg a (λw a=>?_) (λw a=>?_)
  ·refine R.r ?_;cases a;replace a:=e;refine R.r ?_;cases a;exact fz rfl rfl
  ·refine R.r ?_;cases a;exact ⟨(),i,e,wk.le (by exact (.eq (.eq (.d4 (.drop (.eq (.cons (leV.of_eq (yL (by omega) (by omega))) (.d4 (.d4 (.drop (.drop leL.nil)))))))))))⟩
 ·refine R.r ?_;cases a;exact fz rfl rfl
theorem ok108 {s:(List zk)} {p:(zk->Option Bool)} {d:FuncId} {c b:List AV} {res:Bool} {h:AH} (j:∀e v (L:List Blk) (M:List Nat),p e=some v->Spec Tryz.prog d (c++[.str e]++b) (h.ext L M) (ya (.bool v) (h.ext L M))) (f:yy s p=some res):Spec Tryz.prog 108 [.sl 1 (s.map zC),.fn (.func d) c b] h (ya (.bool res) h):=by
 unfold yy at f;refine zL Tryz.func108 rfl (by kernel_rfl) (yj 9 rfl) (λa x=>?_);simp only [zB,AV.low,Bool.and_eq_true,Bool.true_and,and_true] at a;have k:∀n m,h.blks.length<=n->h.toks.length<=m->zB n m c=true:=λn m i l=>zW i l _ (by simp [a]);have g:∀n m,h.blks.length<=n->h.toks.length<=m->zB n m b=true:=λn m i l=>zW i l _ (by simp [a]);refine R.r ?_;refine zf f (λw o f=>cp (ok150 (λe v L M u=>by rw [y8];exact j e v _ _ u) o) ?_);refine R.r ?_;cases f;exact fz rfl rfl
theorem ok190 {j:zk} {z:(Int->Option Bool)} {i:FuncId} {f e:List AV} {b:Bool} {res:Int} {h:AH} (u:∀y v (L:List Blk) (M:List Nat),z y=some v->Spec Tryz.prog i (f++[.int .i32 y]++e) (h.ext L M) (ya (.bool v) (h.ext L M))) (a:wW j z b=some res):Spec Tryz.prog 190 [.str j,.fn (.func i) f e,.bool b] h (ya (.int .i64 res) h):=by
 unfold wW at a;refine zL Tryz.func190 rfl (by kernel_rfl) (yj 21 rfl) (λc B=>?_);simp only [zB,AV.low,Bool.and_eq_true,Bool.true_and,and_true] at c;have w:∀n m,h.blks.length<=n->h.toks.length<=m->zB n m f=true:=λn m s x=>zW s x _ (by simp [c]);have l:∀n m,h.blks.length<=n->h.toks.length<=m->zB n m e=true:=λn m s x=>zW s x _ (by simp [c]);refine R.r ?_;refine zd rfl (e_range (n:=0) rfl ty9 gg rfl) ss (R.r ?_);refine xQ (λ(g:Nat)=>zD [0,3,4,5,6,7,8,9,11,12,13,14,15,16,17,18,19,20] []) (λg=>h.ext [.siter j g] []) a (λ_=>by simp only [zD,wg,List.set_cons_succ,List.set_cons_zero];try rfl) (wk.le LEL.o) ?_;intro C g E a d;refine R.r ?_;refine ops_nextF rfl rfl gg rfl ss ss a (λA a=>?_) (λa=>?_)
 ·refine R.r ?_;refine r_cond gg (λ_=>?_) (λhh=>by cases hh);refine R.r ?_;refine zf a (λD p a=>yM rfl (scC rfl) (u _ _ _ _ p) ss ?_);refine R.r ?_;refine zd rfl (vH rfl gg gg (bin_boolE ty4)) ss (R.r ?_);refine zc gg a (λk a=>?_) (λk a=>?_)
  ·refine R.r ?_;cases a;replace a:=d;refine R.r ?_;cases a;exact fz rfl rfl
  ·refine R.r ?_;cases a;exact ⟨(g+(dec j g).2),d,wk.le LEL.o⟩
 ·refine R.r ?_;refine r_cond gg (λhh=>by cases hh) (λ_=>R.r ?_);cases a;replace a:=d;refine R.r ?_;cases a;exact fz rfl rfl
theorem ok164 {s:zk} {p:(Int->Option Bool)} {d:FuncId} {c b:List AV} {res:Int} {h:AH} (j:∀e v (L:List Blk) (M:List Nat),p e=some v->Spec Tryz.prog d (c++[.int .i32 e]++b) (h.ext L M) (ya (.bool v) (h.ext L M))) (f:vp s p=some res):Spec Tryz.prog 164 [.str s,.fn (.func d) c b] h (ya (.int .i64 res) h):=by
 unfold vp at f;refine zL Tryz.func164 rfl (by kernel_rfl) (yj 8 rfl) (λa x=>?_);simp only [zB,AV.low,Bool.and_eq_true,Bool.true_and,and_true] at a;have k:∀n m,h.blks.length<=n->h.toks.length<=m->zB n m c=true:=λn m i l=>zW i l _ (by simp [a]);have g:∀n m,h.blks.length<=n->h.toks.length<=m->zB n m b=true:=λn m i l=>zW i l _ (by simp [a]);refine R.r ?_;refine zf f (λw o f=>cp (ok190 (λe v L M u=>by rw [y8];exact j e v _ _ u) o) ?_);refine R.r ?_;cases f;exact fz rfl rfl
theorem ok136 {s:zk} {p:(Int->Option Bool)} {d:FuncId} {c b:List AV} {res:Bool} {h:AH} (j:∀e v (L:List Blk) (M:List Nat),p e=some v->Spec Tryz.prog d (c++[.int .i32 e]++b) (h.ext L M) (ya (.bool v) (h.ext L M))) (f:xE s p=some res):Spec Tryz.prog 136 [.str s,.fn (.func d) c b] h (ya (.bool res) h):=by
 unfold xE at f;refine zL Tryz.func136 rfl (by kernel_rfl) (yj 9 rfl) (λa x=>?_);simp only [zB,AV.low,Bool.and_eq_true,Bool.true_and,and_true] at a;have k:∀n m,h.blks.length<=n->h.toks.length<=m->zB n m c=true:=λn m i l=>zW i l _ (by simp [a]);have g:∀n m,h.blks.length<=n->h.toks.length<=m->zB n m b=true:=λn m i l=>zW i l _ (by simp [a]);refine R.r ?_;refine zf f (λw o f=>cp (ok164 (λe v L M u=>by rw [y8];exact j e v _ _ u) o) ?_);refine R.r ?_;cases f;exact fz rfl rfl
theorem ok135 {a:Int} {res:Bool} {h:AH}  (b:opIsNameC1 a=some res):Spec Tryz.prog 135 [.int .i32 a] h (ya (.bool res) h):=by
 unfold opIsNameC1 at b;refine za Tryz.func135 rfl (by kernel_rfl) (yj 25 rfl) (R.r ?_);cases b;exact fz rfl rfl
theorem ok78 {d:zk} {res:Bool} {h:AH}  (b:opIsName d=some res):Spec Tryz.prog 78 [.str d] h (ya (.bool res) h):=by
 unfold opIsName at b;refine za Tryz.func78 rfl (by kernel_rfl) (yj 18 rfl) (R.r ?_);refine ln λa=>?_;replace a:=zU a;refine R.r ?_;refine lng λg=>R.r ?_;refine zG b (λv3 c b=>zA rfl sc (λf=>ok136 (λ_ v L M e=>ok135  e) (c f)) ss ?_);refine R.r ?_;cases b;exact fz rfl rfl
theorem ok143 {c:zk} {res:Bool} {h:AH}  (a:opMayPathC1 c=some res):Spec Tryz.prog 143 [.str c] h (ya (.bool res) h):=by
 unfold opMayPathC1 at a;refine za Tryz.func143 rfl (by kernel_rfl) (yj 6 rfl) (R.r ?_);refine zf a (λd b a=>cp (ok78 b) ?_);refine R.r ?_;cases a;exact fz rfl rfl
theorem ok88 {d:(List zk)} {res:Bool} {h:AH}  (b:qA d=some res):Spec Tryz.prog 88 [.sl 1 (d.map zC)] h (ya (.bool res) h):=by
 unfold qA at b;refine za Tryz.func88 rfl (by kernel_rfl) (yj 16 rfl) (R.r ?_);refine ln λa=>?_;replace a:=zU a;refine R.r ?_;refine lng λg=>R.r ?_;refine zG b (λv3 c b=>zA rfl sc (λf=>ok108 (λ_ v L M e=>ok143  e) (c f)) ss ?_);refine R.r ?_;cases b;exact fz rfl rfl
theorem fnOpok {c:Nat} {a:GOp} {v:Bool} (h:callOp c a=some v):fvOp c=.fn (.func (fnOp c)) [] []:=by
  unfold callOp at h;split at h <;> first | rfl | cases h
theorem okfvOp {c:Nat} {b:GOp} {res:Bool} {h:AH} (a:callOp c b=some res):Spec Tryz.prog (fnOp c) [.agg (GOp.row b)] h (ya (.bool res) h):=by
 unfold callOp at a;split at a
 ·exact ok124 a
 ·exact ok125 a
 ·exact ok126 a
 ·cases a
theorem ok62 {f:GOp} {res:Bool} {h:AH}  (b:opMay f=some res):Spec Tryz.prog 62 [.agg (GOp.row f)] h (ya (.bool res) h):=by
 unfold opMay at b;refine za Tryz.func62 rfl (by kernel_rfl) (yj 23 rfl) (R.r ?_);refine zf b (λg e b=>cp (ok72 e) ?_);refine R.r ?_;refine zG b (λi d b=>zA rfl sc (λa=>ok88 (d a)) ss ?_);refine R.r ?_;refine ops_gv rfl (λa=>xT rfl ty104 (yh gg a) rfl (zY rfl) (fvtOp _ _ _)) ss (R.r ?_);refine zG b (λv3 c b=>zA rfl (λa=>wF rfl rfl (evo_eq (yh gg a) (fnOpok (c a))) (ye (yh gg a) xF) (.cons (zb rfl) .nil)) (λa=>okfvOp (c a)) ss ?_);refine R.r ?_;cases b;exact fz rfl rfl
theorem ok33 {d:GEvent} {res:Bool} {h:AH}  (a:qd d=some res):Spec Tryz.prog 33 [.agg (GEvent.row d)] h (ya (.bool res) h):=by
 unfold qd at a;refine za Tryz.func33 rfl (by kernel_rfl) (yj 21 rfl) (R.r ?_);refine zf a (λf c a=>cp (ok61 c) ?_);refine R.r ?_;refine zG a (λg b a=>zA rfl sc (λe=>ok62 (b e)) ss ?_);refine R.r ?_;cases a;exact fz rfl rfl
theorem ok115N (n:Nat):∀{t0:(List GNode)} {k:(GLeaf->Option GLeaf)} {g:FuncId} {d e:List AV} {res:(List GNode)} {h:AH} (f:∀B v (L:List Blk) (M:List Nat),k B=some v->Spec Tryz.prog g (d++[.agg (GLeaf.row B)]++e) (h.ext L M) (ya (.agg (GLeaf.row v)) (h.ext L M))),wh n t0 k=some res->Spec Tryz.prog 115 [.sl 3 (t0.map GNode.row),.fn (.func g) d e] h (ya (.sl 3 (res.map GNode.row)) h):=by
 induction n with
 | zero=>intro t0 k g d e res h f c;simp [wh] at c
 | succ n ih =>
  intro t0 k g d e res h f c;unfold wh at c;refine zL Tryz.func115 rfl (by kernel_rfl) (yj 45 rfl) (λl Q=>?_);simp only [zB,AV.low,Bool.and_eq_true,Bool.true_and,and_true] at l;have a:∀n m,h.blks.length<=n->h.toks.length<=m->zB n m d=true:=λn m F J=>zW F J _ (by simp [l]);have b:∀n m,h.blks.length<=n->h.toks.length<=m->zB n m e=true:=λn m F J=>zW F J _ (by simp [l]);refine R.r ?_;refine ln λy=>?_;replace y:=zU y;refine R.r ?_;refine zx (λ(K:Nat) (s:(List GNode))=>zD [0,2,3,5,6,7,8,9,13,14,15,16,17,18,19,20,21,22,23,24,25,26,27,28,29,30,31,32,33,34,35,36,37,38,39,40,41,42,43,44] [(4,.osl (some (h.toks.length+0)) 3 (s.map GNode.row)),(12,.int .i64 (K:Int))]) (λs=>h.ext [] [(s).length]) c (λ_ _=>by simp only [zD,wg,List.set_cons_succ,List.set_cons_zero];try rfl) (wk.trans (qF gt4 rfl st4 rfl) (wk.le (by exact (.drop (.eq (.drop (.drop (.cons (leV.of_eq rfl) (.d4 (.drop (.eq (.eq (.cons (leV.of_eq rfl) (.d16 (.d16 leL.nil))))))))))))))) ?_;intro K s P c;refine R.r ?_;refine zF gg c (λi U D H c C=>?_) (λc=>?_)
  ·refine R.r ?_;refine zd rfl (yc rfl el24 gg gg isl (zw H) (GNode.row_eq _)) ss (R.r ?_);refine zt [1,3,5] [(1,[(0,.cells [.str i.name,.sl 9 (i.leaves.map GLeaf.row),.sl 3 (i.subs.map GNode.row)])]),(3,[(0,.cells [.str i.name,.sl 9 (i.leaves.map GLeaf.row),.sl 3 (i.subs.map GNode.row)])])] ⟨⟨rfl,trivial⟩,⟨rfl,trivial⟩,trivial⟩ mixed (by kernel_rfl) (R.r ?_);refine xb rfl rfl (by rintro _ ⟨B2,T2,rfl,p⟩;exact xT rfl ty9 gg (wU p) (zY rfl) (zb rfl)) ss (R.r ?_);refine xb rfl rfl (by rintro _ ⟨B2,T2,rfl,p⟩;exact xT rfl ty24 gg (wU p) (zY rfl) (zb rfl)) ss (R.r ?_);refine zf c (λv23 z c=>zy rfl rfl (λ_=>sc rfl) (by rintro _ ⟨B2,T2,rfl,p⟩;exact ih (λB v L M N=>by rw [y8];exact f B v _ _ N) z) ss ?_);refine zz rfl rfl (zQ (cs':=[.str i.name,.osl none 9 (([]:List GLeaf).map GLeaf.row),.sl 3 (v23.map GNode.row)]) rfl su58 ze58 pl58 (ze gg (ze gg zg)) (.cons (zb rfl) (.cons (zb rfl) .nil)) rfl rfl) ss ?_;refine zI rfl (FOk.cons (.inr (zX ⟨rfl,trivial⟩)) (FOk.cons (.inr (zX ⟨rfl,trivial⟩)) (FOk.cons (.inr (zX trivial)) FOk.nil))) (by kernel_rfl) rfl (qW (n:=1) rfl ze58 rfl) ss ?_;refine zI rfl (FOk.cons (.inr (zX ⟨rfl,trivial⟩)) (FOk.cons (.inr (zX ⟨rfl,trivial⟩)) (FOk.cons (.inr (zX trivial)) FOk.nil))) (by kernel_rfl) rfl (zT (cs':=[.str i.name,.osl none 9 (([]:List GLeaf).map GLeaf.row),.sl 3 (v23.map GNode.row)]) rfl ty58.choose_spec.1 gg gg (zb rfl) rfl rfl rfl rfl rfl) rfl (R.r ?_);refine ln λu=>?_;replace u:=zU u;refine R.r ?_;refine zx (λ(n2:Nat) (s2:(List GLeaf))=>zD [0,2,3,5,6,8,9,13,14,15,16,17,18,19,20,21,22,23,27,28,29,30,31,32,33,34,35,36,37,38,39,40,41,42,43,44] [(26,.int .i64 (n2:Int))]) (λs2=>h.ext [.cells [.str i.name,.sl 9 (i.leaves.map GLeaf.row),.sl 3 (i.subs.map GNode.row)],.cells [.str i.name,.osl (some (h.toks.length+1)) 9 (s2.map GLeaf.row),.sl 3 (v23.map GNode.row)]] [(s).length,(s2).length]) c (λ_ _=>by simp only [zD,wg,List.set_cons_succ,List.set_cons_zero];try rfl) (wk.trans (wk_tokB (j:=1) rfl gt1 rfl st1 rfl rfl) (wk.le (by exact (.drop (.eq (.drop (.drop (.eq (.drop (.drop (.eq (.drop (.drop (.eq (.eq (.eq (.d4 (.d4 (.drop (.drop (.drop (.eq (.eq (.cons (leV.of_eq rfl) (.d16 (.drop (.drop leL.nil))))))))))))))))))))))))))) ?_;intro n2 s2 O c;refine R.r ?_;refine zF gg c (λT S I E c G=>?_) (λc=>?_)
   ·refine R.r ?_;refine ix (zw E) (R.r ?_);refine zt [] [] trivial mixed (by kernel_rfl) (R.r ?_);refine zf c (λo w c=>ww rfl rfl (scC rfl) (f _ _ _ _ w) ss ?_);refine zz rfl rfl (zp (es:=([o]:List GLeaf).map GLeaf.row) rfl el56 qE rfl rfl (ze gg zg) (.cons (zb rfl) .nil) rfl rfl rfl) ss ?_;refine zV c (λA c=>yO rfl FOk.nil (by rfl) rfl (yu (j:=1) (T':=[(s).length,((s2++([o]:List GLeaf))).length]) rfl rfl rfl rfl el56 el56 gg gg (zb rfl) (zb rfl) yk A rfl rfl) ss ?_);refine R.r ?_;refine zI rfl FOk.nil (by kernel_rfl) rfl (zT (cs':=[.str i.name,.osl (some (h.toks.length+1)) 9 ((s2++([o]:List GLeaf)).map GLeaf.row),.sl 3 (v23.map GNode.row)]) rfl ty56 gg gg (zb rfl) rfl rfl rfl rfl rfl) rfl (R.r ?_);cases c;exact ⟨(s2++([o]:List GLeaf)),I,G,wk.trans (wk.le (by exact (.drop (.eq (.drop (.drop (.eq (.drop (.drop (.eq (.drop (.drop (.eq (.eq (.eq (.d4 (.d4 (.drop (.drop (.drop (.eq (.eq (.cons (leV.of_eq (yL (by omega) (by omega))) (.d16 (.drop (.drop leL.nil)))))))))))))))))))))))))) (yl (by simp [zB,AV.low,a,b]) rfl rfl (by simp [Blk.low,zB,AV.low,a,b]))⟩
   ·refine R.r ?_;refine zd rfl (zp (es:=([(GNode.mk i.name s2 v23)]:List GNode).map GNode.row) rfl el24 ze58 rfl rfl (ze gg zg) (.cons (zb rfl) .nil) rfl rfl (by simp only [List.map_cons,List.map_nil,GNode.row_eq];rfl)) ss ?_;refine zV c (λx c=>zd rfl (yu (j:=0) (T':=[((s++([(GNode.mk i.name s2 v23)]:List GNode))).length,(s2).length]) rfl rfl rfl rfl el24 el24 gg gg (zb rfl) (zb rfl) yk x rfl rfl) ss ?_);refine R.r ?_;cases c;exact ⟨(s++([(GNode.mk i.name s2 v23)]:List GNode)),D,C,wk.trans (wk.le (by exact (.drop (.eq (.drop (.drop (.cons (leV.of_eq rfl) (.d4 (.drop (.eq (.eq (.cons (leV.of_eq (yL (by omega) (by omega))) (.d16 (.d16 leL.nil)))))))))))))) (yl (by simp [zB,AV.low,a,b]) rfl rfl (by simp [Blk.low,zB,AV.low,a,b]))⟩
  ·refine R.r ?_;cases c;exact fe rfl rfl (leV.osl _ _ _)
theorem ok115 {t0:(List GNode)} {d:(GLeaf->Option GLeaf)} {b:FuncId} {c a:List AV} {res:(List GNode)} {h:AH} (e:∀f v (L:List Blk) (M:List Nat),d f=some v->Spec Tryz.prog b (c++[.agg (GLeaf.row f)]++a) (h.ext L M) (ya (.agg (GLeaf.row v)) (h.ext L M))) (g:treeXchanged t0 d=some res):Spec Tryz.prog 115 [.sl 3 (t0.map GNode.row),.fn (.func b) c a] h (ya (.sl 3 (res.map GNode.row)) h):=by
 obtain ⟨n,i⟩:=vY g;exact ok115N n e i
theorem ok70 {d:(List GItem)} {res:(List GItem)} {h:AH}  (a:yw d=some res):Spec Tryz.prog 70 [.sl 5 (d.map GItem.row)] h (OwnK h 5 res.length (res.map GItem.row)):=by
 unfold yw at a;refine za Tryz.func70 rfl (by kernel_rfl) (yj 8 rfl) (R.r ?_);refine qz rfl rfl el53 gg isl rfl (λ_=>ss) a (λf e a=>R.r ?_);refine zc gg a (λb a=>?_) (λb a=>?_)
 ·refine R.r ?_;cases a;refine fr rfl (fin_own0 (row:=GItem.row) (L:=([]:List GItem)) ?_);exact ⟨rfl,rfl⟩
 ·refine R.r ?_;refine zd rfl (zp (es:=([]:List GItem).map GItem.row) rfl el53 ze115 rfl rfl zg .nil rfl rfl rfl) ss (R.r ?_);refine zV a (λc a=>zd rfl (e_appN (m:=0) (T':=[((([]:List GItem)++d)).length]) rfl rfl rfl rfl el53 el53 gg gg (zb rfl) (zb rfl) yZ c rfl rfl) ss ?_);refine R.r ?_;cases a;refine fr rfl (fin_own ?_);exact ⟨rfl,rfl⟩
theorem okR70 {b:(List GItem)} {res:(List GItem)} {h:AH}  (a:yw b=some res):Spec Tryz.prog 70 [.sl 5 (b.map GItem.row)] h (NewK h 5 res.length (res.map GItem.row)):=by
 unfold yw at a;refine za Tryz.func70 rfl (by kernel_rfl) (yj 8 rfl) (R.r ?_);refine qz rfl rfl el53 gg isl rfl (λ_=>ss) a (λf e a=>R.r ?_);refine zc gg a (λc a=>?_) (λc a=>?_)
 ·refine R.r ?_;cases a;refine fr rfl (fin_row0 ?_);exact ⟨rfl,rfl⟩
 ·refine R.r ?_;refine zd rfl (zp (es:=([]:List GItem).map GItem.row) rfl el53 ze115 rfl rfl zg .nil rfl rfl rfl) ss (R.r ?_);refine ops_swk (swk_thaw gt5 rfl rfl st5 rfl rfl) ?_;refine zV a (λd a=>zd rfl (e_appR (i:=0) (j:=0) (B':=[.row (h.toks.length+0) 5 ((([]:List GItem)++b).map GItem.row)]) (T':=[((([]:List GItem)++b)).length]) rfl rfl rfl rfl el53 el53 gg gg rfl (zb rfl) yZ d rfl rfl rfl rfl rfl) ss ?_);refine R.r ?_;cases a;refine fr rfl (fin_at ?_);exact ⟨rfl,rfl⟩
theorem ok71 {d:(List GDot)} {res:(List GDot)} {h:AH}  (a:yI d=some res):Spec Tryz.prog 71 [.sl 3 (d.map GDot.row)] h (OwnK h 3 res.length (res.map GDot.row)):=by
 unfold yI at a;refine za Tryz.func71 rfl (by kernel_rfl) (yj 8 rfl) (R.r ?_);refine qz rfl rfl el32 gg isl rfl (λ_=>ss) a (λf e a=>R.r ?_);refine zc gg a (λb a=>?_) (λb a=>?_)
 ·refine R.r ?_;cases a;refine fr rfl (fin_own0 (row:=GDot.row) (L:=([]:List GDot)) ?_);exact ⟨rfl,rfl⟩
 ·refine R.r ?_;refine zd rfl (zp (es:=([]:List GDot).map GDot.row) rfl el32 ze30 rfl rfl zg .nil rfl rfl rfl) ss (R.r ?_);refine zV a (λc a=>zd rfl (e_appN (m:=0) (T':=[((([]:List GDot)++d)).length]) rfl rfl rfl rfl el32 el32 gg gg (zb rfl) (zb rfl) yZ c rfl rfl) ss ?_);refine R.r ?_;cases a;refine fr rfl (fin_own ?_);exact ⟨rfl,rfl⟩
theorem okR71 {b:(List GDot)} {res:(List GDot)} {h:AH}  (a:yI b=some res):Spec Tryz.prog 71 [.sl 3 (b.map GDot.row)] h (NewK h 3 res.length (res.map GDot.row)):=by
 unfold yI at a;refine za Tryz.func71 rfl (by kernel_rfl) (yj 8 rfl) (R.r ?_);refine qz rfl rfl el32 gg isl rfl (λ_=>ss) a (λf e a=>R.r ?_);refine zc gg a (λc a=>?_) (λc a=>?_)
 ·refine R.r ?_;cases a;refine fr rfl (fin_row0 ?_);exact ⟨rfl,rfl⟩
 ·refine R.r ?_;refine zd rfl (zp (es:=([]:List GDot).map GDot.row) rfl el32 ze30 rfl rfl zg .nil rfl rfl rfl) ss (R.r ?_);refine ops_swk (swk_thaw gt5 rfl rfl st5 rfl rfl) ?_;refine zV a (λd a=>zd rfl (e_appR (i:=0) (j:=0) (B':=[.row (h.toks.length+0) 3 ((([]:List GDot)++b).map GDot.row)]) (T':=[((([]:List GDot)++b)).length]) rfl rfl rfl rfl el32 el32 gg gg rfl (zb rfl) yZ d rfl rfl rfl rfl rfl) ss ?_);refine R.r ?_;cases a;refine fr rfl (fin_at ?_);exact ⟨rfl,rfl⟩
theorem ok116 {b:GLeaf} {res:GLeaf} {h:AH}  (a:vZ b=some res):Spec Tryz.prog 116 [.agg (GLeaf.row b)] h (ya (.agg (GLeaf.row res)) h):=by
 unfold vZ at a;refine za Tryz.func116 rfl (by kernel_rfl) (yj 12 rfl) (R.r ?_);refine zt [] [] trivial mixed (by kernel_rfl) (R.r ?_);refine zf a (λc e a=>xU rfl FOk.nil (by rfl) rfl (sc rfl) (qO (T':=[(c).length]) (ok70 e) (m:=0) rfl rfl) ss ?_);refine R.r ?_;refine zf a (λf d a=>xU rfl FOk.nil (by rfl) rfl (sc rfl) (qO (T':=[(c).length,(f).length]) (ok71 d) (m:=1) rfl rfl) ss ?_);refine R.r ?_;refine zI rfl FOk.nil (by kernel_rfl) rfl (zT (cs':=(zu b (.osl (some (h.toks.length+0)) 5 (c.map GItem.row)) (.sl 3 (b.tombs.map GDot.row)))) rfl ty53 gg gg (zb rfl) rfl rfl rfl rfl rfl) rfl (R.r ?_);refine zI rfl FOk.nil (by kernel_rfl) rfl (zT (cs':=(zu b (.osl (some (h.toks.length+0)) 5 (c.map GItem.row)) (.osl (some (h.toks.length+1)) 3 (f.map GDot.row)))) rfl ty32 gg gg (zb rfl) rfl rfl rfl rfl rfl) rfl (R.r ?_);cases a;exact fe rfl rfl (leV.agg (.eq (.eq (.eq (.eq (.eq (.eq (.eq (.cons (leV.osl _ _ _) (.cons (leV.osl _ _ _) leL.nil))))))))) rfl)
theorem ok64 {t0:(List GNode)} {res:(List GNode)} {h:AH}  (a:treeXown t0=some res):Spec Tryz.prog 64 [.sl 3 (t0.map GNode.row)] h (ya (.sl 3 (res.map GNode.row)) h):=by
 unfold treeXown at a;refine za Tryz.func64 rfl (by kernel_rfl) (yj 5 rfl) (R.r ?_);refine zf a (λd b a=>cp (ok115 (λ_ v L M c=>ok116  c) b) ?_);refine R.r ?_;cases a;exact fz rfl rfl
theorem okR99 {b:(List GLeaf)} {res:(List GLeaf)} {h:AH}  (a:xc b=some res):Spec Tryz.prog 99 [.sl 9 (b.map GLeaf.row)] h (NewK h 9 res.length (res.map GLeaf.row)):=by
 unfold xc at a;refine za Tryz.func99 rfl (by kernel_rfl) (yj 8 rfl) (R.r ?_);refine qz rfl rfl el56 gg isl rfl (λ_=>ss) a (λf e a=>R.r ?_);refine zc gg a (λc a=>?_) (λc a=>?_)
 ·refine R.r ?_;cases a;refine fr rfl (fin_row0 ?_);exact ⟨rfl,rfl⟩
 ·refine R.r ?_;refine zd rfl (zp (es:=([]:List GLeaf).map GLeaf.row) rfl el56 qE rfl rfl zg .nil rfl rfl rfl) ss (R.r ?_);refine ops_swk (swk_thaw gt5 rfl rfl st5 rfl rfl) ?_;refine zV a (λd a=>zd rfl (e_appR (i:=0) (j:=0) (B':=[.row (h.toks.length+0) 9 ((([]:List GLeaf)++b).map GLeaf.row)]) (T':=[((([]:List GLeaf)++b)).length]) rfl rfl rfl rfl el56 el56 gg gg rfl (zb rfl) yZ d rfl rfl rfl rfl rfl) ss ?_);refine R.r ?_;cases a;refine fr rfl (fin_at ?_);exact ⟨rfl,rfl⟩
theorem ok105 {d:(List GNode)} {res:(List GNode)} {h:AH}  (a:yn d=some res):Spec Tryz.prog 105 [.sl 3 (d.map GNode.row)] h (OwnK h 3 res.length (res.map GNode.row)):=by
 unfold yn at a;refine za Tryz.func105 rfl (by kernel_rfl) (yj 8 rfl) (R.r ?_);refine qz rfl rfl el24 gg isl rfl (λ_=>ss) a (λf e a=>R.r ?_);refine zc gg a (λb a=>?_) (λb a=>?_)
 ·refine R.r ?_;cases a;refine fr rfl (fin_own0 (row:=GNode.row) (L:=([]:List GNode)) ?_);exact ⟨rfl,rfl⟩
 ·refine R.r ?_;refine zd rfl (zp (es:=([]:List GNode).map GNode.row) rfl el24 ze58 rfl rfl zg .nil rfl rfl (by simp only [List.map_cons,List.map_nil,GNode.row_eq];rfl)) ss (R.r ?_);refine zV a (λc a=>zd rfl (e_appN (m:=0) (T':=[((([]:List GNode)++d)).length]) rfl rfl rfl rfl el24 el24 gg gg (zb rfl) (zb rfl) yZ c rfl rfl) ss ?_);refine R.r ?_;cases a;refine fr rfl (fin_own ?_);exact ⟨rfl,rfl⟩
theorem okR105 {b:(List GNode)} {res:(List GNode)} {h:AH}  (a:yn b=some res):Spec Tryz.prog 105 [.sl 3 (b.map GNode.row)] h (NewK h 3 res.length (res.map GNode.row)):=by
 unfold yn at a;refine za Tryz.func105 rfl (by kernel_rfl) (yj 8 rfl) (R.r ?_);refine qz rfl rfl el24 gg isl rfl (λ_=>ss) a (λf e a=>R.r ?_);refine zc gg a (λc a=>?_) (λc a=>?_)
 ·refine R.r ?_;cases a;refine fr rfl (fin_row0 ?_);exact ⟨rfl,rfl⟩
 ·refine R.r ?_;refine zd rfl (zp (es:=([]:List GNode).map GNode.row) rfl el24 ze58 rfl rfl zg .nil rfl rfl (by simp only [List.map_cons,List.map_nil,GNode.row_eq];rfl)) ss (R.r ?_);refine ops_swk (swk_thaw gt5 rfl rfl st5 rfl rfl) ?_;refine zV a (λd a=>zd rfl (e_appR (i:=0) (j:=0) (B':=[.row (h.toks.length+0) 3 ((([]:List GNode)++b).map GNode.row)]) (T':=[((([]:List GNode)++b)).length]) rfl rfl rfl rfl el24 el24 gg gg rfl (zb rfl) yZ d rfl rfl rfl rfl rfl) ss ?_);refine R.r ?_;cases a;refine fr rfl (fin_at ?_);exact ⟨rfl,rfl⟩
def scmpTryzRen:Go.Shelf.Ren :=
  { f:=λx=>match x with
      | 106=>97
      | 213=>146
      | 265=>168
      | n=>n
    t:=λx=>match x with
      | 3=>3
      | 9=>9
      | n=>n
    g:=λn=>n }
theorem scmpTryzLays:Go.Proofs.Lays.n106 Tryz.prog scmpTryzRen where
  mixed:=mixed
  f106:=Tryz.func97.trans (by kernel_rfl)
  f213:=Tryz.func146.trans (by kernel_rfl)
  f265:=Tryz.func168.trans (by kernel_rfl)
  t3:=Tryz.underlying3
  a3:=Tryz.isAgg3
  z3:=Tryz.sizeOf3
  v3:=Tryz.zeroValue3
  t9:=Tryz.underlying9
  a9:=Tryz.isAgg9
  z9:=Tryz.sizeOf9
  v9:=Tryz.zeroValue9
theorem ok97 {b:zk} {a:zk} {res:Int} {h:AH} (c:stringsCompare b a=some res):Spec Tryz.prog 97 [.str b,.str a] h (ya (.int .i64 res) h):=by
 cases c;exact spec_scompare scmpTryzLays
theorem ok159 {a:GNode} {d:zk} {res:Int} {h:AH}  (b:treeXfindC1 a d=some res):Spec Tryz.prog 159 [.agg [.str a.name,.sl 9 (a.leaves.map GLeaf.row),.sl 3 (a.subs.map GNode.row)],.str d] h (ya (.int .i64 res) h):=by
 unfold treeXfindC1 at b;refine za Tryz.func159 rfl (by kernel_rfl) (yj 9 rfl) (R.r ?_);refine zf b (λe c b=>cp (ok97 c) ?_);refine R.r ?_;cases b;exact fz rfl rfl
theorem ok95 {k:(List GNode)} {b:zk} {j:(GNode->zk->Option Int)} {f:FuncId} {d c:List AV} {res:(Int×Bool)} {h:AH} (g:∀k F v (L:List Blk) (M:List Nat),j k F=some v->Spec Tryz.prog f (d++[.agg [.str k.name,.sl 9 (k.leaves.map GLeaf.row),.sl 3 (k.subs.map GNode.row)],.str F]++c) (h.ext L M) (ya (.int .i64 v) (h.ext L M))) (a:zn k b j=some res):Spec Tryz.prog 95 [.sl 3 (k.map GNode.row),.str b,.fn (.func f) d c] h (ya (.tup [.int .i64 res.1,.bool res.2]) h):=by
 unfold zn at a;refine zL Tryz.func95 rfl (by kernel_rfl) (yj 49 rfl) (λe I=>?_);simp only [zB,AV.low,Bool.and_eq_true,Bool.true_and,and_true] at e;have p:∀n m,h.blks.length<=n->h.toks.length<=m->zB n m d=true:=λn m B D=>zW B D _ (by simp [e]);have u:∀n m,h.blks.length<=n->h.toks.length<=m->zB n m c=true:=λn m B D=>zW B D _ (by simp [e]);refine R.r ?_;refine ln λw=>?_;replace w:=zU w;refine R.r ?_;refine xQ (λ(i:Int×Int)=>zD [3,4,5,6,7,11,12,13,14,15,16,17,18,19,20,21,22,23,24,25,26,27,28,29,30,31,32,33,34,35,36,37,38,39,40,41,42,43,44,45,46,47,48] [(9,.int .i64 i.1),(10,.int .i64 i.2)]) (λi=>h.ext [] []) a (λ_=>by simp only [zD,wg,List.set_cons_succ,List.set_cons_zero];try rfl) (wk.le LEL.o) ?_;intro J i N a l;refine R.r ?_;refine zc gg a (λC a=>?_) (λC a=>?_)
 ·refine R.r ?_;refine zd rfl (s_convert rfl ty3 ty172 gg rfl) ss (R.r ?_);refine zd rfl (s_convert rfl ty172 ty3 gg rfl) ss (R.r ?_);refine zf a (λK E a=>zd rfl (yc rfl el24 gg gg isl E (GNode.row_eq _)) ss ?_);refine R.r ?_;refine zf a (λG z a=>yM rfl (scC rfl) (g _ _ _ _ _ z) ss ?_);refine R.r ?_;refine zc gg a (λy a=>?_) (λy a=>?_)
  ·refine R.r ?_;cases a;exact ⟨((IntKind.wrap .i64 ((IntKind.wrap .i64 ((Int.fdiv (IntKind.wrap .u64 ((IntKind.wrap .i64 (i.1+i.2)))) (2 ^ (min (1:Int).toNat (IntKind.bits .u64))))))+(1:Int))),i.2),l,wk.le LEL.o⟩
  ·refine R.r ?_;cases a;exact ⟨(i.1,(IntKind.wrap .i64 ((Int.fdiv (IntKind.wrap .u64 ((IntKind.wrap .i64 (i.1+i.2)))) (2 ^ (min (1:Int).toNat (IntKind.bits .u64))))))),l,wk.le LEL.o⟩
 ·refine R.r ?_;cases a;replace a:=l;refine R.r ?_;refine zV a (λx a=>ops_gv rfl (λs=>wE default rfl el24 (yh gg s) (yh gg s) isl (x s) (GNode.row_eq _)) ss ?_);refine R.r ?_;refine zG a (λH A a=>zA rfl scC (λs=>g _ _ _ _ _ (A s)) ss ?_);refine R.r ?_;cases a;exact fz rfl rfl
theorem ok117 {t0:(List GNode)} {a:zk} {res:(Int×Bool)} {h:AH}  (b:treeXfind t0 a=some res):Spec Tryz.prog 117 [.sl 3 (t0.map GNode.row),.str a] h (ya (.tup [.int .i64 res.1,.bool res.2]) h):=by
 unfold treeXfind at b;refine za Tryz.func117 rfl (by kernel_rfl) (yj 11 rfl) (R.r ?_);refine zf b (λe c b=>cp (ok95 (λ_ _ v L M d=>ok159  d) c) ?_);refine R.r ?_;cases b;exact fz rfl rfl
def ins118TryzRen:Go.Shelf.Ren :=
  { f:=λx=>match x with
      | 22=>118
      | 29=>160
      | 30=>161
      | n=>n
    t:=λx=>match x with
      | 0=>0
      | 3=>3
      | 4=>4
      | 9=>58
      | 24=>24
      | n=>n
    g:=λn=>n }
theorem ins118TryzLays:InsLays Tryz.prog ins118TryzRen 23 3 where
  mixed:=by kernel_rfl
  f22:=⟨Tryz.f118.name,Tryz.f118.targs,Tryz.func118.trans (by kernel_rfl),by kernel_rfl⟩
  f29:=λargs w=>run_callFunc_extern Tryz.func160 (by kernel_rfl) (by kernel_rfl) (by kernel_rfl) (e:=Extern.SlicesOverlaps.overlaps #[23,23] #[4]) (by kernel_rfl) args w
  t0:=Tryz.underlying0
  a0:=Tryz.isAgg0
  z0:=Tryz.sizeOf0
  v0:=Tryz.zeroValue0
  t3:=Tryz.underlying3
  a3:=Tryz.isAgg3
  z3:=Tryz.sizeOf3
  v3:=Tryz.zeroValue3
  t4:=Tryz.underlying4
  a4:=Tryz.isAgg4
  z4:=Tryz.sizeOf4
  v4:=Tryz.zeroValue4
  t24:=Tryz.underlying24
  a24:=Tryz.isAgg24
  z24:=Tryz.sizeOf24
  v24:=Tryz.zeroValue24
  t23:=Tryz.underlying23
  a23:=Tryz.isAgg23
  z23:=Tryz.sizeOf23
  v23:=Tryz.zeroValue23
  i9:=⟨_,_,rfl,rfl,rfl,rfl,by decide⟩
  k0:=by decide
theorem ok119 {l:(List GLeaf)} {b:Int} {j:(GLeaf->Int->Option Int)} {f:FuncId} {d c:List AV} {res:(Int×Bool)} {h:AH} (g:∀l E v (L:List Blk) (M:List Nat),j l E=some v->Spec Tryz.prog f (d++[.agg (GLeaf.row l),.int .u8 E]++c) (h.ext L M) (ya (.int .i64 v) (h.ext L M))) (a:zK l b j=some res):Spec Tryz.prog 119 [.sl 9 (l.map GLeaf.row),.int .u8 b,.fn (.func f) d c] h (ya (.tup [.int .i64 res.1,.bool res.2]) h):=by
 unfold zK at a;refine zL Tryz.func119 rfl (by kernel_rfl) (yj 49 rfl) (λe I=>?_);simp only [zB,AV.low,Bool.and_eq_true,Bool.true_and,and_true] at e;have p:∀n m,h.blks.length<=n->h.toks.length<=m->zB n m d=true:=λn m A C=>zW A C _ (by simp [e]);have s:∀n m,h.blks.length<=n->h.toks.length<=m->zB n m c=true:=λn m A C=>zW A C _ (by simp [e]);refine R.r ?_;refine ln λu=>?_;replace u:=zU u;refine R.r ?_;refine xQ (λ(i:Int×Int)=>zD [3,4,5,6,7,11,12,13,14,15,16,17,18,19,20,21,22,23,24,25,26,27,28,29,30,31,32,33,34,35,36,37,38,39,40,41,42,43,44,45,46,47,48] [(9,.int .i64 i.1),(10,.int .i64 i.2)]) (λi=>h.ext [] []) a (λ_=>by simp only [zD,wg,List.set_cons_succ,List.set_cons_zero];try rfl) (wk.le LEL.o) ?_;intro J i N a k;refine R.r ?_;refine zc gg a (λB a=>?_) (λB a=>?_)
 ·refine R.r ?_;refine zd rfl (s_convert rfl ty3 ty172 gg rfl) ss (R.r ?_);refine zd rfl (s_convert rfl ty172 ty3 gg rfl) ss (R.r ?_);refine zf a (λK D a=>ix D ?_);refine R.r ?_;refine zf a (λF y a=>yM rfl (scC rfl) (g _ _ _ _ _ y) ss ?_);refine R.r ?_;refine zc gg a (λx a=>?_) (λx a=>?_)
  ·refine R.r ?_;cases a;exact ⟨((IntKind.wrap .i64 ((IntKind.wrap .i64 ((Int.fdiv (IntKind.wrap .u64 ((IntKind.wrap .i64 (i.1+i.2)))) (2 ^ (min (1:Int).toNat (IntKind.bits .u64))))))+(1:Int))),i.2),k,wk.le LEL.o⟩
  ·refine R.r ?_;cases a;exact ⟨(i.1,(IntKind.wrap .i64 ((Int.fdiv (IntKind.wrap .u64 ((IntKind.wrap .i64 (i.1+i.2)))) (2 ^ (min (1:Int).toNat (IntKind.bits .u64))))))),k,wk.le LEL.o⟩
 ·refine R.r ?_;cases a;replace a:=k;refine R.r ?_;refine zV a (λw a=>gix w ?_);refine R.r ?_;refine zG a (λH z a=>zA rfl scC (λG=>g _ _ _ _ _ (z G)) ss ?_);refine R.r ?_;cases a;exact fz rfl rfl
theorem ok120 {d:GLeaf} {a:Int} {res:Int} {h:AH}  (b:wB d a=some res):Spec Tryz.prog 120 [.agg (GLeaf.row d),.int .u8 a] h (ya (.int .i64 res) h):=by
 unfold wB at b;refine za Tryz.func120 rfl (by kernel_rfl) (yj 9 rfl) (R.r ?_);refine zf b (λe c b=>cp (ok104 c) ?_);refine R.r ?_;cases b;exact fz rfl rfl
def ins121TryzRen:Go.Shelf.Ren :=
  { f:=λx=>match x with
      | 22=>121
      | 29=>162
      | 30=>163
      | n=>n
    t:=λx=>match x with
      | 0=>0
      | 3=>3
      | 4=>4
      | 9=>55
      | 24=>56
      | n=>n
    g:=λn=>n }
theorem ins121TryzLays:InsLays Tryz.prog ins121TryzRen 56 9 where
  mixed:=by kernel_rfl
  f22:=⟨Tryz.f121.name,Tryz.f121.targs,Tryz.func121.trans (by kernel_rfl),by kernel_rfl⟩
  f29:=λargs w=>run_callFunc_extern Tryz.func162 (by kernel_rfl) (by kernel_rfl) (by kernel_rfl) (e:=Extern.SlicesOverlaps.overlaps #[56,56] #[4]) (by kernel_rfl) args w
  t0:=Tryz.underlying0
  a0:=Tryz.isAgg0
  z0:=Tryz.sizeOf0
  v0:=Tryz.zeroValue0
  t3:=Tryz.underlying3
  a3:=Tryz.isAgg3
  z3:=Tryz.sizeOf3
  v3:=Tryz.zeroValue3
  t4:=Tryz.underlying4
  a4:=Tryz.isAgg4
  z4:=Tryz.sizeOf4
  v4:=Tryz.zeroValue4
  t24:=Tryz.underlying56
  a24:=Tryz.isAgg56
  z24:=Tryz.sizeOf56
  v24:=Tryz.zeroValue56
  t23:=Tryz.underlying56
  a23:=Tryz.isAgg56
  z23:=Tryz.sizeOf56
  v23:=Tryz.zeroValue56
  i9:=⟨_,_,rfl,rfl,rfl,rfl,by decide⟩
  k0:=by decide
end Go.Vv
