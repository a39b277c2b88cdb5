/- Each function that the law reaches computes what its reading says; printed by a program. -/
import Derived.Test.YtehifcdoglcidaaGreatVvSh
import Derived.Test.YtehifcdoglcidaaGreatVvMl
import Derived.Test.YtehifcdoglcidaaGreatVvRb
import Derived.Test.YtehifcdoglcidaaGreatVvSo
import Derived.Test.YtehifcdoglcidaaGreatVvPt
import Derived.Test.YtehifcdoglcidaaGreatVvIn
import Derived.Test.YtehifcdoglcidaaGreatVvTk
import Derived.Test.YtehifcdoglcidaaGreatVvZ
import Derived.Test.YtehifcdoglcidaaGreatVvAn
import Derived.Test.YtehifcdoglcidaaGreatVvLb
import Derived.Test.YtehifcdoglcidaaGreatVvLc
import Derived.Test.YtehifcdoglcidaaGreatVvMr
import Derived.Test.YtehifcdoglcidaaGreatVvIt
import Derived.Test.YtehifcdoglcidaaGreatVvRd
import Derived.Test.YtehifcdoglcidaaGreatD
import Derived.Test.YtehifcdoglcidaaGreatProg
namespace Go.Vv
open Go Go.Proofs
set_option maxRecDepth 100000
set_option synthInstance.maxSize 100000
set_option synthInstance.maxHeartbeats 1000000
set_option maxHeartbeats 1000000
set_option linter.unusedSimpArgs false
set_option linter.unusedVariables false
section
variable {v a0 a1 a2 a3 a4 a5 a6 a7 a8 a9 a10 a11 a12 a13 a14 a15 a16 a17 a18 a19 a20 a21 a22 a23 a24 a25 a26 a27 a28 a29 a30 a31 a32 a33 a34 a35 a36 a37 a38 a39:AV} {r q:List AV} {t:Nat}
theorem gt0:ye (a0::r) (.tmp 0)=some a0:=rfl
theorem st0:vq (some 0) (a0::r) v=some (v::r):=rfl
theorem gt1:ye (a0::a1::r) (.tmp 1)=some a1:=rfl
theorem st1:vq (some 1) (a0::a1::r) v=some (a0::v::r):=rfl
theorem gt2:ye (a0::a1::a2::r) (.tmp 2)=some a2:=rfl
theorem st2:vq (some 2) (a0::a1::a2::r) v=some (a0::a1::v::r):=rfl
theorem gt4:ye (a0::a1::a2::a3::a4::r) (.tmp 4)=some a4:=rfl
theorem st4:vq (some 4) (a0::a1::a2::a3::a4::r) v=some (a0::a1::a2::a3::v::r):=rfl
theorem gt5:ye (a0::a1::a2::a3::a4::a5::r) (.tmp 5)=some a5:=rfl
theorem st5:vq (some 5) (a0::a1::a2::a3::a4::a5::r) v=some (a0::a1::a2::a3::a4::v::r):=rfl
theorem gt6:ye (a0::a1::a2::a3::a4::a5::a6::r) (.tmp 6)=some a6:=rfl
theorem gt7:ye (a0::a1::a2::a3::a4::a5::a6::a7::r) (.tmp 7)=some a7:=rfl
theorem st7:vq (some 7) (a0::a1::a2::a3::a4::a5::a6::a7::r) v=some (a0::a1::a2::a3::a4::a5::a6::v::r):=rfl
theorem gt10:ye (a0::a1::a2::a3::a4::a5::a6::a7::a8::a9::a10::r) (.tmp 10)=some a10:=rfl
theorem st10:vq (some 10) (a0::a1::a2::a3::a4::a5::a6::a7::a8::a9::a10::r) v=some (a0::a1::a2::a3::a4::a5::a6::a7::a8::a9::v::r):=rfl
theorem gt11:ye (a0::a1::a2::a3::a4::a5::a6::a7::a8::a9::a10::a11::r) (.tmp 11)=some a11:=rfl
theorem gt12:ye (a0::a1::a2::a3::a4::a5::a6::a7::a8::a9::a10::a11::a12::r) (.tmp 12)=some a12:=rfl
theorem st13:vq (some 13) (a0::a1::a2::a3::a4::a5::a6::a7::a8::a9::a10::a11::a12::a13::r) v=some (a0::a1::a2::a3::a4::a5::a6::a7::a8::a9::a10::a11::a12::v::r):=rfl
theorem st15:vq (some 15) (a0::a1::a2::a3::a4::a5::a6::a7::a8::a9::a10::a11::a12::a13::a14::a15::r) v=some (a0::a1::a2::a3::a4::a5::a6::a7::a8::a9::a10::a11::a12::a13::a14::v::r):=rfl
theorem gt19:ye (a0::a1::a2::a3::a4::a5::a6::a7::a8::a9::a10::a11::a12::a13::a14::a15::a16::a17::a18::a19::r) (.tmp 19)=some a19:=rfl
theorem st20:vq (some 20) (a0::a1::a2::a3::a4::a5::a6::a7::a8::a9::a10::a11::a12::a13::a14::a15::a16::a17::a18::a19::a20::r) v=some (a0::a1::a2::a3::a4::a5::a6::a7::a8::a9::a10::a11::a12::a13::a14::a15::a16::a17::a18::a19::v::r):=rfl
theorem gt22:ye (a0::a1::a2::a3::a4::a5::a6::a7::a8::a9::a10::a11::a12::a13::a14::a15::a16::a17::a18::a19::a20::a21::a22::r) (.tmp 22)=some a22:=rfl
theorem gt23:ye (a0::a1::a2::a3::a4::a5::a6::a7::a8::a9::a10::a11::a12::a13::a14::a15::a16::a17::a18::a19::a20::a21::a22::a23::r) (.tmp 23)=some a23:=rfl
theorem st23:vq (some 23) (a0::a1::a2::a3::a4::a5::a6::a7::a8::a9::a10::a11::a12::a13::a14::a15::a16::a17::a18::a19::a20::a21::a22::a23::r) v=some (a0::a1::a2::a3::a4::a5::a6::a7::a8::a9::a10::a11::a12::a13::a14::a15::a16::a17::a18::a19::a20::a21::a22::v::r):=rfl
theorem gt24:ye (a0::a1::a2::a3::a4::a5::a6::a7::a8::a9::a10::a11::a12::a13::a14::a15::a16::a17::a18::a19::a20::a21::a22::a23::a24::r) (.tmp 24)=some a24:=rfl
theorem st27:vq (some 27) (a0::a1::a2::a3::a4::a5::a6::a7::a8::a9::a10::a11::a12::a13::a14::a15::a16::a17::a18::a19::a20::a21::a22::a23::a24::a25::a26::a27::r) v=some (a0::a1::a2::a3::a4::a5::a6::a7::a8::a9::a10::a11::a12::a13::a14::a15::a16::a17::a18::a19::a20::a21::a22::a23::a24::a25::a26::v::r):=rfl
theorem gt28:ye (a0::a1::a2::a3::a4::a5::a6::a7::a8::a9::a10::a11::a12::a13::a14::a15::a16::a17::a18::a19::a20::a21::a22::a23::a24::a25::a26::a27::a28::r) (.tmp 28)=some a28:=rfl
theorem st28:vq (some 28) (a0::a1::a2::a3::a4::a5::a6::a7::a8::a9::a10::a11::a12::a13::a14::a15::a16::a17::a18::a19::a20::a21::a22::a23::a24::a25::a26::a27::a28::r) v=some (a0::a1::a2::a3::a4::a5::a6::a7::a8::a9::a10::a11::a12::a13::a14::a15::a16::a17::a18::a19::a20::a21::a22::a23::a24::a25::a26::a27::v::r):=rfl
theorem gt30:ye (a0::a1::a2::a3::a4::a5::a6::a7::a8::a9::a10::a11::a12::a13::a14::a15::a16::a17::a18::a19::a20::a21::a22::a23::a24::a25::a26::a27::a28::a29::a30::r) (.tmp 30)=some a30:=rfl
theorem st31:vq (some 31) (a0::a1::a2::a3::a4::a5::a6::a7::a8::a9::a10::a11::a12::a13::a14::a15::a16::a17::a18::a19::a20::a21::a22::a23::a24::a25::a26::a27::a28::a29::a30::a31::r) v=some (a0::a1::a2::a3::a4::a5::a6::a7::a8::a9::a10::a11::a12::a13::a14::a15::a16::a17::a18::a19::a20::a21::a22::a23::a24::a25::a26::a27::a28::a29::a30::v::r):=rfl
theorem gt32:ye (a0::a1::a2::a3::a4::a5::a6::a7::a8::a9::a10::a11::a12::a13::a14::a15::a16::a17::a18::a19::a20::a21::a22::a23::a24::a25::a26::a27::a28::a29::a30::a31::a32::r) (.tmp 32)=some a32:=rfl
theorem gt33:ye (a0::a1::a2::a3::a4::a5::a6::a7::a8::a9::a10::a11::a12::a13::a14::a15::a16::a17::a18::a19::a20::a21::a22::a23::a24::a25::a26::a27::a28::a29::a30::a31::a32::a33::r) (.tmp 33)=some a33:=rfl
theorem gt34:ye (a0::a1::a2::a3::a4::a5::a6::a7::a8::a9::a10::a11::a12::a13::a14::a15::a16::a17::a18::a19::a20::a21::a22::a23::a24::a25::a26::a27::a28::a29::a30::a31::a32::a33::a34::r) (.tmp 34)=some a34:=rfl
theorem st34:vq (some 34) (a0::a1::a2::a3::a4::a5::a6::a7::a8::a9::a10::a11::a12::a13::a14::a15::a16::a17::a18::a19::a20::a21::a22::a23::a24::a25::a26::a27::a28::a29::a30::a31::a32::a33::a34::r) v=some (a0::a1::a2::a3::a4::a5::a6::a7::a8::a9::a10::a11::a12::a13::a14::a15::a16::a17::a18::a19::a20::a21::a22::a23::a24::a25::a26::a27::a28::a29::a30::a31::a32::a33::v::r):=rfl
theorem st35:vq (some 35) (a0::a1::a2::a3::a4::a5::a6::a7::a8::a9::a10::a11::a12::a13::a14::a15::a16::a17::a18::a19::a20::a21::a22::a23::a24::a25::a26::a27::a28::a29::a30::a31::a32::a33::a34::a35::r) v=some (a0::a1::a2::a3::a4::a5::a6::a7::a8::a9::a10::a11::a12::a13::a14::a15::a16::a17::a18::a19::a20::a21::a22::a23::a24::a25::a26::a27::a28::a29::a30::a31::a32::a33::a34::v::r):=rfl
theorem gt36:ye (a0::a1::a2::a3::a4::a5::a6::a7::a8::a9::a10::a11::a12::a13::a14::a15::a16::a17::a18::a19::a20::a21::a22::a23::a24::a25::a26::a27::a28::a29::a30::a31::a32::a33::a34::a35::a36::r) (.tmp 36)=some a36:=rfl
theorem gt38:ye (a0::a1::a2::a3::a4::a5::a6::a7::a8::a9::a10::a11::a12::a13::a14::a15::a16::a17::a18::a19::a20::a21::a22::a23::a24::a25::a26::a27::a28::a29::a30::a31::a32::a33::a34::a35::a36::a37::a38::r) (.tmp 38)=some a38:=rfl
theorem st38:vq (some 38) (a0::a1::a2::a3::a4::a5::a6::a7::a8::a9::a10::a11::a12::a13::a14::a15::a16::a17::a18::a19::a20::a21::a22::a23::a24::a25::a26::a27::a28::a29::a30::a31::a32::a33::a34::a35::a36::a37::a38::r) v=some (a0::a1::a2::a3::a4::a5::a6::a7::a8::a9::a10::a11::a12::a13::a14::a15::a16::a17::a18::a19::a20::a21::a22::a23::a24::a25::a26::a27::a28::a29::a30::a31::a32::a33::a34::a35::a36::a37::v::r):=rfl
theorem st39:vq (some 39) (a0::a1::a2::a3::a4::a5::a6::a7::a8::a9::a10::a11::a12::a13::a14::a15::a16::a17::a18::a19::a20::a21::a22::a23::a24::a25::a26::a27::a28::a29::a30::a31::a32::a33::a34::a35::a36::a37::a38::a39::r) v=some (a0::a1::a2::a3::a4::a5::a6::a7::a8::a9::a10::a11::a12::a13::a14::a15::a16::a17::a18::a19::a20::a21::a22::a23::a24::a25::a26::a27::a28::a29::a30::a31::a32::a33::a34::a35::a36::a37::a38::v::r):=rfl
theorem gk (h:ye r (.tmp t)=some v):ye (a0::a1::a2::a3::a4::a5::a6::a7::a8::a9::a10::a11::a12::a13::a14::a15::a16::a17::a18::a19::a20::a21::a22::a23::a24::a25::a26::a27::a28::a29::a30::a31::a32::a33::a34::a35::a36::a37::a38::a39::r) (.tmp (t+40))=some v:=h
theorem sk (h:vq (some t) r v=some q):vq (some (t+40)) (a0::a1::a2::a3::a4::a5::a6::a7::a8::a9::a10::a11::a12::a13::a14::a15::a16::a17::a18::a19::a20::a21::a22::a23::a24::a25::a26::a27::a28::a29::a30::a31::a32::a33::a34::a35::a36::a37::a38::a39::r) v=some (a0::a1::a2::a3::a4::a5::a6::a7::a8::a9::a10::a11::a12::a13::a14::a15::a16::a17::a18::a19::a20::a21::a22::a23::a24::a25::a26::a27::a28::a29::a30::a31::a32::a33::a34::a35::a36::a37::a38::a39::q):=congrArg (λx=>some (a0::a1::a2::a3::a4::a5::a6::a7::a8::a9::a10::a11::a12::a13::a14::a15::a16::a17::a18::a19::a20::a21::a22::a23::a24::a25::a26::a27::a28::a29::a30::a31::a32::a33::a34::a35::a36::a37::a38::a39::x)) (Option.some.inj h)
end
def fvOp:Nat->AV
  | 1=>.fn (.func 98) [] []
  | 2=>.fn (.func 99) [] []
  | 3=>.fn (.func 100) [] []
  | _=>.nilf
def fnOp:Nat->FuncId
  | 1=>98
  | 2=>99
  | 3=>100
  | _=>0
theorem fvlOp (c n m:Nat):(fvOp c).low n m=true:=by unfold fvOp;split <;> rfl
theorem fvtOp (P:Program) (t:TypeId) (c:Nat):tyfix P t (fvOp c)=fvOp c:=by unfold fvOp;split <;> rfl
abbrev GActor.row (x:GActor):List AV:=[.int .u8 x.rep,.int .u32 x.inc]
abbrev GDot.row (x:GDot):List AV:=[.int .u8 x.actor.rep,.int .u32 x.actor.inc,.int .u64 x.seq]
abbrev GItem.row (x:GItem):List AV:=[.int .u64 x.time,.int .u8 x.dot.actor.rep,.int .u32 x.dot.actor.inc,.int .u64 x.dot.seq,.str x.text]
abbrev GLeaf.row (x:GLeaf):List AV:=[.int .u8 x.typ,.int .i64 x.n,.int .u64 x.time,.int .u8 x.dot.actor.rep,.int .u32 x.dot.actor.inc,.int .u64 x.dot.seq,.str x.text,.sl 5 (x.items.map GItem.row),.sl 3 (x.tombs.map GDot.row)]
mutual
def GNode.row:GNode->List AV
  | ⟨name,leaves,subs⟩=>[.str name,.sl 9 (leaves.map GLeaf.row),.sl 3 (GNode.rows subs)]
def GNode.rows:List GNode->List (List AV)
  | []=>[]
  | x::r=>x.row::GNode.rows r
end
theorem GNode.rows_eq (l:List GNode):GNode.rows l=l.map GNode.row:=by
  induction l with
  | nil=>rfl
  | cons x r ih=>simp only [GNode.rows,List.map_cons,ih]
theorem GNode.row_eq (x:GNode):x.row=[.str x.name,.sl 9 (x.leaves.map GLeaf.row),.sl 3 (x.subs.map GNode.row)]:=by
  cases x;simp only [GNode.row,GNode.rows_eq]
abbrev GQuota.row (x:GQuota):List AV:=[.str x.name,.int .i64 x.leaves,.int .i64 x.items,.int .i64 x.tombs,.int .i64 x.bytes]
abbrev GOp.row (x:GOp):List AV:=[.int .u8 x.kind,.sl 1 (x.path.map yG),.int .i64 x.n,.str x.text,.sl 3 (x.dots.map GDot.row)]
abbrev GRow.row (x:GRow):List AV:=[.sl 1 (x.path.map yG),.int .u8 x.leaf.typ,.int .i64 x.leaf.n,.int .u64 x.leaf.time,.int .u8 x.leaf.dot.actor.rep,.int .u32 x.leaf.dot.actor.inc,.int .u64 x.leaf.dot.seq,.str x.leaf.text,.sl 5 (x.leaf.items.map GItem.row),.sl 3 (x.leaf.tombs.map GDot.row)]
abbrev GOpKind.row (x:GOpKind):List AV:=[.int .u8 x.leaf,fvOp x.may]
abbrev GEvent.row (x:GEvent):List AV:=[.int .u8 x.dot.actor.rep,.int .u32 x.dot.actor.inc,.int .u64 x.dot.seq,.int .u64 x.time,.int .u8 x.op.kind,.sl 1 (x.op.path.map yG),.int .i64 x.op.n,.str x.op.text,.sl 3 (x.op.dots.map GDot.row)]
instance el24:El Tryz.prog 24 65 3:=mkEl Tryz.underlying24 (by kernel_rfl)
theorem mixed:Tryz.prog.follows .mixedOrders=true:=by kernel_rfl
instance fo65x0:Fo Tryz.prog 65 0 0 9 1:=wi (by kernel_rfl) (by kernel_rfl)
instance ty9:Ty Tryz.prog 9 .string 1:=vC Tryz.underlying9 (by kernel_rfl)
instance fo65x2:Fo Tryz.prog 65 2 2 24 1:=wi (by kernel_rfl) (by kernel_rfl)
instance ty24:Ty Tryz.prog 24 (.slice 65) 1:=vC Tryz.underlying24 (by kernel_rfl)
instance fo65x1:Fo Tryz.prog 65 1 1 63 1:=wi (by kernel_rfl) (by kernel_rfl)
instance ty63:Ty Tryz.prog 63 (.slice 61) 1:=vC Tryz.underlying63 (by kernel_rfl)
instance el63:El Tryz.prog 63 61 9:=mkEl Tryz.underlying63 (by kernel_rfl)
theorem ty61:∃d,Ty Tryz.prog 61 d 9/\zS d=true:=⟨_,vC Tryz.underlying61 (by kernel_rfl),by kernel_rfl⟩
instance:TA Tryz.prog 61 9:=⟨ty61⟩
abbrev xj:List AV:=[.int .u8 (0:Int),.int .i64 (0:Int),.int .u64 (0:Int),.int .u8 (0:Int),.int .u32 (0:Int),.int .u64 (0:Int),.str ([]:zn),.osl none 5 (([]:List GItem).map GItem.row),.osl none 3 (([]:List GDot).map GDot.row)]
abbrev xf:List (AV×AV):=[(.int .u8 1,.fn (.func 69) [] []),(.int .u8 2,.fn (.func 70) [] []),(.int .u8 3,.fn (.func 71) [] []),(.int .u8 4,.fn (.func 72) [] []),(.int .u8 5,.fn (.func 73) [] [])]
abbrev lit2x:List AV:=[.int .u8 0,.int .i64 0,.int .u64 0,.int .u8 0,.int .u32 0,.int .u64 0,.str [],.osl none 5 [],.osl none 3 []]
abbrev lit3x:List AV:=[.str ([]:zn),.osl none 9 (([]:List GLeaf).map GLeaf.row),.osl none 3 (([]:List GNode).map GNode.row)]
abbrev lit4x:List AV:=[.str ([]:zn),.int .i64 (0:Int),.int .i64 (0:Int),.int .i64 (0:Int),.int .i64 (0:Int)]
abbrev lit5x:List AV:=[.int .u8 (0:Int),.int .u32 (0:Int),.int .u64 (0:Int)]
theorem ze61:xk Tryz.prog 61=some lit2x:=by kernel_rfl
instance:ZE Tryz.prog 61 lit2x:=⟨ze61⟩
instance fo61x4:Fo Tryz.prog 61 4 6 9 1:=wi (by kernel_rfl) (by kernel_rfl)
instance fo61x6:Fo Tryz.prog 61 6 8 32 1:=wi (by kernel_rfl) (by kernel_rfl)
instance ty32:Ty Tryz.prog 32 (.slice 30) 1:=vC Tryz.underlying32 (by kernel_rfl)
instance el32:El Tryz.prog 32 30 3:=mkEl Tryz.underlying32 (by kernel_rfl)
instance fo61x5:Fo Tryz.prog 61 5 7 59 1:=wi (by kernel_rfl) (by kernel_rfl)
instance ty59:Ty Tryz.prog 59 (.slice 58) 1:=vC Tryz.underlying59 (by kernel_rfl)
instance el59:El Tryz.prog 59 58 5:=mkEl Tryz.underlying59 (by kernel_rfl)
instance fo58x2:Fo Tryz.prog 58 2 4 9 1:=wi (by kernel_rfl) (by kernel_rfl)
instance el22:El Tryz.prog 22 51 5:=mkEl Tryz.underlying22 (by kernel_rfl)
theorem ty51:∃d,Ty Tryz.prog 51 d 5/\zS d=true:=⟨_,vC Tryz.underlying51 (by kernel_rfl),by kernel_rfl⟩
instance:TA Tryz.prog 51 5:=⟨ty51⟩
theorem ze51:xk Tryz.prog 51=some [.str [],.int .i64 0,.int .i64 0,.int .i64 0,.int .i64 0]:=by kernel_rfl
instance:ZE Tryz.prog 51 [.str [],.int .i64 0,.int .i64 0,.int .i64 0,.int .i64 0]:=⟨ze51⟩
instance fo51x0:Fo Tryz.prog 51 0 0 9 1:=wi (by kernel_rfl) (by kernel_rfl)
instance fo34x4:Fo Tryz.prog 34 4 4 32 1:=wi (by kernel_rfl) (by kernel_rfl)
instance fo34x1:Fo Tryz.prog 34 1 1 31 1:=wi (by kernel_rfl) (by kernel_rfl)
instance ty31:Ty Tryz.prog 31 (.slice 9) 1:=vC Tryz.underlying31 (by kernel_rfl)
instance el31:El Tryz.prog 31 9 1:=mkEl Tryz.underlying31 (by kernel_rfl)
instance fo34x3:Fo Tryz.prog 34 3 3 9 1:=wi (by kernel_rfl) (by kernel_rfl)
instance ty4:Ty Tryz.prog 4 .bool 1:=vC Tryz.underlying4 (by kernel_rfl)
instance fo51x1:Fo Tryz.prog 51 1 1 3 1:=wi (by kernel_rfl) (by kernel_rfl)
instance ty3:Ty Tryz.prog 3 (.int .i64) 1:=vC Tryz.underlying3 (by kernel_rfl)
instance fo51x2:Fo Tryz.prog 51 2 2 3 1:=wi (by kernel_rfl) (by kernel_rfl)
instance fo51x3:Fo Tryz.prog 51 3 3 3 1:=wi (by kernel_rfl) (by kernel_rfl)
instance fo51x4:Fo Tryz.prog 51 4 4 3 1:=wi (by kernel_rfl) (by kernel_rfl)
instance fo27x0:Fo Tryz.prog 27 0 0 5 1:=wi (by kernel_rfl) (by kernel_rfl)
instance ty5:Ty Tryz.prog 5 (.int .u8) 1:=vC Tryz.underlying5 (by kernel_rfl)
instance fo27x1:Fo Tryz.prog 27 1 1 25 1:=wi (by kernel_rfl) (by kernel_rfl)
instance ty25:Ty Tryz.prog 25 (.int .u32) 1:=vC Tryz.underlying25 (by kernel_rfl)
instance fo30x0:Fo Tryz.prog 30 0 0 27 2:=wi (by kernel_rfl) (by kernel_rfl)
theorem ty27:∃d,Ty Tryz.prog 27 d 2/\zS d=true:=⟨_,vC Tryz.underlying27 (by kernel_rfl),by kernel_rfl⟩
instance:TA Tryz.prog 27 2:=⟨ty27⟩
instance fo30x1:Fo Tryz.prog 30 1 2 28 1:=wi (by kernel_rfl) (by kernel_rfl)
instance ty28:Ty Tryz.prog 28 (.int .u64) 1:=vC Tryz.underlying28 (by kernel_rfl)
theorem ty30:∃d,Ty Tryz.prog 30 d 3/\zS d=true:=⟨_,vC Tryz.underlying30 (by kernel_rfl),by kernel_rfl⟩
instance:TA Tryz.prog 30 3:=⟨ty30⟩
theorem pk30:PK Tryz.prog 30 [.i,.i,.i]:=mkPK (by kernel_rfl) (by kernel_rfl) (by kernel_rfl)
instance fo58x1:Fo Tryz.prog 58 1 1 30 3:=wi (by kernel_rfl) (by kernel_rfl)
instance fo61x0:Fo Tryz.prog 61 0 0 5 1:=wi (by kernel_rfl) (by kernel_rfl)
instance fo61x1:Fo Tryz.prog 61 1 1 2 1:=wi (by kernel_rfl) (by kernel_rfl)
instance ty2:Ty Tryz.prog 2 (.int .i64) 1:=vC Tryz.underlying2 (by kernel_rfl)
noncomputable def sf30:Array Field:=match Tryz.prog.underlying 30 with | some (.struct fs)=>fs | _=>#[]
theorem su30:Tryz.prog.underlying 30=some (.struct sf30):=by kernel_rfl
theorem ze30:xk Tryz.prog 30=some [.int .u8 0,.int .u32 0,.int .u64 0]:=by kernel_rfl
instance:ZE Tryz.prog 30 [.int .u8 0,.int .u32 0,.int .u64 0]:=⟨ze30⟩
theorem pl30:wH Tryz.prog sf30=some [(0,2),(2,1)]:=by kernel_rfl
instance fo61x2:Fo Tryz.prog 61 2 2 28 1:=wi (by kernel_rfl) (by kernel_rfl)
instance fo61x3:Fo Tryz.prog 61 3 3 30 3:=wi (by kernel_rfl) (by kernel_rfl)
theorem ty58:∃d,Ty Tryz.prog 58 d 5/\zS d=true:=⟨_,vC Tryz.underlying58 (by kernel_rfl),by kernel_rfl⟩
instance:TA Tryz.prog 58 5:=⟨ty58⟩
theorem ze58:xk Tryz.prog 58=some [.int .u64 0,.int .u8 0,.int .u32 0,.int .u64 0,.str []]:=by kernel_rfl
instance:ZE Tryz.prog 58 [.int .u64 0,.int .u8 0,.int .u32 0,.int .u64 0,.str []]:=⟨ze58⟩
instance fo58x0:Fo Tryz.prog 58 0 0 28 1:=wi (by kernel_rfl) (by kernel_rfl)
theorem ty65:∃d,Ty Tryz.prog 65 d 3/\zS d=true:=⟨_,vC Tryz.underlying65 (by kernel_rfl),by kernel_rfl⟩
instance:TA Tryz.prog 65 3:=⟨ty65⟩
theorem ze65:xk Tryz.prog 65=some [.str [],.osl none 9 [],.osl none 3 []]:=by kernel_rfl
instance:ZE Tryz.prog 65 [.str [],.osl none 9 [],.osl none 3 []]:=⟨ze65⟩
noncomputable def sf27:Array Field:=match Tryz.prog.underlying 27 with | some (.struct fs)=>fs | _=>#[]
theorem su27:Tryz.prog.underlying 27=some (.struct sf27):=by kernel_rfl
theorem ze27:xk Tryz.prog 27=some [.int .u8 0,.int .u32 0]:=by kernel_rfl
instance:ZE Tryz.prog 27 [.int .u8 0,.int .u32 0]:=⟨ze27⟩
theorem pl27:wH Tryz.prog sf27=some [(0,1),(1,1)]:=by kernel_rfl
instance el196:El Tryz.prog 196 3 1:=mkEl Tryz.underlying196 (by kernel_rfl)
theorem ze3:xk Tryz.prog 3=some [.int .i64 0]:=by kernel_rfl
instance:ZE Tryz.prog 3 [.int .i64 0]:=⟨ze3⟩
theorem pk58:PK Tryz.prog 58 [.i,.i,.i,.i,.s]:=mkPK (by kernel_rfl) (by kernel_rfl) (by kernel_rfl)
theorem kq30:KQ Tryz.prog 30 (λx=>AV.agg (GDot.row x)) GDot.eqb:=.struct su30 pk30 (λ_ _=>rfl) (λa=>by simp [GDot.eqb])
theorem az3:aZeroM Tryz.prog 3=some ((AV.int .i64) (0:Int)):=by kernel_rfl
noncomputable def sf61:Array Field:=match Tryz.prog.underlying 61 with | some (.struct fs)=>fs | _=>#[]
theorem su61:Tryz.prog.underlying 61=some (.struct sf61):=by kernel_rfl
theorem pl61:wH Tryz.prog sf61=some [(0,1),(1,1),(2,1),(3,3),(6,1),(7,1),(8,1)]:=by kernel_rfl
instance el100:El Tryz.prog 100 5 1:=mkEl Tryz.underlying100 (by kernel_rfl)
theorem ze5:xk Tryz.prog 5=some [.int .u8 0]:=by kernel_rfl
instance:ZE Tryz.prog 5 [.int .u8 0]:=⟨ze5⟩
instance ty100:Ty Tryz.prog 100 (.slice 5) 1:=vC Tryz.underlying100 (by kernel_rfl)
theorem ze9:xk Tryz.prog 9=some [.str []]:=by kernel_rfl
instance:ZE Tryz.prog 9 [.str []]:=⟨ze9⟩
instance ty165:Ty Tryz.prog 165 (.func #[105] #[4] false) 1:=vC Tryz.underlying165 (by kernel_rfl)
noncomputable def sf105:Array Field:=match Tryz.prog.underlying 105 with | some (.struct fs)=>fs | _=>#[]
theorem su105:Tryz.prog.underlying 105=some (.struct sf105):=by kernel_rfl
theorem ze105:xk Tryz.prog 105=some [.osl none 1 [],.int .u8 0,.int .i64 0,.int .u64 0,.int .u8 0,.int .u32 0,.int .u64 0,.str [],.osl none 5 [],.osl none 3 []]:=by kernel_rfl
instance:ZE Tryz.prog 105 [.osl none 1 [],.int .u8 0,.int .i64 0,.int .u64 0,.int .u8 0,.int .u32 0,.int .u64 0,.str [],.osl none 5 [],.osl none 3 []]:=⟨ze105⟩
theorem pl105:wH Tryz.prog sf105=some [(0,1),(1,9)]:=by kernel_rfl
theorem ty105:∃d,Ty Tryz.prog 105 d 10/\zS d=true:=⟨_,vC Tryz.underlying105 (by kernel_rfl),by kernel_rfl⟩
instance:TA Tryz.prog 105 10:=⟨ty105⟩
instance el102:El Tryz.prog 102 105 10:=mkEl Tryz.underlying102 (by kernel_rfl)
instance ty102:Ty Tryz.prog 102 (.slice 105) 1:=vC Tryz.underlying102 (by kernel_rfl)
theorem ze66:xk Tryz.prog 66=some [.str [],.int .i64 0,.int .i64 0,.int .i64 0,.int .i64 0]:=by kernel_rfl
instance:ZE Tryz.prog 66 [.str [],.int .i64 0,.int .i64 0,.int .i64 0,.int .i64 0]:=⟨ze66⟩
noncomputable def sf66:Array Field:=match Tryz.prog.underlying 66 with | some (.struct fs)=>fs | _=>#[]
theorem su66:Tryz.prog.underlying 66=some (.struct sf66):=by kernel_rfl
theorem pl66:wH Tryz.prog sf66=some [(0,1),(1,1),(2,1),(3,1),(4,1)]:=by kernel_rfl
theorem ty66:∃d,Ty Tryz.prog 66 d 5/\zS d=true:=⟨_,vC Tryz.underlying66 (by kernel_rfl),by kernel_rfl⟩
instance:TA Tryz.prog 66 5:=⟨ty66⟩
instance fo66x1:Fo Tryz.prog 66 1 1 3 1:=wi (by kernel_rfl) (by kernel_rfl)
instance fo66x2:Fo Tryz.prog 66 2 2 3 1:=wi (by kernel_rfl) (by kernel_rfl)
instance fo105x1:Fo Tryz.prog 105 1 1 61 9:=wi (by kernel_rfl) (by kernel_rfl)
instance fo66x3:Fo Tryz.prog 66 3 3 3 1:=wi (by kernel_rfl) (by kernel_rfl)
instance el44:El Tryz.prog 44 66 5:=mkEl Tryz.underlying44 (by kernel_rfl)
noncomputable def sf58:Array Field:=match Tryz.prog.underlying 58 with | some (.struct fs)=>fs | _=>#[]
theorem su58:Tryz.prog.underlying 58=some (.struct sf58):=by kernel_rfl
theorem pl58:wH Tryz.prog sf58=some [(0,1),(1,3),(4,1)]:=by kernel_rfl
noncomputable def sf65:Array Field:=match Tryz.prog.underlying 65 with | some (.struct fs)=>fs | _=>#[]
theorem su65:Tryz.prog.underlying 65=some (.struct sf65):=by kernel_rfl
theorem pl65:wH Tryz.prog sf65=some [(0,1),(1,1),(2,1)]:=by kernel_rfl
instance fo66x0:Fo Tryz.prog 66 0 0 9 1:=wi (by kernel_rfl) (by kernel_rfl)
instance fo66x4:Fo Tryz.prog 66 4 4 3 1:=wi (by kernel_rfl) (by kernel_rfl)
instance fo34x2:Fo Tryz.prog 34 2 2 2 1:=wi (by kernel_rfl) (by kernel_rfl)
theorem ze108:xk Tryz.prog 108=some [.int .u8 0,.nilf]:=by kernel_rfl
instance:ZE Tryz.prog 108 [.int .u8 0,.nilf]:=⟨ze108⟩
noncomputable def sf108:Array Field:=match Tryz.prog.underlying 108 with | some (.struct fs)=>fs | _=>#[]
theorem su108:Tryz.prog.underlying 108=some (.struct sf108):=by kernel_rfl
theorem pl108:wH Tryz.prog sf108=some [(0,1),(1,1)]:=by kernel_rfl
instance ty144:Ty Tryz.prog 144 (.array 6 108) 12:=vC Tryz.underlying144 (by kernel_rfl)
theorem ze144:xk Tryz.prog 144=some [.int .u8 0,.nilf,.int .u8 0,.nilf,.int .u8 0,.nilf,.int .u8 0,.nilf,.int .u8 0,.nilf,.int .u8 0,.nilf]:=by kernel_rfl
instance:ZE Tryz.prog 144 [.int .u8 0,.nilf,.int .u8 0,.nilf,.int .u8 0,.nilf,.int .u8 0,.nilf,.int .u8 0,.nilf,.int .u8 0,.nilf]:=⟨ze144⟩
theorem ty108:∃d,Ty Tryz.prog 108 d 2/\zS d=true:=⟨_,vC Tryz.underlying108 (by kernel_rfl),by kernel_rfl⟩
instance:TA Tryz.prog 108 2:=⟨ty108⟩
instance fo34x0:Fo Tryz.prog 34 0 0 5 1:=wi (by kernel_rfl) (by kernel_rfl)
instance fo108x1:Fo Tryz.prog 108 1 1 85 1:=wi (by kernel_rfl) (by kernel_rfl)
instance ty85:Ty Tryz.prog 85 (.func #[34] #[4] false) 1:=vC Tryz.underlying85 (by kernel_rfl)
theorem ty34:∃d,Ty Tryz.prog 34 d 5/\zS d=true:=⟨_,vC Tryz.underlying34 (by kernel_rfl),by kernel_rfl⟩
instance:TA Tryz.prog 34 5:=⟨ty34⟩
instance fo36x0:Fo Tryz.prog 36 0 0 30 3:=wi (by kernel_rfl) (by kernel_rfl)
instance fo36x1:Fo Tryz.prog 36 1 3 28 1:=wi (by kernel_rfl) (by kernel_rfl)
instance fo36x2:Fo Tryz.prog 36 2 4 34 5:=wi (by kernel_rfl) (by kernel_rfl)
instance fo108x0:Fo Tryz.prog 108 0 0 5 1:=wi (by kernel_rfl) (by kernel_rfl)
instance ty158:Ty Tryz.prog 158 (.int .u64) 1:=vC Tryz.underlying158 (by kernel_rfl)
theorem ty36:∃d,Ty Tryz.prog 36 d 9/\zS d=true:=⟨_,vC Tryz.underlying36 (by kernel_rfl),by kernel_rfl⟩
instance:TA Tryz.prog 36 9:=⟨ty36⟩
noncomputable def sf120:Array Field:=match Tryz.prog.underlying 120 with | some (.struct fs)=>fs | _=>#[]
theorem su120:Tryz.prog.underlying 120=some (.struct sf120):=by kernel_rfl
theorem ze120:xk Tryz.prog 120=some lit2x:=by kernel_rfl
instance:ZE Tryz.prog 120 lit2x:=⟨ze120⟩
theorem pl120:wH Tryz.prog sf120=some [(0,9)]:=by kernel_rfl
instance fo120x0:Fo Tryz.prog 120 0 0 61 9:=wi (by kernel_rfl) (by kernel_rfl)
theorem azf115:aZeroM Tryz.prog 115=some .nilf:=by kernel_rfl
instance el23:El Tryz.prog 23 65 3:=mkEl Tryz.underlying23 (by kernel_rfl)
theorem ze68:xk Tryz.prog 68=some [.int .i64 0,.int .i64 0,.int .i64 0,.int .i64 0]:=by kernel_rfl
instance:ZE Tryz.prog 68 [.int .i64 0,.int .i64 0,.int .i64 0,.int .i64 0]:=⟨ze68⟩
instance ty68:Ty Tryz.prog 68 (.array 4 3) 4:=vC Tryz.underlying68 (by kernel_rfl)
instance ty132:Ty Tryz.prog 132 (.array 2 9) 2:=vC Tryz.underlying132 (by kernel_rfl)
theorem ze132:xk Tryz.prog 132=some [.str [],.str []]:=by kernel_rfl
instance:ZE Tryz.prog 132 [.str [],.str []]:=⟨ze132⟩
noncomputable def sf51:Array Field:=match Tryz.prog.underlying 51 with | some (.struct fs)=>fs | _=>#[]
theorem su51:Tryz.prog.underlying 51=some (.struct sf51):=by kernel_rfl
theorem pl51:wH Tryz.prog sf51=some [(0,1),(1,1),(2,1),(3,1),(4,1)]:=by kernel_rfl
theorem pka68:PKA Tryz.prog 68 [.i,.i,.i,.i]:=⟨by kernel_rfl,by kernel_rfl,by kernel_rfl⟩
abbrev zr (x:GLeaf) (p q:AV):List AV:=[.int .u8 x.typ,.int .i64 x.n,.int .u64 x.time,.int .u8 x.dot.actor.rep,.int .u32 x.dot.actor.inc,.int .u64 x.dot.seq,.str x.text,p,q]
theorem ok29N (n:Nat):∀{t0:(List GNode)} {b:Int} {res:Int} {h:AH} , xl n t0 b=some res->Spec Tryz.prog 29 [.sl 3 (t0.map GNode.row),.int .i64 b] h (yr (.int .i64 res) h):=by
 induction n with
 | zero=>intro t0 b res h  a;simp [xl] at a
 | succ n ih =>
  intro t0 b res h  a;unfold xl at a;refine za Tryz.func29 rfl (by kernel_rfl) (yE 84 rfl) (R.r ?_);refine xK (λ(y:Int×Int)=>zG [2,3,4,7,8,9,10,11,12,13,14,15,16,17,18,19,20,21,22,23,24,25,26,27,28,29,30,31,32,33,34,35,36,37,38,39,40,41,42,43,44,45,46,47,48,49,50,51,52,53,54,55,56,57,58,59,60,61,62,63,64,65,66,67,68,69,70,71,72,73,74,75,76,77,78,79,80,81,82,83] [(5,.int .i64 y.1),(6,.int .i64 y.2)]) (λy=>h.ext [] []) a (λ_=>by simp only [zG,wJ,List.set_cons_succ,List.set_cons_zero];try rfl) (wk.le LEL.o) ?_;intro Q y P a A;refine R.r ?_;refine ln λi=>?_;replace i:=yl i;refine R.r ?_;refine ze gg a (λs a=>?_) (λs a=>?_)
  ·refine R.r ?_;refine zu [16] [] trivial mixed (by kernel_rfl) (R.r ?_);refine zd a (λO C a=>zB rfl rfl (yJ rfl el24 gg gg isl C (GNode.row_eq _)) ss ?_);refine R.r ?_;refine vr rfl rfl (s_lenStr rfl rfl rfl rfl ty9 gg) ss (R.r ?_);refine zd a (λK x a=>zB rfl rfl (yJ rfl el24 gg gg isl x (GNode.row_eq _)) ss ?_);refine R.r ?_;refine zd a (λJ w a=>zO rfl rfl (λ_=>sc rfl) (by rintro _ ⟨B2,T2,rfl,N⟩;exact ih w) ss ?_);refine R.r ?_;refine xK (λ(p:Int×Int)=>zG [2,3,4,8,9,10,11,12,13,14,15,16,17,18,19,20,21,22,23,24,25,26,27,28,29,30,31,32,33,34,35,36,37,38,39,40,41,42,43,44,45,46,47,48,49,50,51,52,53,54,55,56,57,58,59,60,61,62,63,64,65,66,67,68,69,70,71,72,73,74,75,76,77,78,79,80,81,82,83] [(5,.int .i64 p.1),(7,.int .i64 p.2)]) (λp=>h.ext [] []) a (λ_=>by simp only [zG,wJ,List.set_cons_succ,List.set_cons_zero];try rfl) (wk.le LEL.o) ?_;intro n2 p T a z;refine R.r ?_;refine zd a (λG l a=>zc rfl (yJ rfl el24 gg gg isl l (GNode.row_eq _)) ss ?_);refine R.r ?_;refine ln λg=>?_;replace g:=yl g;refine R.r ?_;refine ze gg a (λm a=>?_) (λm a=>?_)
   ·refine R.r ?_;refine zd a (λH k a=>zc rfl (yJ rfl el24 gg gg isl k (GNode.row_eq _)) ss ?_);refine R.r ?_;refine zd a (λu j a=>ix j ?_);refine R.r ?_;refine ln λd=>?_;replace d:=yl d;refine R.r ?_;refine ln λc=>?_;replace c:=yl c;refine R.r ?_;refine zz (λ(I:Nat) (B:Int)=>zG [2,3,4,10,11,12,13,14,15,16,17,18,19,20,21,22,23,24,25,26,27,28,29,30,31,32,33,34,35,36,37,38,39,40,41,42,43,44,45,46,47,48,49,50,51,52,53,54,55,56,57,58,59,60,61,62,63,64,65,66,67,68,69,70,71,72,73,74,75,76,77,78,79,80,81,82,83] [(5,.int .i64 B),(9,.int .i64 (I:Int))]) (λB=>h.ext [.cells (GLeaf.row u)] []) a (λ_ _=>by simp only [zG,wJ,List.set_cons_succ,List.set_cons_zero];try rfl) (wk.le LEL.o) ?_;intro I B L a;refine R.r ?_;refine ln λf=>?_;replace f:=yl f;refine R.r ?_;refine zP gg a (λM S D E a F=>?_) (λa=>?_)
    ·refine R.r ?_;refine ix (zI E) (R.r ?_);refine ln λe=>?_;replace e:=yl e;refine R.r ?_;cases a;exact ⟨(IntKind.wrap .i64 ((IntKind.wrap .i64 (B+(1:Int)))+((M.text).length:Int))),D,F,wk.le (by exact (.eq (.eq (.drop (.drop (.drop (.cons (leV.of_eq rfl) (.eq (.eq (.eq (.cons (leV.of_eq (y8 (by omega) (by omega))) (.d16 (.d16 (.d16 (.d16 (.d4 (.d4 (.drop (.drop leL.nil)))))))))))))))))))⟩
    ·refine R.r ?_;cases a;exact ⟨(B,(IntKind.wrap .i64 (p.2+(1:Int)))),z,wk.trans (wk.le LEL.o) (yj (by simp [zw,AV.low]) rfl rfl (by simp [Blk.low,zw,AV.low]))⟩
   ·refine R.r ?_;cases a;replace a:=z;refine R.r ?_;cases a;exact ⟨(p.1,(IntKind.wrap .i64 (y.2+(1:Int)))),A,wk.le LEL.o⟩
  ·refine R.r ?_;cases a;replace a:=A;refine R.r ?_;cases a;exact fz rfl rfl
theorem ok29 {t0:(List GNode)} {a:Int} {res:Int} {h:AH}  (c:ref07Xsize t0 a=some res):Spec Tryz.prog 29 [.sl 3 (t0.map GNode.row),.int .i64 a] h (yr (.int .i64 res) h):=by
 obtain ⟨n,b⟩:=anyN_is c;exact ok29N n b
theorem ok11 {t0:(List GNode)} {res:Bool} {h:AH}  (a:qv t0=some res):Spec Tryz.prog 11 [.sl 3 (t0.map GNode.row)] h (yr (.bool res) h):=by
 unfold qv at a;refine za Tryz.func11 rfl (by kernel_rfl) (yE 6 rfl) (R.r ?_);refine zd a (λc b a=>cp (ok29 b) ?_);refine R.r ?_;cases a;exact fz rfl rfl
theorem ok4 {w:(List GQuota)} {l:(List GNode)} {k:GOp} {res:Bool} {h:AH}  (a:law45Xgreat w l k=some res):Spec Tryz.prog 4 [.sl 5 (w.map GQuota.row),.sl 3 (l.map GNode.row),.agg (GOp.row k)] h (yr (.bool res) h):=by
 unfold law45Xgreat at a;refine za Tryz.func4 rfl (by kernel_rfl) (yE 45 rfl) (R.r ?_);refine ln λf=>?_;replace f:=yl f;refine R.r ?_;refine zz (λ(n:Nat) (s:Unit)=>zG [2,3,4,6,7,8,12,13,14,15,16,17,18,19,20,21,22,23,24,25,26,27,28,29,30,31,32,33,34,35,36,37,38,39,40,41,42,43,44] [(11,.int .i64 (n:Int))]) (λs=>h.ext [.cells (GOp.row k)] []) a (λ_ _=>by simp only [zG,wJ,List.set_cons_succ,List.set_cons_zero];try rfl) (wk.le LEL.o) ?_;intro n s y a;refine R.r ?_;refine zP gg a (λB A j i a g=>?_) (λa=>?_)
 ·refine R.r ?_;refine ix (zI i) (R.r ?_);refine ln λb=>?_;replace b:=yl b;refine R.r ?_;refine ze gg a (λd a=>?_) (λd a=>?_)
  ·refine R.r ?_;cases a;replace a:=g;refine R.r ?_;cases a;exact fz rfl rfl
  ·refine R.r ?_;cases a;exact ⟨(),j,g,wk.trans (wk.le (by exact (.eq (.eq (.drop (.drop (.drop (.eq (.drop (.drop (.drop (.eq (.eq (.cons (leV.of_eq (y8 (by omega) (by omega))) (.d16 (.d16 (.drop leL.nil))))))))))))))))) (yj (by simp [zw,AV.low]) rfl rfl (by simp [Blk.low,zw,AV.low]))⟩
 ·refine R.r ?_;refine ln λc=>?_;replace c:=yl c;refine R.r ?_;refine zX a (λx e a=>zM rfl sc (λz=>ok11 (e z)) ss ?_);refine R.r ?_;refine lng λp=>R.r ?_;refine lng λu=>R.r ?_;refine lng λm=>R.r ?_;cases a;exact fz rfl rfl
theorem ok30 {C:(List GQuota)} {z:(GQuota->Option Bool)} {e:FuncId} {d c:List AV} {res:Int} {h:AH} (s:∀y v (L:List Blk) (M:List Nat),z y=some v->Spec Tryz.prog e (d++[.agg (GQuota.row y)]++c) (h.ext L M) (yr (.bool v) (h.ext L M))) (a:zV C z=some res):Spec Tryz.prog 30 [.sl 5 (C.map GQuota.row),.fn (.func e) d c] h (yr (.int .i64 res) h):=by
 unfold zV at a;refine zF Tryz.func30 rfl (by kernel_rfl) (yE 19 rfl) (λb E=>?_);simp only [zw,AV.low,Bool.and_eq_true,Bool.true_and,and_true] at b;have u:∀n m,h.blks.length<=n->h.toks.length<=m->zw n m d=true:=λn m x w=>zT x w _ (by simp [b]);have i:∀n m,h.blks.length<=n->h.toks.length<=m->zw n m c=true:=λn m x w=>zT x w _ (by simp [b]);refine R.r ?_;refine ln λf=>?_;replace f:=yl f;refine R.r ?_;refine zz (λ(A:Nat) (B:Unit)=>zG [2,3,4,5,6,9,10,11,12,13,14,15,16,17,18] [(8,.int .i64 (A:Int))]) (λB=>h.ext [] []) a (λ_ _=>by simp only [zG,wJ,List.set_cons_succ,List.set_cons_zero];try rfl) (wk.le LEL.o) ?_;intro A B D a;refine R.r ?_;refine zP gg a (λG F l j a g=>?_) (λa=>?_)
 ·refine R.r ?_;refine ix (zI j) (R.r ?_);refine zd a (λH p a=>xw rfl (scC rfl) (s _ _ _ _ p) ss ?_);refine R.r ?_;refine ze gg a (λk a=>?_) (λk a=>?_)
  ·refine R.r ?_;cases a;replace a:=g;refine R.r ?_;cases a;exact fz rfl rfl
  ·refine R.r ?_;cases a;exact ⟨(),l,g,wk.le (by exact (.eq (.eq (.d4 (.drop (.eq (.cons (leV.of_eq (y8 (by omega) (by omega))) (.d4 (.d4 (.drop (.drop leL.nil)))))))))))⟩
 ·refine R.r ?_;cases a;exact fz rfl rfl
theorem ok12 {s:(List GQuota)} {p:(GQuota->Option Bool)} {d:FuncId} {c b:List AV} {res:Bool} {h:AH} (j:∀e v (L:List Blk) (M:List Nat),p e=some v->Spec Tryz.prog d (c++[.agg (GQuota.row e)]++b) (h.ext L M) (yr (.bool v) (h.ext L M))) (f:yQ s p=some res):Spec Tryz.prog 12 [.sl 5 (s.map GQuota.row),.fn (.func d) c b] h (yr (.bool res) h):=by
 unfold yQ at f;refine zF Tryz.func12 rfl (by kernel_rfl) (yE 9 rfl) (λa w=>?_);simp only [zw,AV.low,Bool.and_eq_true,Bool.true_and,and_true] at a;have k:∀n m,h.blks.length<=n->h.toks.length<=m->zw n m c=true:=λn m o l=>zT o l _ (by simp [a]);have g:∀n m,h.blks.length<=n->h.toks.length<=m->zw n m b=true:=λn m o l=>zT o l _ (by simp [a]);refine R.r ?_;refine zd f (λx i f=>cp (ok30 (λe v L M u=>by rw [yM];exact j e v _ _ u) i) ?_);refine R.r ?_;cases f;exact fz rfl rfl
theorem ok13 {e:GQuota} {b:GQuota} {c:Nat} {res:Bool} {h:AH} (a:h.blk c=some (.cells (GQuota.row b))) (d:meterMayC1 e b=some res):Spec Tryz.prog 13 [.agg (GQuota.row e),.ptr c 0] h (yr (.bool res) h):=by
 unfold meterMayC1 at d;refine za Tryz.func13 rfl (by kernel_rfl) (yE 9 rfl) (R.r ?_);refine zc rfl (b_load rfl ty9 gg a (yh rfl) (zb rfl)) ss (R.r ?_);cases d;exact fz rfl rfl
theorem ok87 {j:zn} {z:(Int->Option Bool)} {g:FuncId} {e d:List AV} {b:Bool} {res:Int} {h:AH} (s:∀y v (L:List Blk) (M:List Nat),z y=some v->Spec Tryz.prog g (e++[.int .i32 y]++d) (h.ext L M) (yr (.bool v) (h.ext L M))) (a:wF j z b=some res):Spec Tryz.prog 87 [.str j,.fn (.func g) e d,.bool b] h (yr (.int .i64 res) h):=by
 unfold wF at a;refine zF Tryz.func87 rfl (by kernel_rfl) (yE 21 rfl) (λc B=>?_);simp only [zw,AV.low,Bool.and_eq_true,Bool.true_and,and_true] at c;have u:∀n m,h.blks.length<=n->h.toks.length<=m->zw n m e=true:=λn m x w=>zT x w _ (by simp [c]);have l:∀n m,h.blks.length<=n->h.toks.length<=m->zw n m d=true:=λn m x w=>zT x w _ (by simp [c]);refine R.r ?_;refine zc rfl (e_range (n:=0) rfl ty9 gg rfl) ss (R.r ?_);refine xK (λ(i:Nat)=>zG [0,3,4,5,6,7,8,9,11,12,13,14,15,16,17,18,19,20] []) (λi=>h.ext [.siter j i] []) a (λ_=>by simp only [zG,wJ,List.set_cons_succ,List.set_cons_zero];try rfl) (wk.le LEL.o) ?_;intro D i C a f;refine R.r ?_;refine ops_nextF rfl rfl gg rfl ss ss a (λA a=>?_) (λa=>?_)
 ·refine R.r ?_;refine r_cond gg (λ_=>?_) (λhh=>by cases hh);refine R.r ?_;refine zd a (λE k a=>xw rfl (scC rfl) (s _ _ _ _ k) ss ?_);refine R.r ?_;refine zc rfl (s_bin rfl gg gg (bin_boolE ty4)) ss (R.r ?_);refine ze gg a (λp a=>?_) (λp a=>?_)
  ·refine R.r ?_;cases a;replace a:=f;refine R.r ?_;cases a;exact fz rfl rfl
  ·refine R.r ?_;cases a;exact ⟨(i+(dec j i).2),f,wk.le LEL.o⟩
 ·refine R.r ?_;refine r_cond gg (λhh=>by cases hh) (λ_=>R.r ?_);cases a;replace a:=f;refine R.r ?_;cases a;exact fz rfl rfl
theorem ok54 {s:zn} {p:(Int->Option Bool)} {d:FuncId} {c b:List AV} {res:Int} {h:AH} (j:∀e v (L:List Blk) (M:List Nat),p e=some v->Spec Tryz.prog d (c++[.int .i32 e]++b) (h.ext L M) (yr (.bool v) (h.ext L M))) (f:w9 s p=some res):Spec Tryz.prog 54 [.str s,.fn (.func d) c b] h (yr (.int .i64 res) h):=by
 unfold w9 at f;refine zF Tryz.func54 rfl (by kernel_rfl) (yE 8 rfl) (λa w=>?_);simp only [zw,AV.low,Bool.and_eq_true,Bool.true_and,and_true] at a;have k:∀n m,h.blks.length<=n->h.toks.length<=m->zw n m c=true:=λn m o l=>zT o l _ (by simp [a]);have g:∀n m,h.blks.length<=n->h.toks.length<=m->zw n m b=true:=λn m o l=>zT o l _ (by simp [a]);refine R.r ?_;refine zd f (λx i f=>cp (ok87 (λe v L M u=>by rw [yM];exact j e v _ _ u) i) ?_);refine R.r ?_;cases f;exact fz rfl rfl
theorem ok32 {s:zn} {p:(Int->Option Bool)} {d:FuncId} {c b:List AV} {res:Bool} {h:AH} (j:∀e v (L:List Blk) (M:List Nat),p e=some v->Spec Tryz.prog d (c++[.int .i32 e]++b) (h.ext L M) (yr (.bool v) (h.ext L M))) (f:xz s p=some res):Spec Tryz.prog 32 [.str s,.fn (.func d) c b] h (yr (.bool res) h):=by
 unfold xz at f;refine zF Tryz.func32 rfl (by kernel_rfl) (yE 9 rfl) (λa w=>?_);simp only [zw,AV.low,Bool.and_eq_true,Bool.true_and,and_true] at a;have k:∀n m,h.blks.length<=n->h.toks.length<=m->zw n m c=true:=λn m o l=>zT o l _ (by simp [a]);have g:∀n m,h.blks.length<=n->h.toks.length<=m->zw n m b=true:=λn m o l=>zT o l _ (by simp [a]);refine R.r ?_;refine zd f (λx i f=>cp (ok54 (λe v L M u=>by rw [yM];exact j e v _ _ u) i) ?_);refine R.r ?_;cases f;exact fz rfl rfl
theorem ok31 {a:Int} {res:Bool} {h:AH}  (b:qB a=some res):Spec Tryz.prog 31 [.int .i32 a] h (yr (.bool res) h):=by
 unfold qB at b;refine za Tryz.func31 rfl (by kernel_rfl) (yE 25 rfl) (R.r ?_);cases b;exact fz rfl rfl
theorem ok14 {d:zn} {res:Bool} {h:AH}  (b:qY d=some res):Spec Tryz.prog 14 [.str d] h (yr (.bool res) h):=by
 unfold qY at b;refine za Tryz.func14 rfl (by kernel_rfl) (yE 18 rfl) (R.r ?_);refine ln λa=>?_;replace a:=yl a;refine R.r ?_;refine lng λg=>R.r ?_;refine zX b (λv3 c b=>zM rfl sc (λe=>ok32 (λ_ v L M f=>ok31  f) (c e)) ss ?_);refine R.r ?_;cases b;exact fz rfl rfl
theorem ok5 {p:(List GQuota)} {res:Bool} {h:AH}  (a:meterMay p=some res):Spec Tryz.prog 5 [.sl 5 (p.map GQuota.row)] h (yr (.bool res) h):=by
 unfold meterMay at a;refine za Tryz.func5 rfl (by kernel_rfl) (yE 43 rfl) (R.r ?_);refine ln λd=>?_;replace d:=yl d;refine R.r ?_;refine zz (λ(m:Nat) (n:Unit)=>zG [1,2,3,4,5,9,10,11,12,13,14,15,16,17,18,19,20,21,22,23,24,25,26,27,28,29,30,31,32,33,34,35,36,37,38,39,40,41,42] [(8,.int .i64 (m:Int))]) (λn=>h.ext [] []) a (λ_ _=>by simp only [zG,wJ,List.set_cons_succ,List.set_cons_zero];try rfl) (wk.le LEL.o) ?_;intro m n u a;refine R.r ?_;refine zP gg a (λA z l i a f=>?_) (λa=>?_)
 ·refine R.r ?_;refine ix (zI i) (R.r ?_);refine zd a (λy k a=>zc rfl (vd rfl el22 gg (.inl rfl) .none (.some gg) k) ss ?_);refine zc rfl (wg rfl rfl rfl) ss ?_;refine zd a (λw g a=>cp (ok12 (λ_ v L M s=>ok13 (blk_ext2 (j:=0) rfl) s) g) ?_);refine R.r ?_;refine zX a (λx e a=>zM (aG_gv rfl rfl rfl) sc (λb=>ok14 (e b)) ss ?_);refine R.r ?_;refine ops_gv rfl (λb=>s_mm false rfl rfl (zC (yq gt32 b) (zC (yq gt34 b) (zC (yq gt36 b) (zC (yq gt38 b) yD)))) rfl rfl) st39 (R.r ?_);refine ze gg a (λc a=>?_) (λc a=>?_)
  ·refine R.r ?_;cases a;replace a:=f;refine R.r ?_;cases a;exact fz rfl rfl
  ·refine R.r ?_;cases a;exact ⟨(),l,f,wk.trans (wk.le (by exact (.eq (.d4 (.drop (.eq (.eq (.cons (leV.of_eq (y8 (by omega) (by omega))) (.d16 (.d16 (.drop (.drop leL.nil)))))))))))) (yj (by simp [zw,AV.low]) rfl rfl (by simp [Blk.low,zw,AV.low]))⟩
 ·refine R.r ?_;cases a;exact fz rfl rfl
theorem ok33 {l:zn} {res:Bool} {h:AH}  (a:wc l=some res):Spec Tryz.prog 33 [.str l] h (yr (.bool res) h):=by
 unfold wc at a;refine za Tryz.func33 rfl (by kernel_rfl) (yE 45 rfl) (R.r ?_);refine ln λe=>?_;replace e:=yl e;refine R.r ?_;refine lng λm=>R.r ?_;refine ze gg a (λg a=>?_) (λg a=>?_)
 ·refine R.r ?_;cases a;exact fz rfl rfl
 ·refine R.r ?_;refine zz (λ(k:Nat) (j:Unit)=>zG [1,2,4,5,6,7,8,9,10,11,12,13,14,15,16,17,18,19,20,21,22,23,24,25,26,27,28,29,30,31,32,33,34,35,36,37,38,39,40,41,42,43,44] [(3,.int .i64 (k:Int))]) (λj=>h.ext [] []) a (λ_ _=>by simp only [zG,wJ,List.set_cons_succ,List.set_cons_zero];try rfl) (wk.le LEL.o) ?_;intro k j n a;refine R.r ?_;refine ln λb=>?_;replace b:=yl b;refine R.r ?_;refine zP gg a (λp s f i a d=>?_) (λa=>?_)
  ·refine R.r ?_;refine zc rfl (s_idxStr rfl ty9 gg gg (zI i)) ss (R.r ?_);refine ze gg a (λc a=>?_) (λc a=>?_)
   ·refine R.r ?_;cases a;replace a:=d;refine R.r ?_;cases a;exact fz rfl rfl
   ·refine R.r ?_;cases a;exact ⟨(),f,d,wk.le (by exact (.eq (.drop (.drop (.cons (leV.of_eq (y8 (by omega) (by omega))) (.d16 (.d16 (.d4 (.d4 (.drop leL.nil))))))))))⟩
  ·refine R.r ?_;cases a;exact fz rfl rfl
theorem ok85 {a0:GActor} {res:Bool} {h:AH}  (a:vn a0=some res):Spec Tryz.prog 85 [.agg (GActor.row a0)] h (yr (.bool res) h):=by
 unfold vn at a;refine za Tryz.func85 rfl (by kernel_rfl) (yE 16 rfl) (R.r ?_);cases a;exact fz rfl rfl
theorem ok45 {c:GDot} {res:Bool} {h:AH}  (a:qa c=some res):Spec Tryz.prog 45 [.agg (GDot.row c)] h (yr (.bool res) h):=by
 unfold qa at a;refine za Tryz.func45 rfl (by kernel_rfl) (yE 16 rfl) (R.r ?_);refine zd a (λd b a=>cp (ok85 b) ?_);refine R.r ?_;cases a;exact fz rfl rfl
theorem ok56 {a0:GDot} {d:GDot} {res:Bool} {h:AH}  (a:vh a0 d=some res):Spec Tryz.prog 56 [.agg (GDot.row a0),.agg (GDot.row d)] h (yr (.bool res) h):=by
 unfold vh at a;refine za Tryz.func56 rfl (by kernel_rfl) (yE 38 rfl) (R.r ?_);refine ze gg a (λb a=>?_) (λb a=>?_)
 ·refine R.r ?_;cases a;exact fz rfl rfl
 ·refine R.r ?_;refine ze gg a (λc a=>?_) (λc a=>?_)
  ·refine R.r ?_;cases a;exact fz rfl rfl
  ·refine R.r ?_;cases a;exact fz rfl rfl
theorem ok49 {b:Int} {f:GDot} {a:Int} {g:GDot} {res:Bool} {h:AH}  (c:wN b f a g=some res):Spec Tryz.prog 49 [.int .u64 b,.agg (GDot.row f),.int .u64 a,.agg (GDot.row g)] h (yr (.bool res) h):=by
 unfold wN at c;refine za Tryz.func49 rfl (by kernel_rfl) (yE 18 rfl) (R.r ?_);refine ze gg c (λd c=>?_) (λd c=>?_)
 ·refine R.r ?_;cases c;exact fz rfl rfl
 ·refine R.r ?_;refine zd c (λi e c=>cp (ok56 e) ?_);refine R.r ?_;cases c;exact fz rfl rfl
theorem ok50 {k:(List GDot)} {f:GDot} {res:Bool} {h:AH}  (a:vg k f=some res):Spec Tryz.prog 50 [.sl 3 (k.map GDot.row),.agg (GDot.row f)] h (yr (.bool res) h):=by
 unfold vg at a;refine za Tryz.func50 rfl (by kernel_rfl) (yE 18 rfl) (R.r ?_);refine zz (λ(j:Nat) (i:Unit)=>zG [1,2,4,6,7,8,9,10,11,12,13,14,15,16,17] [(5,.int .i64 (j:Int))]) (λi=>h.ext [.cells (GDot.row f)] []) a (λ_ _=>by simp only [zG,wJ,List.set_cons_succ,List.set_cons_zero];try rfl) (wk.le LEL.o) ?_;intro j i l a;refine R.r ?_;refine ln λb=>?_;replace b:=yl b;refine R.r ?_;refine zP gg a (λn m e g a d=>?_) (λa=>?_)
 ·refine R.r ?_;refine zu [] [] trivial mixed (by kernel_rfl) (R.r ?_);refine dix (zI g) (R.r ?_);refine zB rfl rfl (s_bin rfl gg gg (bin_eq pk30 rfl)) ss (R.r ?_);refine ze gg a (λc a=>?_) (λc a=>?_)
  ·refine R.r ?_;cases a;replace a:=d;refine R.r ?_;cases a;exact fz rfl rfl
  ·refine R.r ?_;cases a;exact ⟨(),e,d,wk.le (by exact (.eq (.drop (.drop (.eq (.drop (.cons (leV.of_eq (y8 (by omega) (by omega))) (.d4 (.d4 (.d4 leL.nil))))))))))⟩
 ·refine R.r ?_;cases a;exact fz rfl rfl
theorem ok55 {k:(List GItem)} {f:GDot} {res:Int} {h:AH}  (a:ref05Item k f=some res):Spec Tryz.prog 55 [.sl 5 (k.map GItem.row),.agg (GDot.row f)] h (yr (.int .i64 res) h):=by
 unfold ref05Item at a;refine za Tryz.func55 rfl (by kernel_rfl) (yE 20 rfl) (R.r ?_);refine zz (λ(j:Nat) (i:Unit)=>zG [1,2,4,6,7,8,9,10,11,12,13,14,15,16,17,18,19] [(5,.int .i64 (j:Int))]) (λi=>h.ext [.cells (GDot.row f)] []) a (λ_ _=>by simp only [zG,wJ,List.set_cons_succ,List.set_cons_zero];try rfl) (wk.le LEL.o) ?_;intro j i l a;refine R.r ?_;refine ln λb=>?_;replace b:=yl b;refine R.r ?_;refine zP gg a (λn m e g a d=>?_) (λa=>?_)
 ·refine R.r ?_;refine zu [] [] trivial mixed (by kernel_rfl) (R.r ?_);refine dix (zI g) (R.r ?_);refine zB rfl rfl (s_bin rfl gg gg (bin_eq pk30 rfl)) ss (R.r ?_);refine ze gg a (λc a=>?_) (λc a=>?_)
  ·refine R.r ?_;cases a;replace a:=d;refine R.r ?_;cases a;exact fz rfl rfl
  ·refine R.r ?_;cases a;exact ⟨(),e,d,wk.le (by exact (.eq (.drop (.drop (.eq (.drop (.cons (leV.of_eq (y8 (by omega) (by omega))) (.d4 (.d4 (.d4 (.drop (.drop leL.nil))))))))))))⟩
 ·refine R.r ?_;cases a;exact fz rfl rfl
theorem ok34 {y:GLeaf} {res:Bool} {h:AH}  (a:ref05May y=some res):Spec Tryz.prog 34 [.agg (GLeaf.row y)] h (yr (.bool res) h):=by
 unfold ref05May at a;refine za Tryz.func34 rfl (by kernel_rfl) (yE 205 rfl) (R.r ?_);refine lng λW=>R.r ?_;refine lng λV=>R.r ?_;refine ze gg a (λF a=>?_) (λF a=>?_)
 ·refine R.r ?_;cases a;exact fz rfl rfl
 ·refine R.r ?_;refine zc rfl (zU (cs':=lit5x) rfl su30 ze30 pl30 zj .nil rfl rfl) ss ?_;refine zc rfl (e_alloc (n:=1) rfl ze30 rfl) ss ?_;refine zc rfl (yb (cs':=lit5x) rfl ty30.choose_spec.1 gg gg (zb rfl) rfl rfl rfl rfl rfl) rfl ?_;refine ops_nil (q_seq ?_);refine r_join (λ(M:Unit)=>zG [0,2,3,4,5,6,7,8,9,10,11,12,13,14,15,16,17,18,19,20,21,22,23,24,25,26,27,28,29,30,31,32,33,34,35,36,37,38,39,40,41,42,43,44,45,46,47,48,49,50,51,52,53,54,55,56,57,58,59,60,61,62,63,64,65,66,67,68,69,70,71,72,73,74,75,76,77,78,79,80,81,82,83,84,85,86,87,88,89,90,91,92,93,94,95,96,97,98,99,100,101,102,103,104,105,106,107,108,109,110,111,112,113,114,115,116,117,118,119,120,121,122,123,124,125,126,127,128,129,130,131,132,133,134,135,136,137,138,139,140,141,142,143,144,145,146,147,148,149,150,151,152,153,154,155,156,157,158,159,160,161,162,163,164,165,166,167,168,169,170,171,172,173,174,175,176,177,178,179,180,181,182,183,184,185,186,187,188,189,190,191,192,193,194,195,196,197,198,199,200,201,202,203,204] []) (λM=>h.ext [.cells (GLeaf.row y),.cells lit5x] []) a (λ_=>by simp only [zG,wJ,List.set_cons_succ,List.set_cons_zero];try rfl) (λo1 a c=>?_) (λM a=>?_)
  ·refine R.r ?_;refine ze gg a (λJ a=>?_) (λJ a=>?_)
   ·refine R.r ?_;refine ops_gv rfl (λb=>s_bin rfl (yq gg b) (yq gg b) (bin_ne pk30 rfl)) ss (R.r ?_);refine ze gg a (λB a=>?_) (λB a=>?_)
    ·refine R.r ?_;refine q_join_ret ?_;cases a;replace a:=c;cases a;exact fz rfl rfl
    ·refine R.r ?_;refine q_join ?_;cases a;exact ⟨(),c,wk.le LEL.o⟩
   ·refine R.r ?_;refine zX a (λv11 s a=>zM rfl sc (λb=>ok45 (s b)) ss ?_);refine R.r ?_;refine lng λL=>R.r ?_;refine ze gg a (λk a=>?_) (λk a=>?_)
    ·refine R.r ?_;refine q_join_ret ?_;cases a;replace a:=c;cases a;exact fz rfl rfl
    ·refine R.r ?_;refine q_join ?_;cases a;exact ⟨(),c,wk.le LEL.o⟩
  ·refine R.r ?_;refine zz (λ(n2:Nat) (O:Unit)=>zG [0,2,3,5,6,7,8,9,10,11,12,13,14,15,16,17,18,19,20,21,22,23,24,25,26,27,28,29,30,31,32,33,34,35,36,37,38,39,40,41,42,43,44,45,46,47,48,49,50,51,52,53,54,55,56,57,58,59,60,61,62,63,64,65,66,67,68,69,70,71,72,73,74,75,76,77,78,79,80,81,82,83,84,85,86,87,88,89,90,91,92,93,94,95,96,97,98,99,100,101,102,103,104,105,106,107,108,109,110,111,112,113,114,115,116,117,118,119,120,121,122,123,124,125,126,127,128,129,130,131,132,133,134,135,136,137,138,139,140,141,142,143,144,145,146,147,148,149,150,151,152,153,154,155,156,157,158,159,160,161,162,163,164,165,166,167,168,169,170,171,172,173,174,175,176,177,178,179,180,181,182,183,184,185,186,187,188,189,190,191,192,193,194,195,196,197,198,199,200,201,202,203,204] [(4,.int .i64 (n2:Int))]) (λO=>h.ext [.cells (GLeaf.row y),.cells lit5x] []) a (λ_ _=>by simp only [zG,wJ,List.set_cons_succ,List.set_cons_zero];try rfl) (wk.le LEL.o) ?_;intro n2 O Y a;refine R.r ?_;refine ln λe=>?_;replace e:=yl e;refine R.r ?_;refine zP gg a (λx2 o2 K G a f=>?_) (λa=>?_)
   ·refine R.r ?_;refine ix (zI G) (R.r ?_);refine zd a (λS u a=>cp (ok45 u) ?_);refine R.r ?_;refine lng λN=>R.r ?_;refine zX a (λZ z a=>zM rfl sc (λb=>ok55 (z b)) ss ?_);refine R.r ?_;refine zX a (λU m a=>zM rfl sc (λb=>ok50 (m b)) ss ?_);refine R.r ?_;refine ze gg a (λi a=>?_) (λi a=>?_)
    ·refine R.r ?_;cases a;replace a:=f;refine R.r ?_;cases a;exact fz rfl rfl
    ·refine R.r ?_;refine zu [] [] trivial mixed (by kernel_rfl) (R.r ?_);refine yn a (λl a=>dgix l ?_);refine R.r ?_;refine yn a (λg a=>dgix g ?_);refine R.r ?_;refine zX a (λv48 C a=>yW rfl rfl sc (λb=>ok49 (C b)) ss ?_);refine R.r ?_;refine ze gg a (λD a=>?_) (λD a=>?_)
     ·refine R.r ?_;cases a;replace a:=f;refine R.r ?_;cases a;exact fz rfl rfl
     ·refine R.r ?_;cases a;exact ⟨(),K,f,wk.trans (wk.le (by exact (.drop (.eq (.drop (.drop (.cons (leV.of_eq (y8 (by omega) (by omega))) (.d16 (.d16 (.d16 (.d16 (.d16 (.d16 (.d16 (.d16 (.d16 (.d16 (.d16 (.d16 (.d4 (.d4 leL.nil))))))))))))))))))))) (yj (by simp [zw,AV.low]) rfl rfl (by simp [Blk.low,zw,AV.low]))⟩
   ·refine R.r ?_;refine zz (λ(Q:Nat) (P:Unit)=>zG [0,2,3,4,5,7,8,9,10,11,12,13,14,15,16,17,18,19,20,21,22,23,24,25,26,27,28,29,30,31,32,33,34,35,36,37,38,39,40,41,42,43,44,45,46,47,48,49,50,51,52,53,54,55,56,57,58,59,60,61,62,63,64,65,66,67,68,69,70,71,72,73,74,75,76,77,78,79,80,81,82,83,84,85,86,87,88,89,90,91,92,93,94,95,96,97,98,99,100,101,102,103,104,105,106,107,108,109,110,111,112,113,114,115,116,117,118,119,120,121,122,123,124,125,126,127,128,129,130,131,132,133,134,135,136,137,138,139,140,141,142,143,144,145,146,147,148,149,150,151,152,153,154,155,156,157,158,159,160,161,162,163,164,165,166,167,168,169,170,171,172,173,174,175,176,177,178,179,180,181,182,183,184,185,186,187,188,189,190,191,192,193,194,195,196,197,198,199,200,201,202,203,204] [(6,.int .i64 (Q:Int))]) (λP=>h.ext [.cells (GLeaf.row y),.cells lit5x] []) a (λ_ _=>by simp only [zG,wJ,List.set_cons_succ,List.set_cons_zero];try rfl) (wk.le LEL.o) ?_;intro Q P T a;refine R.r ?_;refine ln λd=>?_;replace d:=yl d;refine R.r ?_;refine zP gg a (λx3 o3 H I a x=>?_) (λa=>?_)
    ·refine R.r ?_;refine zu [5] [] trivial mixed (by kernel_rfl) (R.r ?_);refine dix (zI I) (R.r ?_);refine zd a (λv73 E a=>zO rfl rfl (λ_=>sc rfl) (by rintro _ ⟨B2,T2,rfl,X⟩;exact ok45 E) ss ?_);refine R.r ?_;refine yn a (λw a=>dgix w ?_);refine R.r ?_;refine yn a (λA a=>dgix A ?_);refine R.r ?_;refine zX a (λv76 j a=>yW rfl (aG_gv rfl rfl rfl) sc (λb=>ok56 (j b)) ss ?_);refine R.r ?_;refine ze gg a (λp a=>?_) (λp a=>?_)
     ·refine R.r ?_;cases a;replace a:=x;refine R.r ?_;cases a;exact fz rfl rfl
     ·refine R.r ?_;cases a;exact ⟨(),H,x,wk.le (by exact (.drop (.eq (.d4 (.cons (leV.of_eq (y8 (by omega) (by omega))) (.d16 (.d16 (.d16 (.d16 (.d16 (.d16 (.d16 (.d16 (.d16 (.d16 (.d16 (.d16 (.d4 (.drop (.drop leL.nil))))))))))))))))))))⟩
    ·refine R.r ?_;cases a;exact fz rfl rfl
theorem ok15N (n:Nat):∀{t0:(List GNode)} {b:Int} {res:Bool} {h:AH} , wM n t0 b=some res->Spec Tryz.prog 15 [.sl 3 (t0.map GNode.row),.int .i64 b] h (yr (.bool res) h):=by
 induction n with
 | zero=>intro t0 b res h  a;simp [wM] at a
 | succ n ih =>
  intro t0 b res h  a;unfold wM at a;refine za Tryz.func15 rfl (by kernel_rfl) (yE 95 rfl) (R.r ?_);refine zz (λ(B:Nat) (C:Unit)=>zG [2,3,4,6,7,8,9,10,11,12,13,14,15,16,17,18,19,20,21,22,23,24,25,26,27,28,29,30,31,32,33,34,35,36,37,38,39,40,41,42,43,44,45,46,47,48,49,50,51,52,53,54,55,56,57,58,59,60,61,62,63,64,65,66,67,68,69,70,71,72,73,74,75,76,77,78,79,80,81,82,83,84,85,86,87,88,89,90,91,92,93,94] [(5,.int .i64 (B:Int))]) (λC=>h.ext [] []) a (λ_ _=>by simp only [zG,wJ,List.set_cons_succ,List.set_cons_zero];try rfl) (wk.le LEL.o) ?_;intro B C E a;refine R.r ?_;refine ln λd=>?_;replace d:=yl d;refine R.r ?_;refine zP gg a (λz K y w a f=>?_) (λa=>?_)
  ·refine R.r ?_;refine zc rfl (yJ rfl el24 gg gg isl (zI w) (GNode.row_eq _)) ss (R.r ?_);refine zu [] [] trivial mixed (by kernel_rfl) (R.r ?_);refine zX a (λG s a=>yW rfl rfl sc (λc=>ok33 (s c)) ss ?_);refine R.r ?_;refine yn a (λp a=>wl rfl (aG_gv rfl rfl rfl) (λc=>s_gidxRowE default rfl el24 (yq gg c) (yq gg c) isl (p c) (GNode.row_eq _)) ss ?_);refine R.r ?_;refine draw_glen rfl rfl (λc=>ve rfl rfl rfl rfl el63 (yq gg c) qG) ss (R.r ?_);refine draw_glen rfl (aG_gv rfl rfl rfl) (λc=>ve rfl rfl rfl rfl el24 (yq gg c) qG) ss (R.r ?_);refine zX a (λF i a=>yW rfl rfl sc (λc=>ih (i c)) ss ?_);refine R.r ?_;refine ze gg a (λu a=>?_) (λu a=>?_)
   ·refine R.r ?_;cases a;replace a:=f;refine R.r ?_;cases a;exact fz rfl rfl
   ·refine R.r ?_;refine zz (λ(n2:Nat) (D:Unit)=>zG [2,3,4,8,9,10,11,12,13,14,15,16,17,18,19,20,21,22,23,24,25,26,27,28,29,30,31,32,33,34,35,36,37,38,39,40,41,42,43,44,45,46,47,48,49,50,51,52,53,54,55,56,57,58,59,60,61,62,63,64,65,66,67,68,69,70,71,72,73,74,75,76,77,78,79,80,81,82,83,84,85,86,87,88,89,90,91,92,93,94] [(7,.int .i64 (n2:Int))]) (λD=>h.ext [.cells [.str z.name,.sl 9 (z.leaves.map GLeaf.row),.sl 3 (z.subs.map GNode.row)]] []) a (λ_ _=>by simp only [zG,wJ,List.set_cons_succ,List.set_cons_zero];try rfl) (wk.le LEL.o) ?_;intro n2 D I a;refine R.r ?_;refine ln λe=>?_;replace e:=yl e;refine R.r ?_;refine zP gg a (λJ L A x a m=>?_) (λa=>?_)
    ·refine R.r ?_;refine zu [5] [] trivial mixed (by kernel_rfl) (R.r ?_);refine dix (zI x) (R.r ?_);refine zd a (λv50 l a=>zO rfl rfl (λ_=>sc rfl) (by rintro _ ⟨B2,T2,rfl,H⟩;exact ok34 l) ss ?_);refine R.r ?_;refine yn a (λj a=>dgix j ?_);refine R.r ?_;refine yn a (λg a=>dgix g ?_);refine R.r ?_;refine ze gg a (λk a=>?_) (λk a=>?_)
     ·refine R.r ?_;cases a;replace a:=m;refine R.r ?_;cases a;replace a:=f;refine R.r ?_;cases a;exact fz rfl rfl
     ·refine R.r ?_;cases a;exact ⟨(),A,m,wk.le (by exact (.eq (.eq (.drop (.drop (.drop (.eq (.eq (.cons (leV.of_eq (y8 (by omega) (by omega))) (.d16 (.d16 (.d16 (.d16 (.d16 (.d4 (.drop (.drop (.drop leL.nil))))))))))))))))))⟩
    ·refine R.r ?_;cases a;exact ⟨(),y,f,wk.trans (wk.le (by exact (.eq (.eq (.drop (.drop (.drop (.cons (leV.of_eq (y8 (by omega) (by omega))) (.d16 (.d16 (.d16 (.d16 (.d16 (.d4 (.d4 (.drop leL.nil)))))))))))))))) (yj (by simp [zw,AV.low]) rfl rfl (by simp [Blk.low,zw,AV.low]))⟩
  ·refine R.r ?_;cases a;exact fz rfl rfl
theorem ok15 {t0:(List GNode)} {a:Int} {res:Bool} {h:AH}  (c:ref07Xmay t0 a=some res):Spec Tryz.prog 15 [.sl 3 (t0.map GNode.row),.int .i64 a] h (yr (.bool res) h):=by
 obtain ⟨n,b⟩:=anyN_is c;exact ok15N n b
theorem ok6 {t0:(List GNode)} {res:Bool} {h:AH}  (a:vm t0=some res):Spec Tryz.prog 6 [.sl 3 (t0.map GNode.row)] h (yr (.bool res) h):=by
 unfold vm at a;refine za Tryz.func6 rfl (by kernel_rfl) (yE 5 rfl) (R.r ?_);refine zd a (λc b a=>cp (ok15 b) ?_);refine R.r ?_;cases a;exact fz rfl rfl
theorem ok16 {a:Int} {res:GDot} {h:AH}  (b:wB a=some res):Spec Tryz.prog 16 [.int .u64 a] h (yr (.agg (GDot.row res)) h):=by
 unfold wB at b;refine za Tryz.func16 rfl (by kernel_rfl) (yE 6 rfl) (R.r ?_);refine zc rfl (zU (cs':=[.int .u8 (0:Int),.int .u32 (1:Int)]) rfl su27 ze27 pl27 (zf rfl zj) (.cons (zb rfl) .nil) rfl rfl) ss (R.r ?_);refine zc rfl (zU (cs':=[.int .u8 (0:Int),.int .u32 (1:Int),.int .u64 a]) rfl su30 ze30 pl30 (zf gg (zf gg zj)) (.cons (zb rfl) (.cons (zb rfl) .nil)) rfl rfl) ss (R.r ?_);cases b;exact fz rfl rfl
theorem ok142 {C:(List GItem)} {z:(GItem->Option Bool)} {e:FuncId} {d c:List AV} {res:Int} {h:AH} (s:∀y v (L:List Blk) (M:List Nat),z y=some v->Spec Tryz.prog e (d++[.agg (GItem.row y)]++c) (h.ext L M) (yr (.bool v) (h.ext L M))) (a:yg C z=some res):Spec Tryz.prog 142 [.sl 5 (C.map GItem.row),.fn (.func e) d c] h (yr (.int .i64 res) h):=by
 unfold yg at a;refine zF Tryz.func142 rfl (by kernel_rfl) (yE 19 rfl) (λb E=>?_);simp only [zw,AV.low,Bool.and_eq_true,Bool.true_and,and_true] at b;have u:∀n m,h.blks.length<=n->h.toks.length<=m->zw n m d=true:=λn m x w=>zT x w _ (by simp [b]);have i:∀n m,h.blks.length<=n->h.toks.length<=m->zw n m c=true:=λn m x w=>zT x w _ (by simp [b]);refine R.r ?_;refine ln λf=>?_;replace f:=yl f;refine R.r ?_;refine zz (λ(A:Nat) (B:Unit)=>zG [2,3,4,5,6,9,10,11,12,13,14,15,16,17,18] [(8,.int .i64 (A:Int))]) (λB=>h.ext [] []) a (λ_ _=>by simp only [zG,wJ,List.set_cons_succ,List.set_cons_zero];try rfl) (wk.le LEL.o) ?_;intro A B D a;refine R.r ?_;refine zP gg a (λG F l j a g=>?_) (λa=>?_)
 ·refine R.r ?_;refine ix (zI j) (R.r ?_);refine zd a (λH p a=>xw rfl (scC rfl) (s _ _ _ _ p) ss ?_);refine R.r ?_;refine ze gg a (λk a=>?_) (λk a=>?_)
  ·refine R.r ?_;cases a;replace a:=g;refine R.r ?_;cases a;exact fz rfl rfl
  ·refine R.r ?_;cases a;exact ⟨(),l,g,wk.le (by exact (.eq (.eq (.d4 (.drop (.eq (.cons (leV.of_eq (y8 (by omega) (by omega))) (.d4 (.d4 (.drop (.drop leL.nil)))))))))))⟩
 ·refine R.r ?_;cases a;exact fz rfl rfl
theorem okR142 {D k:Nat} {b:(List GItem)} {E:(GItem->Option Bool)} {e:FuncId} {d c:List AV} {res:Int} {h:AH} (B:h.blks.length=D) (w:h.toks.length=k) (y:∀C v (L:List Blk) (M:List Nat),E C=some v->Spec Tryz.prog e (d++[.agg (GItem.row C)]++c) (h.ext L M) (yr (.bool v) (h.ext L M))) (A:∀n m,h.blks.length<=n->h.toks.length<=m->zw n m d=true) (l:∀n m,h.blks.length<=n->h.toks.length<=m->zw n m c=true) (a:yg b E=some res):Spec Tryz.prog 142 [.rsl D k 5 b.length,.fn (.func e) d c] (h.ext [.row k 5 (b.map GItem.row)] [b.length]) (yr (.int .i64 res) (h.ext [.row k 5 (b.map GItem.row)] [b.length])):=by
 unfold yg at a;subst B w;refine zK Tryz.func142 rfl (by kernel_rfl) (yE 19 rfl) (R.r ?_);refine ln λg=>?_;replace g:=yl g;refine R.r ?_;refine zz (λ(p:Nat) (F:Unit)=>zG [2,3,4,5,6,9,10,11,12,13,14,15,16,17,18] [(8,.int .i64 (p:Int))]) (λF=>h.ext [.row (h.toks.length+0) 5 (b.map GItem.row)] [b.length]) a (λ_ _=>by simp only [zG,wJ,List.set_cons_succ,List.set_cons_zero];try rfl) (wk.le LEL.o) ?_;intro p F G a;refine R.r ?_;refine zP gg a (λH I s f a j=>?_) (λa=>?_)
 ·refine R.r ?_;refine zc rfl (wD rfl el59 gg gg (qp (zI f) rfl)) ss ?_;refine zc rfl (e_ldR (off:=0) (i:=0) (q:=h.toks.length+0) (z:=(p:Int).toNat) (row:=GItem.row) (λ_=>rfl) rfl ty58.choose_spec.1 (by decide) gg rfl rfl (idxR (zI f)).2.2 (xP (cs':=(GItem.row H)) ty58.choose_spec.2 rfl rfl) (zb rfl)) ss ?_;refine zd a (λJ u a=>xw rfl (scC rfl) (y _ _ _ _ u) ss ?_);refine R.r ?_;refine ze gg a (λx a=>?_) (λx a=>?_)
  ·refine R.r ?_;cases a;replace a:=j;refine R.r ?_;cases a;refine fr rfl (fin_extR (L:=[]) (M:=[]) rfl rfl (leV.refl _) rfl ?_);exact ⟨rfl,rfl⟩
  ·refine R.r ?_;cases a;exact ⟨(),s,j,wk.le (by exact (.eq (.eq (.d4 (.drop (.eq (.cons (leV.of_eq (y8 (by omega) (by omega))) (.d4 (.d4 (.drop (.drop leL.nil)))))))))))⟩
 ·refine R.r ?_;cases a;refine fr rfl (fin_extR (L:=[]) (M:=[]) rfl rfl (leV.refl _) rfl ?_);exact ⟨rfl,rfl⟩
theorem ok147 {s:(List GItem)} {p:(GItem->Option Bool)} {d:FuncId} {c b:List AV} {res:Bool} {h:AH} (j:∀e v (L:List Blk) (M:List Nat),p e=some v->Spec Tryz.prog d (c++[.agg (GItem.row e)]++b) (h.ext L M) (yr (.bool v) (h.ext L M))) (f:yT s p=some res):Spec Tryz.prog 147 [.sl 5 (s.map GItem.row),.fn (.func d) c b] h (yr (.bool res) h):=by
 unfold yT at f;refine zF Tryz.func147 rfl (by kernel_rfl) (yE 9 rfl) (λa w=>?_);simp only [zw,AV.low,Bool.and_eq_true,Bool.true_and,and_true] at a;have k:∀n m,h.blks.length<=n->h.toks.length<=m->zw n m c=true:=λn m o l=>zT o l _ (by simp [a]);have g:∀n m,h.blks.length<=n->h.toks.length<=m->zw n m b=true:=λn m o l=>zT o l _ (by simp [a]);refine R.r ?_;refine zd f (λx i f=>cp (ok142 (λe v L M u=>by rw [yM];exact j e v _ _ u) i) ?_);refine R.r ?_;cases f;exact fz rfl rfl
theorem ok148 {e:GItem} {a:GDot} {c:Nat} {res:Bool} {h:AH} (b:h.blk c=some (.cells (GDot.row a))) (d:leafXhasC1 e a=some res):Spec Tryz.prog 148 [.agg (GItem.row e),.ptr c 0] h (yr (.bool res) h):=by
 unfold leafXhasC1 at d;refine za Tryz.func148 rfl (by kernel_rfl) (yE 8 rfl) (R.r ?_);refine zc rfl (b_load rfl ty30.choose_spec.1 gg b (xP (cs':=(GDot.row a)) ty30.choose_spec.2 rfl rfl) (zb rfl)) ss ?_;refine zc rfl (s_bin rfl gg gg (bin_eq pk30 rfl)) ss (R.r ?_);cases d;exact fz rfl rfl
theorem ok128 {d:(List GItem)} {c:GDot} {res:Bool} {h:AH}  (a:leafXhas d c=some res):Spec Tryz.prog 128 [.sl 5 (d.map GItem.row),.agg (GDot.row c)] h (yr (.bool res) h):=by
 unfold leafXhas at a;refine za Tryz.func128 rfl (by kernel_rfl) (yE 8 rfl) (R.r ?_);refine zc rfl (wg rfl rfl rfl) ss ?_;refine zd a (λf b a=>cp (ok147 (λ_ v L M e=>ok148 (blk_ext2 (j:=0) rfl) e) b) ?_);refine R.r ?_;cases a;exact fz rfl rfl
theorem ok139 {b:(List Int)} {res:Int} {h:AH}  (a:cmpOrInt b=some res):Spec Tryz.prog 139 [.sl 1 (b.map (intRow .i64))] h (yr (.int .i64 res) h):=by
 unfold cmpOrInt at a;refine za Tryz.func139 rfl (by kernel_rfl) (yE 18 rfl) (R.r ?_);refine ln λd=>?_;replace d:=yl d;refine R.r ?_;refine zz (λ(j:Nat) (i:Unit)=>zG [0,1,2,4,5,9,10,11,12,13,14,15,16,17] [(8,.int .i64 (j:Int))]) (λi=>h.ext [] []) a (λ_ _=>by simp only [zG,wJ,List.set_cons_succ,List.set_cons_zero];try rfl) (wk.le LEL.o) ?_;intro j i k a;refine R.r ?_;refine zP gg a (λm l e g a c=>?_) (λa=>?_)
 ·refine R.r ?_;refine ix (zI g) (R.r ?_);refine ze gg a (λf a=>?_) (λf a=>?_)
  ·refine R.r ?_;cases a;replace a:=c;refine R.r ?_;cases a;exact fz rfl rfl
  ·refine R.r ?_;cases a;exact ⟨(),e,c,wk.le (by exact (.drop (.drop (.drop (.eq (.drop (.drop (.eq (.eq (.cons (leV.of_eq (y8 (by omega) (by omega))) (.d4 (.d4 (.drop leL.nil)))))))))))))⟩
 ·refine R.r ?_;cases a;exact fz rfl rfl
theorem ok172 {a:Int} {res:Bool} {h:AH}  (b:wz a=some res):Spec Tryz.prog 172 [.int .u32 a] h (yr (.bool res) h):=by
 unfold wz at b;refine za Tryz.func172 rfl (by kernel_rfl) (yE 6 rfl) (R.r ?_);cases b;exact fz rfl rfl
theorem ok161 {k:Int} {j:Int} {res:Int} {h:AH}  (a:wb k j=some res):Spec Tryz.prog 161 [.int .u32 k,.int .u32 j] h (yr (.int .i64 res) h):=by
 unfold wb at a;refine za Tryz.func161 rfl (by kernel_rfl) (yE 20 rfl) (R.r ?_);refine zd a (λl d a=>cp (ok172 d) ?_);refine R.r ?_;refine zd a (λm f a=>cp (ok172 f) ?_);refine R.r ?_;refine ze gg a (λc a=>?_) (λc a=>?_)
 ·refine R.r ?_;refine ze gg a (λg a=>?_) (λg a=>?_)
  ·refine R.r ?_;cases a;exact fz rfl rfl
  ·refine R.r ?_;cases a;exact fz rfl rfl
 ·refine R.r ?_;refine ze gg a (λb a=>?_) (λb a=>?_)
  ·refine R.r ?_;cases a;exact fz rfl rfl
  ·refine R.r ?_;refine ze gg a (λe a=>?_) (λe a=>?_)
   ·refine R.r ?_;cases a;exact fz rfl rfl
   ·refine R.r ?_;refine ze gg a (λi a=>?_) (λi a=>?_)
    ·refine R.r ?_;cases a;exact fz rfl rfl
    ·refine R.r ?_;cases a;exact fz rfl rfl
theorem ok118 {a:Int} {res:Bool} {h:AH}  (b:wW a=some res):Spec Tryz.prog 118 [.int .u8 a] h (yr (.bool res) h):=by
 unfold wW at b;refine za Tryz.func118 rfl (by kernel_rfl) (yE 6 rfl) (R.r ?_);cases b;exact fz rfl rfl
theorem ok82 {k:Int} {j:Int} {res:Int} {h:AH}  (a:yZ k j=some res):Spec Tryz.prog 82 [.int .u8 k,.int .u8 j] h (yr (.int .i64 res) h):=by
 unfold yZ at a;refine za Tryz.func82 rfl (by kernel_rfl) (yE 20 rfl) (R.r ?_);refine zd a (λl d a=>cp (ok118 d) ?_);refine R.r ?_;refine zd a (λm f a=>cp (ok118 f) ?_);refine R.r ?_;refine ze gg a (λc a=>?_) (λc a=>?_)
 ·refine R.r ?_;refine ze gg a (λg a=>?_) (λg a=>?_)
  ·refine R.r ?_;cases a;exact fz rfl rfl
  ·refine R.r ?_;cases a;exact fz rfl rfl
 ·refine R.r ?_;refine ze gg a (λb a=>?_) (λb a=>?_)
  ·refine R.r ?_;cases a;exact fz rfl rfl
  ·refine R.r ?_;refine ze gg a (λe a=>?_) (λe a=>?_)
   ·refine R.r ?_;cases a;exact fz rfl rfl
   ·refine R.r ?_;refine ze gg a (λi a=>?_) (λi a=>?_)
    ·refine R.r ?_;cases a;exact fz rfl rfl
    ·refine R.r ?_;cases a;exact fz rfl rfl
theorem ok140 {a0:GActor} {f:GActor} {res:Int} {h:AH}  (a:dotXcompare a0 f=some res):Spec Tryz.prog 140 [.agg (GActor.row a0),.agg (GActor.row f)] h (yr (.int .i64 res) h):=by
 unfold dotXcompare at a;refine za Tryz.func140 rfl (by kernel_rfl) (yE 17 rfl) (R.r ?_);refine zu [4,9,11] [] trivial mixed (by kernel_rfl) (R.r ?_);refine zd a (λg d a=>zO rfl rfl (λ_=>sc rfl) (by rintro _ ⟨B2,T2,rfl,b⟩;exact ok82 d) ss ?_);refine R.r ?_;refine zd a (λi e a=>zO rfl rfl (λ_=>sc rfl) (by rintro _ ⟨B2,T2,rfl,b⟩;exact ok161 e) ss ?_);refine zB rfl rfl (zt (es:=([g,i]:List Int).map (intRow .i64)) rfl el196 ze3 rfl rfl (zf gg (zf gg zj)) (.cons (zb rfl) (.cons (zb rfl) .nil)) rfl rfl rfl) ss ?_;refine zd a (λv3 c a=>zO rfl rfl (λ_=>sc rfl) (by rintro _ ⟨B2,T2,rfl,b⟩;exact (ok139 c).le (.cons (leV.osl _ _ _) leL.nil)) ss ?_);refine R.r ?_;cases a;exact fz rfl rfl
theorem ok162 {a:Int} {res:Bool} {h:AH}  (b:wy a=some res):Spec Tryz.prog 162 [.int .u64 a] h (yr (.bool res) h):=by
 unfold wy at b;refine za Tryz.func162 rfl (by kernel_rfl) (yE 6 rfl) (R.r ?_);cases b;exact fz rfl rfl
end Go.Vv
