/- Each function that the law reaches computes what its reading says; printed by a program. -/
import Derived.Test.YtcociipjgndnaaaGreatVvSh
import Derived.Test.YtcociipjgndnaaaGreatVvMl
import Derived.Test.YtcociipjgndnaaaGreatVvRb
import Derived.Test.YtcociipjgndnaaaGreatVvSo
import Derived.Test.YtcociipjgndnaaaGreatVvPt
import Derived.Test.YtcociipjgndnaaaGreatVvIn
import Derived.Test.YtcociipjgndnaaaGreatVvTk
import Derived.Test.YtcociipjgndnaaaGreatVvNp
import Derived.Test.YtcociipjgndnaaaGreatVvZ
import Derived.Test.YtcociipjgndnaaaGreatVvAn
import Derived.Test.YtcociipjgndnaaaGreatVvLb
import Derived.Test.YtcociipjgndnaaaGreatVvLc
import Derived.Test.YtcociipjgndnaaaGreatVvMr
import Derived.Test.YtcociipjgndnaaaGreatVvIt
import Derived.Test.YtcociipjgndnaaaGreatVvRd
import Derived.Test.YtcociipjgndnaaaGreatD
import Derived.Test.YtcociipjgndnaaaGreatProg
namespace Go.Vv
open Go Go.Proofs
set_option maxRecDepth 100000
set_option synthInstance.maxSize 100000
set_option synthInstance.maxHeartbeats 1000000
set_option maxHeartbeats 1000000
set_option linter.unusedSimpArgs false
set_option linter.unusedVariables false
section
variable {v a0 a1 a2 a3 a4 a5 a6 a7 a8 a9 a10 a11 a12 a13 a14 a15 a16 a17 a18 a19 a20 a21 a22 a23 a24 a25 a26 a27 a28 a29 a30 a31 a32 a33 a34 a35 a36 a37 a38 a39:AV} {r q:List AV} {t:Nat}
theorem gt0:yF (a0::r) (.tmp 0)=some a0:=rfl
theorem st0:vZ (some 0) (a0::r) v=some (v::r):=rfl
theorem gt1:yF (a0::a1::r) (.tmp 1)=some a1:=rfl
theorem st1:vZ (some 1) (a0::a1::r) v=some (a0::v::r):=rfl
theorem gt2:yF (a0::a1::a2::r) (.tmp 2)=some a2:=rfl
theorem st2:vZ (some 2) (a0::a1::a2::r) v=some (a0::a1::v::r):=rfl
theorem gt3:yF (a0::a1::a2::a3::r) (.tmp 3)=some a3:=rfl
theorem st3:vZ (some 3) (a0::a1::a2::a3::r) v=some (a0::a1::a2::v::r):=rfl
theorem gt4:yF (a0::a1::a2::a3::a4::r) (.tmp 4)=some a4:=rfl
theorem st4:vZ (some 4) (a0::a1::a2::a3::a4::r) v=some (a0::a1::a2::a3::v::r):=rfl
theorem gt5:yF (a0::a1::a2::a3::a4::a5::r) (.tmp 5)=some a5:=rfl
theorem st5:vZ (some 5) (a0::a1::a2::a3::a4::a5::r) v=some (a0::a1::a2::a3::a4::v::r):=rfl
theorem gt6:yF (a0::a1::a2::a3::a4::a5::a6::r) (.tmp 6)=some a6:=rfl
theorem gt7:yF (a0::a1::a2::a3::a4::a5::a6::a7::r) (.tmp 7)=some a7:=rfl
theorem st7:vZ (some 7) (a0::a1::a2::a3::a4::a5::a6::a7::r) v=some (a0::a1::a2::a3::a4::a5::a6::v::r):=rfl
theorem gt8:yF (a0::a1::a2::a3::a4::a5::a6::a7::a8::r) (.tmp 8)=some a8:=rfl
theorem st8:vZ (some 8) (a0::a1::a2::a3::a4::a5::a6::a7::a8::r) v=some (a0::a1::a2::a3::a4::a5::a6::a7::v::r):=rfl
theorem gt10:yF (a0::a1::a2::a3::a4::a5::a6::a7::a8::a9::a10::r) (.tmp 10)=some a10:=rfl
theorem st10:vZ (some 10) (a0::a1::a2::a3::a4::a5::a6::a7::a8::a9::a10::r) v=some (a0::a1::a2::a3::a4::a5::a6::a7::a8::a9::v::r):=rfl
theorem gt11:yF (a0::a1::a2::a3::a4::a5::a6::a7::a8::a9::a10::a11::r) (.tmp 11)=some a11:=rfl
theorem gt12:yF (a0::a1::a2::a3::a4::a5::a6::a7::a8::a9::a10::a11::a12::r) (.tmp 12)=some a12:=rfl
theorem st13:vZ (some 13) (a0::a1::a2::a3::a4::a5::a6::a7::a8::a9::a10::a11::a12::a13::r) v=some (a0::a1::a2::a3::a4::a5::a6::a7::a8::a9::a10::a11::a12::v::r):=rfl
theorem gt15:yF (a0::a1::a2::a3::a4::a5::a6::a7::a8::a9::a10::a11::a12::a13::a14::a15::r) (.tmp 15)=some a15:=rfl
theorem st15:vZ (some 15) (a0::a1::a2::a3::a4::a5::a6::a7::a8::a9::a10::a11::a12::a13::a14::a15::r) v=some (a0::a1::a2::a3::a4::a5::a6::a7::a8::a9::a10::a11::a12::a13::a14::v::r):=rfl
theorem gt17:yF (a0::a1::a2::a3::a4::a5::a6::a7::a8::a9::a10::a11::a12::a13::a14::a15::a16::a17::r) (.tmp 17)=some a17:=rfl
theorem st18:vZ (some 18) (a0::a1::a2::a3::a4::a5::a6::a7::a8::a9::a10::a11::a12::a13::a14::a15::a16::a17::a18::r) v=some (a0::a1::a2::a3::a4::a5::a6::a7::a8::a9::a10::a11::a12::a13::a14::a15::a16::a17::v::r):=rfl
theorem gt19:yF (a0::a1::a2::a3::a4::a5::a6::a7::a8::a9::a10::a11::a12::a13::a14::a15::a16::a17::a18::a19::r) (.tmp 19)=some a19:=rfl
theorem st20:vZ (some 20) (a0::a1::a2::a3::a4::a5::a6::a7::a8::a9::a10::a11::a12::a13::a14::a15::a16::a17::a18::a19::a20::r) v=some (a0::a1::a2::a3::a4::a5::a6::a7::a8::a9::a10::a11::a12::a13::a14::a15::a16::a17::a18::a19::v::r):=rfl
theorem gt22:yF (a0::a1::a2::a3::a4::a5::a6::a7::a8::a9::a10::a11::a12::a13::a14::a15::a16::a17::a18::a19::a20::a21::a22::r) (.tmp 22)=some a22:=rfl
theorem gt23:yF (a0::a1::a2::a3::a4::a5::a6::a7::a8::a9::a10::a11::a12::a13::a14::a15::a16::a17::a18::a19::a20::a21::a22::a23::r) (.tmp 23)=some a23:=rfl
theorem st23:vZ (some 23) (a0::a1::a2::a3::a4::a5::a6::a7::a8::a9::a10::a11::a12::a13::a14::a15::a16::a17::a18::a19::a20::a21::a22::a23::r) v=some (a0::a1::a2::a3::a4::a5::a6::a7::a8::a9::a10::a11::a12::a13::a14::a15::a16::a17::a18::a19::a20::a21::a22::v::r):=rfl
theorem gt24:yF (a0::a1::a2::a3::a4::a5::a6::a7::a8::a9::a10::a11::a12::a13::a14::a15::a16::a17::a18::a19::a20::a21::a22::a23::a24::r) (.tmp 24)=some a24:=rfl
theorem st27:vZ (some 27) (a0::a1::a2::a3::a4::a5::a6::a7::a8::a9::a10::a11::a12::a13::a14::a15::a16::a17::a18::a19::a20::a21::a22::a23::a24::a25::a26::a27::r) v=some (a0::a1::a2::a3::a4::a5::a6::a7::a8::a9::a10::a11::a12::a13::a14::a15::a16::a17::a18::a19::a20::a21::a22::a23::a24::a25::a26::v::r):=rfl
theorem gt28:yF (a0::a1::a2::a3::a4::a5::a6::a7::a8::a9::a10::a11::a12::a13::a14::a15::a16::a17::a18::a19::a20::a21::a22::a23::a24::a25::a26::a27::a28::r) (.tmp 28)=some a28:=rfl
theorem st28:vZ (some 28) (a0::a1::a2::a3::a4::a5::a6::a7::a8::a9::a10::a11::a12::a13::a14::a15::a16::a17::a18::a19::a20::a21::a22::a23::a24::a25::a26::a27::a28::r) v=some (a0::a1::a2::a3::a4::a5::a6::a7::a8::a9::a10::a11::a12::a13::a14::a15::a16::a17::a18::a19::a20::a21::a22::a23::a24::a25::a26::a27::v::r):=rfl
theorem gt30:yF (a0::a1::a2::a3::a4::a5::a6::a7::a8::a9::a10::a11::a12::a13::a14::a15::a16::a17::a18::a19::a20::a21::a22::a23::a24::a25::a26::a27::a28::a29::a30::r) (.tmp 30)=some a30:=rfl
theorem st31:vZ (some 31) (a0::a1::a2::a3::a4::a5::a6::a7::a8::a9::a10::a11::a12::a13::a14::a15::a16::a17::a18::a19::a20::a21::a22::a23::a24::a25::a26::a27::a28::a29::a30::a31::r) v=some (a0::a1::a2::a3::a4::a5::a6::a7::a8::a9::a10::a11::a12::a13::a14::a15::a16::a17::a18::a19::a20::a21::a22::a23::a24::a25::a26::a27::a28::a29::a30::v::r):=rfl
theorem gt32:yF (a0::a1::a2::a3::a4::a5::a6::a7::a8::a9::a10::a11::a12::a13::a14::a15::a16::a17::a18::a19::a20::a21::a22::a23::a24::a25::a26::a27::a28::a29::a30::a31::a32::r) (.tmp 32)=some a32:=rfl
theorem gt33:yF (a0::a1::a2::a3::a4::a5::a6::a7::a8::a9::a10::a11::a12::a13::a14::a15::a16::a17::a18::a19::a20::a21::a22::a23::a24::a25::a26::a27::a28::a29::a30::a31::a32::a33::r) (.tmp 33)=some a33:=rfl
theorem gt34:yF (a0::a1::a2::a3::a4::a5::a6::a7::a8::a9::a10::a11::a12::a13::a14::a15::a16::a17::a18::a19::a20::a21::a22::a23::a24::a25::a26::a27::a28::a29::a30::a31::a32::a33::a34::r) (.tmp 34)=some a34:=rfl
theorem st34:vZ (some 34) (a0::a1::a2::a3::a4::a5::a6::a7::a8::a9::a10::a11::a12::a13::a14::a15::a16::a17::a18::a19::a20::a21::a22::a23::a24::a25::a26::a27::a28::a29::a30::a31::a32::a33::a34::r) v=some (a0::a1::a2::a3::a4::a5::a6::a7::a8::a9::a10::a11::a12::a13::a14::a15::a16::a17::a18::a19::a20::a21::a22::a23::a24::a25::a26::a27::a28::a29::a30::a31::a32::a33::v::r):=rfl
theorem st35:vZ (some 35) (a0::a1::a2::a3::a4::a5::a6::a7::a8::a9::a10::a11::a12::a13::a14::a15::a16::a17::a18::a19::a20::a21::a22::a23::a24::a25::a26::a27::a28::a29::a30::a31::a32::a33::a34::a35::r) v=some (a0::a1::a2::a3::a4::a5::a6::a7::a8::a9::a10::a11::a12::a13::a14::a15::a16::a17::a18::a19::a20::a21::a22::a23::a24::a25::a26::a27::a28::a29::a30::a31::a32::a33::a34::v::r):=rfl
theorem gt36:yF (a0::a1::a2::a3::a4::a5::a6::a7::a8::a9::a10::a11::a12::a13::a14::a15::a16::a17::a18::a19::a20::a21::a22::a23::a24::a25::a26::a27::a28::a29::a30::a31::a32::a33::a34::a35::a36::r) (.tmp 36)=some a36:=rfl
theorem gt38:yF (a0::a1::a2::a3::a4::a5::a6::a7::a8::a9::a10::a11::a12::a13::a14::a15::a16::a17::a18::a19::a20::a21::a22::a23::a24::a25::a26::a27::a28::a29::a30::a31::a32::a33::a34::a35::a36::a37::a38::r) (.tmp 38)=some a38:=rfl
theorem st38:vZ (some 38) (a0::a1::a2::a3::a4::a5::a6::a7::a8::a9::a10::a11::a12::a13::a14::a15::a16::a17::a18::a19::a20::a21::a22::a23::a24::a25::a26::a27::a28::a29::a30::a31::a32::a33::a34::a35::a36::a37::a38::r) v=some (a0::a1::a2::a3::a4::a5::a6::a7::a8::a9::a10::a11::a12::a13::a14::a15::a16::a17::a18::a19::a20::a21::a22::a23::a24::a25::a26::a27::a28::a29::a30::a31::a32::a33::a34::a35::a36::a37::v::r):=rfl
theorem st39:vZ (some 39) (a0::a1::a2::a3::a4::a5::a6::a7::a8::a9::a10::a11::a12::a13::a14::a15::a16::a17::a18::a19::a20::a21::a22::a23::a24::a25::a26::a27::a28::a29::a30::a31::a32::a33::a34::a35::a36::a37::a38::a39::r) v=some (a0::a1::a2::a3::a4::a5::a6::a7::a8::a9::a10::a11::a12::a13::a14::a15::a16::a17::a18::a19::a20::a21::a22::a23::a24::a25::a26::a27::a28::a29::a30::a31::a32::a33::a34::a35::a36::a37::a38::v::r):=rfl
theorem gk (h:yF r (.tmp t)=some v):yF (a0::a1::a2::a3::a4::a5::a6::a7::a8::a9::a10::a11::a12::a13::a14::a15::a16::a17::a18::a19::a20::a21::a22::a23::a24::a25::a26::a27::a28::a29::a30::a31::a32::a33::a34::a35::a36::a37::a38::a39::r) (.tmp (t+40))=some v:=h
theorem sk (h:vZ (some t) r v=some q):vZ (some (t+40)) (a0::a1::a2::a3::a4::a5::a6::a7::a8::a9::a10::a11::a12::a13::a14::a15::a16::a17::a18::a19::a20::a21::a22::a23::a24::a25::a26::a27::a28::a29::a30::a31::a32::a33::a34::a35::a36::a37::a38::a39::r) v=some (a0::a1::a2::a3::a4::a5::a6::a7::a8::a9::a10::a11::a12::a13::a14::a15::a16::a17::a18::a19::a20::a21::a22::a23::a24::a25::a26::a27::a28::a29::a30::a31::a32::a33::a34::a35::a36::a37::a38::a39::q):=congrArg (λx=>some (a0::a1::a2::a3::a4::a5::a6::a7::a8::a9::a10::a11::a12::a13::a14::a15::a16::a17::a18::a19::a20::a21::a22::a23::a24::a25::a26::a27::a28::a29::a30::a31::a32::a33::a34::a35::a36::a37::a38::a39::x)) (sU h)
end
def fvOp:Nat->AV
  | 1=>.fn (.func 134) [] []
  | 2=>.fn (.func 135) [] []
  | 3=>.fn (.func 136) [] []
  | _=>.nilf
def fnOp:Nat->FuncId
  | 1=>134
  | 2=>135
  | 3=>136
  | _=>0
theorem fvlOp (c n m:Nat):(fvOp c).low n m=true:=by unfold fvOp;split <;> rfl
theorem fvtOp (P:Program) (t:TypeId) (c:Nat):tyfix P t (fvOp c)=fvOp c:=by unfold fvOp;split <;> rfl
abbrev GK.row (x:GK):List AV:=[.int .u8 x.rep,.int .u32 x.inc]
abbrev GF.row (x:GF):List AV:=[.int .u8 x.actor.rep,.int .u32 x.actor.inc,.int .u64 x.seq]
abbrev GH.row (x:GH):List AV:=[.int .u64 x.time,.int .u8 x.dot.actor.rep,.int .u32 x.dot.actor.inc,.int .u64 x.dot.seq,.str x.text]
abbrev GC.row (x:GC):List AV:=[.int .u8 x.typ,.int .i64 x.n,.int .u64 x.time,.int .u8 x.dot.actor.rep,.int .u32 x.dot.actor.inc,.int .u64 x.dot.seq,.str x.text,.sl 5 (x.items.map GH.row),.sl 3 (x.tombs.map GF.row)]
mutual
def GA.row:GA->List AV
  | ⟨name,leaves,subs⟩=>[.str name,.sl 9 (leaves.map GC.row),.sl 3 (GA.rows subs)]
def GA.rows:List GA->List (List AV)
  | []=>[]
  | x::r=>x.row::GA.rows r
end
theorem GA.rows_eq (l:List GA):GA.rows l=l.map GA.row:=by
  induction l with
  | nil=>rfl
  | cons x r ih=>simp only [GA.rows,uC,ih]
theorem GA.row_eq (x:GA):x.row=[.str x.name,.sl 9 (x.leaves.map GC.row),.sl 3 (x.subs.map GA.row)]:=by
  cases x;simp only [GA.row,GA.rows_eq]
abbrev GI.row (x:GI):List AV:=[.str x.name,.int .i64 x.leaves,.int .i64 x.items,.int .i64 x.tombs,.int .i64 x.bytes]
abbrev GM.row (x:GM):List AV:=[.int .u8 x.kind,.sl 1 (x.path.map yx),.int .i64 x.n,.str x.text,.sl 3 (x.dots.map GF.row)]
abbrev GE.row (x:GE):List AV:=[.sl 1 (x.path.map yx),.int .u8 x.leaf.typ,.int .i64 x.leaf.n,.int .u64 x.leaf.time,.int .u8 x.leaf.dot.actor.rep,.int .u32 x.leaf.dot.actor.inc,.int .u64 x.leaf.dot.seq,.str x.leaf.text,.sl 5 (x.leaf.items.map GH.row),.sl 3 (x.leaf.tombs.map GF.row)]
abbrev GL.row (x:GL):List AV:=[.sl 1 (x.path.map yx),.int .u8 x.l.typ,.int .i64 x.l.n,.int .u64 x.l.time,.int .u8 x.l.dot.actor.rep,.int .u32 x.l.dot.actor.inc,.int .u64 x.l.dot.seq,.str x.l.text,.sl 5 (x.l.items.map GH.row),.sl 3 (x.l.tombs.map GF.row)]
abbrev GN.row (x:GN):List AV:=[.int .u8 x.leaf,fvOp x.may]
abbrev GJ.row (x:GJ):List AV:=[.int .u8 x.dot.actor.rep,.int .u32 x.dot.actor.inc,.int .u64 x.dot.seq,.int .u64 x.time,.int .u8 x.op.kind,.sl 1 (x.op.path.map yx),.int .i64 x.op.n,.str x.op.text,.sl 3 (x.op.dots.map GF.row)]
instance el24:El Tryz.prog 24 66 3:=mkEl Tryz.underlying24 (by kernel_rfl)
theorem mixed:Tryz.prog.follows .mixedOrders=true:=by kernel_rfl
instance fo66x0:Fo Tryz.prog 66 0 0 9 1:=wP (by kernel_rfl) (by kernel_rfl)
instance ty9:Ty Tryz.prog 9 .string 1:=ql Tryz.underlying9 (by kernel_rfl)
instance fo66x2:Fo Tryz.prog 66 2 2 24 1:=wP (by kernel_rfl) (by kernel_rfl)
instance ty24:Ty Tryz.prog 24 (.slice 66) 1:=ql Tryz.underlying24 (by kernel_rfl)
instance fo66x1:Fo Tryz.prog 66 1 1 64 1:=wP (by kernel_rfl) (by kernel_rfl)
instance ty64:Ty Tryz.prog 64 (.slice 63) 1:=ql Tryz.underlying64 (by kernel_rfl)
instance el64:El Tryz.prog 64 63 9:=mkEl Tryz.underlying64 (by kernel_rfl)
theorem ty63:∃d,Ty Tryz.prog 63 d 9/\yh d=true:=⟨_,ql Tryz.underlying63 (by kernel_rfl),by kernel_rfl⟩
instance:TA Tryz.prog 63 9:=⟨ty63⟩
abbrev xN:List AV:=[.int .u8 (0:Int),.int .i64 (0:Int),.int .u64 (0:Int),.int .u8 (0:Int),.int .u32 (0:Int),.int .u64 (0:Int),.str ([]:zy),.osl none 5 (([]:List GH).map GH.row),.osl none 3 (([]:List GF).map GF.row)]
abbrev xK:List (AV×AV):=[(.int .u8 1,.fn (.func 94) [] []),(.int .u8 2,.fn (.func 95) [] []),(.int .u8 3,.fn (.func 96) [] []),(.int .u8 4,.fn (.func 97) [] []),(.int .u8 5,.fn (.func 98) [] [])]
abbrev lit2x:List AV:=[.str ([]:zy),.int .i64 (0:Int),.int .i64 (0:Int),.int .i64 (0:Int),.int .i64 (0:Int)]
abbrev lit3x:List AV:=[.osl none 1 [],.int .u8 0,.int .i64 0,.int .u64 0,.int .u8 0,.int .u32 0,.int .u64 0,.str [],.osl none 5 [],.osl none 3 []]
abbrev lit4x:List AV:=[.int .u8 0,.int .i64 0,.int .u64 0,.int .u8 0,.int .u32 0,.int .u64 0,.str [],.osl none 5 [],.osl none 3 []]
abbrev lit5x:List AV:=[.str ([]:zy),.osl none 9 (([]:List GC).map GC.row),.osl none 3 (([]:List GA).map GA.row)]
abbrev lit6x:List AV:=[.int .u8 (0:Int),.int .u32 (0:Int),.int .u64 (0:Int)]
theorem ze63:xD Tryz.prog 63=some lit4x:=by kernel_rfl
instance:ZE Tryz.prog 63 lit4x:=⟨ze63⟩
instance fo63x4:Fo Tryz.prog 63 4 6 9 1:=wP (by kernel_rfl) (by kernel_rfl)
instance fo63x6:Fo Tryz.prog 63 6 8 32 1:=wP (by kernel_rfl) (by kernel_rfl)
instance ty32:Ty Tryz.prog 32 (.slice 30) 1:=ql Tryz.underlying32 (by kernel_rfl)
instance el32:El Tryz.prog 32 30 3:=mkEl Tryz.underlying32 (by kernel_rfl)
instance fo63x5:Fo Tryz.prog 63 5 7 61 1:=wP (by kernel_rfl) (by kernel_rfl)
instance ty61:Ty Tryz.prog 61 (.slice 60) 1:=ql Tryz.underlying61 (by kernel_rfl)
instance el61:El Tryz.prog 61 60 5:=mkEl Tryz.underlying61 (by kernel_rfl)
instance fo60x2:Fo Tryz.prog 60 2 4 9 1:=wP (by kernel_rfl) (by kernel_rfl)
instance el22:El Tryz.prog 22 56 5:=mkEl Tryz.underlying22 (by kernel_rfl)
theorem ty56:∃d,Ty Tryz.prog 56 d 5/\yh d=true:=⟨_,ql Tryz.underlying56 (by kernel_rfl),by kernel_rfl⟩
instance:TA Tryz.prog 56 5:=⟨ty56⟩
theorem ze56:xD Tryz.prog 56=some [.str [],.int .i64 0,.int .i64 0,.int .i64 0,.int .i64 0]:=by kernel_rfl
instance:ZE Tryz.prog 56 [.str [],.int .i64 0,.int .i64 0,.int .i64 0,.int .i64 0]:=⟨ze56⟩
instance fo56x0:Fo Tryz.prog 56 0 0 9 1:=wP (by kernel_rfl) (by kernel_rfl)
instance fo34x4:Fo Tryz.prog 34 4 4 32 1:=wP (by kernel_rfl) (by kernel_rfl)
instance fo34x1:Fo Tryz.prog 34 1 1 31 1:=wP (by kernel_rfl) (by kernel_rfl)
instance ty31:Ty Tryz.prog 31 (.slice 9) 1:=ql Tryz.underlying31 (by kernel_rfl)
instance el31:El Tryz.prog 31 9 1:=mkEl Tryz.underlying31 (by kernel_rfl)
instance fo34x3:Fo Tryz.prog 34 3 3 9 1:=wP (by kernel_rfl) (by kernel_rfl)
theorem ze30:xD Tryz.prog 30=some [.int .u8 0,.int .u32 0,.int .u64 0]:=by kernel_rfl
instance:ZE Tryz.prog 30 [.int .u8 0,.int .u32 0,.int .u64 0]:=⟨ze30⟩
noncomputable def sf27:Array Field:=match Tryz.prog.underlying 27 with | some (.struct fs)=>fs | _=>#[]
theorem su27:Tryz.prog.underlying 27=some (.struct sf27):=by kernel_rfl
theorem ze27:xD Tryz.prog 27=some [.int .u8 0,.int .u32 0]:=by kernel_rfl
instance:ZE Tryz.prog 27 [.int .u8 0,.int .u32 0]:=⟨ze27⟩
theorem pl27:va Tryz.prog sf27=some [(0,1),(1,1)]:=by kernel_rfl
noncomputable def sf30:Array Field:=match Tryz.prog.underlying 30 with | some (.struct fs)=>fs | _=>#[]
theorem su30:Tryz.prog.underlying 30=some (.struct sf30):=by kernel_rfl
theorem pl30:va Tryz.prog sf30=some [(0,2),(2,1)]:=by kernel_rfl
theorem ty30:∃d,Ty Tryz.prog 30 d 3/\yh d=true:=⟨_,ql Tryz.underlying30 (by kernel_rfl),by kernel_rfl⟩
instance:TA Tryz.prog 30 3:=⟨ty30⟩
instance ty4:Ty Tryz.prog 4 .bool 1:=ql Tryz.underlying4 (by kernel_rfl)
instance el215:El Tryz.prog 215 3 1:=mkEl Tryz.underlying215 (by kernel_rfl)
instance ty3:Ty Tryz.prog 3 (.int .i64) 1:=ql Tryz.underlying3 (by kernel_rfl)
instance fo27x0:Fo Tryz.prog 27 0 0 5 1:=wP (by kernel_rfl) (by kernel_rfl)
instance ty5:Ty Tryz.prog 5 (.int .u8) 1:=ql Tryz.underlying5 (by kernel_rfl)
instance fo27x1:Fo Tryz.prog 27 1 1 25 1:=wP (by kernel_rfl) (by kernel_rfl)
instance ty25:Ty Tryz.prog 25 (.int .u32) 1:=ql Tryz.underlying25 (by kernel_rfl)
theorem ze3:xD Tryz.prog 3=some [.int .i64 0]:=by kernel_rfl
instance:ZE Tryz.prog 3 [.int .i64 0]:=⟨ze3⟩
instance fo30x0:Fo Tryz.prog 30 0 0 27 2:=wP (by kernel_rfl) (by kernel_rfl)
theorem ty27:∃d,Ty Tryz.prog 27 d 2/\yh d=true:=⟨_,ql Tryz.underlying27 (by kernel_rfl),by kernel_rfl⟩
instance:TA Tryz.prog 27 2:=⟨ty27⟩
instance fo30x1:Fo Tryz.prog 30 1 2 28 1:=wP (by kernel_rfl) (by kernel_rfl)
instance ty28:Ty Tryz.prog 28 (.int .u64) 1:=ql Tryz.underlying28 (by kernel_rfl)
theorem ty60:∃d,Ty Tryz.prog 60 d 5/\yh d=true:=⟨_,ql Tryz.underlying60 (by kernel_rfl),by kernel_rfl⟩
instance:TA Tryz.prog 60 5:=⟨ty60⟩
instance fo60x1:Fo Tryz.prog 60 1 1 30 3:=wP (by kernel_rfl) (by kernel_rfl)
theorem pk30:PK Tryz.prog 30 [.i,.i,.i]:=mkPK (by kernel_rfl) (by kernel_rfl) (by kernel_rfl)
theorem pk60:PK Tryz.prog 60 [.i,.i,.i,.i,.s]:=mkPK (by kernel_rfl) (by kernel_rfl) (by kernel_rfl)
instance fo63x0:Fo Tryz.prog 63 0 0 5 1:=wP (by kernel_rfl) (by kernel_rfl)
instance fo63x1:Fo Tryz.prog 63 1 1 2 1:=wP (by kernel_rfl) (by kernel_rfl)
instance ty2:Ty Tryz.prog 2 (.int .i64) 1:=ql Tryz.underlying2 (by kernel_rfl)
instance fo63x2:Fo Tryz.prog 63 2 2 28 1:=wP (by kernel_rfl) (by kernel_rfl)
instance fo63x3:Fo Tryz.prog 63 3 3 30 3:=wP (by kernel_rfl) (by kernel_rfl)
theorem ze60:xD Tryz.prog 60=some [.int .u64 0,.int .u8 0,.int .u32 0,.int .u64 0,.str []]:=by kernel_rfl
instance:ZE Tryz.prog 60 [.int .u64 0,.int .u8 0,.int .u32 0,.int .u64 0,.str []]:=⟨ze60⟩
theorem kq30:KQ Tryz.prog 30 (λx=>AV.agg (GF.row x)) GF.eqb:=.struct su30 pk30 (λ_ _=>rfl) (λa=>by simp [GF.eqb])
theorem az3:aZeroM Tryz.prog 3=some ((AV.int .i64) (0:Int)):=by kernel_rfl
instance fo60x0:Fo Tryz.prog 60 0 0 28 1:=wP (by kernel_rfl) (by kernel_rfl)
noncomputable def sf63:Array Field:=match Tryz.prog.underlying 63 with | some (.struct fs)=>fs | _=>#[]
theorem su63:Tryz.prog.underlying 63=some (.struct sf63):=by kernel_rfl
theorem pl63:va Tryz.prog sf63=some [(0,1),(1,1),(2,1),(3,3),(6,1),(7,1),(8,1)]:=by kernel_rfl
theorem ty66:∃d,Ty Tryz.prog 66 d 3/\yh d=true:=⟨_,ql Tryz.underlying66 (by kernel_rfl),by kernel_rfl⟩
instance:TA Tryz.prog 66 3:=⟨ty66⟩
theorem ze66:xD Tryz.prog 66=some [.str [],.osl none 9 [],.osl none 3 []]:=by kernel_rfl
instance:ZE Tryz.prog 66 [.str [],.osl none 9 [],.osl none 3 []]:=⟨ze66⟩
instance el69:El Tryz.prog 69 5 1:=mkEl Tryz.underlying69 (by kernel_rfl)
theorem ze5:xD Tryz.prog 5=some [.int .u8 0]:=by kernel_rfl
instance:ZE Tryz.prog 5 [.int .u8 0]:=⟨ze5⟩
instance ty69:Ty Tryz.prog 69 (.slice 5) 1:=ql Tryz.underlying69 (by kernel_rfl)
theorem ze9:xD Tryz.prog 9=some [.str []]:=by kernel_rfl
instance:ZE Tryz.prog 9 [.str []]:=⟨ze9⟩
instance ty160:Ty Tryz.prog 160 (.func #[72] #[4] false) 1:=ql Tryz.underlying160 (by kernel_rfl)
noncomputable def sf72:Array Field:=match Tryz.prog.underlying 72 with | some (.struct fs)=>fs | _=>#[]
theorem su72:Tryz.prog.underlying 72=some (.struct sf72):=by kernel_rfl
theorem ze72:xD Tryz.prog 72=some lit3x:=by kernel_rfl
instance:ZE Tryz.prog 72 lit3x:=⟨ze72⟩
theorem pl72:va Tryz.prog sf72=some [(0,1),(1,9)]:=by kernel_rfl
theorem ty72:∃d,Ty Tryz.prog 72 d 10/\yh d=true:=⟨_,ql Tryz.underlying72 (by kernel_rfl),by kernel_rfl⟩
instance:TA Tryz.prog 72 10:=⟨ty72⟩
instance el53:El Tryz.prog 53 72 10:=mkEl Tryz.underlying53 (by kernel_rfl)
instance ty53:Ty Tryz.prog 53 (.slice 72) 1:=ql Tryz.underlying53 (by kernel_rfl)
theorem ze44:xD Tryz.prog 44=some [.str [],.int .i64 0,.int .i64 0,.int .i64 0,.int .i64 0]:=by kernel_rfl
instance:ZE Tryz.prog 44 [.str [],.int .i64 0,.int .i64 0,.int .i64 0,.int .i64 0]:=⟨ze44⟩
noncomputable def sf44:Array Field:=match Tryz.prog.underlying 44 with | some (.struct fs)=>fs | _=>#[]
theorem su44:Tryz.prog.underlying 44=some (.struct sf44):=by kernel_rfl
theorem pl44:va Tryz.prog sf44=some [(0,1),(1,1),(2,1),(3,1),(4,1)]:=by kernel_rfl
theorem ty44:∃d,Ty Tryz.prog 44 d 5/\yh d=true:=⟨_,ql Tryz.underlying44 (by kernel_rfl),by kernel_rfl⟩
instance:TA Tryz.prog 44 5:=⟨ty44⟩
instance fo44x1:Fo Tryz.prog 44 1 1 3 1:=wP (by kernel_rfl) (by kernel_rfl)
instance fo44x2:Fo Tryz.prog 44 2 2 3 1:=wP (by kernel_rfl) (by kernel_rfl)
instance fo72x1:Fo Tryz.prog 72 1 1 63 9:=wP (by kernel_rfl) (by kernel_rfl)
instance fo44x3:Fo Tryz.prog 44 3 3 3 1:=wP (by kernel_rfl) (by kernel_rfl)
instance el39:El Tryz.prog 39 44 5:=mkEl Tryz.underlying39 (by kernel_rfl)
noncomputable def sf60:Array Field:=match Tryz.prog.underlying 60 with | some (.struct fs)=>fs | _=>#[]
theorem su60:Tryz.prog.underlying 60=some (.struct sf60):=by kernel_rfl
theorem pl60:va Tryz.prog sf60=some [(0,1),(1,3),(4,1)]:=by kernel_rfl
noncomputable def sf66:Array Field:=match Tryz.prog.underlying 66 with | some (.struct fs)=>fs | _=>#[]
theorem su66:Tryz.prog.underlying 66=some (.struct sf66):=by kernel_rfl
theorem pl66:va Tryz.prog sf66=some [(0,1),(1,1),(2,1)]:=by kernel_rfl
instance fo44x0:Fo Tryz.prog 44 0 0 9 1:=wP (by kernel_rfl) (by kernel_rfl)
instance fo44x4:Fo Tryz.prog 44 4 4 3 1:=wP (by kernel_rfl) (by kernel_rfl)
instance el92:El Tryz.prog 92 95 10:=mkEl Tryz.underlying92 (by kernel_rfl)
noncomputable def sf95:Array Field:=match Tryz.prog.underlying 95 with | some (.struct fs)=>fs | _=>#[]
theorem su95:Tryz.prog.underlying 95=some (.struct sf95):=by kernel_rfl
theorem ze95:xD Tryz.prog 95=some lit3x:=by kernel_rfl
instance:ZE Tryz.prog 95 lit3x:=⟨ze95⟩
theorem pl95:va Tryz.prog sf95=some [(0,1),(1,9)]:=by kernel_rfl
instance fo95x0:Fo Tryz.prog 95 0 0 31 1:=wP (by kernel_rfl) (by kernel_rfl)
instance fo95x1:Fo Tryz.prog 95 1 1 63 9:=wP (by kernel_rfl) (by kernel_rfl)
instance fo72x0:Fo Tryz.prog 72 0 0 31 1:=wP (by kernel_rfl) (by kernel_rfl)
theorem pk44:PK Tryz.prog 44 [.s,.i,.i,.i,.i]:=mkPK (by kernel_rfl) (by kernel_rfl) (by kernel_rfl)
instance fo56x1:Fo Tryz.prog 56 1 1 3 1:=wP (by kernel_rfl) (by kernel_rfl)
instance fo56x2:Fo Tryz.prog 56 2 2 3 1:=wP (by kernel_rfl) (by kernel_rfl)
instance fo56x3:Fo Tryz.prog 56 3 3 3 1:=wP (by kernel_rfl) (by kernel_rfl)
instance fo56x4:Fo Tryz.prog 56 4 4 3 1:=wP (by kernel_rfl) (by kernel_rfl)
theorem ze76:xD Tryz.prog 76=some [.int .i64 0,.int .i64 0,.int .i64 0,.int .i64 0]:=by kernel_rfl
instance:ZE Tryz.prog 76 [.int .i64 0,.int .i64 0,.int .i64 0,.int .i64 0]:=⟨ze76⟩
instance ty76:Ty Tryz.prog 76 (.array 4 3) 4:=ql Tryz.underlying76 (by kernel_rfl)
instance ty123:Ty Tryz.prog 123 (.array 2 9) 2:=ql Tryz.underlying123 (by kernel_rfl)
theorem ze123:xD Tryz.prog 123=some [.str [],.str []]:=by kernel_rfl
instance:ZE Tryz.prog 123 [.str [],.str []]:=⟨ze123⟩
noncomputable def sf56:Array Field:=match Tryz.prog.underlying 56 with | some (.struct fs)=>fs | _=>#[]
theorem su56:Tryz.prog.underlying 56=some (.struct sf56):=by kernel_rfl
theorem pl56:va Tryz.prog sf56=some [(0,1),(1,1),(2,1),(3,1),(4,1)]:=by kernel_rfl
theorem pka76:PKA Tryz.prog 76 [.i,.i,.i,.i]:=⟨by kernel_rfl,by kernel_rfl,by kernel_rfl⟩
instance fo34x2:Fo Tryz.prog 34 2 2 2 1:=wP (by kernel_rfl) (by kernel_rfl)
theorem ze126:xD Tryz.prog 126=some [.int .u8 0,.nilf]:=by kernel_rfl
instance:ZE Tryz.prog 126 [.int .u8 0,.nilf]:=⟨ze126⟩
noncomputable def sf126:Array Field:=match Tryz.prog.underlying 126 with | some (.struct fs)=>fs | _=>#[]
theorem su126:Tryz.prog.underlying 126=some (.struct sf126):=by kernel_rfl
theorem pl126:va Tryz.prog sf126=some [(0,1),(1,1)]:=by kernel_rfl
instance ty169:Ty Tryz.prog 169 (.array 6 126) 12:=ql Tryz.underlying169 (by kernel_rfl)
theorem ze169:xD Tryz.prog 169=some [.int .u8 0,.nilf,.int .u8 0,.nilf,.int .u8 0,.nilf,.int .u8 0,.nilf,.int .u8 0,.nilf,.int .u8 0,.nilf]:=by kernel_rfl
instance:ZE Tryz.prog 169 [.int .u8 0,.nilf,.int .u8 0,.nilf,.int .u8 0,.nilf,.int .u8 0,.nilf,.int .u8 0,.nilf,.int .u8 0,.nilf]:=⟨ze169⟩
theorem ty126:∃d,Ty Tryz.prog 126 d 2/\yh d=true:=⟨_,ql Tryz.underlying126 (by kernel_rfl),by kernel_rfl⟩
instance:TA Tryz.prog 126 2:=⟨ty126⟩
instance fo34x0:Fo Tryz.prog 34 0 0 5 1:=wP (by kernel_rfl) (by kernel_rfl)
instance fo126x1:Fo Tryz.prog 126 1 1 106 1:=wP (by kernel_rfl) (by kernel_rfl)
instance ty106:Ty Tryz.prog 106 (.func #[34] #[4] false) 1:=ql Tryz.underlying106 (by kernel_rfl)
theorem ty34:∃d,Ty Tryz.prog 34 d 5/\yh d=true:=⟨_,ql Tryz.underlying34 (by kernel_rfl),by kernel_rfl⟩
instance:TA Tryz.prog 34 5:=⟨ty34⟩
instance fo36x0:Fo Tryz.prog 36 0 0 30 3:=wP (by kernel_rfl) (by kernel_rfl)
instance fo36x1:Fo Tryz.prog 36 1 3 28 1:=wP (by kernel_rfl) (by kernel_rfl)
instance fo36x2:Fo Tryz.prog 36 2 4 34 5:=wP (by kernel_rfl) (by kernel_rfl)
instance fo126x0:Fo Tryz.prog 126 0 0 5 1:=wP (by kernel_rfl) (by kernel_rfl)
instance ty166:Ty Tryz.prog 166 (.int .u64) 1:=ql Tryz.underlying166 (by kernel_rfl)
theorem ty36:∃d,Ty Tryz.prog 36 d 9/\yh d=true:=⟨_,ql Tryz.underlying36 (by kernel_rfl),by kernel_rfl⟩
instance:TA Tryz.prog 36 9:=⟨ty36⟩
noncomputable def sf141:Array Field:=match Tryz.prog.underlying 141 with | some (.struct fs)=>fs | _=>#[]
theorem su141:Tryz.prog.underlying 141=some (.struct sf141):=by kernel_rfl
theorem ze141:xD Tryz.prog 141=some lit4x:=by kernel_rfl
instance:ZE Tryz.prog 141 lit4x:=⟨ze141⟩
theorem pl141:va Tryz.prog sf141=some [(0,9)]:=by kernel_rfl
instance fo141x0:Fo Tryz.prog 141 0 0 63 9:=wP (by kernel_rfl) (by kernel_rfl)
theorem azf136:aZeroM Tryz.prog 136=some .nilf:=by kernel_rfl
instance el23:El Tryz.prog 23 66 3:=mkEl Tryz.underlying23 (by kernel_rfl)
instance ty86:Ty Tryz.prog 86 (.func #[72] #[3] false) 1:=ql Tryz.underlying86 (by kernel_rfl)
theorem ze86:xD Tryz.prog 86=some [.nilf]:=by kernel_rfl
instance:ZE Tryz.prog 86 [.nilf]:=⟨ze86⟩
abbrev zz (x:GC) (p q:AV):List AV:=[.int .u8 x.typ,.int .i64 x.n,.int .u64 x.time,.int .u8 x.dot.actor.rep,.int .u32 x.dot.actor.inc,.int .u64 x.dot.seq,.str x.text,p,q]
theorem ok48N (n:Nat):∀{t0:(List GA)} {b:Int} {res:Int} {h:AH} , xR n t0 b=some res->Spec Tryz.prog 48 [.sl 3 (t0.map GA.row),.int .i64 b] h (yn (.int .i64 res) h):=by
 induction n with
 | zero=>intro t0 b res h  a;simp [xR] at a
 | succ n ih =>
  intro t0 b res h  a;unfold xR at a;refine zb Tryz.func48 rfl (by kernel_rfl) (yG 84 rfl) (R.r ?_);refine yD (λ(s1:Int×Int)=>zn 2 3 (zn 7 77 [(5,.int .i64 s1.1),(6,.int .i64 s1.2)])) (λs1=>h.ext [] []) a (λ_=>by simp only [zn,xQ,ue,uf];try rfl) (wk.le LEL.o) ?_;intro Q s1 N a p;refine R.r ?_;refine ln λi=>?_;replace i:=zW i;refine R.r ?_;refine ze gg a (λA a=>?_) (λA a=>?_)
  ·refine R.r ?_;refine zx [16] [] trivial mixed (by kernel_rfl) (R.r ?_);refine zd a (λL z a=>zt rfl rfl (yj rfl el24 gg gg isl z (GA.row_eq _)) ss ?_);refine R.r ?_;refine wF rfl rfl (s_lenStr rfl rfl rfl rfl ty9 gg) ss (R.r ?_);refine zd a (λJ u a=>zt rfl rfl (yj rfl el24 gg gg isl u (GA.row_eq _)) ss ?_);refine R.r ?_;refine zd a (λK s a=>zS rfl rfl (λ_=>sc rfl) (by rintro _ ⟨B2,T2,rfl,M⟩;exact ih s) ss ?_);refine R.r ?_;refine yD (λ(s2:Int×Int)=>zn 2 3 (zn 8 76 [(5,.int .i64 s2.1),(7,.int .i64 s2.2)])) (λs2=>h.ext [] []) a (λ_=>by simp only [zn,xQ,ue,uf];try rfl) (wk.le LEL.o) ?_;intro n2 s2 P a y;refine R.r ?_;refine zd a (λG k a=>zc rfl (yj rfl el24 gg gg isl k (GA.row_eq _)) ss ?_);refine R.r ?_;refine ln λd=>?_;replace d:=zW d;refine R.r ?_;refine ze gg a (λl a=>?_) (λl a=>?_)
   ·refine R.r ?_;refine zd a (λF m a=>zc rfl (yj rfl el24 gg gg isl m (GA.row_eq _)) ss ?_);refine R.r ?_;refine zd a (λx j a=>ix j ?_);refine R.r ?_;refine ln λg=>?_;replace g:=zW g;refine R.r ?_;refine ln λf=>?_;replace f:=zW f;refine R.r ?_;refine zA (λ(E:Nat) (w:Int)=>zn 2 3 (zn 10 74 [(5,.int .i64 w),(9,.int .i64 (E:Int))])) (λw=>h.ext [.cells (GC.row x)] []) a (λ_ _=>by simp only [zn,xQ,ue,uf];try rfl) (wk.le LEL.o) ?_;intro E w I a;refine R.r ?_;refine ln λe=>?_;replace e:=zW e;refine R.r ?_;refine zD gg a (λH O B D a C=>?_) (λa=>?_)
    ·refine R.r ?_;refine ix (zC D) (R.r ?_);refine ln λc=>?_;replace c:=zW c;refine R.r ?_;cases a;exact ⟨(IntKind.wrap .i64 ((IntKind.wrap .i64 (w+(1:Int)))+((H.text).length:Int))),B,C,wk.le (by exact (.eq (.eq (.drop (.drop (.drop (.cons (leV.of_eq rfl) (.eq (.eq (.eq (.cons (leV.of_eq (yL (by omega) (by omega))) (.d16 (.d16 (.d16 (.d16 (.d4 (.d4 (.drop (.drop leL.nil)))))))))))))))))))⟩
    ·refine R.r ?_;cases a;exact ⟨(w,(IntKind.wrap .i64 (s2.2+(1:Int)))),y,wk.trans (wk.le LEL.o) (yl (by simp [zB,AV.low]) rfl rfl (by simp [Blk.low,zB,AV.low]))⟩
   ·refine R.r ?_;cases a;replace a:=y;refine R.r ?_;cases a;exact ⟨(s2.1,(IntKind.wrap .i64 (s1.2+(1:Int)))),p,wk.le LEL.o⟩
  ·refine R.r ?_;cases a;replace a:=p;refine R.r ?_;cases a;exact fz rfl rfl
theorem ok48 {t0:(List GA)} {a:Int} {res:Int} {h:AH}  (c:ref07Xsize t0 a=some res):Spec Tryz.prog 48 [.sl 3 (t0.map GA.row),.int .i64 a] h (yn (.int .i64 res) h):=by
 obtain ⟨n,b⟩:=anyN_is c;exact ok48N n b
theorem ok20 {t0:(List GA)} {res:Bool} {h:AH}  (a:ref07Great t0=some res):Spec Tryz.prog 20 [.sl 3 (t0.map GA.row)] h (yn (.bool res) h):=by
 unfold ref07Great at a;refine zb Tryz.func20 rfl (by kernel_rfl) (yG 6 rfl) (R.r ?_);refine zd a (λc b a=>cp (ok48 b) ?_);refine R.r ?_;cases a;exact fz rfl rfl
theorem ok4 {l:(List GI)} {u:(List GA)} {i:GM} {res:Bool} {h:AH}  (a:law45Xgreat l u i=some res):Spec Tryz.prog 4 [.sl 5 (l.map GI.row),.sl 3 (u.map GA.row),.agg (GM.row i)] h (yn (.bool res) h):=by
 unfold law45Xgreat at a;refine zb Tryz.func4 rfl (by kernel_rfl) (yG 45 rfl) (R.r ?_);refine ln λf=>?_;replace f:=zW f;refine R.r ?_;refine zA (λ(s:Nat) (s1:Unit)=>zn 2 3 (zn 6 3 (zn 12 33 [(11,.int .i64 (s:Int))]))) (λs1=>h.ext [.cells (GM.row i)] []) a (λ_ _=>by simp only [zn,xQ,ue,uf];try rfl) (wk.le LEL.o) ?_;intro s s1 x a;refine R.r ?_;refine zD gg a (λA z k j a d=>?_) (λa=>?_)
 ·refine R.r ?_;refine ix (zC j) (R.r ?_);refine ln λb=>?_;replace b:=zW b;refine R.r ?_;refine ze gg a (λg a=>?_) (λg a=>?_)
  ·refine R.r ?_;cases a;replace a:=d;refine R.r ?_;cases a;exact fz rfl rfl
  ·refine R.r ?_;cases a;exact ⟨(),k,d,wk.trans (wk.le (by exact (.eq (.eq (.drop (.drop (.drop (.eq (.drop (.drop (.drop (.eq (.eq (.cons (leV.of_eq (yL (by omega) (by omega))) (.d16 (.d16 (.drop leL.nil))))))))))))))))) (yl (by simp [zB,AV.low]) rfl rfl (by simp [Blk.low,zB,AV.low]))⟩
 ·refine R.r ?_;refine ln λc=>?_;replace c:=zW c;refine R.r ?_;refine zX a (λy e a=>zK rfl sc (λw=>ok20 (e w)) ss ?_);refine R.r ?_;refine lng λm=>R.r ?_;refine lng λp=>R.r ?_;refine lng λn=>R.r ?_;cases a;exact fz rfl rfl
theorem ok21 {a:Int} {res:GF} {h:AH}  (b:vu a=some res):Spec Tryz.prog 21 [.int .u64 a] h (yn (.agg (GF.row res)) h):=by
 unfold vu at b;refine zb Tryz.func21 rfl (by kernel_rfl) (yG 6 rfl) (R.r ?_);refine zc rfl (ya (cs':=[.int .u8 (0:Int),.int .u32 (1:Int)]) rfl su27 ze27 pl27 (zg rfl zk) (.cons (za rfl) .nil) rfl rfl) ss (R.r ?_);refine zc rfl (ya (cs':=[.int .u8 (0:Int),.int .u32 (1:Int),.int .u64 a]) rfl su30 ze30 pl30 (zg gg (zg gg zk)) (.cons (za rfl) (.cons (za rfl) .nil)) rfl rfl) ss (R.r ?_);cases b;exact fz rfl rfl
theorem ok58 {a:Int} {res:Bool} {h:AH}  (b:opIsNameC1 a=some res):Spec Tryz.prog 58 [.int .i32 a] h (yn (.bool res) h):=by
 unfold opIsNameC1 at b;refine zb Tryz.func58 rfl (by kernel_rfl) (yG 25 rfl) (R.r ?_);cases b;exact fz rfl rfl
theorem ok133 {i:zy} {x:(Int->Option Bool)} {g:FuncId} {f e:List AV} {b:Bool} {res:Int} {h:AH} (k:∀y v (L:List Blk) (M:List Nat),x y=some v->Spec Tryz.prog g (f++[.int .i32 y]++e) (h.ext L M) (yn (.bool v) (h.ext L M))) (a:vB i x b=some res):Spec Tryz.prog 133 [.str i,.fn (.func g) f e,.bool b] h (yn (.int .i64 res) h):=by
 unfold vB at a;refine zI Tryz.func133 rfl (by kernel_rfl) (yG 21 rfl) (λc B=>?_);simp only [zB,AV.low,ud,uX,tW] at c;have s:∀n m,h.blks.length<=n->h.toks.length<=m->zB n m f=true:=λn m w p=>yb w p _ (by simp [c]);have j:∀n m,h.blks.length<=n->h.toks.length<=m->zB n m e=true:=λn m w p=>yb w p _ (by simp [c]);refine R.r ?_;refine zc rfl (e_range (n:=0) rfl ty9 gg rfl) ss (R.r ?_);refine yD (λ(s1:Nat)=>zn 3 7 (zn 11 10 [(0,.any)])) (λs1=>h.ext [.siter i s1] []) a (λ_=>by simp only [zn,xQ,ue,uf];try rfl) (wk.le LEL.o) ?_;intro D s1 A a d;refine R.r ?_;refine ops_nextF rfl rfl gg rfl ss ss a (λz a=>?_) (λa=>?_)
 ·refine R.r ?_;refine r_cond gg (λ_=>?_) (λhh=>by cases hh);refine R.r ?_;refine zd a (λC u a=>xX rfl (scC rfl) (k _ _ _ _ u) ss ?_);refine R.r ?_;refine zc rfl (vD rfl gg gg (bin_boolE ty4)) ss (R.r ?_);refine ze gg a (λl a=>?_) (λl a=>?_)
  ·refine R.r ?_;cases a;replace a:=d;refine R.r ?_;cases a;exact fz rfl rfl
  ·refine R.r ?_;cases a;exact ⟨(s1+(dec i s1).2),d,wk.le LEL.o⟩
 ·refine R.r ?_;refine r_cond gg (λhh=>by cases hh) (λ_=>R.r ?_);cases a;replace a:=d;refine R.r ?_;cases a;exact fz rfl rfl
theorem ok83 {p:zy} {s:(Int->Option Bool)} {d:FuncId} {c b:List AV} {res:Int} {h:AH} (i:∀f v (L:List Blk) (M:List Nat),s f=some v->Spec Tryz.prog d (c++[.int .i32 f]++b) (h.ext L M) (yn (.bool v) (h.ext L M))) (e:vQ p s=some res):Spec Tryz.prog 83 [.str p,.fn (.func d) c b] h (yn (.int .i64 res) h):=by
 unfold vQ at e;refine zI Tryz.func83 rfl (by kernel_rfl) (yG 8 rfl) (λa w=>?_);simp only [zB,AV.low,ud,uX,tW] at a;have l:∀n m,h.blks.length<=n->h.toks.length<=m->zB n m c=true:=λn m o k=>yb o k _ (by simp [a]);have g:∀n m,h.blks.length<=n->h.toks.length<=m->zB n m b=true:=λn m o k=>yb o k _ (by simp [a]);refine R.r ?_;refine zd e (λx j e=>cp (ok133 (λf v L M u=>by rw [zQ];exact i f v _ _ u) j) ?_);refine R.r ?_;cases e;exact fz rfl rfl
theorem ok59 {p:zy} {s:(Int->Option Bool)} {d:FuncId} {c b:List AV} {res:Bool} {h:AH} (i:∀f v (L:List Blk) (M:List Nat),s f=some v->Spec Tryz.prog d (c++[.int .i32 f]++b) (h.ext L M) (yn (.bool v) (h.ext L M))) (e:wa p s=some res):Spec Tryz.prog 59 [.str p,.fn (.func d) c b] h (yn (.bool res) h):=by
 unfold wa at e;refine zI Tryz.func59 rfl (by kernel_rfl) (yG 9 rfl) (λa w=>?_);simp only [zB,AV.low,ud,uX,tW] at a;have l:∀n m,h.blks.length<=n->h.toks.length<=m->zB n m c=true:=λn m o k=>yb o k _ (by simp [a]);have g:∀n m,h.blks.length<=n->h.toks.length<=m->zB n m b=true:=λn m o k=>yb o k _ (by simp [a]);refine R.r ?_;refine zd e (λx j e=>cp (ok83 (λf v L M u=>by rw [zQ];exact i f v _ _ u) j) ?_);refine R.r ?_;cases e;exact fz rfl rfl
theorem ok29 {d:zy} {res:Bool} {h:AH}  (b:opIsName d=some res):Spec Tryz.prog 29 [.str d] h (yn (.bool res) h):=by
 unfold opIsName at b;refine zb Tryz.func29 rfl (by kernel_rfl) (yG 18 rfl) (R.r ?_);refine ln λa=>?_;replace a:=zW a;refine R.r ?_;refine lng λg=>R.r ?_;refine zX b (λv3 c b=>zK rfl sc (λf=>ok59 (λ_ v L M e=>ok58  e) (c f)) ss ?_);refine R.r ?_;cases b;exact fz rfl rfl
theorem ok171 {b:(List Int)} {res:Int} {h:AH}  (a:cmpOrInt b=some res):Spec Tryz.prog 171 [.sl 1 (b.map (intRow .i64))] h (yn (.int .i64 res) h):=by
 unfold cmpOrInt at a;refine zb Tryz.func171 rfl (by kernel_rfl) (yG 18 rfl) (R.r ?_);refine ln λd=>?_;replace d:=zW d;refine R.r ?_;refine zA (λ(i:Nat) (s1:Unit)=>zn 0 3 (zn 4 2 (zn 9 9 [(8,.int .i64 (i:Int))]))) (λs1=>h.ext [] []) a (λ_ _=>by simp only [zn,xQ,ue,uf];try rfl) (wk.le LEL.o) ?_;intro i s1 j a;refine R.r ?_;refine zD gg a (λk l g f a c=>?_) (λa=>?_)
 ·refine R.r ?_;refine ix (zC f) (R.r ?_);refine ze gg a (λe a=>?_) (λe a=>?_)
  ·refine R.r ?_;cases a;replace a:=c;refine R.r ?_;cases a;exact fz rfl rfl
  ·refine R.r ?_;cases a;exact ⟨(),g,c,wk.le (by exact (.drop (.drop (.drop (.eq (.drop (.drop (.eq (.eq (.cons (leV.of_eq (yL (by omega) (by omega))) (.d4 (.d4 (.drop leL.nil)))))))))))))⟩
 ·refine R.r ?_;cases a;exact fz rfl rfl
theorem ok204 {a:Int} {res:Bool} {h:AH}  (b:vr a=some res):Spec Tryz.prog 204 [.int .u32 a] h (yn (.bool res) h):=by
 unfold vr at b;refine zb Tryz.func204 rfl (by kernel_rfl) (yG 6 rfl) (R.r ?_);cases b;exact fz rfl rfl
theorem ok193 {j:Int} {k:Int} {res:Int} {h:AH}  (a:wY j k=some res):Spec Tryz.prog 193 [.int .u32 j,.int .u32 k] h (yn (.int .i64 res) h):=by
 unfold wY at a;refine zb Tryz.func193 rfl (by kernel_rfl) (yG 20 rfl) (R.r ?_);refine zd a (λl f a=>cp (ok204 f) ?_);refine R.r ?_;refine zd a (λm d a=>cp (ok204 d) ?_);refine R.r ?_;refine ze gg a (λe a=>?_) (λe a=>?_)
 ·refine R.r ?_;refine ze gg a (λg a=>?_) (λg a=>?_)
  ·refine R.r ?_;cases a;exact fz rfl rfl
  ·refine R.r ?_;cases a;exact fz rfl rfl
 ·refine R.r ?_;refine ze gg a (λc a=>?_) (λc a=>?_)
  ·refine R.r ?_;cases a;exact fz rfl rfl
  ·refine R.r ?_;refine ze gg a (λb a=>?_) (λb a=>?_)
   ·refine R.r ?_;cases a;exact fz rfl rfl
   ·refine R.r ?_;refine ze gg a (λi a=>?_) (λi a=>?_)
    ·refine R.r ?_;cases a;exact fz rfl rfl
    ·refine R.r ?_;cases a;exact fz rfl rfl
theorem ok154 {a:Int} {res:Bool} {h:AH}  (b:vN a=some res):Spec Tryz.prog 154 [.int .u8 a] h (yn (.bool res) h):=by
 unfold vN at b;refine zb Tryz.func154 rfl (by kernel_rfl) (yG 6 rfl) (R.r ?_);cases b;exact fz rfl rfl
theorem ok107 {j:Int} {k:Int} {res:Int} {h:AH}  (a:x9 j k=some res):Spec Tryz.prog 107 [.int .u8 j,.int .u8 k] h (yn (.int .i64 res) h):=by
 unfold x9 at a;refine zb Tryz.func107 rfl (by kernel_rfl) (yG 20 rfl) (R.r ?_);refine zd a (λl f a=>cp (ok154 f) ?_);refine R.r ?_;refine zd a (λm d a=>cp (ok154 d) ?_);refine R.r ?_;refine ze gg a (λe a=>?_) (λe a=>?_)
 ·refine R.r ?_;refine ze gg a (λg a=>?_) (λg a=>?_)
  ·refine R.r ?_;cases a;exact fz rfl rfl
  ·refine R.r ?_;cases a;exact fz rfl rfl
 ·refine R.r ?_;refine ze gg a (λc a=>?_) (λc a=>?_)
  ·refine R.r ?_;cases a;exact fz rfl rfl
  ·refine R.r ?_;refine ze gg a (λb a=>?_) (λb a=>?_)
   ·refine R.r ?_;cases a;exact fz rfl rfl
   ·refine R.r ?_;refine ze gg a (λi a=>?_) (λi a=>?_)
    ·refine R.r ?_;cases a;exact fz rfl rfl
    ·refine R.r ?_;cases a;exact fz rfl rfl
theorem ok172 {a0:GK} {f:GK} {res:Int} {h:AH}  (a:dotXcompare a0 f=some res):Spec Tryz.prog 172 [.agg (GK.row a0),.agg (GK.row f)] h (yn (.int .i64 res) h):=by
 unfold dotXcompare at a;refine zb Tryz.func172 rfl (by kernel_rfl) (yG 17 rfl) (R.r ?_);refine zx [4,9,11] [] trivial mixed (by kernel_rfl) (R.r ?_);refine zd a (λg e a=>zS rfl rfl (λ_=>sc rfl) (by rintro _ ⟨B2,T2,rfl,b⟩;exact ok107 e) ss ?_);refine R.r ?_;refine zd a (λi d a=>zS rfl rfl (λ_=>sc rfl) (by rintro _ ⟨B2,T2,rfl,b⟩;exact ok193 d) ss ?_);refine zt rfl rfl (zr (es:=([g,i]:List Int).map (intRow .i64)) rfl el215 ze3 rfl rfl (zg gg (zg gg zk)) (.cons (za rfl) (.cons (za rfl) .nil)) rfl rfl rfl) ss ?_;refine zd a (λv3 c a=>zS rfl rfl (λ_=>sc rfl) (by rintro _ ⟨B2,T2,rfl,b⟩;exact (ok171 c).le (.cons (leV.osl _ _ _) leL.nil)) ss ?_);refine R.r ?_;cases a;exact fz rfl rfl
theorem ok194 {a:Int} {res:Bool} {h:AH}  (b:vq a=some res):Spec Tryz.prog 194 [.int .u64 a] h (yn (.bool res) h):=by
 unfold vq at b;refine zb Tryz.func194 rfl (by kernel_rfl) (yG 6 rfl) (R.r ?_);cases b;exact fz rfl rfl
theorem ok173 {j:Int} {k:Int} {res:Int} {h:AH}  (a:wm j k=some res):Spec Tryz.prog 173 [.int .u64 j,.int .u64 k] h (yn (.int .i64 res) h):=by
 unfold wm at a;refine zb Tryz.func173 rfl (by kernel_rfl) (yG 20 rfl) (R.r ?_);refine zd a (λl f a=>cp (ok194 f) ?_);refine R.r ?_;refine zd a (λm d a=>cp (ok194 d) ?_);refine R.r ?_;refine ze gg a (λe a=>?_) (λe a=>?_)
 ·refine R.r ?_;refine ze gg a (λg a=>?_) (λg a=>?_)
  ·refine R.r ?_;cases a;exact fz rfl rfl
  ·refine R.r ?_;cases a;exact fz rfl rfl
 ·refine R.r ?_;refine ze gg a (λc a=>?_) (λc a=>?_)
  ·refine R.r ?_;cases a;exact fz rfl rfl
  ·refine R.r ?_;refine ze gg a (λb a=>?_) (λb a=>?_)
   ·refine R.r ?_;cases a;exact fz rfl rfl
   ·refine R.r ?_;refine ze gg a (λi a=>?_) (λi a=>?_)
    ·refine R.r ?_;cases a;exact fz rfl rfl
    ·refine R.r ?_;cases a;exact fz rfl rfl
theorem ok145 {a0:GF} {f:GF} {res:Int} {h:AH}  (a:vf a0 f=some res):Spec Tryz.prog 145 [.agg (GF.row a0),.agg (GF.row f)] h (yn (.int .i64 res) h):=by
 unfold vf at a;refine zb Tryz.func145 rfl (by kernel_rfl) (yG 17 rfl) (R.r ?_);refine zx [4,9,11] [] trivial mixed (by kernel_rfl) (R.r ?_);refine zd a (λg e a=>zS rfl rfl (λ_=>sc rfl) (by rintro _ ⟨B2,T2,rfl,b⟩;exact ok172 e) ss ?_);refine R.r ?_;refine zd a (λi d a=>zS rfl rfl (λ_=>sc rfl) (by rintro _ ⟨B2,T2,rfl,b⟩;exact ok173 d) ss ?_);refine zt rfl rfl (zr (es:=([g,i]:List Int).map (intRow .i64)) rfl el215 ze3 rfl rfl (zg gg (zg gg zk)) (.cons (za rfl) (.cons (za rfl) .nil)) rfl rfl rfl) ss ?_;refine zd a (λv3 c a=>zS rfl rfl (λ_=>sc rfl) (by rintro _ ⟨B2,T2,rfl,b⟩;exact (ok171 c).le (.cons (leV.osl _ _ _) leL.nil)) ss ?_);refine R.r ?_;cases a;exact fz rfl rfl
theorem ok85 {a0:GK} {res:Bool} {h:AH}  (a:dotMayActor a0=some res):Spec Tryz.prog 85 [.agg (GK.row a0)] h (yn (.bool res) h):=by
 unfold dotMayActor at a;refine zb Tryz.func85 rfl (by kernel_rfl) (yG 16 rfl) (R.r ?_);cases a;exact fz rfl rfl
theorem ok61 {c:GF} {res:Bool} {h:AH}  (a:dotMay c=some res):Spec Tryz.prog 61 [.agg (GF.row c)] h (yn (.bool res) h):=by
 unfold dotMay at a;refine zb Tryz.func61 rfl (by kernel_rfl) (yG 16 rfl) (R.r ?_);refine zd a (λd b a=>cp (ok85 b) ?_);refine R.r ?_;cases a;exact fz rfl rfl
theorem ok174 {y:(List GH)} {z:(GH->Option Bool)} {g:FuncId} {d c:List AV} {res:Int} {h:AH} (l:∀A v (L:List Blk) (M:List Nat),z A=some v->Spec Tryz.prog g (d++[.agg (GH.row A)]++c) (h.ext L M) (yn (.bool v) (h.ext L M))) (a:yJ y z=some res):Spec Tryz.prog 174 [.sl 5 (y.map GH.row),.fn (.func g) d c] h (yn (.int .i64 res) h):=by
 unfold yJ at a;refine zI Tryz.func174 rfl (by kernel_rfl) (yG 19 rfl) (λb G=>?_);simp only [zB,AV.low,ud,uX,tW] at b;have s:∀n m,h.blks.length<=n->h.toks.length<=m->zB n m d=true:=λn m x p=>yb x p _ (by simp [b]);have i:∀n m,h.blks.length<=n->h.toks.length<=m->zB n m c=true:=λn m x p=>yb x p _ (by simp [b]);refine R.r ?_;refine ln λf=>?_;replace f:=zW f;refine R.r ?_;refine zA (λ(B:Nat) (s1:Unit)=>zn 2 5 (zn 9 10 [(8,.int .i64 (B:Int))])) (λs1=>h.ext [] []) a (λ_ _=>by simp only [zn,xQ,ue,uf];try rfl) (wk.le LEL.o) ?_;intro B s1 C a;refine R.r ?_;refine zD gg a (λE D w u a e=>?_) (λa=>?_)
 ·refine R.r ?_;refine ix (zC u) (R.r ?_);refine zd a (λF j a=>xX rfl (scC rfl) (l _ _ _ _ j) ss ?_);refine R.r ?_;refine ze gg a (λk a=>?_) (λk a=>?_)
  ·refine R.r ?_;cases a;replace a:=e;refine R.r ?_;cases a;exact fz rfl rfl
  ·refine R.r ?_;cases a;exact ⟨(),w,e,wk.le (by exact (.eq (.eq (.d4 (.drop (.eq (.cons (leV.of_eq (yL (by omega) (by omega))) (.d4 (.d4 (.drop (.drop leL.nil)))))))))))⟩
 ·refine R.r ?_;cases a;exact fz rfl rfl
theorem okR174 {bl k:Nat} {b:(List GH)} {C:(GH->Option Bool)} {g:FuncId} {d c:List AV} {res:Int} {h:AH} (w:h.blks.length=bl) (p:h.toks.length=k) (s:∀D v (L:List Blk) (M:List Nat),C D=some v->Spec Tryz.prog g (d++[.agg (GH.row D)]++c) (h.ext L M) (yn (.bool v) (h.ext L M))) (x:∀n m,h.blks.length<=n->h.toks.length<=m->zB n m d=true) (l:∀n m,h.blks.length<=n->h.toks.length<=m->zB n m c=true) (a:yJ b C=some res):Spec Tryz.prog 174 [.rsl bl k 5 b.length,.fn (.func g) d c] (h.ext [.row k 5 (b.map GH.row)] [b.length]) (yn (.int .i64 res) (h.ext [.row k 5 (b.map GH.row)] [b.length])):=by
 unfold yJ at a;subst w p;refine zF Tryz.func174 rfl (by kernel_rfl) (yG 19 rfl) (R.r ?_);refine ln λf=>?_;replace f:=zW f;refine R.r ?_;refine zA (λ(B:Nat) (s1:Unit)=>zn 2 5 (zn 9 10 [(8,.int .i64 (B:Int))])) (λs1=>h.ext [.row (h.toks.length+0) 5 (b.map GH.row)] [b.length]) a (λ_ _=>by simp only [zn,xQ,ue,uf];try rfl) (wk.le LEL.o) ?_;intro B s1 F a;refine R.r ?_;refine zD gg a (λE G y j a e=>?_) (λa=>?_)
 ·refine R.r ?_;refine zc rfl (yE rfl el61 gg gg (xf (zC j) rfl)) ss ?_;refine zc rfl (wW (off:=0) (i:=0) (q:=h.toks.length+0) (z:=(B:Int).toNat) (row:=GH.row) (λ_=>rfl) rfl ty60.choose_spec.1 (by decide) gg rfl rfl (wv (zC j)).2.2 (yq (cs':=(GH.row E)) ty60.choose_spec.2 rfl rfl) (za rfl)) ss ?_;refine zd a (λH u a=>xX rfl (scC rfl) (s _ _ _ _ u) ss ?_);refine R.r ?_;refine ze gg a (λA a=>?_) (λA a=>?_)
  ·refine R.r ?_;cases a;replace a:=e;refine R.r ?_;cases a;refine fr rfl (fin_extR (L:=[]) (M:=[]) rfl rfl (leV.refl _) rfl ?_);exact ⟨rfl,rfl⟩
  ·refine R.r ?_;cases a;exact ⟨(),y,e,wk.le (by exact (.eq (.eq (.d4 (.drop (.eq (.cons (leV.of_eq (yL (by omega) (by omega))) (.d4 (.d4 (.drop (.drop leL.nil)))))))))))⟩
 ·refine R.r ?_;cases a;refine fr rfl (fin_extR (L:=[]) (M:=[]) rfl rfl (leV.refl _) rfl ?_);exact ⟨rfl,rfl⟩
theorem ok179 {p:(List GH)} {s:(GH->Option Bool)} {d:FuncId} {c b:List AV} {res:Bool} {h:AH} (i:∀f v (L:List Blk) (M:List Nat),s f=some v->Spec Tryz.prog d (c++[.agg (GH.row f)]++b) (h.ext L M) (yn (.bool v) (h.ext L M))) (e:xy p s=some res):Spec Tryz.prog 179 [.sl 5 (p.map GH.row),.fn (.func d) c b] h (yn (.bool res) h):=by
 unfold xy at e;refine zI Tryz.func179 rfl (by kernel_rfl) (yG 9 rfl) (λa w=>?_);simp only [zB,AV.low,ud,uX,tW] at a;have l:∀n m,h.blks.length<=n->h.toks.length<=m->zB n m c=true:=λn m o k=>yb o k _ (by simp [a]);have g:∀n m,h.blks.length<=n->h.toks.length<=m->zB n m b=true:=λn m o k=>yb o k _ (by simp [a]);refine R.r ?_;refine zd e (λx j e=>cp (ok174 (λf v L M u=>by rw [zQ];exact i f v _ _ u) j) ?_);refine R.r ?_;cases e;exact fz rfl rfl
theorem ok180 {c:GH} {a:GF} {i0:Nat} {res:Bool} {h:AH} (b:h.blk i0=some (.cells (GF.row a))) (d:leafXhasC1 c a=some res):Spec Tryz.prog 180 [.agg (GH.row c),.ptr i0 0] h (yn (.bool res) h):=by
 unfold leafXhasC1 at d;refine zb Tryz.func180 rfl (by kernel_rfl) (yG 8 rfl) (R.r ?_);refine zc rfl (b_load rfl ty30.choose_spec.1 gg b (yq (cs':=(GF.row a)) ty30.choose_spec.2 rfl rfl) (za rfl)) ss ?_;refine zc rfl (vD rfl gg gg (bin_eq pk30 rfl)) ss (R.r ?_);cases d;exact fz rfl rfl
theorem ok159 {d:(List GH)} {c:GF} {res:Bool} {h:AH}  (a:leafXhas d c=some res):Spec Tryz.prog 159 [.sl 5 (d.map GH.row),.agg (GF.row c)] h (yn (.bool res) h):=by
 unfold leafXhas at a;refine zb Tryz.func159 rfl (by kernel_rfl) (yG 8 rfl) (R.r ?_);refine zc rfl (wI rfl rfl rfl) ss ?_;refine zd a (λf b a=>cp (ok179 (λ_ v L M e=>ok180 (blk_ext2 (j:=0) rfl) e) b) ?_);refine R.r ?_;cases a;exact fz rfl rfl
theorem ok128 {j:GC} {res:Bool} {h:AH}  (a:leafXtombs j=some res):Spec Tryz.prog 128 [.agg (GC.row j)] h (yn (.bool res) h):=by
 unfold leafXtombs at a;refine zb Tryz.func128 rfl (by kernel_rfl) (yG 38 rfl) (R.r ?_);refine ln λc=>?_;replace c:=zW c;refine R.r ?_;refine zA (λ(n:Nat) (s1:Unit)=>zn 2 4 (zn 9 29 [(0,.any),(8,.int .i64 (n:Int))])) (λs1=>h.ext [.cells (GC.row j)] []) a (λ_ _=>by simp only [zn,xQ,ue,uf];try rfl) (wk.le LEL.o) ?_;intro n s1 p a;refine R.r ?_;refine zD gg a (λy x m l a b=>?_) (λa=>?_)
 ·refine R.r ?_;refine ix (zC l) (R.r ?_);refine zx [1] [] trivial mixed (by kernel_rfl) (R.r ?_);refine zd a (λw g a=>zS rfl rfl (λ_=>sc rfl) (by rintro _ ⟨B2,T2,rfl,u⟩;exact ok61 g) ss ?_);refine R.r ?_;refine zV a (λf a=>dgix f ?_);refine R.r ?_;refine zX a (λs i a=>yV rfl (aG_gv rfl rfl rfl) sc (λk=>ok145 (i k)) ss ?_);refine R.r ?_;refine zX a (λv22 e a=>yV rfl rfl sc (λk=>ok159 (e k)) ss ?_);refine R.r ?_;refine ze gg a (λd a=>?_) (λd a=>?_)
  ·refine R.r ?_;cases a;replace a:=b;refine R.r ?_;cases a;exact fz rfl rfl
  ·refine R.r ?_;cases a;exact ⟨(),m,b,wk.trans (wk.le (by exact (.drop (.eq (.d4 (.eq (.eq (.cons (leV.of_eq (yL (by omega) (by omega))) (.d16 (.d4 (.d4 (.d4 (.drop leL.nil))))))))))))) (yl (by simp [zB,AV.low]) rfl rfl (by simp [Blk.low,zB,AV.low]))⟩
 ·refine R.r ?_;cases a;exact fz rfl rfl
theorem ok160 {d:(List GH)} {i:(List GH)} {res:Bool} {h:AH}  (a:vk d i=some res):Spec Tryz.prog 160 [.sl 5 (d.map GH.row),.sl 5 (i.map GH.row)] h (yn (.bool res) h):=by
 unfold vk at a;refine zb Tryz.func160 rfl (by kernel_rfl) (yG 26 rfl) (R.r ?_);refine ln λc=>?_;replace c:=zW c;refine R.r ?_;refine ln λj=>?_;replace j:=zW j;refine R.r ?_;refine ze gg a (λk a=>?_) (λk a=>?_)
 ·refine R.r ?_;cases a;exact fz rfl rfl
 ·refine R.r ?_;refine ln λe=>?_;replace e:=zW e;refine R.r ?_;refine zA (λ(n:Nat) (s1:Unit)=>zn 2 10 (zn 14 12 [(13,.int .i64 (n:Int))])) (λs1=>h.ext [] []) a (λ_ _=>by simp only [zn,xQ,ue,uf];try rfl) (wk.le LEL.o) ?_;intro n s1 s a;refine R.r ?_;refine zD gg a (λw u m l a b=>?_) (λa=>?_)
  ·refine R.r ?_;refine zx [] [] trivial mixed (by kernel_rfl) (R.r ?_);refine dix (zC l) (R.r ?_);refine zd a (λp f a=>dix f ?_);refine R.r ?_;refine zt rfl rfl (vD rfl gg gg (bin_ne pk60 rfl)) ss (R.r ?_);refine ze gg a (λg a=>?_) (λg a=>?_)
   ·refine R.r ?_;cases a;replace a:=b;refine R.r ?_;cases a;exact fz rfl rfl
   ·refine R.r ?_;cases a;exact ⟨(),m,b,wk.le (by exact (.eq (.eq (.d4 (.d4 (.drop (.drop (.eq (.cons (leV.of_eq (yL (by omega) (by omega))) (.d4 (.d4 (.d4 leL.nil))))))))))))⟩
  ·refine R.r ?_;cases a;exact fz rfl rfl
theorem ok161 {d:(List GF)} {i:(List GF)} {res:Bool} {h:AH}  (a:vC d i=some res):Spec Tryz.prog 161 [.sl 3 (d.map GF.row),.sl 3 (i.map GF.row)] h (yn (.bool res) h):=by
 unfold vC at a;refine zb Tryz.func161 rfl (by kernel_rfl) (yG 26 rfl) (R.r ?_);refine ln λc=>?_;replace c:=zW c;refine R.r ?_;refine ln λj=>?_;replace j:=zW j;refine R.r ?_;refine ze gg a (λk a=>?_) (λk a=>?_)
 ·refine R.r ?_;cases a;exact fz rfl rfl
 ·refine R.r ?_;refine ln λe=>?_;replace e:=zW e;refine R.r ?_;refine zA (λ(n:Nat) (s1:Unit)=>zn 2 10 (zn 14 12 [(13,.int .i64 (n:Int))])) (λs1=>h.ext [] []) a (λ_ _=>by simp only [zn,xQ,ue,uf];try rfl) (wk.le LEL.o) ?_;intro n s1 s a;refine R.r ?_;refine zD gg a (λw u m l a b=>?_) (λa=>?_)
  ·refine R.r ?_;refine zx [] [] trivial mixed (by kernel_rfl) (R.r ?_);refine dix (zC l) (R.r ?_);refine zd a (λp f a=>dix f ?_);refine R.r ?_;refine zt rfl rfl (vD rfl gg gg (bin_ne pk30 rfl)) ss (R.r ?_);refine ze gg a (λg a=>?_) (λg a=>?_)
   ·refine R.r ?_;cases a;replace a:=b;refine R.r ?_;cases a;exact fz rfl rfl
   ·refine R.r ?_;cases a;exact ⟨(),m,b,wk.le (by exact (.eq (.eq (.d4 (.d4 (.drop (.drop (.eq (.cons (leV.of_eq (yL (by omega) (by omega))) (.d4 (.d4 (.d4 leL.nil))))))))))))⟩
  ·refine R.r ?_;cases a;exact fz rfl rfl
theorem ok129 {a0:GC} {e:GC} {res:Bool} {h:AH}  (a:leafSame a0 e=some res):Spec Tryz.prog 129 [.agg (GC.row a0),.agg (GC.row e)] h (yn (.bool res) h):=by
 unfold leafSame at a;refine zb Tryz.func129 rfl (by kernel_rfl) (yG 52 rfl) (R.r ?_);refine qw rfl (λb=>vD rfl (yi gg b) (yi gg b) (bin_eq pk30 rfl)) ss (R.r ?_);refine zX a (λf d a=>zK rfl sc (λb=>ok160 (d b)) ss ?_);refine R.r ?_;refine zX a (λg c a=>zK rfl sc (λb=>ok161 (c b)) ss ?_);refine R.r ?_;cases a;exact fz rfl rfl
theorem ok125 {a:Int} {res:Bool} {h:AH}  (b:leafXisTime a=some res):Spec Tryz.prog 125 [.int .u64 a] h (yn (.bool res) h):=by
 unfold leafXisTime at b;refine zb Tryz.func125 rfl (by kernel_rfl) (yG 9 rfl) (R.r ?_);cases b;exact fz rfl rfl
theorem ok126 {c:zy} {res:Bool} {h:AH}  (b:qL c=some res):Spec Tryz.prog 126 [.str c] h (yn (.bool res) h):=by
 unfold qL at b;refine zb Tryz.func126 rfl (by kernel_rfl) (yG 6 rfl) (R.r ?_);refine ln λa=>?_;replace a:=zW a;refine R.r ?_;cases b;exact fz rfl rfl
theorem ok164 {a0:Int} {f:GF} {i:Int} {g:GF} {res:Int} {h:AH}  (a:vY a0 f i g=some res):Spec Tryz.prog 164 [.int .u64 a0,.agg (GF.row f),.int .u64 i,.agg (GF.row g)] h (yn (.int .i64 res) h):=by
 unfold vY at a;refine zb Tryz.func164 rfl (by kernel_rfl) (yG 17 rfl) (R.r ?_);refine zx [2,5,7] [] trivial mixed (by kernel_rfl) (R.r ?_);refine zd a (λj e a=>zS rfl rfl (λ_=>sc rfl) (by rintro _ ⟨B2,T2,rfl,b⟩;exact ok173 e) ss ?_);refine R.r ?_;refine zd a (λk d a=>zS rfl rfl (λ_=>sc rfl) (by rintro _ ⟨B2,T2,rfl,b⟩;exact ok145 d) ss ?_);refine zt rfl rfl (zr (es:=([j,k]:List Int).map (intRow .i64)) rfl el215 ze3 rfl rfl (zg gg (zg gg zk)) (.cons (za rfl) (.cons (za rfl) .nil)) rfl rfl rfl) ss ?_;refine zd a (λv3 c a=>zS rfl rfl (λ_=>sc rfl) (by rintro _ ⟨B2,T2,rfl,b⟩;exact (ok171 c).le (.cons (leV.osl _ _ _) leL.nil)) ss ?_);refine R.r ?_;cases a;exact fz rfl rfl
theorem ok141 {b:Int} {e:GF} {a:Int} {f:GF} {res:Bool} {h:AH}  (c:leafAhead b e a f=some res):Spec Tryz.prog 141 [.int .u64 b,.agg (GF.row e),.int .u64 a,.agg (GF.row f)] h (yn (.bool res) h):=by
 unfold leafAhead at c;refine zb Tryz.func141 rfl (by kernel_rfl) (yG 15 rfl) (R.r ?_);refine zd c (λg d c=>cp (ok164 d) ?_);refine R.r ?_;cases c;exact fz rfl rfl
theorem ok158 {l:(List GH)} {res:Bool} {h:AH}  (a:leafXtwice l=some res):Spec Tryz.prog 158 [.sl 5 (l.map GH.row)] h (yn (.bool res) h):=by
 unfold leafXtwice at a;refine zb Tryz.func158 rfl (by kernel_rfl) (yG 26 rfl) (R.r ?_);refine zc rfl (e_makeMap (n:=0) rfl rfl) ss (R.r ?_);refine ln λe=>?_;replace e:=zW e;refine R.r ?_;refine zA (λ(p:Nat) (s1:List (GF×Int))=>zn 1 2 (zn 4 3 (zn 10 16 [(9,.int .i64 (p:Int))]))) (λs1=>h.ext [.mapo (s1.map (mrow (λx=>AV.agg (GF.row x)) (AV.int .i64))) 0] []) a (λ_ _=>by simp only [zn,xQ,ue,uf];try rfl) (wk.le LEL.o) ?_;intro p s1 s a;refine R.r ?_;refine zD gg a (λb u i g a f=>?_) (λa=>?_)
 ·refine R.r ?_;refine ix (zC g) (R.r ?_);refine r_drawnF [3] (λ_=>MapE h 0 (s1.map (mrow (λx=>AV.agg (GF.row x)) (AV.int .i64))) ((ment GF.eqb (0:Int) s1 b.dot).map (mrow (λx=>AV.agg (GF.row x)) (AV.int .i64)))) (λ_=>⟨_,_,rfl,.inl rfl⟩) mixed (by kernel_rfl) (R.r ?_);refine xc rfl rfl (e_lookupF (m:=s1) (k:=b.dot) (d:=(0:Int)) (j:=0) (kv:=(λx=>AV.agg (GF.row x))) (vv:=(AV.int .i64)) rfl Tryz.underlying203 kq30 az3 gg gg) ss (R.r ?_);refine zG rfl (FOk.all ⟨_,_,rfl,.inr rfl⟩) (by kernel_rfl) rfl (e_entry (m:=s1) (k:=b.dot) (d:=(0:Int)) (j:=0) (kv:=(λx=>AV.agg (GF.row x))) (vv:=(AV.int .i64)) rfl Tryz.underlying203 kq30 az3 gg rfl gg rfl) ss (R.r ?_);refine zG rfl (FOk.skip (by kernel_rfl)) (by kernel_rfl) rfl (e_entryStore (m:=s1) (k:=b.dot) (d:=(0:Int)) (v:=(IntKind.wrap .i64 ((wO GF.eqb (0:Int) s1 b.dot)+(1:Int)))) (j:=0) (eq:=GF.eqb) (kv:=(λx=>AV.agg (GF.row x))) (vv:=(AV.int .i64)) rfl gg rfl gg rfl gg rfl rfl) rfl (R.r ?_);cases a;exact ⟨(mput GF.eqb s1 b.dot (IntKind.wrap .i64 ((wO GF.eqb (0:Int) s1 b.dot)+(1:Int)))),i,f,wk.trans (wk.le (by exact (.eq (.drop (.drop (.eq (.drop (.drop (.drop (.eq (.eq (.cons (leV.of_eq (yL (by omega) (by omega))) (.d16 leL.nil))))))))))))) (yl (by simp [zB,AV.low]) rfl rfl (by simp [Blk.low,zB,AV.low,GF.row,mrow]))⟩
 ·refine R.r ?_;refine ops_mlen (m:=s1) (j:=0) (kv:=(λx=>AV.agg (GF.row x))) (vv:=(AV.int .i64)) rfl rfl rfl rfl rfl Tryz.underlying203 gg rfl ss (R.r ?_);refine ln λc=>?_;replace c:=zW c;refine R.r ?_;cases a;exact fz rfl rfl
theorem ok127 {w:(List GH)} {b:Bool} {res:Bool} {h:AH}  (a:leafXitems w b=some res):Spec Tryz.prog 127 [.sl 5 (w.map GH.row),.bool b] h (yn (.bool res) h):=by
 unfold leafXitems at a;refine zb Tryz.func127 rfl (by kernel_rfl) (yG 66 rfl) (R.r ?_);refine ln λf=>?_;replace f:=zW f;refine R.r ?_;refine zA (λ(x:Nat) (s1:Unit)=>zn 2 5 (zn 10 56 [(9,.int .i64 (x:Int))])) (λs1=>h.ext [] []) a (λ_ _=>by simp only [zn,xQ,ue,uf];try rfl) (wk.le LEL.o) ?_;intro x s1 A a;refine R.r ?_;refine zD gg a (λF E u s a d=>?_) (λa=>?_)
 ·refine R.r ?_;refine ix (zC s) (R.r ?_);refine zd a (λy i a=>cp (ok61 i) ?_);refine R.r ?_;refine zX a (λz g a=>zK rfl sc (λc=>ok126 (g c)) ss ?_);refine R.r ?_;refine zX a (λC e a=>zK rfl sc (λc=>ok125 (e c)) ss ?_);refine qw rfl (λc=>vD rfl (yi gg c) (yi gg c) (bin_boolN ty4)) ss (R.r ?_);refine ze gg a (λj a=>?_) (λj a=>?_)
  ·refine R.r ?_;cases a;replace a:=d;refine R.r ?_;cases a;exact fz rfl rfl
  ·refine R.r ?_;refine zx [] [] trivial mixed (by kernel_rfl) (R.r ?_);refine zV a (λk a=>dgix k ?_);refine R.r ?_;refine zV a (λp a=>dgix p ?_);refine R.r ?_;refine zX a (λD m a=>yV rfl rfl sc (λc=>ok141 (m c)) ss ?_);refine R.r ?_;refine ze gg a (λl a=>?_) (λl a=>?_)
   ·refine R.r ?_;cases a;replace a:=d;refine R.r ?_;cases a;exact fz rfl rfl
   ·refine R.r ?_;cases a;exact ⟨(),u,d,wk.trans (wk.le (by exact (.eq (.eq (.d4 (.drop (.eq (.eq (.cons (leV.of_eq (yL (by omega) (by omega))) (.d16 (.d16 (.d16 (.d4 (.d4 leL.nil)))))))))))))) (yl (by simp [zB,AV.low]) rfl rfl (by simp [Blk.low,zB,AV.low]))⟩
 ·refine R.r ?_;refine zd a (λB n a=>cp (ok158 n) ?_);refine R.r ?_;cases a;exact fz rfl rfl
theorem ok78 {b:GC} {res:Bool} {h:AH}  (a:leafMay b=some res):Spec Tryz.prog 78 [.agg (GC.row b)] h (yn (.bool res) h):=by
 unfold leafMay at a;refine zb Tryz.func78 rfl (by kernel_rfl) (yG 89 rfl) (R.r ?_);refine zc rfl (ya (cs':=[.int .u8 b.typ,.int .i64 (0:Int),.int .u64 (0:Int),.int .u8 (0:Int),.int .u32 (0:Int),.int .u64 (0:Int),.str ([]:zy),.osl none 5 (([]:List GH).map GH.row),.osl none 3 (([]:List GF).map GF.row)]) rfl su63 ze63 pl63 (zg gg zk) (.cons (za rfl) .nil) rfl rfl) ss (R.r ?_);refine ze gg a (λs a=>?_) (λs a=>?_)
 ·refine R.r ?_;refine zd a (λH n a=>cp ((ok129 n).le (.eq (.cons (leV.agg (.eq (.eq (.eq (.eq (.eq (.eq (.eq (.cons (leV.osl _ _ _) (.cons (leV.osl _ _ _) leL.nil))))))))) rfl) leL.nil))) ?_);refine R.r ?_;cases a;exact fz rfl rfl
 ·refine R.r ?_;refine ze gg a (λo a=>?_) (λo a=>?_)
  ·refine R.r ?_;refine zx [3,5] [(3,[(0,.cells (GC.row b))]),(5,[(0,.cells (GC.row b))])] ⟨⟨rfl,trivial⟩,⟨rfl,trivial⟩,trivial⟩ mixed (by kernel_rfl) (R.r ?_);refine xc rfl rfl (by rintro _ ⟨B2,T2,rfl,d⟩;exact xS rfl ty30.choose_spec.1 gg (ve d) (yq (cs':=(GF.row b.dot)) ty30.choose_spec.2 rfl rfl) (za rfl)) ss (R.r ?_);refine xc rfl rfl (by rintro _ ⟨B2,T2,rfl,d⟩;exact xS rfl ty9 gg (ve d) (yv rfl) (za rfl)) ss (R.r ?_);refine zG rfl (FOk.cons (.inr (yk ⟨rfl,trivial⟩)) (FOk.cons (.inr (yk ⟨rfl,trivial⟩)) FOk.nil)) (by kernel_rfl) rfl (yg (cs':=[.int .u8 b.typ,.int .i64 (0:Int),.int .u64 b.time,.int .u8 (0:Int),.int .u32 (0:Int),.int .u64 (0:Int),.str ([]:zy),.osl none 5 (([]:List GH).map GH.row),.osl none 3 (([]:List GF).map GF.row)]) rfl ty28 gg gg (za rfl) rfl rfl rfl rfl rfl) rfl (R.r ?_);refine zG rfl (FOk.cons (.inr (yk ⟨rfl,trivial⟩)) (FOk.cons (.inr (yk ⟨rfl,trivial⟩)) FOk.nil)) (by kernel_rfl) rfl (yg (cs':=[.int .u8 b.typ,.int .i64 (0:Int),.int .u64 b.time,.int .u8 b.dot.actor.rep,.int .u32 b.dot.actor.inc,.int .u64 b.dot.seq,.str ([]:zy),.osl none 5 (([]:List GH).map GH.row),.osl none 3 (([]:List GF).map GF.row)]) rfl ty30.choose_spec.1 gg gg (za rfl) rfl rfl rfl rfl rfl) rfl (R.r ?_);refine zG rfl (FOk.cons (.inr (yk ⟨rfl,trivial⟩)) (FOk.cons (.inr (yk ⟨rfl,trivial⟩)) FOk.nil)) (by kernel_rfl) rfl (yg (cs':=[.int .u8 b.typ,.int .i64 (0:Int),.int .u64 b.time,.int .u8 b.dot.actor.rep,.int .u32 b.dot.actor.inc,.int .u64 b.dot.seq,.str b.text,.osl none 5 (([]:List GH).map GH.row),.osl none 3 (([]:List GF).map GF.row)]) rfl ty9 gg gg (za rfl) rfl rfl rfl rfl rfl) rfl (R.r ?_);refine zX a (λv4 x a=>zK rfl sc (λc=>ok125 (x c)) ss ?_);refine R.r ?_;refine zX a (λv5 u a=>zK (aG_gv rfl rfl rfl) sc (λc=>ok61 (u c)) ss ?_);refine R.r ?_;refine zX a (λG z a=>zK (aG_gv rfl rfl rfl) sc (λc=>ok126 (z c)) ss ?_);refine R.r ?_;refine qw (aG_gv rfl rfl rfl) (λc=>ya (cs':=lit6x) rfl su30 ze30 pl30 zk .nil rfl rfl) ss ?_;refine qw (aG_gv rfl rfl rfl) (λc=>vD rfl (yi gg c) (yi gg c) (bin_ne pk30 rfl)) ss (R.r ?_);refine ze gg a (λw a=>?_) (λw a=>?_)
   ·refine R.r ?_;cases a;exact fz rfl rfl
   ·refine R.r ?_;refine zd a (λF p a=>cp ((ok129 p).le (.eq (.cons (leV.agg (.eq (.eq (.eq (.eq (.eq (.eq (.eq (.cons (leV.osl _ _ _) (.cons (leV.osl _ _ _) leL.nil))))))))) rfl) leL.nil))) ?_);refine R.r ?_;cases a;exact fz rfl rfl
  ·refine R.r ?_;refine ze gg a (λy a=>?_) (λy a=>?_)
   ·refine R.r ?_;refine zx [3] [(3,[(0,.cells (GC.row b))])] ⟨⟨rfl,trivial⟩,trivial⟩ mixed (by kernel_rfl) (R.r ?_);refine xc rfl rfl (by rintro _ ⟨B2,T2,rfl,d⟩;exact xS rfl ty32 gg (ve d) (yv rfl) (za rfl)) ss (R.r ?_);refine zG rfl (FOk.cons (.inr (yk ⟨rfl,trivial⟩)) FOk.nil) (by kernel_rfl) rfl (yg (cs':=[.int .u8 b.typ,.int .i64 (0:Int),.int .u64 (0:Int),.int .u8 (0:Int),.int .u32 (0:Int),.int .u64 (0:Int),.str ([]:zy),.sl 5 (b.items.map GH.row),.osl none 3 (([]:List GF).map GF.row)]) rfl ty61 gg gg (za rfl) rfl rfl rfl rfl rfl) rfl (R.r ?_);refine zG rfl (FOk.cons (.inr (yk ⟨rfl,trivial⟩)) FOk.nil) (by kernel_rfl) rfl (yg (cs':=[.int .u8 b.typ,.int .i64 (0:Int),.int .u64 (0:Int),.int .u8 (0:Int),.int .u32 (0:Int),.int .u64 (0:Int),.str ([]:zy),.sl 5 (b.items.map GH.row),.sl 3 (b.tombs.map GF.row)]) rfl ty32 gg gg (za rfl) rfl rfl rfl rfl rfl) rfl (R.r ?_);refine zd a (λC k a=>cp (ok127 k) ?_);refine R.r ?_;refine zX a (λD m a=>zK rfl sc (λc=>ok128 (m c)) ss ?_);refine R.r ?_;refine ze gg a (λl a=>?_) (λl a=>?_)
    ·refine R.r ?_;cases a;exact fz rfl rfl
    ·refine R.r ?_;refine zd a (λA g a=>cp (ok129 g) ?_);refine R.r ?_;cases a;exact fz rfl rfl
   ·refine R.r ?_;refine ze gg a (λf a=>?_) (λf a=>?_)
    ·refine R.r ?_;refine zd a (λE e a=>cp (ok127 e) ?_);refine R.r ?_;refine ze gg a (λj a=>?_) (λj a=>?_)
     ·refine R.r ?_;cases a;exact fz rfl rfl
     ·refine R.r ?_;refine zd a (λB i a=>cp ((ok129 i).le (.eq (.cons (leV.agg (.eq (.eq (.eq (.eq (.eq (.eq (.eq (.eq (.cons (leV.osl _ _ _) leL.nil))))))))) rfl) leL.nil))) ?_);refine R.r ?_;cases a;exact fz rfl rfl
    ·refine R.r ?_;cases a;exact fz rfl rfl
theorem ok49N (n:Nat):∀{t0:(List GA)} {b:Int} {res:Bool} {h:AH} , qC n t0 b=some res->Spec Tryz.prog 49 [.sl 3 (t0.map GA.row),.int .i64 b] h (yn (.bool res) h):=by
 induction n with
 | zero=>intro t0 b res h  a;simp [qC] at a
 | succ n ih =>
  intro t0 b res h  a;unfold qC at a;refine zb Tryz.func49 rfl (by kernel_rfl) (yG 89 rfl) (R.r ?_);refine ln λi=>?_;replace i:=zW i;refine R.r ?_;refine ze gg a (λx a=>?_) (λx a=>?_)
  ·refine R.r ?_;cases a;exact fz rfl rfl
  ·refine R.r ?_;refine ln λk=>?_;replace k:=zW k;refine R.r ?_;refine zA (λ(D:Nat) (s1:Unit)=>zn 2 14 (zn 19 70 [(18,.int .i64 (D:Int))])) (λs1=>h.ext [] []) a (λ_ _=>by simp only [zn,xQ,ue,uf];try rfl) (wk.le LEL.o) ?_;intro D s1 H a;refine R.r ?_;refine zD gg a (λw J B A a e=>?_) (λa=>?_)
   ·refine R.r ?_;refine zc rfl (yj rfl el24 gg gg isl (zC A) (GA.row_eq _)) ss (R.r ?_);refine zx [2] [] trivial mixed (by kernel_rfl) (R.r ?_);refine zd a (λE p a=>zS rfl rfl (λ_=>sc rfl) (by rintro _ ⟨B2,T2,rfl,C⟩;exact ok29 p) ss ?_);refine R.r ?_;refine zV a (λj a=>wd rfl (aG_gv rfl rfl rfl) (λc=>s_gidxRowE default rfl el24 (yi gg c) (yi gg c) isl (j c) (GA.row_eq _)) ss ?_);refine R.r ?_;refine draw_glen rfl rfl (λc=>wC rfl rfl rfl rfl el64 (yi gg c) vK) ss (R.r ?_);refine draw_glen rfl rfl (λc=>wC rfl rfl rfl rfl el24 (yi gg c) vK) ss (R.r ?_);refine zX a (λI s a=>yV rfl rfl sc (λc=>ih (s c)) ss ?_);refine R.r ?_;refine ze gg a (λm a=>?_) (λm a=>?_)
    ·refine R.r ?_;cases a;replace a:=e;refine R.r ?_;cases a;exact fz rfl rfl
    ·refine R.r ?_;refine ln λd=>?_;replace d:=zW d;refine R.r ?_;refine zA (λ(n2:Nat) (s2:Unit)=>zn 2 4 (zn 7 9 (zn 19 42 (zn 64 25 [(63,.int .i64 (n2:Int))])))) (λs2=>h.ext [.cells [.str w.name,.sl 9 (w.leaves.map GC.row),.sl 3 (w.subs.map GA.row)]] []) a (λ_ _=>by simp only [zn,xQ,ue,uf];try rfl) (wk.le LEL.o) ?_;intro n2 s2 G a;refine R.r ?_;refine zD gg a (λL K z y a u=>?_) (λa=>?_)
     ·refine R.r ?_;refine ix (zC y) (R.r ?_);refine zx [1] [] trivial mixed (by kernel_rfl) (R.r ?_);refine zd a (λF g a=>zS rfl rfl (λ_=>sc rfl) (by rintro _ ⟨B2,T2,rfl,C⟩;exact ok78 g) ss ?_);refine R.r ?_;refine zV a (λl a=>dgix l ?_);refine R.r ?_;refine ze gg a (λf a=>?_) (λf a=>?_)
      ·refine R.r ?_;cases a;replace a:=u;refine R.r ?_;cases a;replace a:=e;refine R.r ?_;cases a;exact fz rfl rfl
      ·refine R.r ?_;cases a;exact ⟨(),z,u,wk.trans (wk.le (by exact (.eq (.eq (.d4 (.eq (.d4 (.d4 (.drop (.eq (.eq (.eq (.d16 (.d16 (.d4 (.d4 (.drop (.drop (.eq (.eq (.cons (leV.of_eq (yL (by omega) (by omega))) (.d16 (.d4 (.d4 (.drop leL.nil))))))))))))))))))))))))) (yl (by simp [zB,AV.low]) rfl rfl (by simp [Blk.low,zB,AV.low]))⟩
     ·refine R.r ?_;cases a;exact ⟨(),B,e,wk.trans (wk.le (by exact (.eq (.eq (.d4 (.d4 (.d4 (.drop (.drop (.eq (.eq (.cons (leV.of_eq (yL (by omega) (by omega))) (.d16 (.d16 (.d16 (.d16 (.d4 (.drop (.drop leL.nil))))))))))))))))))) (yl (by simp [zB,AV.low]) rfl rfl (by simp [Blk.low,zB,AV.low]))⟩
   ·refine R.r ?_;cases a;exact fz rfl rfl
theorem ok49 {t0:(List GA)} {a:Int} {res:Bool} {h:AH}  (c:treeXmay t0 a=some res):Spec Tryz.prog 49 [.sl 3 (t0.map GA.row),.int .i64 a] h (yn (.bool res) h):=by
 obtain ⟨n,b⟩:=anyN_is c;exact ok49N n b
theorem ok22 {t0:(List GA)} {res:Bool} {h:AH}  (a:treeMay t0=some res):Spec Tryz.prog 22 [.sl 3 (t0.map GA.row)] h (yn (.bool res) h):=by
 unfold treeMay at a;refine zb Tryz.func22 rfl (by kernel_rfl) (yG 5 rfl) (R.r ?_);refine zd a (λc b a=>cp (ok49 b) ?_);refine R.r ?_;cases a;exact fz rfl rfl
theorem ok79 {k:Nat} {b0:(List UInt8)} {g:Int} {res:(List UInt8)} {h:AH} (l:h.toks.length=k) (a:xg b0 g=some res):Spec Tryz.prog 79 [.osl (some k) 1 (b0.map zR),.int .u64 g] (h.ext [] [b0.length]) (yn (.osl (some k) 1 (res.map zR)) (h.ext [] [res.length])):=by
 unfold xg at a;subst l;refine zF Tryz.func79 rfl (by kernel_rfl) (yG 20 rfl) (R.r ?_);refine yD (λ(s1:(List UInt8)×Int)=>zn 2 18 [(0,.osl (some (h.toks.length+0)) 1 (s1.1.map zR)),(1,.int .u64 s1.2)]) (λs1=>h.ext [] [(s1.1).length]) a (λ_=>by simp only [zn,xQ,ue,uf];try rfl) (wk.le LEL.o) ?_;intro g s1 m a b;refine R.r ?_;refine ze gg a (λf a=>?_) (λf a=>?_)
 ·refine R.r ?_;refine zc rfl (zM rfl ty28 ty5 gg rfl) ss (R.r ?_);refine zV a (λi a=>zc rfl (zr (es:=([(UInt8.ofNat (IntKind.wrap .u8 (((BitVec.ofInt (IntKind.bits .u8) (IntKind.wrap .u8 (s1.2)) ||| BitVec.ofInt (IntKind.bits .u8) (128:Int)).toNat:Int))).toNat)]:List UInt8).map zR) rfl el69 ze5 rfl rfl (zg gg zk) (.cons (za rfl) .nil) rfl rfl (by simp only [uC,tE,zR,byte_of i];rfl)) ss ?_);refine zV a (λe a=>zc rfl (yS (j:=0) (T':=[((s1.1++([(UInt8.ofNat (IntKind.wrap .u8 (((BitVec.ofInt (IntKind.bits .u8) (IntKind.wrap .u8 (s1.2)) ||| BitVec.ofInt (IntKind.bits .u8) (128:Int)).toNat:Int))).toNat)]:List UInt8))).length]) rfl rfl rfl rfl el69 el69 gg gg (za rfl) (za rfl) yz e rfl rfl) ss ?_);refine R.r ?_;cases a;exact ⟨((s1.1++([(UInt8.ofNat (IntKind.wrap .u8 (((BitVec.ofInt (IntKind.bits .u8) (IntKind.wrap .u8 (s1.2)) ||| BitVec.ofInt (IntKind.bits .u8) (128:Int)).toNat:Int))).toNat)]:List UInt8)),(Int.fdiv s1.2 (2 ^ (min (7:Int).toNat (IntKind.bits .u64))))),b,wk.le LEL.o⟩
 ·refine R.r ?_;cases a;replace a:=b;refine R.r ?_;refine zc rfl (zM rfl ty28 ty5 gg rfl) ss ?_;refine zV a (λd a=>zc rfl (zr (es:=([(UInt8.ofNat (IntKind.wrap .u8 (s1.2)).toNat)]:List UInt8).map zR) rfl el69 ze5 rfl rfl (zg gg zk) (.cons (za rfl) .nil) rfl rfl (by simp only [uC,tE,zR,byte_of d];rfl)) ss ?_);refine zV a (λc a=>zc rfl (yS (j:=0) (T':=[((s1.1++([(UInt8.ofNat (IntKind.wrap .u8 (s1.2)).toNat)]:List UInt8))).length]) rfl rfl rfl rfl el69 el69 gg gg (za rfl) (za rfl) yz c rfl rfl) ss ?_);refine R.r ?_;cases a;refine fr rfl (fin_tok ?_);exact ⟨rfl,rfl⟩
theorem ok80 {e:Nat} {b0:(List UInt8)} {s1:zy} {res:(List UInt8)} {h:AH} (f:h.toks.length=e) (a:wX b0 s1=some res):Spec Tryz.prog 80 [.osl (some e) 1 (b0.map zR),.str s1] (h.ext [] [b0.length]) (yn (.osl (some e) 1 (res.map zR)) (h.ext [] [res.length])):=by
 unfold wX at a;subst f;refine zF Tryz.func80 rfl (by kernel_rfl) (yG 12 rfl) (R.r ?_);refine ln λb=>?_;replace b:=zW b;refine zc rfl (zM rfl ty3 ty28 gg rfl) ss ?_;refine zd a (λg d a=>zP rfl (sc rfl) (xh (T1:=[]) (T':=[(g).length]) (ok79 (by rw [x8];rfl) d) rfl rfl) ss ?_);refine R.r ?_;refine zV a (λc a=>zc rfl (e_appST (j:=0) (T':=[((g++s1)).length]) rfl rfl rfl rfl el69 ty9 gg gg (za rfl) (za rfl) news_str c rfl rfl) ss ?_);refine R.r ?_;cases a;refine fr rfl (fin_tok ?_);exact ⟨rfl,rfl⟩
theorem ok130 {c:Nat} {b0:(List UInt8)} {e:Int} {res:(List UInt8)} {h:AH} (d:h.toks.length=c) (a:codeInt b0 e=some res):Spec Tryz.prog 130 [.osl (some c) 1 (b0.map zR),.int .i64 e] (h.ext [] [b0.length]) (yn (.osl (some c) 1 (res.map zR)) (h.ext [] [res.length])):=by
 unfold codeInt at a;subst d;refine zF Tryz.func130 rfl (by kernel_rfl) (yG 14 rfl) (R.r ?_);refine zc rfl (zM rfl ty2 ty28 gg rfl) ss (R.r ?_);refine zc rfl (zM rfl ty2 ty28 gg rfl) ss (R.r ?_);refine zd a (λf b a=>zP rfl (sc rfl) (xh (T1:=[]) (T':=[(f).length]) (ok79 (by rw [x8];rfl) b) rfl rfl) ss ?_);refine R.r ?_;cases a;refine fr rfl (fin_tok ?_);exact ⟨rfl,rfl⟩
end Go.Vv
