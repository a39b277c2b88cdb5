/- Each function that the law reaches computes what its reading says; printed by a program. -/
import Derived.Test.YtcociipjgndnaaaGreatVvSh
import Derived.Test.YtcociipjgndnaaaGreatVvU
import Derived.Test.YtcociipjgndnaaaGreatVvRb
import Derived.Test.YtcociipjgndnaaaGreatVvSo
import Derived.Test.YtcociipjgndnaaaGreatVvIn
import Derived.Test.YtcociipjgndnaaaGreatVvRd
import Derived.Test.YtcociipjgndnaaaGreatD
import Derived.Test.YtcociipjgndnaaaGreatProg
set_option linter.all false
namespace Go.Vv
open Go Go.Proofs
set_option maxRecDepth 100000
set_option synthInstance.maxSize 100000
set_option synthInstance.maxHeartbeats 1000000
set_option maxHeartbeats 1000000
variable {h:AH} {deep1 x0 y1:Int} {res:Bool} {f1:(Int->Option Bool)} {ff1:FuncId} {af1 kf1:List AV} {tl:Nat} {b0:(List UInt8)}
section
variable {v a0 a1 a2 a3 a4 a5 a6 a7 a8 a9 a10 a11 a12 a13 a14 a15 a16 a17 a18 a19 a20 a21 a22 a23 a24 a25 a26 a27 a28 a29 a30 a31 a32 a33 a34 a35 a36 a37 a38 a39:AV} {r q:List AV} {t:Nat}
abbrev Sp:=Spec Tryz.prog
theorem gt0:yH (a0::r) (.tmp 0)=some a0:=rfl
theorem st0:qe (some 0) (a0::r) v=some (v::r):=rfl
theorem gt1:yH (a0::a1::r) (.tmp 1)=some a1:=rfl
theorem st1:qe (some 1) (a0::a1::r) v=some (a0::v::r):=rfl
theorem gt2:yH (a0::a1::a2::r) (.tmp 2)=some a2:=rfl
theorem st2:qe (some 2) (a0::a1::a2::r) v=some (a0::a1::v::r):=rfl
theorem gt3:yH (a0::a1::a2::a3::r) (.tmp 3)=some a3:=rfl
theorem st3:qe (some 3) (a0::a1::a2::a3::r) v=some (a0::a1::a2::v::r):=rfl
theorem gt4:yH (a0::a1::a2::a3::a4::r) (.tmp 4)=some a4:=rfl
theorem st4:qe (some 4) (a0::a1::a2::a3::a4::r) v=some (a0::a1::a2::a3::v::r):=rfl
theorem gt5:yH (a0::a1::a2::a3::a4::a5::r) (.tmp 5)=some a5:=rfl
theorem st5:qe (some 5) (a0::a1::a2::a3::a4::a5::r) v=some (a0::a1::a2::a3::a4::v::r):=rfl
theorem gt6:yH (a0::a1::a2::a3::a4::a5::a6::r) (.tmp 6)=some a6:=rfl
theorem gt7:yH (a0::a1::a2::a3::a4::a5::a6::a7::r) (.tmp 7)=some a7:=rfl
theorem st7:qe (some 7) (a0::a1::a2::a3::a4::a5::a6::a7::r) v=some (a0::a1::a2::a3::a4::a5::a6::v::r):=rfl
theorem gt8:yH (a0::a1::a2::a3::a4::a5::a6::a7::a8::r) (.tmp 8)=some a8:=rfl
theorem st8:qe (some 8) (a0::a1::a2::a3::a4::a5::a6::a7::a8::r) v=some (a0::a1::a2::a3::a4::a5::a6::a7::v::r):=rfl
theorem gt10:yH (a0::a1::a2::a3::a4::a5::a6::a7::a8::a9::a10::r) (.tmp 10)=some a10:=rfl
theorem st10:qe (some 10) (a0::a1::a2::a3::a4::a5::a6::a7::a8::a9::a10::r) v=some (a0::a1::a2::a3::a4::a5::a6::a7::a8::a9::v::r):=rfl
theorem gt11:yH (a0::a1::a2::a3::a4::a5::a6::a7::a8::a9::a10::a11::r) (.tmp 11)=some a11:=rfl
theorem gt12:yH (a0::a1::a2::a3::a4::a5::a6::a7::a8::a9::a10::a11::a12::r) (.tmp 12)=some a12:=rfl
theorem st13:qe (some 13) (a0::a1::a2::a3::a4::a5::a6::a7::a8::a9::a10::a11::a12::a13::r) v=some (a0::a1::a2::a3::a4::a5::a6::a7::a8::a9::a10::a11::a12::v::r):=rfl
theorem gt15:yH (a0::a1::a2::a3::a4::a5::a6::a7::a8::a9::a10::a11::a12::a13::a14::a15::r) (.tmp 15)=some a15:=rfl
theorem st15:qe (some 15) (a0::a1::a2::a3::a4::a5::a6::a7::a8::a9::a10::a11::a12::a13::a14::a15::r) v=some (a0::a1::a2::a3::a4::a5::a6::a7::a8::a9::a10::a11::a12::a13::a14::v::r):=rfl
theorem gt17:yH (a0::a1::a2::a3::a4::a5::a6::a7::a8::a9::a10::a11::a12::a13::a14::a15::a16::a17::r) (.tmp 17)=some a17:=rfl
theorem st18:qe (some 18) (a0::a1::a2::a3::a4::a5::a6::a7::a8::a9::a10::a11::a12::a13::a14::a15::a16::a17::a18::r) v=some (a0::a1::a2::a3::a4::a5::a6::a7::a8::a9::a10::a11::a12::a13::a14::a15::a16::a17::v::r):=rfl
theorem gt19:yH (a0::a1::a2::a3::a4::a5::a6::a7::a8::a9::a10::a11::a12::a13::a14::a15::a16::a17::a18::a19::r) (.tmp 19)=some a19:=rfl
theorem st20:qe (some 20) (a0::a1::a2::a3::a4::a5::a6::a7::a8::a9::a10::a11::a12::a13::a14::a15::a16::a17::a18::a19::a20::r) v=some (a0::a1::a2::a3::a4::a5::a6::a7::a8::a9::a10::a11::a12::a13::a14::a15::a16::a17::a18::a19::v::r):=rfl
theorem gt22:yH (a0::a1::a2::a3::a4::a5::a6::a7::a8::a9::a10::a11::a12::a13::a14::a15::a16::a17::a18::a19::a20::a21::a22::r) (.tmp 22)=some a22:=rfl
theorem gt23:yH (a0::a1::a2::a3::a4::a5::a6::a7::a8::a9::a10::a11::a12::a13::a14::a15::a16::a17::a18::a19::a20::a21::a22::a23::r) (.tmp 23)=some a23:=rfl
theorem st23:qe (some 23) (a0::a1::a2::a3::a4::a5::a6::a7::a8::a9::a10::a11::a12::a13::a14::a15::a16::a17::a18::a19::a20::a21::a22::a23::r) v=some (a0::a1::a2::a3::a4::a5::a6::a7::a8::a9::a10::a11::a12::a13::a14::a15::a16::a17::a18::a19::a20::a21::a22::v::r):=rfl
theorem gt24:yH (a0::a1::a2::a3::a4::a5::a6::a7::a8::a9::a10::a11::a12::a13::a14::a15::a16::a17::a18::a19::a20::a21::a22::a23::a24::r) (.tmp 24)=some a24:=rfl
theorem st27:qe (some 27) (a0::a1::a2::a3::a4::a5::a6::a7::a8::a9::a10::a11::a12::a13::a14::a15::a16::a17::a18::a19::a20::a21::a22::a23::a24::a25::a26::a27::r) v=some (a0::a1::a2::a3::a4::a5::a6::a7::a8::a9::a10::a11::a12::a13::a14::a15::a16::a17::a18::a19::a20::a21::a22::a23::a24::a25::a26::v::r):=rfl
theorem gt28:yH (a0::a1::a2::a3::a4::a5::a6::a7::a8::a9::a10::a11::a12::a13::a14::a15::a16::a17::a18::a19::a20::a21::a22::a23::a24::a25::a26::a27::a28::r) (.tmp 28)=some a28:=rfl
theorem st28:qe (some 28) (a0::a1::a2::a3::a4::a5::a6::a7::a8::a9::a10::a11::a12::a13::a14::a15::a16::a17::a18::a19::a20::a21::a22::a23::a24::a25::a26::a27::a28::r) v=some (a0::a1::a2::a3::a4::a5::a6::a7::a8::a9::a10::a11::a12::a13::a14::a15::a16::a17::a18::a19::a20::a21::a22::a23::a24::a25::a26::a27::v::r):=rfl
theorem gt30:yH (a0::a1::a2::a3::a4::a5::a6::a7::a8::a9::a10::a11::a12::a13::a14::a15::a16::a17::a18::a19::a20::a21::a22::a23::a24::a25::a26::a27::a28::a29::a30::r) (.tmp 30)=some a30:=rfl
theorem st31:qe (some 31) (a0::a1::a2::a3::a4::a5::a6::a7::a8::a9::a10::a11::a12::a13::a14::a15::a16::a17::a18::a19::a20::a21::a22::a23::a24::a25::a26::a27::a28::a29::a30::a31::r) v=some (a0::a1::a2::a3::a4::a5::a6::a7::a8::a9::a10::a11::a12::a13::a14::a15::a16::a17::a18::a19::a20::a21::a22::a23::a24::a25::a26::a27::a28::a29::a30::v::r):=rfl
theorem gt32:yH (a0::a1::a2::a3::a4::a5::a6::a7::a8::a9::a10::a11::a12::a13::a14::a15::a16::a17::a18::a19::a20::a21::a22::a23::a24::a25::a26::a27::a28::a29::a30::a31::a32::r) (.tmp 32)=some a32:=rfl
theorem gt33:yH (a0::a1::a2::a3::a4::a5::a6::a7::a8::a9::a10::a11::a12::a13::a14::a15::a16::a17::a18::a19::a20::a21::a22::a23::a24::a25::a26::a27::a28::a29::a30::a31::a32::a33::r) (.tmp 33)=some a33:=rfl
theorem gt34:yH (a0::a1::a2::a3::a4::a5::a6::a7::a8::a9::a10::a11::a12::a13::a14::a15::a16::a17::a18::a19::a20::a21::a22::a23::a24::a25::a26::a27::a28::a29::a30::a31::a32::a33::a34::r) (.tmp 34)=some a34:=rfl
theorem st34:qe (some 34) (a0::a1::a2::a3::a4::a5::a6::a7::a8::a9::a10::a11::a12::a13::a14::a15::a16::a17::a18::a19::a20::a21::a22::a23::a24::a25::a26::a27::a28::a29::a30::a31::a32::a33::a34::r) v=some (a0::a1::a2::a3::a4::a5::a6::a7::a8::a9::a10::a11::a12::a13::a14::a15::a16::a17::a18::a19::a20::a21::a22::a23::a24::a25::a26::a27::a28::a29::a30::a31::a32::a33::v::r):=rfl
theorem st35:qe (some 35) (a0::a1::a2::a3::a4::a5::a6::a7::a8::a9::a10::a11::a12::a13::a14::a15::a16::a17::a18::a19::a20::a21::a22::a23::a24::a25::a26::a27::a28::a29::a30::a31::a32::a33::a34::a35::r) v=some (a0::a1::a2::a3::a4::a5::a6::a7::a8::a9::a10::a11::a12::a13::a14::a15::a16::a17::a18::a19::a20::a21::a22::a23::a24::a25::a26::a27::a28::a29::a30::a31::a32::a33::a34::v::r):=rfl
theorem gt36:yH (a0::a1::a2::a3::a4::a5::a6::a7::a8::a9::a10::a11::a12::a13::a14::a15::a16::a17::a18::a19::a20::a21::a22::a23::a24::a25::a26::a27::a28::a29::a30::a31::a32::a33::a34::a35::a36::r) (.tmp 36)=some a36:=rfl
theorem gt38:yH (a0::a1::a2::a3::a4::a5::a6::a7::a8::a9::a10::a11::a12::a13::a14::a15::a16::a17::a18::a19::a20::a21::a22::a23::a24::a25::a26::a27::a28::a29::a30::a31::a32::a33::a34::a35::a36::a37::a38::r) (.tmp 38)=some a38:=rfl
theorem st38:qe (some 38) (a0::a1::a2::a3::a4::a5::a6::a7::a8::a9::a10::a11::a12::a13::a14::a15::a16::a17::a18::a19::a20::a21::a22::a23::a24::a25::a26::a27::a28::a29::a30::a31::a32::a33::a34::a35::a36::a37::a38::r) v=some (a0::a1::a2::a3::a4::a5::a6::a7::a8::a9::a10::a11::a12::a13::a14::a15::a16::a17::a18::a19::a20::a21::a22::a23::a24::a25::a26::a27::a28::a29::a30::a31::a32::a33::a34::a35::a36::a37::v::r):=rfl
theorem st39:qe (some 39) (a0::a1::a2::a3::a4::a5::a6::a7::a8::a9::a10::a11::a12::a13::a14::a15::a16::a17::a18::a19::a20::a21::a22::a23::a24::a25::a26::a27::a28::a29::a30::a31::a32::a33::a34::a35::a36::a37::a38::a39::r) v=some (a0::a1::a2::a3::a4::a5::a6::a7::a8::a9::a10::a11::a12::a13::a14::a15::a16::a17::a18::a19::a20::a21::a22::a23::a24::a25::a26::a27::a28::a29::a30::a31::a32::a33::a34::a35::a36::a37::a38::v::r):=rfl
theorem gk (h:yH r (.tmp t)=some v):yH (a0::a1::a2::a3::a4::a5::a6::a7::a8::a9::a10::a11::a12::a13::a14::a15::a16::a17::a18::a19::a20::a21::a22::a23::a24::a25::a26::a27::a28::a29::a30::a31::a32::a33::a34::a35::a36::a37::a38::a39::r) (.tmp (t+40))=some v:=h
theorem sk (h:qe (some t) r v=some q):qe (some (t+40)) (a0::a1::a2::a3::a4::a5::a6::a7::a8::a9::a10::a11::a12::a13::a14::a15::a16::a17::a18::a19::a20::a21::a22::a23::a24::a25::a26::a27::a28::a29::a30::a31::a32::a33::a34::a35::a36::a37::a38::a39::r) v=some (a0::a1::a2::a3::a4::a5::a6::a7::a8::a9::a10::a11::a12::a13::a14::a15::a16::a17::a18::a19::a20::a21::a22::a23::a24::a25::a26::a27::a28::a29::a30::a31::a32::a33::a34::a35::a36::a37::a38::a39::q):=congrArg (λx=>some (a0::a1::a2::a3::a4::a5::a6::a7::a8::a9::a10::a11::a12::a13::a14::a15::a16::a17::a18::a19::a20::a21::a22::a23::a24::a25::a26::a27::a28::a29::a30::a31::a32::a33::a34::a35::a36::a37::a38::a39::x)) (sf h)
end
def fvOp:Nat->AV
  | 1=>.fn (.func 134) [] []
  | 2=>.fn (.func 135) [] []
  | 3=>.fn (.func 136) [] []
  | _=>.nilf
def fnOp:Nat->FuncId
  | 1=>134
  | 2=>135
  | 3=>136
  | _=>0
theorem fvlOp (c n m:Nat):(fvOp c).low n m=true:=by unfold fvOp;split <;> rfl
theorem fvtOp (P:Program) (t:TypeId) (c:Nat):tyfix P t (fvOp c)=fvOp c:=by unfold fvOp;split <;> rfl
abbrev GK.row (x:GK):List AV:=[.int .u8 x.rep,.int .u32 x.inc]
abbrev GF.row (x:GF):List AV:=[.int .u8 x.actor.rep,.int .u32 x.actor.inc,.int .u64 x.seq]
abbrev GH.row (x:GH):List AV:=[.int .u64 x.time,.int .u8 x.dot.actor.rep,.int .u32 x.dot.actor.inc,.int .u64 x.dot.seq,.str x.text]
abbrev GC.row (x:GC):List AV:=[.int .u8 x.typ,.int .i64 x.n,.int .u64 x.time,.int .u8 x.dot.actor.rep,.int .u32 x.dot.actor.inc,.int .u64 x.dot.seq,.str x.text,.sl 5 (x.items.map GH.row),.sl 3 (x.tombs.map GF.row)]
mutual
def GA.row:GA->List AV
  | ⟨name,leaves,subs⟩=>[.str name,.sl 9 (leaves.map GC.row),.sl 3 (GA.rows subs)]
def GA.rows:List GA->List (List AV)
  | []=>[]
  | x::r=>x.row::GA.rows r
end
theorem GA.rows_eq (l:List GA):GA.rows l=l.map GA.row:=by
  induction l with
  | nil=>rfl
  | cons x r ih=>simp only [GA.rows,ux,ih]
theorem GA.row_eq (x:GA):x.row=[.str x.name,.sl 9 (x.leaves.map GC.row),.sl 3 (x.subs.map GA.row)]:=by
  cases x;simp only [GA.row,GA.rows_eq]
abbrev GI.row (x:GI):List AV:=[.str x.name,.int .i64 x.leaves,.int .i64 x.items,.int .i64 x.tombs,.int .i64 x.bytes]
abbrev GM.row (x:GM):List AV:=[.int .u8 x.kind,.sl 1 (x.path.map yz),.int .i64 x.n,.str x.text,.sl 3 (x.dots.map GF.row)]
abbrev GE.row (x:GE):List AV:=[.sl 1 (x.path.map yz),.int .u8 x.leaf.typ,.int .i64 x.leaf.n,.int .u64 x.leaf.time,.int .u8 x.leaf.dot.actor.rep,.int .u32 x.leaf.dot.actor.inc,.int .u64 x.leaf.dot.seq,.str x.leaf.text,.sl 5 (x.leaf.items.map GH.row),.sl 3 (x.leaf.tombs.map GF.row)]
abbrev GL.row (x:GL):List AV:=[.sl 1 (x.path.map yz),.int .u8 x.l.typ,.int .i64 x.l.n,.int .u64 x.l.time,.int .u8 x.l.dot.actor.rep,.int .u32 x.l.dot.actor.inc,.int .u64 x.l.dot.seq,.str x.l.text,.sl 5 (x.l.items.map GH.row),.sl 3 (x.l.tombs.map GF.row)]
abbrev GN.row (x:GN):List AV:=[.int .u8 x.leaf,fvOp x.may]
abbrev GJ.row (x:GJ):List AV:=[.int .u8 x.dot.actor.rep,.int .u32 x.dot.actor.inc,.int .u64 x.dot.seq,.int .u64 x.time,.int .u8 x.op.kind,.sl 1 (x.op.path.map yz),.int .i64 x.op.n,.str x.op.text,.sl 3 (x.op.dots.map GF.row)]
instance el24:El Tryz.prog 24 66 3:=mkEl Tryz.underlying24 (by kernel_rfl)
theorem mixed:Tryz.prog.follows .mixedOrders=true:=by kernel_rfl
theorem zL {Q:Exit->List AV->AH->Prop} {env:List AV} {B:List Blk} {T:List Nat} {id:Nat} {l:List Oper} (hd:drawOk ⟨l⟩ []=true) (a:zV Tryz.prog ⟨l⟩ [] (λn=>KeepB h (lk [] n)) (Q .normal) 0 l env (h.ext B T)):vV Tryz.prog (.region id ⟨l⟩ true) Q env (h.ext B T):=yP [] [] trivial mixed hd a
instance fo66x0:Fo Tryz.prog 66 0 0 9 1:=wT (by kernel_rfl) (by kernel_rfl)
instance ty9:Ty Tryz.prog 9 .string 1:=qq Tryz.underlying9 (by kernel_rfl)
instance fo66x2:Fo Tryz.prog 66 2 2 24 1:=wT (by kernel_rfl) (by kernel_rfl)
instance ty24:Ty Tryz.prog 24 (.slice 66) 1:=qq Tryz.underlying24 (by kernel_rfl)
instance fo66x1:Fo Tryz.prog 66 1 1 64 1:=wT (by kernel_rfl) (by kernel_rfl)
instance ty64:Ty Tryz.prog 64 (.slice 63) 1:=qq Tryz.underlying64 (by kernel_rfl)
instance el64:El Tryz.prog 64 63 9:=mkEl Tryz.underlying64 (by kernel_rfl)
theorem ty63:∃d,Ty Tryz.prog 63 d 9/\yk d=true:=⟨_,qq Tryz.underlying63 (by kernel_rfl),by kernel_rfl⟩
instance:TA Tryz.prog 63 9:=⟨ty63⟩
abbrev xR:List AV:=[.int .u8 (0:Int),.int .i64 (0:Int),.int .u64 (0:Int),.int .u8 (0:Int),.int .u32 (0:Int),.int .u64 (0:Int),.str ([]:zx),.osl none 5 (([]:List GH).map GH.row),.osl none 3 (([]:List GF).map GF.row)]
abbrev xO:List (AV×AV):=[(.int .u8 1,.fn (.func 94) [] []),(.int .u8 2,.fn (.func 95) [] []),(.int .u8 3,.fn (.func 96) [] []),(.int .u8 4,.fn (.func 97) [] []),(.int .u8 5,.fn (.func 98) [] [])]
abbrev lit2x:List AV:=[.str ([]:zx),.int .i64 (0:Int),.int .i64 (0:Int),.int .i64 (0:Int),.int .i64 (0:Int)]
abbrev lit3x:List AV:=[.osl none 1 [],.int .u8 0,.int .i64 0,.int .u64 0,.int .u8 0,.int .u32 0,.int .u64 0,.str [],.osl none 5 [],.osl none 3 []]
abbrev lit4x:List AV:=[.int .u8 0,.int .i64 0,.int .u64 0,.int .u8 0,.int .u32 0,.int .u64 0,.str [],.osl none 5 [],.osl none 3 []]
abbrev lit5x:List AV:=[.str ([]:zx),.osl none 9 (([]:List GC).map GC.row),.osl none 3 (([]:List GA).map GA.row)]
abbrev lit6x:List AV:=[.int .u8 (0:Int),.int .u32 (0:Int),.int .u64 (0:Int)]
theorem ze63:xI Tryz.prog 63=some lit4x:=by kernel_rfl
instance:ZE Tryz.prog 63 lit4x:=⟨ze63⟩
instance fo63x4:Fo Tryz.prog 63 4 6 9 1:=wT (by kernel_rfl) (by kernel_rfl)
instance fo63x6:Fo Tryz.prog 63 6 8 32 1:=wT (by kernel_rfl) (by kernel_rfl)
instance ty32:Ty Tryz.prog 32 (.slice 30) 1:=qq Tryz.underlying32 (by kernel_rfl)
instance el32:El Tryz.prog 32 30 3:=mkEl Tryz.underlying32 (by kernel_rfl)
instance fo63x5:Fo Tryz.prog 63 5 7 61 1:=wT (by kernel_rfl) (by kernel_rfl)
instance ty61:Ty Tryz.prog 61 (.slice 60) 1:=qq Tryz.underlying61 (by kernel_rfl)
instance el61:El Tryz.prog 61 60 5:=mkEl Tryz.underlying61 (by kernel_rfl)
instance fo60x2:Fo Tryz.prog 60 2 4 9 1:=wT (by kernel_rfl) (by kernel_rfl)
instance el22:El Tryz.prog 22 56 5:=mkEl Tryz.underlying22 (by kernel_rfl)
theorem ty56:∃d,Ty Tryz.prog 56 d 5/\yk d=true:=⟨_,qq Tryz.underlying56 (by kernel_rfl),by kernel_rfl⟩
instance:TA Tryz.prog 56 5:=⟨ty56⟩
theorem ze56:xI Tryz.prog 56=some [.str [],.int .i64 0,.int .i64 0,.int .i64 0,.int .i64 0]:=by kernel_rfl
instance:ZE Tryz.prog 56 [.str [],.int .i64 0,.int .i64 0,.int .i64 0,.int .i64 0]:=⟨ze56⟩
instance fo56x0:Fo Tryz.prog 56 0 0 9 1:=wT (by kernel_rfl) (by kernel_rfl)
instance fo34x4:Fo Tryz.prog 34 4 4 32 1:=wT (by kernel_rfl) (by kernel_rfl)
instance fo34x1:Fo Tryz.prog 34 1 1 31 1:=wT (by kernel_rfl) (by kernel_rfl)
instance ty31:Ty Tryz.prog 31 (.slice 9) 1:=qq Tryz.underlying31 (by kernel_rfl)
instance el31:El Tryz.prog 31 9 1:=mkEl Tryz.underlying31 (by kernel_rfl)
instance fo34x3:Fo Tryz.prog 34 3 3 9 1:=wT (by kernel_rfl) (by kernel_rfl)
theorem ze30:xI Tryz.prog 30=some [.int .u8 0,.int .u32 0,.int .u64 0]:=by kernel_rfl
instance:ZE Tryz.prog 30 [.int .u8 0,.int .u32 0,.int .u64 0]:=⟨ze30⟩
noncomputable def sf27:Array Field:=match Tryz.prog.underlying 27 with | some (.struct fs)=>fs | _=>#[]
theorem su27:Tryz.prog.underlying 27=some (.struct sf27):=by kernel_rfl
theorem ze27:xI Tryz.prog 27=some [.int .u8 0,.int .u32 0]:=by kernel_rfl
instance:ZE Tryz.prog 27 [.int .u8 0,.int .u32 0]:=⟨ze27⟩
theorem pl27:vh Tryz.prog sf27=some [(0,1),(1,1)]:=by kernel_rfl
noncomputable def sf30:Array Field:=match Tryz.prog.underlying 30 with | some (.struct fs)=>fs | _=>#[]
theorem su30:Tryz.prog.underlying 30=some (.struct sf30):=by kernel_rfl
theorem pl30:vh Tryz.prog sf30=some [(0,2),(2,1)]:=by kernel_rfl
theorem ty30:∃d,Ty Tryz.prog 30 d 3/\yk d=true:=⟨_,qq Tryz.underlying30 (by kernel_rfl),by kernel_rfl⟩
instance:TA Tryz.prog 30 3:=⟨ty30⟩
instance ty4:Ty Tryz.prog 4 .bool 1:=qq Tryz.underlying4 (by kernel_rfl)
instance el215:El Tryz.prog 215 3 1:=mkEl Tryz.underlying215 (by kernel_rfl)
instance ty3:Ty Tryz.prog 3 (.int .i64) 1:=qq Tryz.underlying3 (by kernel_rfl)
instance fo27x0:Fo Tryz.prog 27 0 0 5 1:=wT (by kernel_rfl) (by kernel_rfl)
instance ty5:Ty Tryz.prog 5 (.int .u8) 1:=qq Tryz.underlying5 (by kernel_rfl)
instance fo27x1:Fo Tryz.prog 27 1 1 25 1:=wT (by kernel_rfl) (by kernel_rfl)
instance ty25:Ty Tryz.prog 25 (.int .u32) 1:=qq Tryz.underlying25 (by kernel_rfl)
theorem ze3:xI Tryz.prog 3=some [.int .i64 0]:=by kernel_rfl
instance:ZE Tryz.prog 3 [.int .i64 0]:=⟨ze3⟩
instance fo30x0:Fo Tryz.prog 30 0 0 27 2:=wT (by kernel_rfl) (by kernel_rfl)
theorem ty27:∃d,Ty Tryz.prog 27 d 2/\yk d=true:=⟨_,qq Tryz.underlying27 (by kernel_rfl),by kernel_rfl⟩
instance:TA Tryz.prog 27 2:=⟨ty27⟩
instance fo30x1:Fo Tryz.prog 30 1 2 28 1:=wT (by kernel_rfl) (by kernel_rfl)
instance ty28:Ty Tryz.prog 28 (.int .u64) 1:=qq Tryz.underlying28 (by kernel_rfl)
theorem ty60:∃d,Ty Tryz.prog 60 d 5/\yk d=true:=⟨_,qq Tryz.underlying60 (by kernel_rfl),by kernel_rfl⟩
instance:TA Tryz.prog 60 5:=⟨ty60⟩
instance fo60x1:Fo Tryz.prog 60 1 1 30 3:=wT (by kernel_rfl) (by kernel_rfl)
theorem pk30:PK Tryz.prog 30 [.i,.i,.i]:=mkPK (by kernel_rfl) (by kernel_rfl) (by kernel_rfl)
theorem pk60:PK Tryz.prog 60 [.i,.i,.i,.i,.s]:=mkPK (by kernel_rfl) (by kernel_rfl) (by kernel_rfl)
instance fo63x0:Fo Tryz.prog 63 0 0 5 1:=wT (by kernel_rfl) (by kernel_rfl)
instance fo63x1:Fo Tryz.prog 63 1 1 2 1:=wT (by kernel_rfl) (by kernel_rfl)
instance ty2:Ty Tryz.prog 2 (.int .i64) 1:=qq Tryz.underlying2 (by kernel_rfl)
instance fo63x2:Fo Tryz.prog 63 2 2 28 1:=wT (by kernel_rfl) (by kernel_rfl)
instance fo63x3:Fo Tryz.prog 63 3 3 30 3:=wT (by kernel_rfl) (by kernel_rfl)
theorem ze60:xI Tryz.prog 60=some [.int .u64 0,.int .u8 0,.int .u32 0,.int .u64 0,.str []]:=by kernel_rfl
instance:ZE Tryz.prog 60 [.int .u64 0,.int .u8 0,.int .u32 0,.int .u64 0,.str []]:=⟨ze60⟩
theorem kq30:KQ Tryz.prog 30 (λx=>AV.agg (GF.row x)) GF.eqb:=.struct su30 pk30 (λ_ _=>rfl) (λa=>by simp [GF.eqb])
theorem az3:aZeroM Tryz.prog 3=some ((AV.int .i64) (0:Int)):=by kernel_rfl
instance fo60x0:Fo Tryz.prog 60 0 0 28 1:=wT (by kernel_rfl) (by kernel_rfl)
noncomputable def sf63:Array Field:=match Tryz.prog.underlying 63 with | some (.struct fs)=>fs | _=>#[]
theorem su63:Tryz.prog.underlying 63=some (.struct sf63):=by kernel_rfl
theorem pl63:vh Tryz.prog sf63=some [(0,1),(1,1),(2,1),(3,3),(6,1),(7,1),(8,1)]:=by kernel_rfl
theorem ty66:∃d,Ty Tryz.prog 66 d 3/\yk d=true:=⟨_,qq Tryz.underlying66 (by kernel_rfl),by kernel_rfl⟩
instance:TA Tryz.prog 66 3:=⟨ty66⟩
theorem ze66:xI Tryz.prog 66=some [.str [],.osl none 9 [],.osl none 3 []]:=by kernel_rfl
instance:ZE Tryz.prog 66 [.str [],.osl none 9 [],.osl none 3 []]:=⟨ze66⟩
instance el69:El Tryz.prog 69 5 1:=mkEl Tryz.underlying69 (by kernel_rfl)
theorem ze5:xI Tryz.prog 5=some [.int .u8 0]:=by kernel_rfl
instance:ZE Tryz.prog 5 [.int .u8 0]:=⟨ze5⟩
instance ty69:Ty Tryz.prog 69 (.slice 5) 1:=qq Tryz.underlying69 (by kernel_rfl)
theorem ze9:xI Tryz.prog 9=some [.str []]:=by kernel_rfl
instance:ZE Tryz.prog 9 [.str []]:=⟨ze9⟩
instance ty160:Ty Tryz.prog 160 (.func #[72] #[4] false) 1:=qq Tryz.underlying160 (by kernel_rfl)
noncomputable def sf72:Array Field:=match Tryz.prog.underlying 72 with | some (.struct fs)=>fs | _=>#[]
theorem su72:Tryz.prog.underlying 72=some (.struct sf72):=by kernel_rfl
theorem ze72:xI Tryz.prog 72=some lit3x:=by kernel_rfl
instance:ZE Tryz.prog 72 lit3x:=⟨ze72⟩
theorem pl72:vh Tryz.prog sf72=some [(0,1),(1,9)]:=by kernel_rfl
theorem ty72:∃d,Ty Tryz.prog 72 d 10/\yk d=true:=⟨_,qq Tryz.underlying72 (by kernel_rfl),by kernel_rfl⟩
instance:TA Tryz.prog 72 10:=⟨ty72⟩
instance el53:El Tryz.prog 53 72 10:=mkEl Tryz.underlying53 (by kernel_rfl)
instance ty53:Ty Tryz.prog 53 (.slice 72) 1:=qq Tryz.underlying53 (by kernel_rfl)
theorem ze44:xI Tryz.prog 44=some [.str [],.int .i64 0,.int .i64 0,.int .i64 0,.int .i64 0]:=by kernel_rfl
instance:ZE Tryz.prog 44 [.str [],.int .i64 0,.int .i64 0,.int .i64 0,.int .i64 0]:=⟨ze44⟩
noncomputable def sf44:Array Field:=match Tryz.prog.underlying 44 with | some (.struct fs)=>fs | _=>#[]
theorem su44:Tryz.prog.underlying 44=some (.struct sf44):=by kernel_rfl
theorem pl44:vh Tryz.prog sf44=some [(0,1),(1,1),(2,1),(3,1),(4,1)]:=by kernel_rfl
theorem ty44:∃d,Ty Tryz.prog 44 d 5/\yk d=true:=⟨_,qq Tryz.underlying44 (by kernel_rfl),by kernel_rfl⟩
instance:TA Tryz.prog 44 5:=⟨ty44⟩
instance fo44x1:Fo Tryz.prog 44 1 1 3 1:=wT (by kernel_rfl) (by kernel_rfl)
instance fo44x2:Fo Tryz.prog 44 2 2 3 1:=wT (by kernel_rfl) (by kernel_rfl)
instance fo72x1:Fo Tryz.prog 72 1 1 63 9:=wT (by kernel_rfl) (by kernel_rfl)
instance fo44x3:Fo Tryz.prog 44 3 3 3 1:=wT (by kernel_rfl) (by kernel_rfl)
instance el39:El Tryz.prog 39 44 5:=mkEl Tryz.underlying39 (by kernel_rfl)
noncomputable def sf60:Array Field:=match Tryz.prog.underlying 60 with | some (.struct fs)=>fs | _=>#[]
theorem su60:Tryz.prog.underlying 60=some (.struct sf60):=by kernel_rfl
theorem pl60:vh Tryz.prog sf60=some [(0,1),(1,3),(4,1)]:=by kernel_rfl
noncomputable def sf66:Array Field:=match Tryz.prog.underlying 66 with | some (.struct fs)=>fs | _=>#[]
theorem su66:Tryz.prog.underlying 66=some (.struct sf66):=by kernel_rfl
theorem pl66:vh Tryz.prog sf66=some [(0,1),(1,1),(2,1)]:=by kernel_rfl
instance fo44x0:Fo Tryz.prog 44 0 0 9 1:=wT (by kernel_rfl) (by kernel_rfl)
instance fo44x4:Fo Tryz.prog 44 4 4 3 1:=wT (by kernel_rfl) (by kernel_rfl)
instance el92:El Tryz.prog 92 95 10:=mkEl Tryz.underlying92 (by kernel_rfl)
noncomputable def sf95:Array Field:=match Tryz.prog.underlying 95 with | some (.struct fs)=>fs | _=>#[]
theorem su95:Tryz.prog.underlying 95=some (.struct sf95):=by kernel_rfl
theorem ze95:xI Tryz.prog 95=some lit3x:=by kernel_rfl
instance:ZE Tryz.prog 95 lit3x:=⟨ze95⟩
theorem pl95:vh Tryz.prog sf95=some [(0,1),(1,9)]:=by kernel_rfl
instance fo95x0:Fo Tryz.prog 95 0 0 31 1:=wT (by kernel_rfl) (by kernel_rfl)
instance fo95x1:Fo Tryz.prog 95 1 1 63 9:=wT (by kernel_rfl) (by kernel_rfl)
instance fo72x0:Fo Tryz.prog 72 0 0 31 1:=wT (by kernel_rfl) (by kernel_rfl)
theorem pk44:PK Tryz.prog 44 [.s,.i,.i,.i,.i]:=mkPK (by kernel_rfl) (by kernel_rfl) (by kernel_rfl)
instance fo56x1:Fo Tryz.prog 56 1 1 3 1:=wT (by kernel_rfl) (by kernel_rfl)
instance fo56x2:Fo Tryz.prog 56 2 2 3 1:=wT (by kernel_rfl) (by kernel_rfl)
instance fo56x3:Fo Tryz.prog 56 3 3 3 1:=wT (by kernel_rfl) (by kernel_rfl)
instance fo56x4:Fo Tryz.prog 56 4 4 3 1:=wT (by kernel_rfl) (by kernel_rfl)
theorem ze76:xI Tryz.prog 76=some [.int .i64 0,.int .i64 0,.int .i64 0,.int .i64 0]:=by kernel_rfl
instance:ZE Tryz.prog 76 [.int .i64 0,.int .i64 0,.int .i64 0,.int .i64 0]:=⟨ze76⟩
instance ty76:Ty Tryz.prog 76 (.array 4 3) 4:=qq Tryz.underlying76 (by kernel_rfl)
instance ty123:Ty Tryz.prog 123 (.array 2 9) 2:=qq Tryz.underlying123 (by kernel_rfl)
theorem ze123:xI Tryz.prog 123=some [.str [],.str []]:=by kernel_rfl
instance:ZE Tryz.prog 123 [.str [],.str []]:=⟨ze123⟩
noncomputable def sf56:Array Field:=match Tryz.prog.underlying 56 with | some (.struct fs)=>fs | _=>#[]
theorem su56:Tryz.prog.underlying 56=some (.struct sf56):=by kernel_rfl
theorem pl56:vh Tryz.prog sf56=some [(0,1),(1,1),(2,1),(3,1),(4,1)]:=by kernel_rfl
theorem pka76:PKA Tryz.prog 76 [.i,.i,.i,.i]:=⟨by kernel_rfl,by kernel_rfl,by kernel_rfl⟩
instance fo34x2:Fo Tryz.prog 34 2 2 2 1:=wT (by kernel_rfl) (by kernel_rfl)
theorem ze126:xI Tryz.prog 126=some [.int .u8 0,.nilf]:=by kernel_rfl
instance:ZE Tryz.prog 126 [.int .u8 0,.nilf]:=⟨ze126⟩
noncomputable def sf126:Array Field:=match Tryz.prog.underlying 126 with | some (.struct fs)=>fs | _=>#[]
theorem su126:Tryz.prog.underlying 126=some (.struct sf126):=by kernel_rfl
theorem pl126:vh Tryz.prog sf126=some [(0,1),(1,1)]:=by kernel_rfl
instance ty169:Ty Tryz.prog 169 (.array 6 126) 12:=qq Tryz.underlying169 (by kernel_rfl)
theorem ze169:xI Tryz.prog 169=some [.int .u8 0,.nilf,.int .u8 0,.nilf,.int .u8 0,.nilf,.int .u8 0,.nilf,.int .u8 0,.nilf,.int .u8 0,.nilf]:=by kernel_rfl
instance:ZE Tryz.prog 169 [.int .u8 0,.nilf,.int .u8 0,.nilf,.int .u8 0,.nilf,.int .u8 0,.nilf,.int .u8 0,.nilf,.int .u8 0,.nilf]:=⟨ze169⟩
theorem ty126:∃d,Ty Tryz.prog 126 d 2/\yk d=true:=⟨_,qq Tryz.underlying126 (by kernel_rfl),by kernel_rfl⟩
instance:TA Tryz.prog 126 2:=⟨ty126⟩
instance fo34x0:Fo Tryz.prog 34 0 0 5 1:=wT (by kernel_rfl) (by kernel_rfl)
instance fo126x1:Fo Tryz.prog 126 1 1 106 1:=wT (by kernel_rfl) (by kernel_rfl)
instance ty106:Ty Tryz.prog 106 (.func #[34] #[4] false) 1:=qq Tryz.underlying106 (by kernel_rfl)
theorem ty34:∃d,Ty Tryz.prog 34 d 5/\yk d=true:=⟨_,qq Tryz.underlying34 (by kernel_rfl),by kernel_rfl⟩
instance:TA Tryz.prog 34 5:=⟨ty34⟩
instance fo36x0:Fo Tryz.prog 36 0 0 30 3:=wT (by kernel_rfl) (by kernel_rfl)
instance fo36x1:Fo Tryz.prog 36 1 3 28 1:=wT (by kernel_rfl) (by kernel_rfl)
instance fo36x2:Fo Tryz.prog 36 2 4 34 5:=wT (by kernel_rfl) (by kernel_rfl)
instance fo126x0:Fo Tryz.prog 126 0 0 5 1:=wT (by kernel_rfl) (by kernel_rfl)
instance ty166:Ty Tryz.prog 166 (.int .u64) 1:=qq Tryz.underlying166 (by kernel_rfl)
theorem ty36:∃d,Ty Tryz.prog 36 d 9/\yk d=true:=⟨_,qq Tryz.underlying36 (by kernel_rfl),by kernel_rfl⟩
instance:TA Tryz.prog 36 9:=⟨ty36⟩
noncomputable def sf141:Array Field:=match Tryz.prog.underlying 141 with | some (.struct fs)=>fs | _=>#[]
theorem su141:Tryz.prog.underlying 141=some (.struct sf141):=by kernel_rfl
theorem ze141:xI Tryz.prog 141=some lit4x:=by kernel_rfl
instance:ZE Tryz.prog 141 lit4x:=⟨ze141⟩
theorem pl141:vh Tryz.prog sf141=some [(0,9)]:=by kernel_rfl
instance fo141x0:Fo Tryz.prog 141 0 0 63 9:=wT (by kernel_rfl) (by kernel_rfl)
theorem azf136:aZeroM Tryz.prog 136=some .nilf:=by kernel_rfl
instance el23:El Tryz.prog 23 66 3:=mkEl Tryz.underlying23 (by kernel_rfl)
instance ty86:Ty Tryz.prog 86 (.func #[72] #[3] false) 1:=qq Tryz.underlying86 (by kernel_rfl)
theorem ze86:xI Tryz.prog 86=some [.nilf]:=by kernel_rfl
instance:ZE Tryz.prog 86 [.nilf]:=⟨ze86⟩
abbrev zy (x:GC) (p q:AV):List AV:=[.int .u8 x.typ,.int .i64 x.n,.int .u64 x.time,.int .u8 x.dot.actor.rep,.int .u32 x.dot.actor.inc,.int .u64 x.dot.seq,.str x.text,p,q]
theorem ok48N (n:Nat):∀{t0:(List GA)} {deep1:Int} {res:Int} {h:AH} , xV n t0 deep1=some res->Sp 48 [.sl 3 (t0.map GA.row),.int .i64 deep1] h (yo (.int .i64 res) h):=by
 induction n with
 | zero=>intro t0 deep1 res h  a;simp [xV] at a
 | succ n ih =>
  intro t0 deep1 res h  a;unfold xV at a;refine zb Tryz.func48 rfl (by kernel_rfl) (yI 84 rfl) (R.r ?_);refine yF (λ(s1:Int×Int)=>zn 2 3 (zn 7 77 [(5,.int .i64 s1.1),(6,.int .i64 s1.2)])) (λs1=>h.ext [] []) a (λ_=>by simp only [zn,xU,ue,uf];try rfl) (wk.le LEL.o) ?_;intro P s1 N a z;apply R.r;refine ln λg=>?_;replace g:=zX g;apply R.r;refine ze gg a (λw a=>?_) (λw a=>?_)
  ·apply R.r;refine yP [16] [] trivial mixed (by kernel_rfl) (R.r ?_);refine zd a (λI u a=>zt rfl rfl (yh rfl el24 gg gg isl u (GA.row_eq _)) ss (R.r ?_));refine wJ rfl rfl (s_lenStr rfl rfl rfl rfl ty9 gg) ss (R.r ?_);refine zd a (λK p a=>zt rfl rfl (yh rfl el24 gg gg isl p (GA.row_eq _)) ss (R.r ?_));refine zd a (λH m a=>zS rfl rfl (λ_=>sc rfl) (by rintro _ ⟨B2,T2,rfl,G⟩;exact ih m) ss (R.r ?_));refine yF (λ(s2:Int×Int)=>zn 2 3 (zn 8 76 [(5,.int .i64 s2.1),(7,.int .i64 s2.2)])) (λs2=>h.ext [] []) a (λ_=>by simp only [zn,xU,ue,uf];try rfl) (wk.le LEL.o) ?_;intro n2 s2 M a s;apply R.r;refine zd a (λF l a=>zc rfl (yh rfl el24 gg gg isl l (GA.row_eq _)) ss (R.r ?_));refine ln λb=>?_;replace b:=zX b;apply R.r;refine ze gg a (λi a=>?_) (λi a=>?_)
   ·apply R.r;refine zd a (λE k a=>zc rfl (yh rfl el24 gg gg isl k (GA.row_eq _)) ss (R.r ?_));refine zd a (λx j a=>ix j (R.r ?_));refine ln λe=>?_;replace e:=zX e;apply R.r;refine ln λf=>?_;replace f:=zX f;apply R.r;refine zz (λ(D:Nat) (y:Int)=>zn 2 3 (zn 10 74 [(5,.int .i64 y),(9,.int .i64 (D:Int))])) (λy=>h.ext [.cells (GC.row x)] []) a (λ_ _=>by simp only [zn,xU,ue,uf];try rfl) (wk.le LEL.o) ?_;intro D y L a;apply R.r;refine ln λc=>?_;replace c:=zX c;apply R.r;refine zC gg a (λJ O C A a B=>?_) (λa=>?_)
    ·apply R.r;refine ix (zB A) (R.r ?_);refine ln λd=>?_;replace d:=zX d;apply R.r;cases a;exact ⟨(IntKind.wrap .i64 ((IntKind.wrap .i64 (y+(1:Int)))+((J.text).length:Int))),C,B,wk.le (by exact (.eq (.eq (.drop (.drop (.drop (.cons (leV.of_eq rfl) (.eq (.eq (.eq (.cons (leV.of_eq (yN (by omega) (by omega))) (.d16 (.d16 (.d16 (.d16 (.d4 (.d4 (.drop (.drop leL.nil)))))))))))))))))))⟩
    ·apply R.r;cases a;exact ⟨(y,(IntKind.wrap .i64 (s2.2+(1:Int)))),s,wk.trans (wk.le LEL.o) (yj (by simp [zA,AV.low]) rfl rfl (by simp [Blk.low,zA,AV.low]))⟩
   ·apply R.r;cases a;replace a:=s;apply R.r;cases a;exact ⟨(s2.1,(IntKind.wrap .i64 (s1.2+(1:Int)))),z,wk.le LEL.o⟩
  ·apply R.r;cases a;replace a:=z;apply R.r;cases a;exact fz rfl rfl
theorem ok48 {t0:(List GA)} {res:Int}  (b:ref07Xsize t0 deep1=some res):Sp 48 [.sl 3 (t0.map GA.row),.int .i64 deep1] h (yo (.int .i64 res) h):=by
 obtain ⟨n,a⟩:=anyN_is b;exact ok48N n a
theorem ok20 {t0:(List GA)}  (a:ref07Great t0=some res):Sp 20 [.sl 3 (t0.map GA.row)] h (yo (.bool res) h):=by
 unfold ref07Great at a;refine zb Tryz.func20 rfl (by kernel_rfl) (yI 6 rfl) (R.r ?_);refine zd a (λc b a=>cp (ok48 b) (R.r ?_));cases a;exact fz rfl rfl
theorem ok4 {p:(List GI)} {s:(List GA)} {i:GM}  (a:law45Xgreat p s i=some res):Sp 4 [.sl 5 (p.map GI.row),.sl 3 (s.map GA.row),.agg (GM.row i)] h (yo (.bool res) h):=by
 unfold law45Xgreat at a;refine zb Tryz.func4 rfl (by kernel_rfl) (yI 45 rfl) (R.r ?_);refine ln λd=>?_;replace d:=zX d;apply R.r;refine zz (λ(u:Nat) (s1:Unit)=>zn 2 3 (zn 6 3 (zn 12 33 [(11,.int .i64 (u:Int))]))) (λs1=>h.ext [.cells (GM.row i)] []) a (λ_ _=>by simp only [zn,xU,ue,uf];try rfl) (wk.le LEL.o) ?_;intro u s1 w a;apply R.r;refine zC gg a (λA z k j a g=>?_) (λa=>?_)
 ·apply R.r;refine ix (zB j) (R.r ?_);refine ln λb=>?_;replace b:=zX b;apply R.r;refine ze gg a (λf a=>?_) (λf a=>?_)
  ·apply R.r;cases a;replace a:=g;apply R.r;cases a;exact fz rfl rfl
  ·apply R.r;cases a;exact ⟨(),k,g,wk.trans (wk.le (by exact (.eq (.eq (.drop (.drop (.drop (.eq (.drop (.drop (.drop (.eq (.eq (.cons (leV.of_eq (yN (by omega) (by omega))) (.d16 (.d16 (.drop leL.nil))))))))))))))))) (yj (by simp [zA,AV.low]) rfl rfl (by simp [Blk.low,zA,AV.low]))⟩
 ·apply R.r;refine ln λc=>?_;replace c:=zX c;apply R.r;refine zY a (λx e a=>zJ rfl sc (λy=>ok20 (e y)) ss (R.r ?_));refine lng λl=>R.r ?_;refine lng λm=>R.r ?_;refine lng λn=>R.r ?_;cases a;exact fz rfl rfl
theorem ok21 {a:Int} {res:GF}  (b:vC a=some res):Sp 21 [.int .u64 a] h (yo (.agg (GF.row res)) h):=by
 unfold vC at b;refine zb Tryz.func21 rfl (by kernel_rfl) (yI 6 rfl) (R.r ?_);refine zc rfl (ya (cs':=[.int .u8 (0:Int),.int .u32 (1:Int)]) rfl su27 ze27 pl27 (zg rfl zj) (.cons (za rfl) .nil) rfl rfl) ss (R.r ?_);refine zc rfl (ya (cs':=[.int .u8 (0:Int),.int .u32 (1:Int),.int .u64 a]) rfl su30 ze30 pl30 (zg gg (zg gg zj)) (.cons (za rfl) (.cons (za rfl) .nil)) rfl rfl) ss (R.r ?_);cases b;exact fz rfl rfl
theorem ok58 {b:Int}  (a:opIsNameC1 b=some res):Sp 58 [.int .i32 b] h (yo (.bool res) h):=by
 unfold opIsNameC1 at a;refine zb Tryz.func58 rfl (by kernel_rfl) (yI 25 rfl) (R.r ?_);cases a;exact fz rfl rfl
theorem ok133 {e:zx} {b:Bool} {res:Int} (p:∀x0 v (L:List Blk) (M:List Nat),f1 x0=some v->Sp ff1 (af1++[.int .i32 x0]++kf1) (h.ext L M) (yo (.bool v) (h.ext L M))) (a:vG e f1 b=some res):Sp 133 [.str e,.fn (.func ff1) af1 kf1,.bool b] h (yo (.int .i64 res) h):=by
 unfold vG at a;refine zH Tryz.func133 rfl (by kernel_rfl) (yI 21 rfl) (λc u=>?_);simp only [zA,AV.low,ud,uS,tK] at c;have j:∀n m,h.blks.length<=n->h.toks.length<=m->zA n m af1=true:=λn m i f=>yb i f _ (by simp [c]);have g:∀n m,h.blks.length<=n->h.toks.length<=m->zA n m kf1=true:=λn m i f=>yb i f _ (by simp [c]);apply R.r;refine zc rfl (e_range (n:=0) rfl ty9 gg rfl) ss (R.r ?_);refine yF (λ(s1:Nat)=>zn 3 7 (zn 11 10 [(0,.any)])) (λs1=>h.ext [.siter e s1] []) a (λ_=>by simp only [zn,xU,ue,uf];try rfl) (wk.le LEL.o) ?_;intro y s1 x a d;apply R.r;refine ops_nextF rfl rfl gg rfl ss ss a (λs a=>?_) (λa=>?_)
 ·apply R.r;refine r_cond gg (λ_=>?_) (λhh=>by cases hh);apply R.r;refine zd a (λw l a=>x7 rfl (scC rfl) (p _ _ _ _ l) ss (R.r ?_));refine zc rfl (vJ rfl gg gg (bin_boolE ty4)) ss (R.r ?_);refine ze gg a (λk a=>?_) (λk a=>?_)
  ·apply R.r;cases a;replace a:=d;apply R.r;cases a;exact fz rfl rfl
  ·apply R.r;cases a;exact ⟨(s1+(dec e s1).2),d,wk.le LEL.o⟩
 ·apply R.r;refine r_cond gg (λhh=>by cases hh) (λ_=>R.r ?_);cases a;replace a:=d;apply R.r;cases a;exact fz rfl rfl
theorem ok83 {j:zx} {res:Int} (d:∀x0 v (L:List Blk) (M:List Nat),f1 x0=some v->Sp ff1 (af1++[.int .i32 x0]++kf1) (h.ext L M) (yo (.bool v) (h.ext L M))) (b:vW j f1=some res):Sp 83 [.str j,.fn (.func ff1) af1 kf1] h (yo (.int .i64 res) h):=by
 unfold vW at b;refine zH Tryz.func83 rfl (by kernel_rfl) (yI 8 rfl) (λa l=>?_);simp only [zA,AV.low,ud,uS,tK] at a;have c:∀n m,h.blks.length<=n->h.toks.length<=m->zA n m af1=true:=λn m i e=>yb i e _ (by simp [a]);have f:∀n m,h.blks.length<=n->h.toks.length<=m->zA n m kf1=true:=λn m i e=>yb i e _ (by simp [a]);apply R.r;refine zd b (λo g b=>cp (ok133 (λx0 v L M k=>by rw [zQ];exact d x0 v _ _ k) g) (R.r ?_));cases b;exact fz rfl rfl
theorem ok59 {j:zx} (d:∀x0 v (L:List Blk) (M:List Nat),f1 x0=some v->Sp ff1 (af1++[.int .i32 x0]++kf1) (h.ext L M) (yo (.bool v) (h.ext L M))) (b:wh j f1=some res):Sp 59 [.str j,.fn (.func ff1) af1 kf1] h (yo (.bool res) h):=by
 unfold wh at b;refine zH Tryz.func59 rfl (by kernel_rfl) (yI 9 rfl) (λa l=>?_);simp only [zA,AV.low,ud,uS,tK] at a;have c:∀n m,h.blks.length<=n->h.toks.length<=m->zA n m af1=true:=λn m i e=>yb i e _ (by simp [a]);have f:∀n m,h.blks.length<=n->h.toks.length<=m->zA n m kf1=true:=λn m i e=>yb i e _ (by simp [a]);apply R.r;refine zd b (λo g b=>cp (ok83 (λx0 v L M k=>by rw [zQ];exact d x0 v _ _ k) g) (R.r ?_));cases b;exact fz rfl rfl
theorem ok29 {d:zx}  (b:opIsName d=some res):Sp 29 [.str d] h (yo (.bool res) h):=by
 unfold opIsName at b;refine zb Tryz.func29 rfl (by kernel_rfl) (yI 18 rfl) (R.r ?_);refine ln λa=>?_;replace a:=zX a;apply R.r;refine lng λg=>R.r ?_;refine zY b (λv3 c b=>zJ rfl sc (λf=>ok59 (λ_ v L M e=>ok58  e) (c f)) ss (R.r ?_));cases b;exact fz rfl rfl
theorem ok171 {b:(List Int)} {res:Int}  (a:cmpOrInt b=some res):Sp 171 [.sl 1 (b.map (intRow .i64))] h (yo (.int .i64 res) h):=by
 unfold cmpOrInt at a;refine zb Tryz.func171 rfl (by kernel_rfl) (yI 18 rfl) (R.r ?_);refine ln λc=>?_;replace c:=zX c;apply R.r;refine zz (λ(i:Nat) (s1:Unit)=>zn 0 3 (zn 4 2 (zn 9 9 [(8,.int .i64 (i:Int))]))) (λs1=>h.ext [] []) a (λ_ _=>by simp only [zn,xU,ue,uf];try rfl) (wk.le LEL.o) ?_;intro i s1 j a;apply R.r;refine zC gg a (λk l e g a d=>?_) (λa=>?_)
 ·apply R.r;refine ix (zB g) (R.r ?_);refine ze gg a (λf a=>?_) (λf a=>?_)
  ·apply R.r;cases a;replace a:=d;apply R.r;cases a;exact fz rfl rfl
  ·apply R.r;cases a;exact ⟨(),e,d,wk.le (by exact (.drop (.drop (.drop (.eq (.drop (.drop (.eq (.eq (.cons (leV.of_eq (yN (by omega) (by omega))) (.d4 (.d4 (.drop leL.nil)))))))))))))⟩
 ·apply R.r;cases a;exact fz rfl rfl
theorem ok204  (a:vA x0=some res):Sp 204 [.int .u32 x0] h (yo (.bool res) h):=by
 unfold vA at a;refine zb Tryz.func204 rfl (by kernel_rfl) (yI 6 rfl) (R.r ?_);cases a;exact fz rfl rfl
theorem ok193 {res:Int}  (a:va x0 y1=some res):Sp 193 [.int .u32 x0,.int .u32 y1] h (yo (.int .i64 res) h):=by
 unfold va at a;refine zb Tryz.func193 rfl (by kernel_rfl) (yI 20 rfl) (R.r ?_);refine zd a (λk f a=>cp (ok204 f) (R.r ?_));refine zd a (λj c a=>cp (ok204 c) (R.r ?_));refine ze gg a (λi a=>?_) (λi a=>?_)
 ·apply R.r;refine ze gg a (λd a=>?_) (λd a=>?_)
  ·apply R.r;cases a;exact fz rfl rfl
  ·apply R.r;cases a;exact fz rfl rfl
 ·apply R.r;refine ze gg a (λb a=>?_) (λb a=>?_)
  ·apply R.r;cases a;exact fz rfl rfl
  ·apply R.r;refine ze gg a (λe a=>?_) (λe a=>?_)
   ·apply R.r;cases a;exact fz rfl rfl
   ·apply R.r;refine ze gg a (λg a=>?_) (λg a=>?_)
    ·apply R.r;cases a;exact fz rfl rfl
    ·apply R.r;cases a;exact fz rfl rfl
theorem ok154  (a:vS x0=some res):Sp 154 [.int .u8 x0] h (yo (.bool res) h):=by
 unfold vS at a;refine zb Tryz.func154 rfl (by kernel_rfl) (yI 6 rfl) (R.r ?_);cases a;exact fz rfl rfl
theorem ok107 {res:Int}  (a:wg x0 y1=some res):Sp 107 [.int .u8 x0,.int .u8 y1] h (yo (.int .i64 res) h):=by
 unfold wg at a;refine zb Tryz.func107 rfl (by kernel_rfl) (yI 20 rfl) (R.r ?_);refine zd a (λk f a=>cp (ok154 f) (R.r ?_));refine zd a (λj c a=>cp (ok154 c) (R.r ?_));refine ze gg a (λi a=>?_) (λi a=>?_)
 ·apply R.r;refine ze gg a (λd a=>?_) (λd a=>?_)
  ·apply R.r;cases a;exact fz rfl rfl
  ·apply R.r;cases a;exact fz rfl rfl
 ·apply R.r;refine ze gg a (λb a=>?_) (λb a=>?_)
  ·apply R.r;cases a;exact fz rfl rfl
  ·apply R.r;refine ze gg a (λe a=>?_) (λe a=>?_)
   ·apply R.r;cases a;exact fz rfl rfl
   ·apply R.r;refine ze gg a (λg a=>?_) (λg a=>?_)
    ·apply R.r;cases a;exact fz rfl rfl
    ·apply R.r;cases a;exact fz rfl rfl
theorem ok172 {a0:GK} {f:GK} {res:Int}  (a:dotXcompare a0 f=some res):Sp 172 [.agg (GK.row a0),.agg (GK.row f)] h (yo (.int .i64 res) h):=by
 unfold dotXcompare at a;refine zb Tryz.func172 rfl (by kernel_rfl) (yI 17 rfl) (R.r ?_);refine yP [4,9,11] [] trivial mixed (by kernel_rfl) (R.r ?_);refine zd a (λi e a=>zS rfl rfl (λ_=>sc rfl) (by rintro _ ⟨B2,T2,rfl,b⟩;exact ok107 e) ss (R.r ?_));refine zd a (λg c a=>zS rfl rfl (λ_=>sc rfl) (by rintro _ ⟨B2,T2,rfl,b⟩;exact ok193 c) ss ?_);refine zt rfl rfl (zr (es:=([i,g]:List Int).map (intRow .i64)) rfl el215 ze3 rfl rfl (zg gg (zg gg zj)) (.cons (za rfl) (.cons (za rfl) .nil)) rfl rfl rfl) ss ?_;refine zd a (λv3 d a=>zS rfl rfl (λ_=>sc rfl) (by rintro _ ⟨B2,T2,rfl,b⟩;exact (ok171 d).le (.cons (leV.osl _ _ _) leL.nil)) ss (R.r ?_));cases a;exact fz rfl rfl
theorem ok194  (a:vz x0=some res):Sp 194 [.int .u64 x0] h (yo (.bool res) h):=by
 unfold vz at a;refine zb Tryz.func194 rfl (by kernel_rfl) (yI 6 rfl) (R.r ?_);cases a;exact fz rfl rfl
theorem ok173 {res:Int}  (a:wr x0 y1=some res):Sp 173 [.int .u64 x0,.int .u64 y1] h (yo (.int .i64 res) h):=by
 unfold wr at a;refine zb Tryz.func173 rfl (by kernel_rfl) (yI 20 rfl) (R.r ?_);refine zd a (λk f a=>cp (ok194 f) (R.r ?_));refine zd a (λj c a=>cp (ok194 c) (R.r ?_));refine ze gg a (λi a=>?_) (λi a=>?_)
 ·apply R.r;refine ze gg a (λd a=>?_) (λd a=>?_)
  ·apply R.r;cases a;exact fz rfl rfl
  ·apply R.r;cases a;exact fz rfl rfl
 ·apply R.r;refine ze gg a (λb a=>?_) (λb a=>?_)
  ·apply R.r;cases a;exact fz rfl rfl
  ·apply R.r;refine ze gg a (λe a=>?_) (λe a=>?_)
   ·apply R.r;cases a;exact fz rfl rfl
   ·apply R.r;refine ze gg a (λg a=>?_) (λg a=>?_)
    ·apply R.r;cases a;exact fz rfl rfl
    ·apply R.r;cases a;exact fz rfl rfl
theorem ok145 {a0:GF} {f:GF} {res:Int}  (a:vj a0 f=some res):Sp 145 [.agg (GF.row a0),.agg (GF.row f)] h (yo (.int .i64 res) h):=by
 unfold vj at a;refine zb Tryz.func145 rfl (by kernel_rfl) (yI 17 rfl) (R.r ?_);refine yP [4,9,11] [] trivial mixed (by kernel_rfl) (R.r ?_);refine zd a (λi e a=>zS rfl rfl (λ_=>sc rfl) (by rintro _ ⟨B2,T2,rfl,b⟩;exact ok172 e) ss (R.r ?_));refine zd a (λg c a=>zS rfl rfl (λ_=>sc rfl) (by rintro _ ⟨B2,T2,rfl,b⟩;exact ok173 c) ss ?_);refine zt rfl rfl (zr (es:=([i,g]:List Int).map (intRow .i64)) rfl el215 ze3 rfl rfl (zg gg (zg gg zj)) (.cons (za rfl) (.cons (za rfl) .nil)) rfl rfl rfl) ss ?_;refine zd a (λv3 d a=>zS rfl rfl (λ_=>sc rfl) (by rintro _ ⟨B2,T2,rfl,b⟩;exact (ok171 d).le (.cons (leV.osl _ _ _) leL.nil)) ss (R.r ?_));cases a;exact fz rfl rfl
theorem ok85 {a0:GK}  (a:dotMayActor a0=some res):Sp 85 [.agg (GK.row a0)] h (yo (.bool res) h):=by
 unfold dotMayActor at a;refine zb Tryz.func85 rfl (by kernel_rfl) (yI 16 rfl) (R.r ?_);cases a;exact fz rfl rfl
theorem ok61 {c:GF}  (a:dotMay c=some res):Sp 61 [.agg (GF.row c)] h (yo (.bool res) h):=by
 unfold dotMay at a;refine zb Tryz.func61 rfl (by kernel_rfl) (yI 16 rfl) (R.r ?_);refine zd a (λd b a=>cp (ok85 b) (R.r ?_));cases a;exact fz rfl rfl
theorem ok174 {u:(List GH)} {f1:(GH->Option Bool)} {res:Int} (s:∀x0 v (L:List Blk) (M:List Nat),f1 x0=some v->Sp ff1 (af1++[.agg (GH.row x0)]++kf1) (h.ext L M) (yo (.bool v) (h.ext L M))) (a:yL u f1=some res):Sp 174 [.sl 5 (u.map GH.row),.fn (.func ff1) af1 kf1] h (yo (.int .i64 res) h):=by
 unfold yL at a;refine zH Tryz.func174 rfl (by kernel_rfl) (yI 19 rfl) (λb y=>?_);simp only [zA,AV.low,ud,uS,tK] at b;have j:∀n m,h.blks.length<=n->h.toks.length<=m->zA n m af1=true:=λn m g e=>yb g e _ (by simp [b]);have f:∀n m,h.blks.length<=n->h.toks.length<=m->zA n m kf1=true:=λn m g e=>yb g e _ (by simp [b]);apply R.r;refine ln λc=>?_;replace c:=zX c;apply R.r;refine zz (λ(w:Nat) (s1:Unit)=>zn 2 5 (zn 9 10 [(8,.int .i64 (w:Int))])) (λs1=>h.ext [] []) a (λ_ _=>by simp only [zn,xU,ue,uf];try rfl) (wk.le LEL.o) ?_;intro w s1 x a;apply R.r;refine zC gg a (λB A p i a d=>?_) (λa=>?_)
 ·apply R.r;refine ix (zB i) (R.r ?_);refine zd a (λz l a=>x7 rfl (scC rfl) (s _ _ _ _ l) ss (R.r ?_));refine ze gg a (λk a=>?_) (λk a=>?_)
  ·apply R.r;cases a;replace a:=d;apply R.r;cases a;exact fz rfl rfl
  ·apply R.r;cases a;exact ⟨(),p,d,wk.le (by exact (.eq (.eq (.d4 (.drop (.eq (.cons (leV.of_eq (yN (by omega) (by omega))) (.d4 (.d4 (.drop (.drop leL.nil)))))))))))⟩
 ·apply R.r;cases a;exact fz rfl rfl
theorem okR174 {bl:Nat} {b:(List GH)} {f1:(GH->Option Bool)} {res:Int} (f:h.blks.length=bl) (j:h.toks.length=tl) (u:∀x0 v (L:List Blk) (M:List Nat),f1 x0=some v->Sp ff1 (af1++[.agg (GH.row x0)]++kf1) (h.ext L M) (yo (.bool v) (h.ext L M))) (l:∀n m,h.blks.length<=n->h.toks.length<=m->zA n m af1=true) (g:∀n m,h.blks.length<=n->h.toks.length<=m->zA n m kf1=true) (a:yL b f1=some res):Sp 174 [.rsl bl tl 5 b.length,.fn (.func ff1) af1 kf1] (h.ext [.row tl 5 (b.map GH.row)] [b.length]) (yo (.int .i64 res) (h.ext [.row tl 5 (b.map GH.row)] [b.length])):=by
 unfold yL at a;subst f j;refine zD Tryz.func174 rfl (by kernel_rfl) (yI 19 rfl) (R.r ?_);refine ln λc=>?_;replace c:=zX c;apply R.r;refine zz (λ(w:Nat) (s1:Unit)=>zn 2 5 (zn 9 10 [(8,.int .i64 (w:Int))])) (λs1=>h.ext [y4 h 0 5 (b.map GH.row)] [b.length]) a (λ_ _=>by simp only [zn,xU,ue,uf];try rfl) (wk.le LEL.o) ?_;intro w s1 x a;apply R.r;refine zC gg a (λy A s d a e=>?_) (λa=>?_)
 ·apply R.r;refine zc rfl (yG rfl el61 gg gg (xk (zB d) rfl)) ss ?_;refine zc rfl (w8 (off:=0) (i:=0) (q:=h.toks.length+0) (z:=(w:Int).toNat) (row:=GH.row) (λ_=>rfl) rfl ty60.choose_spec.1 (by decide) gg rfl rfl (wA (zB d)).2.2 (yq (cs':=(GH.row y)) ty60.choose_spec.2 rfl rfl) (za rfl)) ss ?_;refine zd a (λB k a=>x7 rfl (scC rfl) (u _ _ _ _ k) ss (R.r ?_));refine ze gg a (λp a=>?_) (λp a=>?_)
  ·apply R.r;cases a;replace a:=e;apply R.r;cases a;refine fr rfl (fin_extR (L:=[]) (M:=[]) rfl rfl (leV.refl _) rfl ?_);exact ⟨rfl,rfl⟩
  ·apply R.r;cases a;exact ⟨(),s,e,wk.le (by exact (.eq (.eq (.d4 (.drop (.eq (.cons (leV.of_eq (yN (by omega) (by omega))) (.d4 (.d4 (.drop (.drop leL.nil)))))))))))⟩
 ·apply R.r;cases a;refine fr rfl (fin_extR (L:=[]) (M:=[]) rfl rfl (leV.refl _) rfl ?_);exact ⟨rfl,rfl⟩
theorem ok179 {j:(List GH)} {f1:(GH->Option Bool)} (d:∀x0 v (L:List Blk) (M:List Nat),f1 x0=some v->Sp ff1 (af1++[.agg (GH.row x0)]++kf1) (h.ext L M) (yo (.bool v) (h.ext L M))) (b:xD j f1=some res):Sp 179 [.sl 5 (j.map GH.row),.fn (.func ff1) af1 kf1] h (yo (.bool res) h):=by
 unfold xD at b;refine zH Tryz.func179 rfl (by kernel_rfl) (yI 9 rfl) (λa l=>?_);simp only [zA,AV.low,ud,uS,tK] at a;have c:∀n m,h.blks.length<=n->h.toks.length<=m->zA n m af1=true:=λn m i e=>yb i e _ (by simp [a]);have f:∀n m,h.blks.length<=n->h.toks.length<=m->zA n m kf1=true:=λn m i e=>yb i e _ (by simp [a]);apply R.r;refine zd b (λo g b=>cp (ok174 (λx0 v L M k=>by rw [zQ];exact d x0 v _ _ k) g) (R.r ?_));cases b;exact fz rfl rfl
theorem ok180 {x0:GH} {b:GF} {i0:Nat} (a:h.blk i0=some (.cells (GF.row b))) (c:leafXhasC1 x0 b=some res):Sp 180 [.agg (GH.row x0),.ptr i0 0] h (yo (.bool res) h):=by
 unfold leafXhasC1 at c;refine zb Tryz.func180 rfl (by kernel_rfl) (yI 8 rfl) (R.r ?_);refine zc rfl (b_load rfl ty30.choose_spec.1 gg a (yq (cs':=(GF.row b)) ty30.choose_spec.2 rfl rfl) (za rfl)) ss ?_;refine zc rfl (vJ rfl gg gg (bin_eq pk30 rfl)) ss (R.r ?_);cases c;exact fz rfl rfl
theorem ok159 {c:(List GH)} {d:GF}  (a:leafXhas c d=some res):Sp 159 [.sl 5 (c.map GH.row),.agg (GF.row d)] h (yo (.bool res) h):=by
 unfold leafXhas at a;refine zb Tryz.func159 rfl (by kernel_rfl) (yI 8 rfl) (R.r ?_);refine zc rfl (wL rfl rfl rfl) ss ?_;refine zd a (λf b a=>cp (ok179 (λ_ v L M e=>ok180 (blk_ext2 (j:=0) rfl) e) b) (R.r ?_));cases a;exact fz rfl rfl
theorem ok128 {l:GC}  (a:leafXtombs l=some res):Sp 128 [.agg (GC.row l)] h (yo (.bool res) h):=by
 unfold leafXtombs at a;refine zb Tryz.func128 rfl (by kernel_rfl) (yI 38 rfl) (R.r ?_);refine ln λc=>?_;replace c:=zX c;apply R.r;refine zz (λ(n:Nat) (s1:Unit)=>zn 2 4 (zn 9 29 [(0,.any),(8,.int .i64 (n:Int))])) (λs1=>h.ext [.cells (GC.row l)] []) a (λ_ _=>by simp only [zn,xU,ue,uf];try rfl) (wk.le LEL.o) ?_;intro n s1 p a;apply R.r;refine zC gg a (λy x m k a i=>?_) (λa=>?_)
 ·apply R.r;refine ix (zB k) (R.r ?_);refine yP [1] [] trivial mixed (by kernel_rfl) (R.r ?_);refine zd a (λw f a=>zS rfl rfl (λ_=>sc rfl) (by rintro _ ⟨B2,T2,rfl,s⟩;exact ok61 f) ss (R.r ?_));refine zW a (λg a=>dgix g (R.r ?_));refine zY a (λu e a=>yZ rfl (aG_gv rfl rfl rfl) sc (λj=>ok145 (e j)) ss (R.r ?_));refine zY a (λv22 b a=>yZ rfl rfl sc (λj=>ok159 (b j)) ss (R.r ?_));refine ze gg a (λd a=>?_) (λd a=>?_)
  ·apply R.r;cases a;replace a:=i;apply R.r;cases a;exact fz rfl rfl
  ·apply R.r;cases a;exact ⟨(),m,i,wk.trans (wk.le (by exact (.drop (.eq (.d4 (.eq (.eq (.cons (leV.of_eq (yN (by omega) (by omega))) (.d16 (.d4 (.d4 (.d4 (.drop leL.nil))))))))))))) (yj (by simp [zA,AV.low]) rfl rfl (by simp [Blk.low,zA,AV.low]))⟩
 ·apply R.r;cases a;exact fz rfl rfl
theorem ok160 {f:(List GH)} {i:(List GH)}  (a:vq f i=some res):Sp 160 [.sl 5 (f.map GH.row),.sl 5 (i.map GH.row)] h (yo (.bool res) h):=by
 unfold vq at a;refine zb Tryz.func160 rfl (by kernel_rfl) (yI 26 rfl) (R.r ?_);refine ln λd=>?_;replace d:=zX d;apply R.r;refine ln λg=>?_;replace g:=zX g;apply R.r;refine ze gg a (λm a=>?_) (λm a=>?_)
 ·apply R.r;cases a;exact fz rfl rfl
 ·apply R.r;refine ln λb=>?_;replace b:=zX b;apply R.r;refine zz (λ(n:Nat) (s1:Unit)=>zn 2 10 (zn 14 12 [(13,.int .i64 (n:Int))])) (λs1=>h.ext [] []) a (λ_ _=>by simp only [zn,xU,ue,uf];try rfl) (wk.le LEL.o) ?_;intro n s1 p a;apply R.r;refine zC gg a (λw u l k a j=>?_) (λa=>?_)
  ·apply R.r;refine zL (by kernel_rfl) (R.r ?_);refine dix (zB k) (R.r ?_);refine zd a (λs c a=>dix c (R.r ?_));refine zt rfl rfl (vJ rfl gg gg (bin_ne pk60 rfl)) ss (R.r ?_);refine ze gg a (λe a=>?_) (λe a=>?_)
   ·apply R.r;cases a;replace a:=j;apply R.r;cases a;exact fz rfl rfl
   ·apply R.r;cases a;exact ⟨(),l,j,wk.le (by exact (.eq (.eq (.d4 (.d4 (.drop (.drop (.eq (.cons (leV.of_eq (yN (by omega) (by omega))) (.d4 (.d4 (.d4 leL.nil))))))))))))⟩
  ·apply R.r;cases a;exact fz rfl rfl
theorem ok161 {f:(List GF)} {i:(List GF)}  (a:vH f i=some res):Sp 161 [.sl 3 (f.map GF.row),.sl 3 (i.map GF.row)] h (yo (.bool res) h):=by
 unfold vH at a;refine zb Tryz.func161 rfl (by kernel_rfl) (yI 26 rfl) (R.r ?_);refine ln λd=>?_;replace d:=zX d;apply R.r;refine ln λg=>?_;replace g:=zX g;apply R.r;refine ze gg a (λm a=>?_) (λm a=>?_)
 ·apply R.r;cases a;exact fz rfl rfl
 ·apply R.r;refine ln λb=>?_;replace b:=zX b;apply R.r;refine zz (λ(n:Nat) (s1:Unit)=>zn 2 10 (zn 14 12 [(13,.int .i64 (n:Int))])) (λs1=>h.ext [] []) a (λ_ _=>by simp only [zn,xU,ue,uf];try rfl) (wk.le LEL.o) ?_;intro n s1 p a;apply R.r;refine zC gg a (λw u l k a j=>?_) (λa=>?_)
  ·apply R.r;refine zL (by kernel_rfl) (R.r ?_);refine dix (zB k) (R.r ?_);refine zd a (λs c a=>dix c (R.r ?_));refine zt rfl rfl (vJ rfl gg gg (bin_ne pk30 rfl)) ss (R.r ?_);refine ze gg a (λe a=>?_) (λe a=>?_)
   ·apply R.r;cases a;replace a:=j;apply R.r;cases a;exact fz rfl rfl
   ·apply R.r;cases a;exact ⟨(),l,j,wk.le (by exact (.eq (.eq (.d4 (.d4 (.drop (.drop (.eq (.cons (leV.of_eq (yN (by omega) (by omega))) (.d4 (.d4 (.d4 leL.nil))))))))))))⟩
  ·apply R.r;cases a;exact fz rfl rfl
theorem ok129 {a0:GC} {e:GC}  (b:leafSame a0 e=some res):Sp 129 [.agg (GC.row a0),.agg (GC.row e)] h (yo (.bool res) h):=by
 unfold leafSame at b;refine zb Tryz.func129 rfl (by kernel_rfl) (yI 52 rfl) (R.r ?_);refine qz rfl (λa=>vJ rfl (yf gg a) (yf gg a) (bin_eq pk30 rfl)) ss (R.r ?_);refine zY b (λg d b=>zJ rfl sc (λa=>ok160 (d a)) ss (R.r ?_));refine zY b (λf c b=>zJ rfl sc (λa=>ok161 (c a)) ss (R.r ?_));cases b;exact fz rfl rfl
theorem ok125 {a:Int}  (b:leafXisTime a=some res):Sp 125 [.int .u64 a] h (yo (.bool res) h):=by
 unfold leafXisTime at b;refine zb Tryz.func125 rfl (by kernel_rfl) (yI 9 rfl) (R.r ?_);cases b;exact fz rfl rfl
theorem ok126 {b:zx}  (c:qO b=some res):Sp 126 [.str b] h (yo (.bool res) h):=by
 unfold qO at c;refine zb Tryz.func126 rfl (by kernel_rfl) (yI 6 rfl) (R.r ?_);refine ln λa=>?_;replace a:=zX a;apply R.r;cases c;exact fz rfl rfl
theorem ok164 {a0:Int} {g:GF} {i:Int} {f:GF} {res:Int}  (a:qd a0 g i f=some res):Sp 164 [.int .u64 a0,.agg (GF.row g),.int .u64 i,.agg (GF.row f)] h (yo (.int .i64 res) h):=by
 unfold qd at a;refine zb Tryz.func164 rfl (by kernel_rfl) (yI 17 rfl) (R.r ?_);refine yP [2,5,7] [] trivial mixed (by kernel_rfl) (R.r ?_);refine zd a (λk e a=>zS rfl rfl (λ_=>sc rfl) (by rintro _ ⟨B2,T2,rfl,b⟩;exact ok173 e) ss (R.r ?_));refine zd a (λj c a=>zS rfl rfl (λ_=>sc rfl) (by rintro _ ⟨B2,T2,rfl,b⟩;exact ok145 c) ss ?_);refine zt rfl rfl (zr (es:=([k,j]:List Int).map (intRow .i64)) rfl el215 ze3 rfl rfl (zg gg (zg gg zj)) (.cons (za rfl) (.cons (za rfl) .nil)) rfl rfl rfl) ss ?_;refine zd a (λv3 d a=>zS rfl rfl (λ_=>sc rfl) (by rintro _ ⟨B2,T2,rfl,b⟩;exact (ok171 d).le (.cons (leV.osl _ _ _) leL.nil)) ss (R.r ?_));cases a;exact fz rfl rfl
theorem ok141 {b:Int} {f:GF} {a:Int} {e:GF}  (c:leafAhead b f a e=some res):Sp 141 [.int .u64 b,.agg (GF.row f),.int .u64 a,.agg (GF.row e)] h (yo (.bool res) h):=by
 unfold leafAhead at c;refine zb Tryz.func141 rfl (by kernel_rfl) (yI 15 rfl) (R.r ?_);refine zd c (λg d c=>cp (ok164 d) (R.r ?_));cases c;exact fz rfl rfl
theorem ok158 {l:(List GH)}  (a:leafXtwice l=some res):Sp 158 [.sl 5 (l.map GH.row)] h (yo (.bool res) h):=by
 unfold leafXtwice at a;refine zb Tryz.func158 rfl (by kernel_rfl) (yI 26 rfl) (R.r ?_);refine zc rfl (e_makeMap (n:=0) rfl rfl) ss (R.r ?_);refine ln λc=>?_;replace c:=zX c;apply R.r;refine zz (λ(p:Nat) (s1:List (GF×Int))=>zn 1 2 (zn 4 3 (zn 10 16 [(9,.int .i64 (p:Int))]))) (λs1=>h.ext [.mapo (s1.map (mrow (λx=>AV.agg (GF.row x)) (AV.int .i64))) 0] []) a (λ_ _=>by simp only [zn,xU,ue,uf];try rfl) (wk.le LEL.o) ?_;intro p s1 s a;apply R.r;refine zC gg a (λb u f i a g=>?_) (λa=>?_)
 ·apply R.r;refine ix (zB i) (R.r ?_);refine r_drawnF [3] (λ_=>MapE h 0 (s1.map (mrow (λx=>AV.agg (GF.row x)) (AV.int .i64))) ((ment GF.eqb (0:Int) s1 b.dot).map (mrow (λx=>AV.agg (GF.row x)) (AV.int .i64)))) (λ_=>⟨_,_,rfl,.inl rfl⟩) mixed (by kernel_rfl) (R.r ?_);refine xh rfl rfl (e_lookupF (m:=s1) (k:=b.dot) (d:=(0:Int)) (j:=0) (kv:=(λx=>AV.agg (GF.row x))) (vv:=(AV.int .i64)) rfl Tryz.underlying203 kq30 az3 gg gg) ss (R.r ?_);refine zF rfl (FOk.all ⟨_,_,rfl,.inr rfl⟩) (by kernel_rfl) rfl (e_entry (m:=s1) (k:=b.dot) (d:=(0:Int)) (j:=0) (kv:=(λx=>AV.agg (GF.row x))) (vv:=(AV.int .i64)) rfl Tryz.underlying203 kq30 az3 gg rfl gg rfl) ss (R.r ?_);refine zF rfl (FOk.skip (by kernel_rfl)) (by kernel_rfl) rfl (e_entryStore (m:=s1) (k:=b.dot) (d:=(0:Int)) (v:=(IntKind.wrap .i64 ((wQ GF.eqb (0:Int) s1 b.dot)+(1:Int)))) (j:=0) (eq:=GF.eqb) (kv:=(λx=>AV.agg (GF.row x))) (vv:=(AV.int .i64)) rfl gg rfl gg rfl gg rfl rfl) rfl (R.r ?_);cases a;exact ⟨(mput GF.eqb s1 b.dot (IntKind.wrap .i64 ((wQ GF.eqb (0:Int) s1 b.dot)+(1:Int)))),f,g,wk.trans (wk.le (by exact (.eq (.drop (.drop (.eq (.drop (.drop (.drop (.eq (.eq (.cons (leV.of_eq (yN (by omega) (by omega))) (.d16 leL.nil))))))))))))) (yj (by simp [zA,AV.low]) rfl rfl (by simp [Blk.low,zA,AV.low,GF.row,mrow]))⟩
 ·apply R.r;refine ops_mlen (m:=s1) (j:=0) (kv:=(λx=>AV.agg (GF.row x))) (vv:=(AV.int .i64)) rfl rfl rfl rfl rfl Tryz.underlying203 gg rfl ss (R.r ?_);refine ln λe=>?_;replace e:=zX e;apply R.r;cases a;exact fz rfl rfl
theorem ok127 {w:(List GH)} {b:Bool}  (a:leafXitems w b=some res):Sp 127 [.sl 5 (w.map GH.row),.bool b] h (yo (.bool res) h):=by
 unfold leafXitems at a;refine zb Tryz.func127 rfl (by kernel_rfl) (yI 66 rfl) (R.r ?_);refine ln λe=>?_;replace e:=zX e;apply R.r;refine zz (λ(x:Nat) (s1:Unit)=>zn 2 5 (zn 10 56 [(9,.int .i64 (x:Int))])) (λs1=>h.ext [] []) a (λ_ _=>by simp only [zn,xU,ue,uf];try rfl) (wk.le LEL.o) ?_;intro x s1 y a;apply R.r;refine zC gg a (λF E u s a d=>?_) (λa=>?_)
 ·apply R.r;refine ix (zB s) (R.r ?_);refine zd a (λz p a=>cp (ok61 p) (R.r ?_));refine zY a (λD f a=>zJ rfl sc (λc=>ok126 (f c)) ss (R.r ?_));refine zY a (λB g a=>zJ rfl sc (λc=>ok125 (g c)) ss ?_);refine qz rfl (λc=>vJ rfl (yf gg c) (yf gg c) (bin_boolN ty4)) ss (R.r ?_);refine ze gg a (λl a=>?_) (λl a=>?_)
  ·apply R.r;cases a;replace a:=d;apply R.r;cases a;exact fz rfl rfl
  ·apply R.r;refine zL (by kernel_rfl) (R.r ?_);refine zW a (λn a=>dgix n (R.r ?_));refine zW a (λm a=>dgix m (R.r ?_));refine zY a (λC k a=>yZ rfl rfl sc (λc=>ok141 (k c)) ss (R.r ?_));refine ze gg a (λj a=>?_) (λj a=>?_)
   ·apply R.r;cases a;replace a:=d;apply R.r;cases a;exact fz rfl rfl
   ·apply R.r;cases a;exact ⟨(),u,d,wk.trans (wk.le (by exact (.eq (.eq (.d4 (.drop (.eq (.eq (.cons (leV.of_eq (yN (by omega) (by omega))) (.d16 (.d16 (.d16 (.d4 (.d4 leL.nil)))))))))))))) (yj (by simp [zA,AV.low]) rfl rfl (by simp [Blk.low,zA,AV.low]))⟩
 ·apply R.r;refine zd a (λA i a=>cp (ok158 i) (R.r ?_));cases a;exact fz rfl rfl
theorem ok78 {b:GC}  (a:leafMay b=some res):Sp 78 [.agg (GC.row b)] h (yo (.bool res) h):=by
 unfold leafMay at a;refine zb Tryz.func78 rfl (by kernel_rfl) (yI 89 rfl) (R.r ?_);refine zc rfl (ya (cs':=[.int .u8 b.typ,.int .i64 (0:Int),.int .u64 (0:Int),.int .u8 (0:Int),.int .u32 (0:Int),.int .u64 (0:Int),.str ([]:zx),.osl none 5 (([]:List GH).map GH.row),.osl none 3 (([]:List GF).map GF.row)]) rfl su63 ze63 pl63 (zg gg zj) (.cons (za rfl) .nil) rfl rfl) ss (R.r ?_);refine ze gg a (λz a=>?_) (λz a=>?_)
 ·apply R.r;refine zd a (λG o a=>cp ((ok129 o).le (.eq (.cons (leV.agg (.eq (.eq (.eq (.eq (.eq (.eq (.eq (.cons (leV.osl _ _ _) (.cons (leV.osl _ _ _) leL.nil))))))))) rfl) leL.nil))) (R.r ?_));cases a;exact fz rfl rfl
 ·apply R.r;refine ze gg a (λy a=>?_) (λy a=>?_)
  ·apply R.r;refine yP [3,5] [(3,[(0,.cells (GC.row b))]),(5,[(0,.cells (GC.row b))])] ⟨⟨rfl,trivial⟩,⟨rfl,trivial⟩,trivial⟩ mixed (by kernel_rfl) (R.r ?_);refine xh rfl rfl (by rintro _ ⟨B2,T2,rfl,c⟩;exact xW rfl ty30.choose_spec.1 gg (vi c) (yq (cs':=(GF.row b.dot)) ty30.choose_spec.2 rfl rfl) (za rfl)) ss (R.r ?_);refine xh rfl rfl (by rintro _ ⟨B2,T2,rfl,c⟩;exact xW rfl ty9 gg (vi c) (yx rfl) (za rfl)) ss (R.r ?_);refine zF rfl (FOk.cons (.inr (yi ⟨rfl,trivial⟩)) (FOk.cons (.inr (yi ⟨rfl,trivial⟩)) FOk.nil)) (by kernel_rfl) rfl (yd (cs':=[.int .u8 b.typ,.int .i64 (0:Int),.int .u64 b.time,.int .u8 (0:Int),.int .u32 (0:Int),.int .u64 (0:Int),.str ([]:zx),.osl none 5 (([]:List GH).map GH.row),.osl none 3 (([]:List GF).map GF.row)]) rfl ty28 gg gg (za rfl) rfl rfl rfl rfl rfl) rfl (R.r ?_);refine zF rfl (FOk.cons (.inr (yi ⟨rfl,trivial⟩)) (FOk.cons (.inr (yi ⟨rfl,trivial⟩)) FOk.nil)) (by kernel_rfl) rfl (yd (cs':=[.int .u8 b.typ,.int .i64 (0:Int),.int .u64 b.time,.int .u8 b.dot.actor.rep,.int .u32 b.dot.actor.inc,.int .u64 b.dot.seq,.str ([]:zx),.osl none 5 (([]:List GH).map GH.row),.osl none 3 (([]:List GF).map GF.row)]) rfl ty30.choose_spec.1 gg gg (za rfl) rfl rfl rfl rfl rfl) rfl (R.r ?_);refine zF rfl (FOk.cons (.inr (yi ⟨rfl,trivial⟩)) (FOk.cons (.inr (yi ⟨rfl,trivial⟩)) FOk.nil)) (by kernel_rfl) rfl (yd (cs':=[.int .u8 b.typ,.int .i64 (0:Int),.int .u64 b.time,.int .u8 b.dot.actor.rep,.int .u32 b.dot.actor.inc,.int .u64 b.dot.seq,.str b.text,.osl none 5 (([]:List GH).map GH.row),.osl none 3 (([]:List GF).map GF.row)]) rfl ty9 gg gg (za rfl) rfl rfl rfl rfl rfl) rfl (R.r ?_);refine zY a (λv4 n a=>zJ rfl sc (λd=>ok125 (n d)) ss (R.r ?_));refine zY a (λv5 w a=>zJ (aG_gv rfl rfl rfl) sc (λd=>ok61 (w d)) ss (R.r ?_));refine zY a (λF x a=>zJ (aG_gv rfl rfl rfl) sc (λd=>ok126 (x d)) ss (R.r ?_));refine qz (aG_gv rfl rfl rfl) (λd=>ya (cs':=lit6x) rfl su30 ze30 pl30 zj .nil rfl rfl) ss ?_;refine qz (aG_gv rfl rfl rfl) (λd=>vJ rfl (yf gg d) (yf gg d) (bin_ne pk30 rfl)) ss (R.r ?_);refine ze gg a (λu a=>?_) (λu a=>?_)
   ·apply R.r;cases a;exact fz rfl rfl
   ·apply R.r;refine zd a (λH p a=>cp ((ok129 p).le (.eq (.cons (leV.agg (.eq (.eq (.eq (.eq (.eq (.eq (.eq (.cons (leV.osl _ _ _) (.cons (leV.osl _ _ _) leL.nil))))))))) rfl) leL.nil))) (R.r ?_));cases a;exact fz rfl rfl
  ·apply R.r;refine ze gg a (λs a=>?_) (λs a=>?_)
   ·apply R.r;refine yP [3] [(3,[(0,.cells (GC.row b))])] ⟨⟨rfl,trivial⟩,trivial⟩ mixed (by kernel_rfl) (R.r ?_);refine xh rfl rfl (by rintro _ ⟨B2,T2,rfl,c⟩;exact xW rfl ty32 gg (vi c) (yx rfl) (za rfl)) ss (R.r ?_);refine zF rfl (FOk.cons (.inr (yi ⟨rfl,trivial⟩)) FOk.nil) (by kernel_rfl) rfl (yd (cs':=[.int .u8 b.typ,.int .i64 (0:Int),.int .u64 (0:Int),.int .u8 (0:Int),.int .u32 (0:Int),.int .u64 (0:Int),.str ([]:zx),.sl 5 (b.items.map GH.row),.osl none 3 (([]:List GF).map GF.row)]) rfl ty61 gg gg (za rfl) rfl rfl rfl rfl rfl) rfl (R.r ?_);refine zF rfl (FOk.cons (.inr (yi ⟨rfl,trivial⟩)) FOk.nil) (by kernel_rfl) rfl (yd (cs':=[.int .u8 b.typ,.int .i64 (0:Int),.int .u64 (0:Int),.int .u8 (0:Int),.int .u32 (0:Int),.int .u64 (0:Int),.str ([]:zx),.sl 5 (b.items.map GH.row),.sl 3 (b.tombs.map GF.row)]) rfl ty32 gg gg (za rfl) rfl rfl rfl rfl rfl) rfl (R.r ?_);refine zd a (λB g a=>cp (ok127 g) (R.r ?_));refine zY a (λE l a=>zJ rfl sc (λd=>ok128 (l d)) ss (R.r ?_));refine ze gg a (λk a=>?_) (λk a=>?_)
    ·apply R.r;cases a;exact fz rfl rfl
    ·apply R.r;refine zd a (λA m a=>cp (ok129 m) (R.r ?_));cases a;exact fz rfl rfl
   ·apply R.r;refine ze gg a (λe a=>?_) (λe a=>?_)
    ·apply R.r;refine zd a (λC f a=>cp (ok127 f) (R.r ?_));refine ze gg a (λj a=>?_) (λj a=>?_)
     ·apply R.r;cases a;exact fz rfl rfl
     ·apply R.r;refine zd a (λD i a=>cp ((ok129 i).le (.eq (.cons (leV.agg (.eq (.eq (.eq (.eq (.eq (.eq (.eq (.eq (.cons (leV.osl _ _ _) leL.nil))))))))) rfl) leL.nil))) (R.r ?_));cases a;exact fz rfl rfl
    ·apply R.r;cases a;exact fz rfl rfl
theorem ok49N (n:Nat):∀{t0:(List GA)} {deep1:Int} {res:Bool} {h:AH} , qF n t0 deep1=some res->Sp 49 [.sl 3 (t0.map GA.row),.int .i64 deep1] h (yo (.bool res) h):=by
 induction n with
 | zero=>intro t0 deep1 res h  a;simp [qF] at a
 | succ n ih =>
  intro t0 deep1 res h  a;unfold qF at a;refine zb Tryz.func49 rfl (by kernel_rfl) (yI 89 rfl) (R.r ?_);refine ln λg=>?_;replace g:=zX g;apply R.r;refine ze gg a (λz a=>?_) (λz a=>?_)
  ·apply R.r;cases a;exact fz rfl rfl
  ·apply R.r;refine ln λl=>?_;replace l:=zX l;apply R.r;refine zz (λ(C:Nat) (s1:Unit)=>zn 2 14 (zn 19 70 [(18,.int .i64 (C:Int))])) (λs1=>h.ext [] []) a (λ_ _=>by simp only [zn,xU,ue,uf];try rfl) (wk.le LEL.o) ?_;intro C s1 D a;apply R.r;refine zC gg a (λB J A y a d=>?_) (λa=>?_)
   ·apply R.r;refine zc rfl (yh rfl el24 gg gg isl (zB y) (GA.row_eq _)) ss (R.r ?_);refine yP [2] [] trivial mixed (by kernel_rfl) (R.r ?_);refine zd a (λG p a=>zS rfl rfl (λ_=>sc rfl) (by rintro _ ⟨B2,T2,rfl,u⟩;exact ok29 p) ss (R.r ?_));refine zW a (λi a=>wl rfl (aG_gv rfl rfl rfl) (λb=>s_gidxRowE default rfl el24 (yf gg b) (yf gg b) isl (i b) (GA.row_eq _)) ss (R.r ?_));refine draw_glen rfl rfl (λb=>wG rfl rfl rfl rfl el64 (yf gg b) vP) ss (R.r ?_);refine draw_glen rfl rfl (λb=>wG rfl rfl rfl rfl el24 (yf gg b) vP) ss (R.r ?_);refine zY a (λE e a=>yZ rfl rfl sc (λb=>ih (e b)) ss (R.r ?_));refine ze gg a (λj a=>?_) (λj a=>?_)
    ·apply R.r;cases a;replace a:=d;apply R.r;cases a;exact fz rfl rfl
    ·apply R.r;refine ln λc=>?_;replace c:=zX c;apply R.r;refine zz (λ(n2:Nat) (s2:Unit)=>zn 2 4 (zn 7 9 (zn 19 42 (zn 64 25 [(63,.int .i64 (n2:Int))])))) (λs2=>h.ext [.cells [.str B.name,.sl 9 (B.leaves.map GC.row),.sl 3 (B.subs.map GA.row)]] []) a (λ_ _=>by simp only [zn,xU,ue,uf];try rfl) (wk.le LEL.o) ?_;intro n2 s2 F a;apply R.r;refine zC gg a (λK I x w a k=>?_) (λa=>?_)
     ·apply R.r;refine ix (zB w) (R.r ?_);refine yP [1] [] trivial mixed (by kernel_rfl) (R.r ?_);refine zd a (λH f a=>zS rfl rfl (λ_=>sc rfl) (by rintro _ ⟨B2,T2,rfl,u⟩;exact ok78 f) ss (R.r ?_));refine zW a (λs a=>dgix s (R.r ?_));refine ze gg a (λm a=>?_) (λm a=>?_)
      ·apply R.r;cases a;replace a:=k;apply R.r;cases a;replace a:=d;apply R.r;cases a;exact fz rfl rfl
      ·apply R.r;cases a;exact ⟨(),x,k,wk.trans (wk.le (by exact (.eq (.eq (.d4 (.eq (.d4 (.d4 (.drop (.eq (.eq (.eq (.d16 (.d16 (.d4 (.d4 (.drop (.drop (.eq (.eq (.cons (leV.of_eq (yN (by omega) (by omega))) (.d16 (.d4 (.d4 (.drop leL.nil))))))))))))))))))))))))) (yj (by simp [zA,AV.low]) rfl rfl (by simp [Blk.low,zA,AV.low]))⟩
     ·apply R.r;cases a;exact ⟨(),A,d,wk.trans (wk.le (by exact (.eq (.eq (.d4 (.d4 (.d4 (.drop (.drop (.eq (.eq (.cons (leV.of_eq (yN (by omega) (by omega))) (.d16 (.d16 (.d16 (.d16 (.d4 (.drop (.drop leL.nil))))))))))))))))))) (yj (by simp [zA,AV.low]) rfl rfl (by simp [Blk.low,zA,AV.low]))⟩
   ·apply R.r;cases a;exact fz rfl rfl
theorem ok49 {t0:(List GA)}  (b:treeXmay t0 deep1=some res):Sp 49 [.sl 3 (t0.map GA.row),.int .i64 deep1] h (yo (.bool res) h):=by
 obtain ⟨n,a⟩:=anyN_is b;exact ok49N n a
theorem ok22 {t0:(List GA)}  (a:treeMay t0=some res):Sp 22 [.sl 3 (t0.map GA.row)] h (yo (.bool res) h):=by
 unfold treeMay at a;refine zb Tryz.func22 rfl (by kernel_rfl) (yI 5 rfl) (R.r ?_);refine zd a (λc b a=>cp (ok49 b) (R.r ?_));cases a;exact fz rfl rfl
theorem ok79 {f:Int} {res:(List UInt8)} (k:h.toks.length=tl) (a:xl b0 f=some res):Sp 79 [.osl (some tl) 1 (b0.map zR),.int .u64 f] (h.ext [] [b0.length]) (yo (.osl (some tl) 1 (res.map zR)) (h.ext [] [res.length])):=by
 unfold xl at a;subst k;refine zD Tryz.func79 rfl (by kernel_rfl) (yI 20 rfl) (R.r ?_);refine yF (λ(s1:(List UInt8)×Int)=>zn 2 18 [(0,osA h 0 1 (s1.1.map zR)),(1,.int .u64 s1.2)]) (λs1=>h.ext [] [(s1.1).length]) a (λ_=>by simp only [zn,xU,ue,uf];try rfl) (wk.le LEL.o) ?_;intro f s1 l a d;apply R.r;refine ze gg a (λg a=>?_) (λg a=>?_)
 ·apply R.r;refine zc rfl (zM rfl ty28 ty5 gg rfl) ss (R.r ?_);refine zW a (λe a=>zc rfl (zr (es:=([(UInt8.ofNat (IntKind.wrap .u8 (((BitVec.ofInt (IntKind.bits .u8) (IntKind.wrap .u8 (s1.2)) ||| BitVec.ofInt (IntKind.bits .u8) (128:Int)).toNat:Int))).toNat)]:List UInt8).map zR) rfl el69 ze5 rfl rfl (zg gg zj) (.cons (za rfl) .nil) rfl rfl (by simp only [ux,tB,zR,byte_of e];rfl)) ss ?_);refine zW a (λi a=>zc rfl (yW (j:=0) (T':=[((s1.1++([(UInt8.ofNat (IntKind.wrap .u8 (((BitVec.ofInt (IntKind.bits .u8) (IntKind.wrap .u8 (s1.2)) ||| BitVec.ofInt (IntKind.bits .u8) (128:Int)).toNat:Int))).toNat)]:List UInt8))).length]) rfl rfl rfl rfl el69 el69 gg gg (za rfl) (za rfl) yB i rfl rfl) ss (R.r ?_));cases a;exact ⟨((s1.1++([(UInt8.ofNat (IntKind.wrap .u8 (((BitVec.ofInt (IntKind.bits .u8) (IntKind.wrap .u8 (s1.2)) ||| BitVec.ofInt (IntKind.bits .u8) (128:Int)).toNat:Int))).toNat)]:List UInt8)),(Int.fdiv s1.2 (2 ^ (min (7:Int).toNat (IntKind.bits .u64))))),d,wk.le LEL.o⟩
 ·apply R.r;cases a;replace a:=d;apply R.r;refine zc rfl (zM rfl ty28 ty5 gg rfl) ss ?_;refine zW a (λc a=>zc rfl (zr (es:=([(UInt8.ofNat (IntKind.wrap .u8 (s1.2)).toNat)]:List UInt8).map zR) rfl el69 ze5 rfl rfl (zg gg zj) (.cons (za rfl) .nil) rfl rfl (by simp only [ux,tB,zR,byte_of c];rfl)) ss ?_);refine zW a (λb a=>zc rfl (yW (j:=0) (T':=[((s1.1++([(UInt8.ofNat (IntKind.wrap .u8 (s1.2)).toNat)]:List UInt8))).length]) rfl rfl rfl rfl el69 el69 gg gg (za rfl) (za rfl) yB b rfl rfl) ss (R.r ?_));cases a;refine fr rfl (fin_tok ?_);exact ⟨rfl,rfl⟩
theorem ok80 {s1:zx} {res:(List UInt8)} (e:h.toks.length=tl) (a:w9 b0 s1=some res):Sp 80 [.osl (some tl) 1 (b0.map zR),.str s1] (h.ext [] [b0.length]) (yo (.osl (some tl) 1 (res.map zR)) (h.ext [] [res.length])):=by
 unfold w9 at a;subst e;refine zD Tryz.func80 rfl (by kernel_rfl) (yI 12 rfl) (R.r ?_);refine ln λb=>?_;replace b:=zX b;refine zc rfl (zM rfl ty3 ty28 gg rfl) ss ?_;refine zd a (λf c a=>zP rfl (sc rfl) (xn (T1:=[]) (T':=[f.length]) (ok79 (by rw [we];rfl) c) rfl rfl) ss (R.r ?_));refine zW a (λd a=>zc rfl (e_appST (j:=0) (T':=[((f++s1)).length]) rfl rfl rfl rfl el69 ty9 gg gg (za rfl) (za rfl) news_str d rfl rfl) ss (R.r ?_));cases a;refine fr rfl (fin_tok ?_);exact ⟨rfl,rfl⟩
theorem ok130 {d:Int} {res:(List UInt8)} (c:h.toks.length=tl) (a:codeInt b0 d=some res):Sp 130 [.osl (some tl) 1 (b0.map zR),.int .i64 d] (h.ext [] [b0.length]) (yo (.osl (some tl) 1 (res.map zR)) (h.ext [] [res.length])):=by
 unfold codeInt at a;subst c;refine zD Tryz.func130 rfl (by kernel_rfl) (yI 14 rfl) (R.r ?_);refine zc rfl (zM rfl ty2 ty28 gg rfl) ss (R.r ?_);refine zc rfl (zM rfl ty2 ty28 gg rfl) ss (R.r ?_);refine zd a (λe b a=>zP rfl (sc rfl) (xn (T1:=[]) (T':=[e.length]) (ok79 (by rw [we];rfl) b) rfl rfl) ss (R.r ?_));cases a;refine fr rfl (fin_tok ?_);exact ⟨rfl,rfl⟩
end Go.Vv
