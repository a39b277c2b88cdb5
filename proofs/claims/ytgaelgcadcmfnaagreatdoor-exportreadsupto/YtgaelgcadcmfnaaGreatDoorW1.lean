/- Each function that the law reaches computes what its reading says; printed by a program. -/
import Derived.Test.YtgaelgcadcmfnaaGreatDoorVvSh
import Derived.Test.YtgaelgcadcmfnaaGreatDoorVvLb
import Derived.Test.YtgaelgcadcmfnaaGreatDoorVvRb
import Derived.Test.YtgaelgcadcmfnaaGreatDoorVvSo
import Derived.Test.YtgaelgcadcmfnaaGreatDoorVvIn
import Derived.Test.YtgaelgcadcmfnaaGreatDoorVxeF
import Derived.Test.YtgaelgcadcmfnaaGreatDoorVvU
import Derived.Test.YtgaelgcadcmfnaaGreatDoorD
import Derived.Test.YtgaelgcadcmfnaaGreatDoorProg
set_option linter.all false
namespace Go.Vv
open Go Go.Proofs
set_option maxRecDepth 100000
set_option synthInstance.maxSize 100000
set_option synthInstance.maxHeartbeats 1000000
set_option maxHeartbeats 1000000
variable {h:AH} {n0 x0 y1 p1:Int} {res:Bool} {ff1:FuncId} {af1 kf1:List AV} {f1:(Int->Option Bool)}
section
variable {v a0 a1 a2 a3 a4 a5 a6 a7 a8 a9 a10 a11 a12 a13 a14 a15 a16 a17 a18 a19 a20 a21 a22 a23 a24 a25 a26 a27 a28 a29 a30 a31 a32 a33 a34 a35 a36 a37 a38 a39:AV} {r q:List AV} {t:Nat}
abbrev Sp:=Spec Tryz.prog
theorem gt0:yr (a0::r) (.tmp 0)=some a0:=rfl
theorem st0:qb (some 0) (a0::r) v=some (v::r):=rfl
theorem gt1:yr (a0::a1::r) (.tmp 1)=some a1:=rfl
theorem st1:qb (some 1) (a0::a1::r) v=some (a0::v::r):=rfl
theorem gt2:yr (a0::a1::a2::r) (.tmp 2)=some a2:=rfl
theorem st2:qb (some 2) (a0::a1::a2::r) v=some (a0::a1::v::r):=rfl
theorem gt4:yr (a0::a1::a2::a3::a4::r) (.tmp 4)=some a4:=rfl
theorem st4:qb (some 4) (a0::a1::a2::a3::a4::r) v=some (a0::a1::a2::a3::v::r):=rfl
theorem gt5:yr (a0::a1::a2::a3::a4::a5::r) (.tmp 5)=some a5:=rfl
theorem st5:qb (some 5) (a0::a1::a2::a3::a4::a5::r) v=some (a0::a1::a2::a3::a4::v::r):=rfl
theorem gt6:yr (a0::a1::a2::a3::a4::a5::a6::r) (.tmp 6)=some a6:=rfl
theorem st6:qb (some 6) (a0::a1::a2::a3::a4::a5::a6::r) v=some (a0::a1::a2::a3::a4::a5::v::r):=rfl
theorem gt7:yr (a0::a1::a2::a3::a4::a5::a6::a7::r) (.tmp 7)=some a7:=rfl
theorem st7:qb (some 7) (a0::a1::a2::a3::a4::a5::a6::a7::r) v=some (a0::a1::a2::a3::a4::a5::a6::v::r):=rfl
theorem gt8:yr (a0::a1::a2::a3::a4::a5::a6::a7::a8::r) (.tmp 8)=some a8:=rfl
theorem st8:qb (some 8) (a0::a1::a2::a3::a4::a5::a6::a7::a8::r) v=some (a0::a1::a2::a3::a4::a5::a6::a7::v::r):=rfl
theorem gt9:yr (a0::a1::a2::a3::a4::a5::a6::a7::a8::a9::r) (.tmp 9)=some a9:=rfl
theorem st9:qb (some 9) (a0::a1::a2::a3::a4::a5::a6::a7::a8::a9::r) v=some (a0::a1::a2::a3::a4::a5::a6::a7::a8::v::r):=rfl
theorem gt10:yr (a0::a1::a2::a3::a4::a5::a6::a7::a8::a9::a10::r) (.tmp 10)=some a10:=rfl
theorem st10:qb (some 10) (a0::a1::a2::a3::a4::a5::a6::a7::a8::a9::a10::r) v=some (a0::a1::a2::a3::a4::a5::a6::a7::a8::a9::v::r):=rfl
theorem gt30:yr (a0::a1::a2::a3::a4::a5::a6::a7::a8::a9::a10::a11::a12::a13::a14::a15::a16::a17::a18::a19::a20::a21::a22::a23::a24::a25::a26::a27::a28::a29::a30::r) (.tmp 30)=some a30:=rfl
theorem gt33:yr (a0::a1::a2::a3::a4::a5::a6::a7::a8::a9::a10::a11::a12::a13::a14::a15::a16::a17::a18::a19::a20::a21::a22::a23::a24::a25::a26::a27::a28::a29::a30::a31::a32::a33::r) (.tmp 33)=some a33:=rfl
theorem st34:qb (some 34) (a0::a1::a2::a3::a4::a5::a6::a7::a8::a9::a10::a11::a12::a13::a14::a15::a16::a17::a18::a19::a20::a21::a22::a23::a24::a25::a26::a27::a28::a29::a30::a31::a32::a33::a34::r) v=some (a0::a1::a2::a3::a4::a5::a6::a7::a8::a9::a10::a11::a12::a13::a14::a15::a16::a17::a18::a19::a20::a21::a22::a23::a24::a25::a26::a27::a28::a29::a30::a31::a32::a33::v::r):=rfl
theorem gk (h:yr r (.tmp t)=some v):yr (a0::a1::a2::a3::a4::a5::a6::a7::a8::a9::a10::a11::a12::a13::a14::a15::a16::a17::a18::a19::a20::a21::a22::a23::a24::a25::a26::a27::a28::a29::a30::a31::a32::a33::a34::a35::a36::a37::a38::a39::r) (.tmp (t+40))=some v:=h
theorem sk (h:qb (some t) r v=some q):qb (some (t+40)) (a0::a1::a2::a3::a4::a5::a6::a7::a8::a9::a10::a11::a12::a13::a14::a15::a16::a17::a18::a19::a20::a21::a22::a23::a24::a25::a26::a27::a28::a29::a30::a31::a32::a33::a34::a35::a36::a37::a38::a39::r) v=some (a0::a1::a2::a3::a4::a5::a6::a7::a8::a9::a10::a11::a12::a13::a14::a15::a16::a17::a18::a19::a20::a21::a22::a23::a24::a25::a26::a27::a28::a29::a30::a31::a32::a33::a34::a35::a36::a37::a38::a39::q):=congrArg (λx=>some (a0::a1::a2::a3::a4::a5::a6::a7::a8::a9::a10::a11::a12::a13::a14::a15::a16::a17::a18::a19::a20::a21::a22::a23::a24::a25::a26::a27::a28::a29::a30::a31::a32::a33::a34::a35::a36::a37::a38::a39::x)) (uF h)
end
def fvParts:Nat->AV
  | 1=>.fn (.func 57) [] []
  | 2=>.fn (.func 60) [] []
  | 3=>.fn (.func 62) [] []
  | 4=>.fn (.func 64) [] []
  | _=>.nilf
def fnParts:Nat->FuncId
  | 1=>57
  | 2=>60
  | 3=>62
  | 4=>64
  | _=>0
theorem fvtParts (P:Program) (t:TypeId) (c:Nat):tyfix P t (fvParts c)=fvParts c:=by unfold fvParts;split <;> rfl
def fvRead:Nat->AV
  | 1=>.fn (.func 59) [] []
  | 2=>.fn (.func 61) [] []
  | 3=>.fn (.func 63) [] []
  | 4=>.fn (.func 65) [] []
  | _=>.nilf
abbrev GI.row (x:GI):List AV:=[.int .u8 x.rep,.int .u32 x.inc]
abbrev GC.row (x:GC):List AV:=[.int .u8 x.actor.rep,.int .u32 x.actor.inc,.int .u64 x.seq]
abbrev GF.row (x:GF):List AV:=[.int .u64 x.time,.int .u8 x.dot.actor.rep,.int .u32 x.dot.actor.inc,.int .u64 x.dot.seq,.str x.text]
abbrev GE.row (x:GE):List AV:=[.int .u8 x.typ,.int .i64 x.n,.int .u64 x.time,.int .u8 x.dot.actor.rep,.int .u32 x.dot.actor.inc,.int .u64 x.dot.seq,.str x.text,.sl 5 (x.items.map GF.row),.sl 3 (x.tombs.map GC.row)]
abbrev GK.row (x:GK):List AV:=[.str x.word,fvParts x.parts,fvRead x.read]
abbrev GH.row (x:GH):List AV:=[.sl 1 (x.path.map zj),.int .u8 x.leaf.typ,.int .i64 x.leaf.n,.int .u64 x.leaf.time,.int .u8 x.leaf.dot.actor.rep,.int .u32 x.leaf.dot.actor.inc,.int .u64 x.leaf.dot.seq,.str x.leaf.text,.sl 5 (x.leaf.items.map GF.row),.sl 3 (x.leaf.tombs.map GC.row)]
mutual
def GA.row:GA->List AV
  | ⟨name,leaves,subs⟩=>[.str name,.sl 9 (leaves.map GE.row),.sl 3 (GA.rows subs)]
def GA.rows:List GA->List (List AV)
  | []=>[]
  | x::r=>x.row::GA.rows r
end
theorem GA.rows_eq (l:List GA):GA.rows l=l.map GA.row:=by
  induction l with
  | nil=>rfl
  | cons x r ih=>simp only [GA.rows,ux,ih]
theorem GA.row_eq (x:GA):x.row=[.str x.name,.sl 9 (x.leaves.map GE.row),.sl 3 (x.subs.map GA.row)]:=by
  cases x;simp only [GA.row,GA.rows_eq]
abbrev GJ.row (x:GJ):List AV:=[.sl 1 (x.path.map zj),.int .u8 x.typ,.bool x.had,.bool x.has,.int .u8 x.was.typ,.int .i64 x.was.n,.int .u64 x.was.time,.int .u8 x.was.dot.actor.rep,.int .u32 x.was.dot.actor.inc,.int .u64 x.was.dot.seq,.str x.was.text,.sl 5 (x.was.items.map GF.row),.sl 3 (x.was.tombs.map GC.row),.int .u8 x.is.typ,.int .i64 x.is.n,.int .u64 x.is.time,.int .u8 x.is.dot.actor.rep,.int .u32 x.is.dot.actor.inc,.int .u64 x.is.dot.seq,.str x.is.text,.sl 5 (x.is.items.map GF.row),.sl 3 (x.is.tombs.map GC.row)]
theorem ze30:xp Tryz.prog 30=some [.int .u8 0,.int .u32 0,.int .u64 0]:=by kernel_rfl
instance:ZE Tryz.prog 30 [.int .u8 0,.int .u32 0,.int .u64 0]:=⟨ze30⟩
noncomputable def sf28:Array Field:=match Tryz.prog.underlying 28 with | some (.struct fs)=>fs | _=>#[]
theorem su28:Tryz.prog.underlying 28=some (.struct sf28):=by kernel_rfl
theorem ze28:xp Tryz.prog 28=some [.int .u8 0,.int .u32 0]:=by kernel_rfl
instance:ZE Tryz.prog 28 [.int .u8 0,.int .u32 0]:=⟨ze28⟩
theorem pl28:vW Tryz.prog sf28=some [(0,1),(1,1)]:=by kernel_rfl
noncomputable def sf30:Array Field:=match Tryz.prog.underlying 30 with | some (.struct fs)=>fs | _=>#[]
theorem su30:Tryz.prog.underlying 30=some (.struct sf30):=by kernel_rfl
theorem pl30:vW Tryz.prog sf30=some [(0,2),(2,1)]:=by kernel_rfl
theorem ty30:∃d,Ty Tryz.prog 30 d 3/\z8 d=true:=⟨_,mkTy Tryz.underlying30 (by kernel_rfl),by kernel_rfl⟩
instance:TA Tryz.prog 30 3:=⟨ty30⟩
instance fo28x0:Fo Tryz.prog 28 0 0 5 1:=qG (by kernel_rfl) (by kernel_rfl)
instance ty5:Ty Tryz.prog 5 (.int .u8) 1:=mkTy Tryz.underlying5 (by kernel_rfl)
instance fo28x1:Fo Tryz.prog 28 1 1 26 1:=qG (by kernel_rfl) (by kernel_rfl)
instance ty26:Ty Tryz.prog 26 (.int .u32) 1:=mkTy Tryz.underlying26 (by kernel_rfl)
instance fo30x0:Fo Tryz.prog 30 0 0 28 2:=qG (by kernel_rfl) (by kernel_rfl)
theorem ty28:∃d,Ty Tryz.prog 28 d 2/\z8 d=true:=⟨_,mkTy Tryz.underlying28 (by kernel_rfl),by kernel_rfl⟩
instance:TA Tryz.prog 28 2:=⟨ty28⟩
instance fo30x1:Fo Tryz.prog 30 1 2 25 1:=qG (by kernel_rfl) (by kernel_rfl)
instance ty25:Ty Tryz.prog 25 (.int .u64) 1:=mkTy Tryz.underlying25 (by kernel_rfl)
instance ty9:Ty Tryz.prog 9 .string 1:=mkTy Tryz.underlying9 (by kernel_rfl)
instance el47:El Tryz.prog 47 3 1:=mkEl Tryz.underlying47 (by kernel_rfl)
instance ty3:Ty Tryz.prog 3 (.int .i64) 1:=mkTy Tryz.underlying3 (by kernel_rfl)
theorem mixed:Tryz.prog.follows .mixedOrders=true:=by kernel_rfl
theorem yv {Q:Exit->List AV->AH->Prop} {env:List AV} {B:List Blk} {T:List Nat} {id:Nat} {l:List Oper} (hd:drawOk ⟨l⟩ []=true) (a:zJ Tryz.prog ⟨l⟩ [] (λn=>KeepB h (lk [] n)) (Q .normal) 0 l env (h.ext B T)):vC Tryz.prog (.region id ⟨l⟩ true) Q env (h.ext B T):=zS [] [] trivial mixed hd a
theorem ze3:xp Tryz.prog 3=some [.int .i64 0]:=by kernel_rfl
instance:ZE Tryz.prog 3 [.int .i64 0]:=⟨ze3⟩
instance el31:El Tryz.prog 31 54 5:=mkEl Tryz.underlying31 (by kernel_rfl)
theorem ty54:∃d,Ty Tryz.prog 54 d 5/\z8 d=true:=⟨_,mkTy Tryz.underlying54 (by kernel_rfl),by kernel_rfl⟩
instance:TA Tryz.prog 54 5:=⟨ty54⟩
theorem ze54:xp Tryz.prog 54=some [.int .u64 0,.int .u8 0,.int .u32 0,.int .u64 0,.str []]:=by kernel_rfl
instance:ZE Tryz.prog 54 [.int .u64 0,.int .u8 0,.int .u32 0,.int .u64 0,.str []]:=⟨ze54⟩
instance fo54x1:Fo Tryz.prog 54 1 1 30 3:=qG (by kernel_rfl) (by kernel_rfl)
theorem pk30:PK Tryz.prog 30 [.i,.i,.i]:=mkPK (by kernel_rfl) (by kernel_rfl) (by kernel_rfl)
theorem kq30:KQ Tryz.prog 30 (λx=>AV.agg (GC.row x)) GC.eqb:=.struct su30 pk30 (λ_ _=>rfl) (λa=>by simp [GC.eqb])
theorem az3:aZeroM Tryz.prog 3=some ((AV.int .i64) (0:Int)):=by kernel_rfl
instance fo54x2:Fo Tryz.prog 54 2 4 9 1:=qG (by kernel_rfl) (by kernel_rfl)
instance fo54x0:Fo Tryz.prog 54 0 0 25 1:=qG (by kernel_rfl) (by kernel_rfl)
instance ty4:Ty Tryz.prog 4 .bool 1:=mkTy Tryz.underlying4 (by kernel_rfl)
instance fo34x6:Fo Tryz.prog 34 6 8 32 1:=qG (by kernel_rfl) (by kernel_rfl)
instance ty32:Ty Tryz.prog 32 (.slice 30) 1:=mkTy Tryz.underlying32 (by kernel_rfl)
instance el32:El Tryz.prog 32 30 3:=mkEl Tryz.underlying32 (by kernel_rfl)
instance fo34x5:Fo Tryz.prog 34 5 7 31 1:=qG (by kernel_rfl) (by kernel_rfl)
instance ty31:Ty Tryz.prog 31 (.slice 54) 1:=mkTy Tryz.underlying31 (by kernel_rfl)
theorem pk54:PK Tryz.prog 54 [.i,.i,.i,.i,.s]:=mkPK (by kernel_rfl) (by kernel_rfl) (by kernel_rfl)
instance fo34x0:Fo Tryz.prog 34 0 0 5 1:=qG (by kernel_rfl) (by kernel_rfl)
instance fo34x1:Fo Tryz.prog 34 1 1 2 1:=qG (by kernel_rfl) (by kernel_rfl)
instance ty2:Ty Tryz.prog 2 (.int .i64) 1:=mkTy Tryz.underlying2 (by kernel_rfl)
instance fo34x2:Fo Tryz.prog 34 2 2 25 1:=qG (by kernel_rfl) (by kernel_rfl)
instance fo34x3:Fo Tryz.prog 34 3 3 30 3:=qG (by kernel_rfl) (by kernel_rfl)
instance fo34x4:Fo Tryz.prog 34 4 6 9 1:=qG (by kernel_rfl) (by kernel_rfl)
noncomputable def sf34:Array Field:=match Tryz.prog.underlying 34 with | some (.struct fs)=>fs | _=>#[]
theorem su34:Tryz.prog.underlying 34=some (.struct sf34):=by kernel_rfl
theorem ze34:xp Tryz.prog 34=some [.int .u8 0,.int .i64 0,.int .u64 0,.int .u8 0,.int .u32 0,.int .u64 0,.str [],.osl none 5 [],.osl none 3 []]:=by kernel_rfl
instance:ZE Tryz.prog 34 [.int .u8 0,.int .i64 0,.int .u64 0,.int .u8 0,.int .u32 0,.int .u64 0,.str [],.osl none 5 [],.osl none 3 []]:=⟨ze34⟩
theorem pl34:vW Tryz.prog sf34=some [(0,1),(1,1),(2,1),(3,3),(6,1),(7,1),(8,1)]:=by kernel_rfl
theorem ty34:∃d,Ty Tryz.prog 34 d 9/\z8 d=true:=⟨_,mkTy Tryz.underlying34 (by kernel_rfl),by kernel_rfl⟩
instance:TA Tryz.prog 34 9:=⟨ty34⟩
instance el24:El Tryz.prog 24 9 1:=mkEl Tryz.underlying24 (by kernel_rfl)
theorem ze9:xp Tryz.prog 9=some [.str []]:=by kernel_rfl
instance:ZE Tryz.prog 9 [.str []]:=⟨ze9⟩
theorem ze72:xp Tryz.prog 72=some [.str [],.nilf,.nilf,.str [],.nilf,.nilf,.str [],.nilf,.nilf,.str [],.nilf,.nilf,.str [],.nilf,.nilf]:=by kernel_rfl
instance:ZE Tryz.prog 72 [.str [],.nilf,.nilf,.str [],.nilf,.nilf,.str [],.nilf,.nilf,.str [],.nilf,.nilf,.str [],.nilf,.nilf]:=⟨ze72⟩
noncomputable def sf71:Array Field:=match Tryz.prog.underlying 71 with | some (.struct fs)=>fs | _=>#[]
theorem su71:Tryz.prog.underlying 71=some (.struct sf71):=by kernel_rfl
theorem ze71:xp Tryz.prog 71=some [.str [],.nilf,.nilf]:=by kernel_rfl
instance:ZE Tryz.prog 71 [.str [],.nilf,.nilf]:=⟨ze71⟩
theorem pl71:vW Tryz.prog sf71=some [(0,1),(1,1),(2,1)]:=by kernel_rfl
instance ty72:Ty Tryz.prog 72 (.array 5 71) 15:=mkTy Tryz.underlying72 (by kernel_rfl)
theorem ty71:∃d,Ty Tryz.prog 71 d 3/\z8 d=true:=⟨_,mkTy Tryz.underlying71 (by kernel_rfl),by kernel_rfl⟩
instance:TA Tryz.prog 71 3:=⟨ty71⟩
instance fo36x0:Fo Tryz.prog 36 0 0 24 1:=qG (by kernel_rfl) (by kernel_rfl)
instance ty24:Ty Tryz.prog 24 (.slice 9) 1:=mkTy Tryz.underlying24 (by kernel_rfl)
instance fo36x1:Fo Tryz.prog 36 1 1 34 9:=qG (by kernel_rfl) (by kernel_rfl)
instance fo71x0:Fo Tryz.prog 71 0 0 9 1:=qG (by kernel_rfl) (by kernel_rfl)
instance fo71x1:Fo Tryz.prog 71 1 1 68 1:=qG (by kernel_rfl) (by kernel_rfl)
instance ty68:Ty Tryz.prog 68 (.func #[34] #[24] false) 1:=mkTy Tryz.underlying68 (by kernel_rfl)
noncomputable def sf36:Array Field:=match Tryz.prog.underlying 36 with | some (.struct fs)=>fs | _=>#[]
theorem su36:Tryz.prog.underlying 36=some (.struct sf36):=by kernel_rfl
theorem ze36:xp Tryz.prog 36=some [.osl none 1 [],.int .u8 0,.int .i64 0,.int .u64 0,.int .u8 0,.int .u32 0,.int .u64 0,.str [],.osl none 5 [],.osl none 3 []]:=by kernel_rfl
instance:ZE Tryz.prog 36 [.osl none 1 [],.int .u8 0,.int .i64 0,.int .u64 0,.int .u8 0,.int .u32 0,.int .u64 0,.str [],.osl none 5 [],.osl none 3 []]:=⟨ze36⟩
theorem pl36:vW Tryz.prog sf36=some [(0,1),(1,9)]:=by kernel_rfl
noncomputable def sf54:Array Field:=match Tryz.prog.underlying 54 with | some (.struct fs)=>fs | _=>#[]
theorem su54:Tryz.prog.underlying 54=some (.struct sf54):=by kernel_rfl
theorem pl54:vW Tryz.prog sf54=some [(0,1),(1,3),(4,1)]:=by kernel_rfl
instance ty23:Ty Tryz.prog 23 (.slice 94) 1:=mkTy Tryz.underlying23 (by kernel_rfl)
instance el23:El Tryz.prog 23 94 3:=mkEl Tryz.underlying23 (by kernel_rfl)
theorem ty94:∃d,Ty Tryz.prog 94 d 3/\z8 d=true:=⟨_,mkTy Tryz.underlying94 (by kernel_rfl),by kernel_rfl⟩
instance:TA Tryz.prog 94 3:=⟨ty94⟩
theorem ze94:xp Tryz.prog 94=some [.str [],.osl none 9 [],.osl none 3 []]:=by kernel_rfl
instance:ZE Tryz.prog 94 [.str [],.osl none 9 [],.osl none 3 []]:=⟨ze94⟩
instance fo94x0:Fo Tryz.prog 94 0 0 9 1:=qG (by kernel_rfl) (by kernel_rfl)
instance fo94x1:Fo Tryz.prog 94 1 1 92 1:=qG (by kernel_rfl) (by kernel_rfl)
instance ty92:Ty Tryz.prog 92 (.slice 34) 1:=mkTy Tryz.underlying92 (by kernel_rfl)
instance el92:El Tryz.prog 92 34 9:=mkEl Tryz.underlying92 (by kernel_rfl)
instance ty132:Ty Tryz.prog 132 (.func #[36] #[4] false) 1:=mkTy Tryz.underlying132 (by kernel_rfl)
instance fo94x2:Fo Tryz.prog 94 2 2 23 1:=qG (by kernel_rfl) (by kernel_rfl)
theorem ty36:∃d,Ty Tryz.prog 36 d 10/\z8 d=true:=⟨_,mkTy Tryz.underlying36 (by kernel_rfl),by kernel_rfl⟩
instance:TA Tryz.prog 36 10:=⟨ty36⟩
instance el59:El Tryz.prog 59 36 10:=mkEl Tryz.underlying59 (by kernel_rfl)
instance ty59:Ty Tryz.prog 59 (.slice 36) 1:=mkTy Tryz.underlying59 (by kernel_rfl)
theorem ze24:xp Tryz.prog 24=some [.osl none 1 []]:=by kernel_rfl
instance:ZE Tryz.prog 24 [.osl none 1 []]:=⟨ze24⟩
instance el117:El Tryz.prog 117 71 3:=mkEl Tryz.underlying117 (by kernel_rfl)
instance fo71x2:Fo Tryz.prog 71 2 2 69 1:=qG (by kernel_rfl) (by kernel_rfl)
instance ty69:Ty Tryz.prog 69 (.func #[119,3,9] #[4] false) 1:=mkTy Tryz.underlying69 (by kernel_rfl)
theorem ze25:xp Tryz.prog 25=some [.int .u64 0]:=by kernel_rfl
instance:ZE Tryz.prog 25 [.int .u64 0]:=⟨ze25⟩
instance el56:El Tryz.prog 56 5 1:=mkEl Tryz.underlying56 (by kernel_rfl)
theorem ze5:xp Tryz.prog 5=some [.int .u8 0]:=by kernel_rfl
instance:ZE Tryz.prog 5 [.int .u8 0]:=⟨ze5⟩
instance fo89x0:Fo Tryz.prog 89 0 0 24 1:=qG (by kernel_rfl) (by kernel_rfl)
instance fo89x1:Fo Tryz.prog 89 1 1 5 1:=qG (by kernel_rfl) (by kernel_rfl)
instance el82:El Tryz.prog 82 89 22:=mkEl Tryz.underlying82 (by kernel_rfl)
theorem ty89:∃d,Ty Tryz.prog 89 d 22/\z8 d=true:=⟨_,mkTy Tryz.underlying89 (by kernel_rfl),by kernel_rfl⟩
instance:TA Tryz.prog 89 22:=⟨ty89⟩
abbrev yD:List AV:=[.str ([]:zd),.nilf,.nilf,.str ([99,111,117,110,116,101,114]:zd),.fn (.func 57) [] [],.fn (.func 59) [] [],.str ([114,101,103,105,115,116,101,114]:zd),.fn (.func 60) [] [],.fn (.func 61) [] [],.str ([115,101,116]:zd),.fn (.func 62) [] [],.fn (.func 63) [] [],.str ([108,111,103]:zd),.fn (.func 64) [] [],.fn (.func 65) [] []]
abbrev lit1x:List AV:=[.int .u8 (0:Int),.int .i64 (0:Int),.int .u64 (0:Int),.int .u8 (0:Int),.int .u32 (0:Int),.int .u64 (0:Int),.str ([]:zd),.osl none 5 (([]:List GF).map GF.row),.osl none 3 (([]:List GC).map GC.row)]
abbrev lit2x:List AV:=[.int .u8 (0:Int),.int .u32 (0:Int),.int .u64 (0:Int)]
abbrev lit3x:List AV:=[.int .u64 (0:Int),.int .u8 (0:Int),.int .u32 (0:Int),.int .u64 (0:Int),.str ([]:zd)]
abbrev lit4x:List AV:=[.osl none 1 [],.int .u8 0,.bool false,.bool false,.int .u8 0,.int .i64 0,.int .u64 0,.int .u8 0,.int .u32 0,.int .u64 0,.str [],.osl none 5 [],.osl none 3 [],.int .u8 0,.int .i64 0,.int .u64 0,.int .u8 0,.int .u32 0,.int .u64 0,.str [],.osl none 5 [],.osl none 3 []]
abbrev lit5x:List AV:=[.str ([114,101,103,105,115,116,101,114]:zd),.fn (.func 60) [] [],.fn (.func 61) [] []]
theorem ze89:xp Tryz.prog 89=some lit4x:=by kernel_rfl
instance:ZE Tryz.prog 89 lit4x:=⟨ze89⟩
instance fo89x2:Fo Tryz.prog 89 2 2 4 1:=qG (by kernel_rfl) (by kernel_rfl)
instance fo89x3:Fo Tryz.prog 89 3 3 4 1:=qG (by kernel_rfl) (by kernel_rfl)
instance fo89x4:Fo Tryz.prog 89 4 4 34 9:=qG (by kernel_rfl) (by kernel_rfl)
instance fo89x5:Fo Tryz.prog 89 5 13 34 9:=qG (by kernel_rfl) (by kernel_rfl)
noncomputable def sf94:Array Field:=match Tryz.prog.underlying 94 with | some (.struct fs)=>fs | _=>#[]
theorem su94:Tryz.prog.underlying 94=some (.struct sf94):=by kernel_rfl
theorem pl94:vW Tryz.prog sf94=some [(0,1),(1,1),(2,1)]:=by kernel_rfl
instance ty208:Ty Tryz.prog 208 (.int .u64) 1:=mkTy Tryz.underlying208 (by kernel_rfl)
noncomputable def sf89:Array Field:=match Tryz.prog.underlying 89 with | some (.struct fs)=>fs | _=>#[]
theorem su89:Tryz.prog.underlying 89=some (.struct sf89):=by kernel_rfl
theorem pl89:vW Tryz.prog sf89=some [(0,1),(1,1),(2,1),(3,1),(4,9),(13,9)]:=by kernel_rfl
abbrev GLeafRw (x:GE) (p q:AV):List AV:=[.int .u8 x.typ,.int .i64 x.n,.int .u64 x.time,.int .u8 x.dot.actor.rep,.int .u32 x.dot.actor.inc,.int .u64 x.dot.seq,.str x.text,p,q]
theorem ok18 {res:GC}  (a:vT n0=some res):Sp 18 [.int .u64 n0] h (yu (.agg (GC.row res)) h):=by
 unfold vT at a;refine zb Tryz.func18 rfl (by kernel_rfl) (yw 6 rfl) (R.r ?_);refine zc rfl (yb (cs':=[.int .u8 (0:Int),.int .u32 (1:Int)]) rfl su28 ze28 pl28 (ze rfl zk) (.cons (za rfl) .nil) rfl rfl) ss (R.r ?_);refine zc rfl (yb (cs':=[.int .u8 (0:Int),.int .u32 (1:Int),.int .u64 n0]) rfl su30 ze30 pl30 (ze gg (ze gg zk)) (.cons (za rfl) (.cons (za rfl) .nil)) rfl rfl) ss (R.r ?_);cases a;exact fz rfl rfl
theorem ok51  (a:leafXisTime n0=some res):Sp 51 [.int .u64 n0] h (yu (.bool res) h):=by
 unfold leafXisTime at a;refine zb Tryz.func51 rfl (by kernel_rfl) (yw 9 rfl) (R.r ?_);cases a;exact fz rfl rfl
theorem ok96 {a0:GI}  (a:dotMayActor a0=some res):Sp 96 [.agg (GI.row a0)] h (yu (.bool res) h):=by
 unfold dotMayActor at a;refine zb Tryz.func96 rfl (by kernel_rfl) (yw 16 rfl) (R.r ?_);cases a;exact fz rfl rfl
theorem ok52 {c:GC}  (a:dotMay c=some res):Sp 52 [.agg (GC.row c)] h (yu (.bool res) h):=by
 unfold dotMay at a;refine zb Tryz.func52 rfl (by kernel_rfl) (yw 16 rfl) (R.r ?_);refine zf a (λv1 b a=>cp (ok96 b) (R.r ?_));cases a;exact fz rfl rfl
theorem ok53 {b:zd}  (c:qm b=some res):Sp 53 [.str b] h (yu (.bool res) h):=by
 unfold qm at c;refine zb Tryz.func53 rfl (by kernel_rfl) (yw 6 rfl) (R.r ?_);refine ln λa=>?_;replace a:=zY a;apply R.r;cases c;exact fz rfl rfl
theorem ok77 {b:(List Int)} {res:Int}  (a:qE b=some res):Sp 77 [.sl 1 (b.map (intRow .i64))] h (yu (.int .i64 res) h):=by
 unfold qE at a;refine zb Tryz.func77 rfl (by kernel_rfl) (yw 18 rfl) (R.r ?_);refine ln λc=>?_;replace c:=zY c;apply R.r;refine zF (λ(i:Nat) (j:Unit)=>zy 0 3 (zy 4 2 (zy 9 9 [(8,.int .i64 (i:Int))]))) (λj=>h.ext [] []) a (λ_ _=>by simp only [zy,vf,ui,uk];try rfl) (wk.le LEL.o) ?_;intro i j k a;apply R.r;refine zL gg a (λl m e g a d=>?_) (λa=>?_)
 ·apply R.r;refine ix (zG g) (R.r ?_);refine zg gg a (λf a=>?_) (λf a=>?_)
  ·apply R.r;cases a;replace a:=d;apply R.r;cases a;exact fz rfl rfl
  ·apply R.r;cases a;exact ⟨(),e,d,wk.le (by exact (.drop (.drop (.drop (.eq (.drop (.drop (.eq (.eq (.cons (leV.of_eq (yX (by omega) (by omega))) (.d4 (.d4 (.drop leL.nil)))))))))))))⟩
 ·apply R.r;cases a;exact fz rfl rfl
theorem ok209  (a:wZ x0=some res):Sp 209 [.int .u32 x0] h (yu (.bool res) h):=by
 unfold wZ at a;refine zb Tryz.func209 rfl (by kernel_rfl) (yw 6 rfl) (R.r ?_);cases a;exact fz rfl rfl
theorem ok179 {res:Int}  (a:wB x0 y1=some res):Sp 179 [.int .u32 x0,.int .u32 y1] h (yu (.int .i64 res) h):=by
 unfold wB at a;refine zb Tryz.func179 rfl (by kernel_rfl) (yw 20 rfl) (R.r ?_);refine zf a (λv1 f a=>cp (ok209 f) (R.r ?_));refine zf a (λv2 c a=>cp (ok209 c) (R.r ?_));refine zg gg a (λi a=>?_) (λi a=>?_)
 ·apply R.r;refine zg gg a (λd a=>?_) (λd a=>?_)
  ·apply R.r;cases a;exact fz rfl rfl
  ·apply R.r;cases a;exact fz rfl rfl
 ·apply R.r;refine zg gg a (λb a=>?_) (λb a=>?_)
  ·apply R.r;cases a;exact fz rfl rfl
  ·apply R.r;refine zg gg a (λe a=>?_) (λe a=>?_)
   ·apply R.r;cases a;exact fz rfl rfl
   ·apply R.r;refine zg gg a (λg a=>?_) (λg a=>?_)
    ·apply R.r;cases a;exact fz rfl rfl
    ·apply R.r;cases a;exact fz rfl rfl
theorem ok118  (a:vA x0=some res):Sp 118 [.int .u8 x0] h (yu (.bool res) h):=by
 unfold vA at a;refine zb Tryz.func118 rfl (by kernel_rfl) (yw 6 rfl) (R.r ?_);cases a;exact fz rfl rfl
theorem ok79 {res:Int}  (a:xg x0 y1=some res):Sp 79 [.int .u8 x0,.int .u8 y1] h (yu (.int .i64 res) h):=by
 unfold xg at a;refine zb Tryz.func79 rfl (by kernel_rfl) (yw 20 rfl) (R.r ?_);refine zf a (λv1 f a=>cp (ok118 f) (R.r ?_));refine zf a (λv2 c a=>cp (ok118 c) (R.r ?_));refine zg gg a (λi a=>?_) (λi a=>?_)
 ·apply R.r;refine zg gg a (λd a=>?_) (λd a=>?_)
  ·apply R.r;cases a;exact fz rfl rfl
  ·apply R.r;cases a;exact fz rfl rfl
 ·apply R.r;refine zg gg a (λb a=>?_) (λb a=>?_)
  ·apply R.r;cases a;exact fz rfl rfl
  ·apply R.r;refine zg gg a (λe a=>?_) (λe a=>?_)
   ·apply R.r;cases a;exact fz rfl rfl
   ·apply R.r;refine zg gg a (λg a=>?_) (λg a=>?_)
    ·apply R.r;cases a;exact fz rfl rfl
    ·apply R.r;cases a;exact fz rfl rfl
theorem ok148 {a0:GI} {f:GI} {res:Int}  (a:dotXcompare a0 f=some res):Sp 148 [.agg (GI.row a0),.agg (GI.row f)] h (yu (.int .i64 res) h):=by
 unfold dotXcompare at a;refine zb Tryz.func148 rfl (by kernel_rfl) (yw 17 rfl) (R.r ?_);refine zS [4,9,11] [] trivial mixed (by kernel_rfl) (R.r ?_);refine zf a (λv1 e a=>zr rfl rfl (λ_=>sc rfl) (by rintro _ ⟨B2,T2,rfl,b⟩;exact ok79 e) ss (R.r ?_));refine zf a (λv2 c a=>zr rfl rfl (λ_=>sc rfl) (by rintro _ ⟨B2,T2,rfl,b⟩;exact ok179 c) ss ?_);refine zt rfl rfl (zo (es:=([v1,v2]:List Int).map (intRow .i64)) rfl el47 ze3 rfl rfl (ze gg (ze gg zk)) (.cons (za rfl) (.cons (za rfl) .nil)) rfl rfl rfl) ss ?_;refine zf a (λv3 d a=>zr rfl rfl (λ_=>sc rfl) (by rintro _ ⟨B2,T2,rfl,b⟩;exact (ok77 d).le (.cons (leV.osl _ _ _) leL.nil)) ss (R.r ?_));cases a;exact fz rfl rfl
theorem ok180  (a:wY x0=some res):Sp 180 [.int .u64 x0] h (yu (.bool res) h):=by
 unfold wY at a;refine zb Tryz.func180 rfl (by kernel_rfl) (yw 6 rfl) (R.r ?_);cases a;exact fz rfl rfl
theorem ok149 {res:Int}  (a:xT x0 y1=some res):Sp 149 [.int .u64 x0,.int .u64 y1] h (yu (.int .i64 res) h):=by
 unfold xT at a;refine zb Tryz.func149 rfl (by kernel_rfl) (yw 20 rfl) (R.r ?_);refine zf a (λv1 f a=>cp (ok180 f) (R.r ?_));refine zf a (λv2 c a=>cp (ok180 c) (R.r ?_));refine zg gg a (λi a=>?_) (λi a=>?_)
 ·apply R.r;refine zg gg a (λd a=>?_) (λd a=>?_)
  ·apply R.r;cases a;exact fz rfl rfl
  ·apply R.r;cases a;exact fz rfl rfl
 ·apply R.r;refine zg gg a (λb a=>?_) (λb a=>?_)
  ·apply R.r;cases a;exact fz rfl rfl
  ·apply R.r;refine zg gg a (λe a=>?_) (λe a=>?_)
   ·apply R.r;cases a;exact fz rfl rfl
   ·apply R.r;refine zg gg a (λg a=>?_) (λg a=>?_)
    ·apply R.r;cases a;exact fz rfl rfl
    ·apply R.r;cases a;exact fz rfl rfl
theorem ok99 {a0:GC} {f:GC} {res:Int}  (a:dotCompare a0 f=some res):Sp 99 [.agg (GC.row a0),.agg (GC.row f)] h (yu (.int .i64 res) h):=by
 unfold dotCompare at a;refine zb Tryz.func99 rfl (by kernel_rfl) (yw 17 rfl) (R.r ?_);refine zS [4,9,11] [] trivial mixed (by kernel_rfl) (R.r ?_);refine zf a (λv1 e a=>zr rfl rfl (λ_=>sc rfl) (by rintro _ ⟨B2,T2,rfl,b⟩;exact ok148 e) ss (R.r ?_));refine zf a (λv2 c a=>zr rfl rfl (λ_=>sc rfl) (by rintro _ ⟨B2,T2,rfl,b⟩;exact ok149 c) ss ?_);refine zt rfl rfl (zo (es:=([v1,v2]:List Int).map (intRow .i64)) rfl el47 ze3 rfl rfl (ze gg (ze gg zk)) (.cons (za rfl) (.cons (za rfl) .nil)) rfl rfl rfl) ss ?_;refine zf a (λv3 d a=>zr rfl rfl (λ_=>sc rfl) (by rintro _ ⟨B2,T2,rfl,b⟩;exact (ok77 d).le (.cons (leV.osl _ _ _) leL.nil)) ss (R.r ?_));cases a;exact fz rfl rfl
theorem ok147 {a0:Int} {g:GC} {i:Int} {f:GC} {res:Int}  (a:leafXcompare a0 g i f=some res):Sp 147 [.int .u64 a0,.agg (GC.row g),.int .u64 i,.agg (GC.row f)] h (yu (.int .i64 res) h):=by
 unfold leafXcompare at a;refine zb Tryz.func147 rfl (by kernel_rfl) (yw 17 rfl) (R.r ?_);refine zS [2,5,7] [] trivial mixed (by kernel_rfl) (R.r ?_);refine zf a (λv1 e a=>zr rfl rfl (λ_=>sc rfl) (by rintro _ ⟨B2,T2,rfl,b⟩;exact ok149 e) ss (R.r ?_));refine zf a (λv2 c a=>zr rfl rfl (λ_=>sc rfl) (by rintro _ ⟨B2,T2,rfl,b⟩;exact ok99 c) ss ?_);refine zt rfl rfl (zo (es:=([v1,v2]:List Int).map (intRow .i64)) rfl el47 ze3 rfl rfl (ze gg (ze gg zk)) (.cons (za rfl) (.cons (za rfl) .nil)) rfl rfl rfl) ss ?_;refine zf a (λv3 d a=>zr rfl rfl (λ_=>sc rfl) (by rintro _ ⟨B2,T2,rfl,b⟩;exact (ok77 d).le (.cons (leV.osl _ _ _) leL.nil)) ss (R.r ?_));cases a;exact fz rfl rfl
theorem ok97 {b:Int} {f:GC} {a:Int} {e:GC}  (c:leafAhead b f a e=some res):Sp 97 [.int .u64 b,.agg (GC.row f),.int .u64 a,.agg (GC.row e)] h (yu (.bool res) h):=by
 unfold leafAhead at c;refine zb Tryz.func97 rfl (by kernel_rfl) (yw 15 rfl) (R.r ?_);refine zf c (λv1 d c=>cp (ok147 d) (R.r ?_));cases c;exact fz rfl rfl
theorem ok98 {p:(List GF)}  (b:leafXtwice p=some res):Sp 98 [.sl 5 (p.map GF.row)] h (yu (.bool res) h):=by
 unfold leafXtwice at b;refine zb Tryz.func98 rfl (by kernel_rfl) (yw 26 rfl) (R.r ?_);refine zc rfl (e_makeMap (n:=0) rfl rfl) ss (R.r ?_);refine ln λe=>?_;replace e:=zY e;apply R.r;refine zF (λ(s:Nat) (a:List (GC×Int))=>zy 1 2 (zy 4 3 (zy 10 16 [(9,.int .i64 (s:Int))]))) (λa=>h.ext [.mapo (a.map (mrow (λx=>AV.agg (GC.row x)) (AV.int .i64))) 0] []) b (λ_ _=>by simp only [zy,vf,ui,uk];try rfl) (wk.le LEL.o) ?_;intro s a u b;apply R.r;refine zL gg b (λc w g l b i=>?_) (λb=>?_)
 ·apply R.r;refine ix (zG l) (R.r ?_);refine r_drawnF [3] (λ_=>MapE h 0 (a.map (mrow (λx=>AV.agg (GC.row x)) (AV.int .i64))) ((ment GC.eqb (0:Int) a c.dot).map (mrow (λx=>AV.agg (GC.row x)) (AV.int .i64)))) (λ_=>⟨_,_,rfl,.inl rfl⟩) mixed (by kernel_rfl) (R.r ?_);refine draw_okN rfl rfl (e_lookupF (m:=a) (k:=c.dot) (d:=(0:Int)) (j:=0) (kv:=(λx=>AV.agg (GC.row x))) (vv:=(AV.int .i64)) rfl Tryz.underlying190 kq30 az3 gg gg) ss (R.r ?_);refine zP rfl (FOk.all ⟨_,_,rfl,.inr rfl⟩) (by kernel_rfl) rfl (e_entry (m:=a) (k:=c.dot) (d:=(0:Int)) (j:=0) (kv:=(λx=>AV.agg (GC.row x))) (vv:=(AV.int .i64)) rfl Tryz.underlying190 kq30 az3 gg rfl gg rfl) ss (R.r ?_);refine zP rfl (FOk.skip (by kernel_rfl)) (by kernel_rfl) rfl (e_entryStore (m:=a) (k:=c.dot) (d:=(0:Int)) (v:=(IntKind.wrap .i64 ((wn GC.eqb (0:Int) a c.dot)+(1:Int)))) (j:=0) (eq:=GC.eqb) (kv:=(λx=>AV.agg (GC.row x))) (vv:=(AV.int .i64)) rfl gg rfl gg rfl gg rfl rfl) rfl (R.r ?_);cases b;exact ⟨(mput GC.eqb a c.dot (IntKind.wrap .i64 ((wn GC.eqb (0:Int) a c.dot)+(1:Int)))),g,i,wk.trans (wk.le (by exact (.eq (.drop (.drop (.eq (.drop (.drop (.drop (.eq (.eq (.cons (leV.of_eq (yX (by omega) (by omega))) (.d16 leL.nil))))))))))))) (zD (by simp [zz,AV.low]) rfl rfl (by simp [Blk.low,zz,AV.low,GC.row,mrow]))⟩
 ·apply R.r;refine ops_mlen (m:=a) (j:=0) (kv:=(λx=>AV.agg (GC.row x))) (vv:=(AV.int .i64)) rfl rfl rfl rfl rfl Tryz.underlying190 gg rfl ss (R.r ?_);refine ln λf=>?_;replace f:=zY f;apply R.r;cases b;exact fz rfl rfl
theorem ok54 {w:(List GF)} {b:Bool}  (a:qZ w b=some res):Sp 54 [.sl 5 (w.map GF.row),.bool b] h (yu (.bool res) h):=by
 unfold qZ at a;refine zb Tryz.func54 rfl (by kernel_rfl) (yw 66 rfl) (R.r ?_);refine ln λe=>?_;replace e:=zY e;apply R.r;refine zF (λ(y:Nat) (x:Unit)=>zy 2 5 (zy 10 56 [(9,.int .i64 (y:Int))])) (λx=>h.ext [] []) a (λ_ _=>by simp only [zy,vf,ui,uk];try rfl) (wk.le LEL.o) ?_;intro y x z a;apply R.r;refine zL gg a (λF E u s a d=>?_) (λa=>?_)
 ·apply R.r;refine ix (zG s) (R.r ?_);refine zf a (λA p a=>cp (ok52 p) (R.r ?_));refine yi a (λD f a=>zO rfl sc (λc=>ok53 (f c)) ss (R.r ?_));refine yi a (λB g a=>zO rfl sc (λc=>ok51 (g c)) ss ?_);refine wK rfl (λc=>yd rfl (zB gg c) (zB gg c) (bin_boolN ty4)) ss (R.r ?_);refine zg gg a (λl a=>?_) (λl a=>?_)
  ·apply R.r;cases a;replace a:=d;apply R.r;cases a;exact fz rfl rfl
  ·apply R.r;refine yv (by kernel_rfl) (R.r ?_);refine zC a (λn a=>qH n (R.r ?_));refine zC a (λm a=>qH m (R.r ?_));refine yi a (λC k a=>x7 rfl rfl sc (λc=>ok97 (k c)) ss (R.r ?_));refine zg gg a (λj a=>?_) (λj a=>?_)
   ·apply R.r;cases a;replace a:=d;apply R.r;cases a;exact fz rfl rfl
   ·apply R.r;cases a;exact ⟨(),u,d,wk.trans (wk.le (by exact (.eq (.eq (.d4 (.drop (.eq (.eq (.cons (leV.of_eq (yX (by omega) (by omega))) (.d16 (.d16 (.d16 (.d4 (.d4 leL.nil)))))))))))))) (zD (by simp [zz,AV.low]) rfl rfl (by simp [Blk.low,zz,AV.low]))⟩
 ·apply R.r;refine zf a (λv21 i a=>cp (ok98 i) (R.r ?_));cases a;exact fz rfl rfl
theorem ok181 {u:(List GF)} {f1:(GF->Option Bool)} {res:Int} (s:∀x0 v (L:List Blk) (M:List Nat),f1 x0=some v->Sp ff1 (af1++[.agg (GF.row x0)]++kf1) (h.ext L M) (yu (.bool v) (h.ext L M))) (a:wu u f1=some res):Sp 181 [.sl 5 (u.map GF.row),.fn (.func ff1) af1 kf1] h (yu (.int .i64 res) h):=by
 unfold wu at a;refine zV Tryz.func181 rfl (by kernel_rfl) (yw 19 rfl) (λb z=>?_);simp only [zz,AV.low,uf,u2,tS] at b;have j:∀n m,h.blks.length<=n->h.toks.length<=m->zz n m af1=true:=λn m g e=>yl g e _ (by simp [b]);have f:∀n m,h.blks.length<=n->h.toks.length<=m->zz n m kf1=true:=λn m g e=>yl g e _ (by simp [b]);apply R.r;refine ln λc=>?_;replace c:=zY c;apply R.r;refine zF (λ(x:Nat) (w:Unit)=>zy 2 5 (zy 9 10 [(8,.int .i64 (x:Int))])) (λw=>h.ext [] []) a (λ_ _=>by simp only [zy,vf,ui,uk];try rfl) (wk.le LEL.o) ?_;intro x w y a;apply R.r;refine zL gg a (λC B p i a d=>?_) (λa=>?_)
 ·apply R.r;refine ix (zG i) (R.r ?_);refine zf a (λA l a=>xe rfl (scC rfl) (s _ _ _ _ l) ss (R.r ?_));refine zg gg a (λk a=>?_) (λk a=>?_)
  ·apply R.r;cases a;replace a:=d;apply R.r;cases a;exact fz rfl rfl
  ·apply R.r;cases a;exact ⟨(),p,d,wk.le (by exact (.eq (.eq (.d4 (.drop (.eq (.cons (leV.of_eq (yX (by omega) (by omega))) (.d4 (.d4 (.drop (.drop leL.nil)))))))))))⟩
 ·apply R.r;cases a;exact fz rfl rfl
theorem ok150 {j:(List GF)} {f1:(GF->Option Bool)} (d:∀x0 v (L:List Blk) (M:List Nat),f1 x0=some v->Sp ff1 (af1++[.agg (GF.row x0)]++kf1) (h.ext L M) (yu (.bool v) (h.ext L M))) (b:yY j f1=some res):Sp 150 [.sl 5 (j.map GF.row),.fn (.func ff1) af1 kf1] h (yu (.bool res) h):=by
 unfold yY at b;refine zV Tryz.func150 rfl (by kernel_rfl) (yw 9 rfl) (λa l=>?_);simp only [zz,AV.low,uf,u2,tS] at a;have c:∀n m,h.blks.length<=n->h.toks.length<=m->zz n m af1=true:=λn m i e=>yl i e _ (by simp [a]);have f:∀n m,h.blks.length<=n->h.toks.length<=m->zz n m kf1=true:=λn m i e=>yl i e _ (by simp [a]);apply R.r;refine zf b (λv1 g b=>cp (ok181 (λx0 v L M k=>by rw [xB];exact d x0 v _ _ k) g) (R.r ?_));cases b;exact fz rfl rfl
theorem ok151 {x0:GF} {c0:GC} {i0:Nat} (a:h.blk i0=some (.cells (GC.row c0))) (b:leafXhasC1 x0 c0=some res):Sp 151 [.agg (GF.row x0),.ptr i0 0] h (yu (.bool res) h):=by
 unfold leafXhasC1 at b;refine zb Tryz.func151 rfl (by kernel_rfl) (yw 8 rfl) (R.r ?_);refine zc rfl (b_load rfl ty30.choose_spec.1 gg a (wN (cs':=(GC.row c0)) ty30.choose_spec.2 rfl rfl) (za rfl)) ss ?_;refine zc rfl (yd rfl gg gg (bin_eq pk30 rfl)) ss (R.r ?_);cases b;exact fz rfl rfl
theorem ok100 {c:(List GF)} {d:GC}  (a:leafXhas c d=some res):Sp 100 [.sl 5 (c.map GF.row),.agg (GC.row d)] h (yu (.bool res) h):=by
 unfold leafXhas at a;refine zb Tryz.func100 rfl (by kernel_rfl) (yw 8 rfl) (R.r ?_);refine zc rfl (vX rfl rfl rfl) ss ?_;refine zf a (λv1 b a=>cp (ok150 (λ_ v L M e=>ok151 (blk_ext2 (j:=0) rfl) e) b) (R.r ?_));cases a;exact fz rfl rfl
theorem ok55 {l:GE}  (a:leafXtombs l=some res):Sp 55 [.agg (GE.row l)] h (yu (.bool res) h):=by
 unfold leafXtombs at a;refine zb Tryz.func55 rfl (by kernel_rfl) (yw 38 rfl) (R.r ?_);refine ln λc=>?_;replace c:=zY c;apply R.r;refine zF (λ(p:Nat) (n:Unit)=>zy 2 4 (zy 9 29 [(0,.any),(8,.int .i64 (p:Int))])) (λn=>h.ext [.cells (GE.row l)] []) a (λ_ _=>by simp only [zy,vf,ui,uk];try rfl) (wk.le LEL.o) ?_;intro p n s a;apply R.r;refine zL gg a (λy x m k a i=>?_) (λa=>?_)
 ·apply R.r;refine ix (zG k) (R.r ?_);refine zS [1] [] trivial mixed (by kernel_rfl) (R.r ?_);refine zf a (λw f a=>zr rfl rfl (λ_=>sc rfl) (by rintro _ ⟨B2,T2,rfl,u⟩;exact ok52 f) ss (R.r ?_));refine zC a (λg a=>qH g (R.r ?_));refine yi a (λv21 e a=>x7 rfl (aG_gv rfl rfl rfl) sc (λj=>ok99 (e j)) ss (R.r ?_));refine yi a (λv22 b a=>x7 rfl rfl sc (λj=>ok100 (b j)) ss (R.r ?_));refine zg gg a (λd a=>?_) (λd a=>?_)
  ·apply R.r;cases a;replace a:=i;apply R.r;cases a;exact fz rfl rfl
  ·apply R.r;cases a;exact ⟨(),m,i,wk.trans (wk.le (by exact (.drop (.eq (.d4 (.eq (.eq (.cons (leV.of_eq (yX (by omega) (by omega))) (.d16 (.d4 (.d4 (.d4 (.drop leL.nil))))))))))))) (zD (by simp [zz,AV.low]) rfl rfl (by simp [Blk.low,zz,AV.low]))⟩
 ·apply R.r;cases a;exact fz rfl rfl
theorem ok101 {f:(List GF)} {i:(List GF)}  (a:wU f i=some res):Sp 101 [.sl 5 (f.map GF.row),.sl 5 (i.map GF.row)] h (yu (.bool res) h):=by
 unfold wU at a;refine zb Tryz.func101 rfl (by kernel_rfl) (yw 26 rfl) (R.r ?_);refine ln λd=>?_;replace d:=zY d;apply R.r;refine ln λg=>?_;replace g:=zY g;apply R.r;refine zg gg a (λm a=>?_) (λm a=>?_)
 ·apply R.r;cases a;exact fz rfl rfl
 ·apply R.r;refine ln λb=>?_;replace b:=zY b;apply R.r;refine zF (λ(p:Nat) (n:Unit)=>zy 2 10 (zy 14 12 [(13,.int .i64 (p:Int))])) (λn=>h.ext [] []) a (λ_ _=>by simp only [zy,vf,ui,uk];try rfl) (wk.le LEL.o) ?_;intro p n s a;apply R.r;refine zL gg a (λx w l k a j=>?_) (λa=>?_)
  ·apply R.r;refine yv (by kernel_rfl) (R.r ?_);refine dix (zG k) (R.r ?_);refine zf a (λu c a=>dix c (R.r ?_));refine zt rfl rfl (yd rfl gg gg (bin_ne pk54 rfl)) ss (R.r ?_);refine zg gg a (λe a=>?_) (λe a=>?_)
   ·apply R.r;cases a;replace a:=j;apply R.r;cases a;exact fz rfl rfl
   ·apply R.r;cases a;exact ⟨(),l,j,wk.le (by exact (.eq (.eq (.d4 (.d4 (.drop (.drop (.eq (.cons (leV.of_eq (yX (by omega) (by omega))) (.d4 (.d4 (.d4 leL.nil))))))))))))⟩
  ·apply R.r;cases a;exact fz rfl rfl
theorem ok102 {f:(List GC)} {i:(List GC)}  (a:vk f i=some res):Sp 102 [.sl 3 (f.map GC.row),.sl 3 (i.map GC.row)] h (yu (.bool res) h):=by
 unfold vk at a;refine zb Tryz.func102 rfl (by kernel_rfl) (yw 26 rfl) (R.r ?_);refine ln λd=>?_;replace d:=zY d;apply R.r;refine ln λg=>?_;replace g:=zY g;apply R.r;refine zg gg a (λm a=>?_) (λm a=>?_)
 ·apply R.r;cases a;exact fz rfl rfl
 ·apply R.r;refine ln λb=>?_;replace b:=zY b;apply R.r;refine zF (λ(p:Nat) (n:Unit)=>zy 2 10 (zy 14 12 [(13,.int .i64 (p:Int))])) (λn=>h.ext [] []) a (λ_ _=>by simp only [zy,vf,ui,uk];try rfl) (wk.le LEL.o) ?_;intro p n s a;apply R.r;refine zL gg a (λx w l k a j=>?_) (λa=>?_)
  ·apply R.r;refine yv (by kernel_rfl) (R.r ?_);refine dix (zG k) (R.r ?_);refine zf a (λu c a=>dix c (R.r ?_));refine zt rfl rfl (yd rfl gg gg (bin_ne pk30 rfl)) ss (R.r ?_);refine zg gg a (λe a=>?_) (λe a=>?_)
   ·apply R.r;cases a;replace a:=j;apply R.r;cases a;exact fz rfl rfl
   ·apply R.r;cases a;exact ⟨(),l,j,wk.le (by exact (.eq (.eq (.d4 (.d4 (.drop (.drop (.eq (.cons (leV.of_eq (yX (by omega) (by omega))) (.d4 (.d4 (.d4 leL.nil))))))))))))⟩
  ·apply R.r;cases a;exact fz rfl rfl
theorem ok56 {a0:GE} {e:GE}  (b:wy a0 e=some res):Sp 56 [.agg (GE.row a0),.agg (GE.row e)] h (yu (.bool res) h):=by
 unfold wy at b;refine zb Tryz.func56 rfl (by kernel_rfl) (yw 52 rfl) (R.r ?_);refine wK rfl (λa=>yd rfl (zB gg a) (zB gg a) (bin_eq pk30 rfl)) ss (R.r ?_);refine yi b (λv1 d b=>zO rfl sc (λa=>ok101 (d a)) ss (R.r ?_));refine yi b (λv2 c b=>zO rfl sc (λa=>ok102 (c a)) ss (R.r ?_));cases b;exact fz rfl rfl
theorem ok24 {b:GE}  (a:leafMay b=some res):Sp 24 [.agg (GE.row b)] h (yu (.bool res) h):=by
 unfold leafMay at a;refine zb Tryz.func24 rfl (by kernel_rfl) (yw 89 rfl) (R.r ?_);refine zc rfl (yb (cs':=[.int .u8 b.typ,.int .i64 (0:Int),.int .u64 (0:Int),.int .u8 (0:Int),.int .u32 (0:Int),.int .u64 (0:Int),.str ([]:zd),.osl none 5 (([]:List GF).map GF.row),.osl none 3 (([]:List GC).map GC.row)]) rfl su34 ze34 pl34 (ze gg zk) (.cons (za rfl) .nil) rfl rfl) ss (R.r ?_);refine zg gg a (λz a=>?_) (λz a=>?_)
 ·apply R.r;refine zf a (λv2 o a=>cp ((ok56 o).le (.eq (.cons (leV.agg (.eq (.eq (.eq (.eq (.eq (.eq (.eq (.cons (leV.osl _ _ _) (.cons (leV.osl _ _ _) leL.nil))))))))) rfl) leL.nil))) (R.r ?_));cases a;exact fz rfl rfl
 ·apply R.r;refine zg gg a (λy a=>?_) (λy a=>?_)
  ·apply R.r;refine zS [3,5] [(3,[(0,.cells (GE.row b))]),(5,[(0,.cells (GE.row b))])] ⟨⟨rfl,trivial⟩,⟨rfl,trivial⟩,trivial⟩ mixed (by kernel_rfl) (R.r ?_);refine draw_okN rfl rfl (by rintro _ ⟨B2,T2,rfl,c⟩;exact x6 rfl ty30.choose_spec.1 gg (keeps1 c) (wN (cs':=(GC.row b.dot)) ty30.choose_spec.2 rfl rfl) (za rfl)) ss (R.r ?_);refine draw_okN rfl rfl (by rintro _ ⟨B2,T2,rfl,c⟩;exact x6 rfl ty9 gg (keeps1 c) (yy rfl) (za rfl)) ss (R.r ?_);refine zP rfl (FOk.cons (.inr (yL ⟨rfl,trivial⟩)) (FOk.cons (.inr (yL ⟨rfl,trivial⟩)) FOk.nil)) (by kernel_rfl) rfl (zU (cs':=[.int .u8 b.typ,.int .i64 (0:Int),.int .u64 b.time,.int .u8 (0:Int),.int .u32 (0:Int),.int .u64 (0:Int),.str ([]:zd),.osl none 5 (([]:List GF).map GF.row),.osl none 3 (([]:List GC).map GC.row)]) rfl ty25 gg gg (za rfl) rfl rfl rfl rfl rfl) rfl (R.r ?_);refine zP rfl (FOk.cons (.inr (yL ⟨rfl,trivial⟩)) (FOk.cons (.inr (yL ⟨rfl,trivial⟩)) FOk.nil)) (by kernel_rfl) rfl (zU (cs':=[.int .u8 b.typ,.int .i64 (0:Int),.int .u64 b.time,.int .u8 b.dot.actor.rep,.int .u32 b.dot.actor.inc,.int .u64 b.dot.seq,.str ([]:zd),.osl none 5 (([]:List GF).map GF.row),.osl none 3 (([]:List GC).map GC.row)]) rfl ty30.choose_spec.1 gg gg (za rfl) rfl rfl rfl rfl rfl) rfl (R.r ?_);refine zP rfl (FOk.cons (.inr (yL ⟨rfl,trivial⟩)) (FOk.cons (.inr (yL ⟨rfl,trivial⟩)) FOk.nil)) (by kernel_rfl) rfl (zU (cs':=[.int .u8 b.typ,.int .i64 (0:Int),.int .u64 b.time,.int .u8 b.dot.actor.rep,.int .u32 b.dot.actor.inc,.int .u64 b.dot.seq,.str b.text,.osl none 5 (([]:List GF).map GF.row),.osl none 3 (([]:List GC).map GC.row)]) rfl ty9 gg gg (za rfl) rfl rfl rfl rfl rfl) rfl (R.r ?_);refine yi a (λv4 n a=>zO rfl sc (λd=>ok51 (n d)) ss (R.r ?_));refine yi a (λv5 w a=>zO (aG_gv rfl rfl rfl) sc (λd=>ok52 (w d)) ss (R.r ?_));refine yi a (λF x a=>zO (aG_gv rfl rfl rfl) sc (λd=>ok53 (x d)) ss (R.r ?_));refine wK (aG_gv rfl rfl rfl) (λd=>yb (cs':=lit2x) rfl su30 ze30 pl30 zk .nil rfl rfl) ss ?_;refine wK (aG_gv rfl rfl rfl) (λd=>yd rfl (zB gg d) (zB gg d) (bin_ne pk30 rfl)) ss (R.r ?_);refine zg gg a (λu a=>?_) (λu a=>?_)
   ·apply R.r;cases a;exact fz rfl rfl
   ·apply R.r;refine zf a (λG p a=>cp ((ok56 p).le (.eq (.cons (leV.agg (.eq (.eq (.eq (.eq (.eq (.eq (.eq (.cons (leV.osl _ _ _) (.cons (leV.osl _ _ _) leL.nil))))))))) rfl) leL.nil))) (R.r ?_));cases a;exact fz rfl rfl
  ·apply R.r;refine zg gg a (λs a=>?_) (λs a=>?_)
   ·apply R.r;refine zS [3] [(3,[(0,.cells (GE.row b))])] ⟨⟨rfl,trivial⟩,trivial⟩ mixed (by kernel_rfl) (R.r ?_);refine draw_okN rfl rfl (by rintro _ ⟨B2,T2,rfl,c⟩;exact x6 rfl ty32 gg (keeps1 c) (yy rfl) (za rfl)) ss (R.r ?_);refine zP rfl (FOk.cons (.inr (yL ⟨rfl,trivial⟩)) FOk.nil) (by kernel_rfl) rfl (zU (cs':=[.int .u8 b.typ,.int .i64 (0:Int),.int .u64 (0:Int),.int .u8 (0:Int),.int .u32 (0:Int),.int .u64 (0:Int),.str ([]:zd),.sl 5 (b.items.map GF.row),.osl none 3 (([]:List GC).map GC.row)]) rfl ty31 gg gg (za rfl) rfl rfl rfl rfl rfl) rfl (R.r ?_);refine zP rfl (FOk.cons (.inr (yL ⟨rfl,trivial⟩)) FOk.nil) (by kernel_rfl) rfl (zU (cs':=[.int .u8 b.typ,.int .i64 (0:Int),.int .u64 (0:Int),.int .u8 (0:Int),.int .u32 (0:Int),.int .u64 (0:Int),.str ([]:zd),.sl 5 (b.items.map GF.row),.sl 3 (b.tombs.map GC.row)]) rfl ty32 gg gg (za rfl) rfl rfl rfl rfl rfl) rfl (R.r ?_);refine zf a (λB g a=>cp (ok54 g) (R.r ?_));refine yi a (λE l a=>zO rfl sc (λd=>ok55 (l d)) ss (R.r ?_));refine zg gg a (λk a=>?_) (λk a=>?_)
    ·apply R.r;cases a;exact fz rfl rfl
    ·apply R.r;refine zf a (λA m a=>cp (ok56 m) (R.r ?_));cases a;exact fz rfl rfl
   ·apply R.r;refine zg gg a (λe a=>?_) (λe a=>?_)
    ·apply R.r;refine zf a (λC f a=>cp (ok54 f) (R.r ?_));refine zg gg a (λj a=>?_) (λj a=>?_)
     ·apply R.r;cases a;exact fz rfl rfl
     ·apply R.r;refine zf a (λD i a=>cp ((ok56 i).le (.eq (.cons (leV.agg (.eq (.eq (.eq (.eq (.eq (.eq (.eq (.eq (.cons (leV.osl _ _ _) leL.nil))))))))) rfl) leL.nil))) (R.r ?_));cases a;exact fz rfl rfl
    ·apply R.r;cases a;exact fz rfl rfl
theorem ok158 {a:Int} {res:zd} (b:qr a p1=some res):Sp 158 [.int .u64 a,.int .i64 p1] h (yu (.str res) h) :=
 spec_fmtU b
theorem ok105 {res:zd}  (a:xl n0=some res):Sp 105 [.int .u64 n0] h (yu (.str res) h):=by
 unfold xl at a;refine zb Tryz.func105 rfl (by kernel_rfl) (yw 5 rfl) (R.r ?_);refine zf a (λv1 b a=>cp (ok158 b) (R.r ?_));cases a;exact fz rfl rfl
theorem ok106 {k:GC} {res:zd}  (a:xq k=some res):Sp 106 [.agg (GC.row k)] h (yu (.str res) h):=by
 unfold xq at a;refine zb Tryz.func106 rfl (by kernel_rfl) (yw 20 rfl) (R.r ?_);refine zS [4,10,15] [] trivial mixed (by kernel_rfl) (R.r ?_);refine zt rfl rfl (z7 rfl ty5 ty25 gg rfl) ss ?_;refine zf a (λv1 f a=>zr rfl rfl (λ_=>sc rfl) (by rintro _ ⟨B2,T2,rfl,b⟩;exact ok105 f) ss ?_);refine zC a (λi a=>zt rfl rfl (yd rfl gg rfl (um i)) ss (R.r ?_));refine zt rfl rfl (z7 rfl ty26 ty25 gg rfl) ss ?_;refine zf a (λv3 c a=>zr rfl rfl (λ_=>sc rfl) (by rintro _ ⟨B2,T2,rfl,b⟩;exact ok105 c) ss ?_);refine zC a (λj a=>zt rfl rfl (yd rfl gg gg (um j)) ss ?_);refine zC a (λg a=>zt rfl rfl (yd rfl gg rfl (um g)) ss (R.r ?_));refine zf a (λl d a=>zr rfl rfl (λ_=>sc rfl) (by rintro _ ⟨B2,T2,rfl,b⟩;exact ok105 d) ss ?_);refine zC a (λe a=>zt rfl rfl (yd rfl gg gg (um e)) ss (R.r ?_));cases a;exact fz rfl rfl
theorem ok107 {a:zd} {res:zd} (b:exportXhex a=some res):Sp 107 [.str a] h (yu (.str res) h) :=
 spec_hex b
theorem ok64 {s:GE} {res:(List zd)}  (a:exportXlog s=some res):Sp 64 [.agg (GE.row s)] h (yu (.sl 1 (res.map zj)) h):=by
 unfold exportXlog at a;refine zb Tryz.func64 rfl (by kernel_rfl) (yw 30 rfl) (R.r ?_);refine ln λk=>?_;replace k:=zY k;apply R.r;refine zF (λ(x:Nat) (c:(List zd))=>zy 0 2 (zy 3 3 (zy 9 21 [(2,xu h 0 1 (c.map zj)),(8,.int .i64 (x:Int))]))) (λc=>h.ext [.cells (GE.row s)] [c.length]) a (λ_ _=>by simp only [zy,vf,ui,uk];try rfl) (wk.trans (qL gt2 rfl st2 rfl) (wk.le (by exact (.drop (.drop (.cons (leV.of_eq rfl) (.drop (.drop (.drop (.eq (.eq (.cons (leV.of_eq rfl) (.d16 (.d4 (.drop leL.nil))))))))))))))) ?_;intro x c y a;apply R.r;refine zL gg a (λA z u p a w=>?_) (λa=>?_)
 ·apply R.r;refine ix (zG p) (R.r ?_);refine zS [3,7,12] [] trivial mixed (by kernel_rfl) (R.r ?_);refine zf a (λv23 o a=>zr rfl rfl (λ_=>sc rfl) (by rintro _ ⟨B2,T2,rfl,e⟩;exact ok105 o) ss ?_);refine zC a (λi a=>zt rfl rfl (yd rfl gg rfl (um i)) ss (R.r ?_));refine zf a (λv25 l a=>zr rfl rfl (λ_=>sc rfl) (by rintro _ ⟨B2,T2,rfl,e⟩;exact ok106 l) ss ?_);refine zC a (λg a=>zt rfl rfl (yd rfl gg gg (um g)) ss ?_);refine zC a (λd a=>zt rfl rfl (yd rfl gg rfl (um d)) ss (R.r ?_));refine zf a (λb n a=>zr rfl rfl (λ_=>sc rfl) (by rintro _ ⟨B2,T2,rfl,e⟩;exact ok107 n) ss ?_);refine zC a (λf a=>zt rfl rfl (yd rfl gg gg (um f)) ss ?_);refine zt rfl rfl (zo (es:=([((((v23++([64]:zd))++v25)++([61]:zd))++b)]:List zd).map zj) rfl el24 ze9 rfl rfl (ze gg zk) (.cons (za rfl) .nil) rfl rfl rfl) ss ?_;refine zC a (λm a=>yV rfl (FOk.cons (.inr (yL trivial)) (FOk.cons (.inr (yL trivial)) (FOk.cons (.inr (yL trivial)) FOk.nil))) (by rfl) rfl (yo (j:=0) (T':=[((c++([((((v23++([64]:zd))++v25)++([61]:zd))++b)]:List zd))).length]) rfl rfl rfl rfl el24 el24 gg gg (za rfl) (za rfl) zW m rfl rfl) ss (R.r ?_));cases a;exact ⟨(c++([((((v23++([64]:zd))++v25)++([61]:zd))++b)]:List zd)),u,w,wk.trans (wk.le (by exact (.drop (.drop (.cons (leV.of_eq rfl) (.drop (.drop (.drop (.eq (.eq (.cons (leV.of_eq (yX (by omega) (by omega))) (.d16 (.d4 (.drop leL.nil)))))))))))))) (zD (by simp [zz,AV.low]) rfl rfl (by simp [Blk.low,zz,AV.low]))⟩
 ·apply R.r;cases a;exact fe rfl rfl (leV.osl _ _ _)
theorem ok159 {b:zd} {a:Int} {res:Int×Bool} (c:zx b p1 a=some res):Sp 159 [.str b,.int .i64 p1,.int .i64 a] h (yu (.tup [.int .u64 res.1,errv 225 res.2]) h) :=
 spec_parseU c
def cutTryzRen:Go.Shelf.Ren :=
  { f:=λx=>match x with
      | 145=>36
      | 217=>162
      | 219=>115
      | 220=>73
      | 224=>164
      | 225=>163
      | 266=>194
      | 267=>165
      | 314=>195
      | n=>n
    t:=λx=>match x with
      | 3=>3
      | 4=>4
      | 5=>5
      | 9=>9
      | 46=>208
      | 51=>26
      | 59=>83
      | 146=>229
      | n=>n
    g:=λx=>match x with
      | 1=>0
      | n=>n }
theorem cutTryzLays:Go.Proofs.LaysM.n145 Tryz.prog cutTryzRen where
  mixed:=mixed
  f145:=Tryz.func36.trans (by kernel_rfl)
  f217:=Tryz.func162.trans (by kernel_rfl)
  f219:=Tryz.func115.trans (by kernel_rfl)
  f220:=Tryz.func73.trans (by kernel_rfl)
  f224:=Tryz.func164.trans (by kernel_rfl)
  f225:=Tryz.func163.trans (by kernel_rfl)
  f266:=Tryz.func194.trans (by kernel_rfl)
  f267:=Tryz.func165.trans (by kernel_rfl)
  f314:=Tryz.func195.trans (by kernel_rfl)
  t3:=Tryz.underlying3
  a3:=Tryz.isAgg3
  z3:=Tryz.sizeOf3
  v3:=Tryz.zeroValue3
  t4:=Tryz.underlying4
  a4:=Tryz.isAgg4
  z4:=Tryz.sizeOf4
  v4:=Tryz.zeroValue4
  t5:=Tryz.underlying5
  a5:=Tryz.isAgg5
  z5:=Tryz.sizeOf5
  v5:=Tryz.zeroValue5
  t9:=Tryz.underlying9
  a9:=Tryz.isAgg9
  z9:=Tryz.sizeOf9
  v9:=Tryz.zeroValue9
  t46:=Tryz.underlying208
  a46:=Tryz.isAgg208
  z46:=Tryz.sizeOf208
  v46:=Tryz.zeroValue208
  t51:=Tryz.underlying26
  a51:=Tryz.isAgg26
  z51:=Tryz.sizeOf26
  v51:=Tryz.zeroValue26
  t59:=Tryz.underlying83
  a59:=Tryz.isAgg83
  z59:=Tryz.sizeOf83
  v59:=Tryz.zeroValue83
  t146:=Tryz.underlying229
  a146:=Tryz.isAgg229
  z146:=Tryz.sizeOf229
  v146:=Tryz.zeroValue229
  g1:=by kernel_rfl
  i3:=by kernel_rfl
  i4:=by kernel_rfl
  i5:=by kernel_rfl
  i9:=by kernel_rfl
  i46:=by kernel_rfl
  i51:=by kernel_rfl
  i59:=by kernel_rfl
  i146:=by kernel_rfl
  m1:=by kernel_rfl
  s1_3:=λw h=>cell_of_shapedOpen_int (P:=Tryz.prog) (g:=0) (t:=3) (zero:=#[.int .i64 0]) h (u9 (by kernel_rfl)) (by kernel_rfl) rfl (by kernel_rfl) (by kernel_rfl) Tryz.underlying3
theorem ok36 {a p1:zd} {res:zd×zd×Bool} (b:xF a p1=some res):Sp 36 [.str a,.str p1] h (yu (.tup [.str res.1,.str res.2.1,.bool res.2.2]) h) :=
 spec_cut cutTryzLays b
def splitTryzRen:Go.Shelf.Ren :=
  { f:=λx=>match x with
      | 146=>74
      | 221=>116
      | 268=>166
      | 138=>167
      | 143=>168
      | 195=>196
      | 197=>197
      | 218=>198
      | 219=>115
      | 260=>217
      | 217=>162
      | 225=>163
      | 224=>164
      | 267=>165
      | 266=>194
      | 314=>195
      | n=>n
    t:=λx=>match x with
      | 9=>9
      | 31=>24
      | 3=>3
      | 4=>4
      | 0=>0
      | 105=>232
      | 21=>21
      | 5=>5
      | 46=>208
      | 119=>257
      | 139=>260
      | 138=>259
      | 146=>229
      | 51=>26
      | n=>n
    g:=λx=>match x with
      | 1=>0
      | 3=>6
      | 4=>7
      | n=>n }
theorem splitTryzLays:Go.Proofs.LaysM.n146 Tryz.prog splitTryzRen where
  mixed:=mixed
  f146:=Tryz.func74.trans (by kernel_rfl)
  f221:=Tryz.func116.trans (by kernel_rfl)
  f268:=Tryz.func166.trans (by kernel_rfl)
  f138:=Tryz.func167.trans (by kernel_rfl)
  f143:=Tryz.func168.trans (by kernel_rfl)
  f195:=Tryz.func196.trans (by kernel_rfl)
  f197:=Tryz.func197.trans (by kernel_rfl)
  f218:=Tryz.func198.trans (by kernel_rfl)
  f219:=Tryz.func115.trans (by kernel_rfl)
  f260:=Tryz.func217.trans (by kernel_rfl)
  f217:=Tryz.func162.trans (by kernel_rfl)
  f225:=Tryz.func163.trans (by kernel_rfl)
  f224:=Tryz.func164.trans (by kernel_rfl)
  f267:=Tryz.func165.trans (by kernel_rfl)
  f266:=Tryz.func194.trans (by kernel_rfl)
  f314:=Tryz.func195.trans (by kernel_rfl)
  t0:=Tryz.underlying0
  a0:=Tryz.isAgg0
  z0:=Tryz.sizeOf0
  v0:=Tryz.zeroValue0
  t3:=Tryz.underlying3
  a3:=Tryz.isAgg3
  z3:=Tryz.sizeOf3
  v3:=Tryz.zeroValue3
  t4:=Tryz.underlying4
  a4:=Tryz.isAgg4
  z4:=Tryz.sizeOf4
  v4:=Tryz.zeroValue4
  t5:=Tryz.underlying5
  a5:=Tryz.isAgg5
  z5:=Tryz.sizeOf5
  v5:=Tryz.zeroValue5
  t9:=Tryz.underlying9
  a9:=Tryz.isAgg9
  z9:=Tryz.sizeOf9
  v9:=Tryz.zeroValue9
  t21:=Tryz.underlying21
  a21:=Tryz.isAgg21
  z21:=Tryz.sizeOf21
  v21:=Tryz.zeroValue21
  t31:=Tryz.underlying24
  a31:=Tryz.isAgg24
  z31:=Tryz.sizeOf24
  v31:=Tryz.zeroValue24
  t46:=Tryz.underlying208
  a46:=Tryz.isAgg208
  z46:=Tryz.sizeOf208
  v46:=Tryz.zeroValue208
  t51:=Tryz.underlying26
  a51:=Tryz.isAgg26
  z51:=Tryz.sizeOf26
  v51:=Tryz.zeroValue26
  t105:=Tryz.underlying232
  a105:=Tryz.isAgg232
  z105:=Tryz.sizeOf232
  v105:=Tryz.zeroValue232
  t119:=Tryz.underlying257
  a119:=Tryz.isAgg257
  z119:=Tryz.sizeOf257
  t138:=Tryz.underlying259
  a138:=Tryz.isAgg259
  z138:=Tryz.sizeOf259
  v138:=Tryz.zeroValue259
  t139:=Tryz.underlying260
  a139:=Tryz.isAgg260
  z139:=Tryz.sizeOf260
  v139:=Tryz.zeroValue260
  t146:=Tryz.underlying229
  a146:=Tryz.isAgg229
  z146:=Tryz.sizeOf229
  v146:=Tryz.zeroValue229
  g1:=by kernel_rfl
  g3:=by kernel_rfl
  g4:=by kernel_rfl
  i0:=by kernel_rfl
  i3:=by kernel_rfl
  i4:=by kernel_rfl
  i5:=by kernel_rfl
  i9:=by kernel_rfl
  i21:=by kernel_rfl
  i31:=by kernel_rfl
  i46:=by kernel_rfl
  i51:=by kernel_rfl
  i105:=by kernel_rfl
  i138:=by kernel_rfl
  i139:=by kernel_rfl
  i146:=by kernel_rfl
  m1:=by kernel_rfl
  m3:=by kernel_rfl
  m4:=by kernel_rfl
  s1_3:=λw h=>cell_of_shapedOpen_int (P:=Tryz.prog) (g:=0) (t:=3) (zero:=#[.int .i64 0]) h (u9 (by kernel_rfl)) (by kernel_rfl) rfl (by kernel_rfl) (by kernel_rfl) Tryz.underlying3
theorem ok74 {a:zd} {p1:zd} {res:List zd} (b:yh a p1=some res):Sp 74 [.str a,.str p1] h (yu (.sl 1 (res.map zj)) h) :=
 spec_split splitTryzLays b
theorem ok58 {a:Int} {res:zd} (b:qM a p1=some res):Sp 58 [.int .i64 a,.int .i64 p1] h (yu (.str res) h) :=
 spec_fmtI b
theorem ok57 {c:GE} {res:(List zd)}  (a:vu c=some res):Sp 57 [.agg (GE.row c)] h (yu (.sl 1 (res.map zj)) h):=by
 unfold vu at a;refine zb Tryz.func57 rfl (by kernel_rfl) (yw 7 rfl) (R.r ?_);refine zf a (λv1 b a=>cp (ok58 b) ?_);refine zc rfl (zo (es:=([v1]:List zd).map zj) rfl el24 ze9 rfl rfl (ze gg zk) (.cons (za rfl) .nil) rfl rfl rfl) ss (R.r ?_);cases a;exact fe rfl rfl (leV.osl _ _ _)
theorem ok104 {b:zd} {a:Int} {res:Int×Bool} (c:wT b p1 a=some res):Sp 104 [.str b,.int .i64 p1,.int .i64 a] h (yu (.tup [.int .i64 res.1,errv 225 res.2]) h) :=
 spec_parseI c
theorem ok60 {g:GE} {res:(List zd)}  (a:xI g=some res):Sp 60 [.agg (GE.row g)] h (yu (.sl 1 (res.map zj)) h):=by
 unfold xI at a;refine zb Tryz.func60 rfl (by kernel_rfl) (yw 17 rfl) (R.r ?_);refine zg gg a (λf a=>?_) (λf a=>?_)
 ·apply R.r;refine zc rfl (zo (es:=([([45]:zd)]:List zd).map zj) rfl el24 ze9 rfl rfl (ze rfl zk) (.cons (za rfl) .nil) rfl rfl rfl) ss (R.r ?_);cases a;exact fe rfl rfl (leV.osl _ _ _)
 ·apply R.r;refine zS [2,5,8] [] trivial mixed (by kernel_rfl) (R.r ?_);refine zf a (λv2 c a=>zr rfl rfl (λ_=>sc rfl) (by rintro _ ⟨B2,T2,rfl,b⟩;exact ok105 c) ss (R.r ?_));refine zf a (λv3 d a=>zr rfl rfl (λ_=>sc rfl) (by rintro _ ⟨B2,T2,rfl,b⟩;exact ok106 d) ss (R.r ?_));refine zf a (λv4 e a=>zr rfl rfl (λ_=>sc rfl) (by rintro _ ⟨B2,T2,rfl,b⟩;exact ok107 e) ss ?_);refine zt rfl rfl (zo (es:=([v2,v3,v4]:List zd).map zj) rfl el24 ze9 rfl rfl (ze gg (ze gg (ze gg zk))) (.cons (za rfl) (.cons (za rfl) (.cons (za rfl) .nil))) rfl rfl rfl) ss (R.r ?_);cases a;exact fe rfl rfl (leV.osl _ _ _)
theorem ok62 {s:GE} {res:(List zd)}  (a:exportXset s=some res):Sp 62 [.agg (GE.row s)] h (yu (.sl 1 (res.map zj)) h):=by
 unfold exportXset at a;refine zb Tryz.func62 rfl (by kernel_rfl) (yw 41 rfl) (R.r ?_);refine ln λi=>?_;replace i:=zY i;apply R.r;refine zF (λ(C:Nat) (d:(List zd))=>zy 3 5 (zy 11 30 [(0,.any),(2,xu h 0 1 (d.map zj)),(10,.int .i64 (C:Int))])) (λd=>h.ext [.cells (GE.row s)] [d.length]) a (λ_ _=>by simp only [zy,vf,ui,uk];try rfl) (wk.trans (qL gt2 rfl st2 rfl) (wk.le (by exact (.drop (.eq (.cons (leV.of_eq rfl) (.d4 (.drop (.eq (.eq (.cons (leV.of_eq rfl) (.d16 (.d4 (.d4 (.d4 (.drop (.drop leL.nil))))))))))))))))) ?_;intro C d E a;apply R.r;refine zL gg a (λJ H A z a B=>?_) (λa=>?_)
 ·apply R.r;refine ix (zG z) (R.r ?_);refine zS [3,7] [] trivial mixed (by kernel_rfl) (R.r ?_);refine zf a (λv20 l a=>zr rfl rfl (λ_=>sc rfl) (by rintro _ ⟨B2,T2,rfl,u⟩;exact ok106 l) ss ?_);refine zC a (λp a=>zt rfl rfl (yd rfl gg rfl (um p)) ss (R.r ?_));refine zf a (λv22 e a=>zr rfl rfl (λ_=>sc rfl) (by rintro _ ⟨B2,T2,rfl,u⟩;exact ok107 e) ss ?_);refine zC a (λf a=>zt rfl rfl (yd rfl gg gg (um f)) ss ?_);refine zt rfl rfl (zo (es:=([((v20++([61]:zd))++v22)]:List zd).map zj) rfl el24 ze9 rfl rfl (ze gg zk) (.cons (za rfl) .nil) rfl rfl rfl) ss ?_;refine zC a (λg a=>yV rfl (FOk.cons (.inr (yL trivial)) (FOk.cons (.inr (yL trivial)) FOk.nil)) (by rfl) rfl (yo (j:=0) (T':=[((d++([((v20++([61]:zd))++v22)]:List zd))).length]) rfl rfl rfl rfl el24 el24 gg gg (za rfl) (za rfl) zW g rfl rfl) ss (R.r ?_));cases a;exact ⟨(d++([((v20++([61]:zd))++v22)]:List zd)),A,B,wk.trans (wk.le (by exact (.drop (.eq (.cons (leV.of_eq rfl) (.d4 (.drop (.eq (.eq (.cons (leV.of_eq (yX (by omega) (by omega))) (.d16 (.d4 (.d4 (.d4 (.drop (.drop leL.nil)))))))))))))))) (zD (by simp [zz,AV.low]) rfl rfl (by simp [Blk.low,zz,AV.low]))⟩
 ·apply R.r;refine ln λb=>?_;replace b:=zY b;apply R.r;refine zF (λ(D:Nat) (s2:(List zd))=>zy 0 2 (zy 3 24 (zy 30 11 [(2,xu h 0 1 (s2.map zj)),(29,.int .i64 (D:Int))]))) (λs2=>h.ext [.cells (GE.row s)] [s2.length]) a (λ_ _=>by simp only [zy,vf,ui,uk];try rfl) (wk.le LEL.o) ?_;intro D s2 F a;apply R.r;refine zL gg a (λI G x w a y=>?_) (λa=>?_)
  ·apply R.r;refine ix (zG w) (R.r ?_);refine zf a (λc k a=>cp (ok106 k) ?_);refine zC a (λm a=>zc rfl (yd rfl rfl gg (um m)) ss ?_);refine zc rfl (zo (es:=([(([33]:zd)++c)]:List zd).map zj) rfl el24 ze9 rfl rfl (ze gg zk) (.cons (za rfl) .nil) rfl rfl rfl) ss ?_;refine zC a (λn a=>zc rfl (yo (j:=0) (T':=[((s2++([(([33]:zd)++c)]:List zd))).length]) rfl rfl rfl rfl el24 el24 gg gg (za rfl) (za rfl) zW n rfl rfl) ss (R.r ?_));cases a;exact ⟨(s2++([(([33]:zd)++c)]:List zd)),x,y,wk.trans (wk.le (by exact (.drop (.drop (.cons (leV.of_eq rfl) (.d16 (.d4 (.d4 (.eq (.eq (.cons (leV.of_eq (yX (by omega) (by omega))) (.d4 (.d4 (.drop (.drop (.drop leL.nil)))))))))))))))) (zD (by simp [zz,AV.low]) rfl rfl (by simp [Blk.low,zz,AV.low]))⟩
  ·apply R.r;cases a;exact fe rfl rfl (leV.osl _ _ _)
theorem ok193 {g:zd} {a:zd}  (d:yM g a=some res):Sp 193 [.str g,.str a] h (yu (.bool res) h):=by
 unfold yM at d;refine zb Tryz.func193 rfl (by kernel_rfl) (yw 18 rfl) (R.r ?_);refine ln λb=>?_;replace b:=zY b;apply R.r;refine ln λc=>?_;replace c:=zY c;apply R.r;refine lng λi=>zC d (λe d=>wK rfl (λf=>wl rfl ty9 (zB gg f) .none (.some (zB gg f)) (slc_of (e f))) ss ?_);apply R.r;cases d;exact fz rfl rfl
theorem ok160 {g:zd} {a:zd} {res:(zd×Bool)}  (b:yN g a=some res):Sp 160 [.str g,.str a] h (yu (.tup [.str res.1,.bool res.2]) h):=by
 unfold yN at b;refine zb Tryz.func160 rfl (by kernel_rfl) (yw 15 rfl) (R.r ?_);refine zf b (λv1 d b=>cp (ok193 d) (R.r ?_));refine zg gg b (λe b=>?_) (λe b=>?_)
 ·apply R.r;cases b;exact fz rfl rfl
 ·apply R.r;refine ln λc=>?_;replace c:=zY c;refine zf b (λm4 f b=>zc rfl (wl rfl ty9 gg (.some gg) .none f) ss (R.r ?_));cases b;exact fz rfl rfl
theorem ok111 {d:zd} {a:zd} {res:(zd×Bool)}  (b:xR d a=some res):Sp 111 [.str d,.str a] h (yu (.tup [.str res.1,.bool res.2]) h):=by
 unfold xR at b;refine zb Tryz.func111 rfl (by kernel_rfl) (yw 11 rfl) (R.r ?_);refine zf b (λv1 c b=>cp (ok160 c) (R.r ?_));cases b;exact fz rfl rfl
theorem ok25  {res:(GK×GK×GK×GK×GK)} {h:AH}  (a:exportXkinds  = some res):Sp 25 [] h (yu (.agg [.str res.1.word,fvParts res.1.parts,fvRead res.1.read,.str res.2.1.word,fvParts res.2.1.parts,fvRead res.2.1.read,.str res.2.2.1.word,fvParts res.2.2.1.parts,fvRead res.2.2.1.read,.str res.2.2.2.1.word,fvParts res.2.2.2.1.parts,fvRead res.2.2.2.1.read,.str res.2.2.2.2.word,fvParts res.2.2.2.2.parts,fvRead res.2.2.2.2.read]) h):=by
 unfold exportXkinds at a;refine zb Tryz.func25 rfl (by kernel_rfl) (yw 7 rfl) (R.r ?_);refine zc rfl (yb (cs':=[.str ([]:zd),.nilf,.nilf]) rfl su71 ze71 pl71 zk .nil rfl rfl) ss ?_;refine zc rfl (yb (cs':=[.str ([99,111,117,110,116,101,114]:zd),.fn (.func 57) [] [],.fn (.func 59) [] []]) rfl su71 ze71 pl71 (ze rfl (ze rfl (ze rfl zk))) (.cons (za rfl) (.cons (za rfl) (.cons (za rfl) .nil))) rfl rfl) ss ?_;refine zc rfl (yb (cs':=lit5x) rfl su71 ze71 pl71 (ze rfl (ze rfl (ze rfl zk))) (.cons (za rfl) (.cons (za rfl) (.cons (za rfl) .nil))) rfl rfl) ss ?_;refine zc rfl (yb (cs':=[.str ([115,101,116]:zd),.fn (.func 62) [] [],.fn (.func 63) [] []]) rfl su71 ze71 pl71 (ze rfl (ze rfl (ze rfl zk))) (.cons (za rfl) (.cons (za rfl) (.cons (za rfl) .nil))) rfl rfl) ss ?_;refine zc rfl (yb (cs':=[.str ([108,111,103]:zd),.fn (.func 64) [] [],.fn (.func 65) [] []]) rfl su71 ze71 pl71 (ze rfl (ze rfl (ze rfl zk))) (.cons (za rfl) (.cons (za rfl) (.cons (za rfl) .nil))) rfl rfl) ss ?_;refine zc rfl (s_buildArr (cs':=yD) rfl ty72.u ze72 ty71.choose_spec.1 (ze gg (ze gg (ze gg (ze gg (ze gg zk))))) (.cons (za rfl) (.cons (za rfl) (.cons (za rfl) (.cons (za rfl) (.cons (za rfl) .nil))))) rfl rfl) ss (R.r ?_);cases a;refine q_retL1 rfl (rl_cell ty72 gg rfl (ldC_ag (cs':=yD) rfl rfl) (za rfl) rl_nil) (fin_ext (leV.refl _) rfl ?_);exact ⟨rfl,rfl⟩
def joinTryzRen:Go.Shelf.Ren :=
  { f:=λx=>match x with
      | 156=>26
      | 165=>66
      | 166=>20
      | 169=>21
      | 240=>47
      | 241=>113
      | 276=>92
      | 277=>161
      | n=>n
    t:=λx=>match x with
      | 0=>0
      | 3=>3
      | 4=>4
      | 9=>9
      | 20=>20
      | 31=>24
      | 37=>56
      | 70=>55
      | 72=>58
      | 75=>62
      | 76=>63
      | 127=>104
      | 164=>135
      | 5=>5
      | 80=>65
      | n=>n
    g:=λn=>n }
theorem joinTryzLays:Go.Proofs.Lays.n156 Tryz.prog joinTryzRen where
  mixed:=mixed
  f156:=Tryz.func26.trans (by kernel_rfl)
  f165:=Tryz.func66.trans (by kernel_rfl)
  f166:=Tryz.func20.trans (by kernel_rfl)
  f169:=Tryz.func21.trans (by kernel_rfl)
  f240:=Tryz.func47.trans (by kernel_rfl)
  f241:=Tryz.func113.trans (by kernel_rfl)
  f276:=Tryz.func92.trans (by kernel_rfl)
  f277:=Tryz.func161.trans (by kernel_rfl)
  t0:=Tryz.underlying0
  a0:=Tryz.isAgg0
  z0:=Tryz.sizeOf0
  v0:=Tryz.zeroValue0
  t3:=Tryz.underlying3
  a3:=Tryz.isAgg3
  z3:=Tryz.sizeOf3
  v3:=Tryz.zeroValue3
  t4:=Tryz.underlying4
  a4:=Tryz.isAgg4
  z4:=Tryz.sizeOf4
  v4:=Tryz.zeroValue4
  t9:=Tryz.underlying9
  a9:=Tryz.isAgg9
  z9:=Tryz.sizeOf9
  v9:=Tryz.zeroValue9
  t20:=Tryz.underlying20
  a20:=Tryz.isAgg20
  z20:=Tryz.sizeOf20
  v20:=Tryz.zeroValue20
  t31:=Tryz.underlying24
  a31:=Tryz.isAgg24
  z31:=Tryz.sizeOf24
  v31:=Tryz.zeroValue24
  t37:=Tryz.underlying56
  a37:=Tryz.isAgg56
  z37:=Tryz.sizeOf56
  v37:=Tryz.zeroValue56
  t70:=Tryz.underlying55
  a70:=Tryz.isAgg55
  z70:=Tryz.sizeOf55
  v70:=Tryz.zeroValue55
  t72:=Tryz.underlying58
  a72:=Tryz.isAgg58
  z72:=Tryz.sizeOf58
  v72:=Tryz.zeroValue58
  t75:=Tryz.underlying62
  a75:=Tryz.isAgg62
  z75:=Tryz.sizeOf62
  v75:=Tryz.zeroValue62
  t76:=Tryz.underlying63
  a76:=Tryz.isAgg63
  z76:=Tryz.sizeOf63
  v76:=Tryz.zeroValue63
  t127:=Tryz.underlying104
  a127:=Tryz.isAgg104
  z127:=Tryz.sizeOf104
  v127:=Tryz.zeroValue104
  t164:=Tryz.underlying135
  a164:=Tryz.isAgg135
  z164:=Tryz.sizeOf135
  v164:=Tryz.zeroValue135
theorem joinTryzExtra:Go.Proofs.Builder.Extra Tryz.prog joinTryzRen where
  sizeBuilder:=by kernel_rfl
  liesBuilder:=by kernel_rfl
  t5:=Tryz.underlying5
  a5:=Tryz.isAgg5
  z5:=Tryz.sizeOf5
  v5:=Tryz.zeroValue5
  infoByte:=by kernel_rfl
  cellsByte:=by kernel_rfl
  sizeByte:=by kernel_rfl
  neB5:=by decide
theorem ok26 {a:List zd} {p1:zd} {res:zd} (b:wj a p1=some res):Sp 26 [.sl 1 (a.map zj),.str p1] h (yu (.str res) h) :=
 spec_join joinTryzLays joinTryzExtra b
theorem ok93 {u:(List zd)} {f1:(zd->Option Bool)} {res:Int} (s:∀x0 v (L:List Blk) (M:List Nat),f1 x0=some v->Sp ff1 (af1++[.str x0]++kf1) (h.ext L M) (yu (.bool v) (h.ext L M))) (a:x8 u f1=some res):Sp 93 [.sl 1 (u.map zj),.fn (.func ff1) af1 kf1] h (yu (.int .i64 res) h):=by
 unfold x8 at a;refine zV Tryz.func93 rfl (by kernel_rfl) (yw 19 rfl) (λb z=>?_);simp only [zz,AV.low,uf,u2,tS] at b;have j:∀n m,h.blks.length<=n->h.toks.length<=m->zz n m af1=true:=λn m g e=>yl g e _ (by simp [b]);have f:∀n m,h.blks.length<=n->h.toks.length<=m->zz n m kf1=true:=λn m g e=>yl g e _ (by simp [b]);apply R.r;refine ln λc=>?_;replace c:=zY c;apply R.r;refine zF (λ(x:Nat) (w:Unit)=>zy 2 5 (zy 9 10 [(8,.int .i64 (x:Int))])) (λw=>h.ext [] []) a (λ_ _=>by simp only [zy,vf,ui,uk];try rfl) (wk.le LEL.o) ?_;intro x w y a;apply R.r;refine zL gg a (λC B p i a d=>?_) (λa=>?_)
 ·apply R.r;refine ix (zG i) (R.r ?_);refine zf a (λA l a=>xe rfl (scC rfl) (s _ _ _ _ l) ss (R.r ?_));refine zg gg a (λk a=>?_) (λk a=>?_)
  ·apply R.r;cases a;replace a:=d;apply R.r;cases a;exact fz rfl rfl
  ·apply R.r;cases a;exact ⟨(),p,d,wk.le (by exact (.eq (.eq (.d4 (.drop (.eq (.cons (leV.of_eq (yX (by omega) (by omega))) (.d4 (.d4 (.drop (.drop leL.nil)))))))))))⟩
 ·apply R.r;cases a;exact fz rfl rfl
theorem ok48 {j:(List zd)} {f1:(zd->Option Bool)} (d:∀x0 v (L:List Blk) (M:List Nat),f1 x0=some v->Sp ff1 (af1++[.str x0]++kf1) (h.ext L M) (yu (.bool v) (h.ext L M))) (b:yz j f1=some res):Sp 48 [.sl 1 (j.map zj),.fn (.func ff1) af1 kf1] h (yu (.bool res) h):=by
 unfold yz at b;refine zV Tryz.func48 rfl (by kernel_rfl) (yw 9 rfl) (λa l=>?_);simp only [zz,AV.low,uf,u2,tS] at a;have c:∀n m,h.blks.length<=n->h.toks.length<=m->zz n m af1=true:=λn m i e=>yl i e _ (by simp [a]);have f:∀n m,h.blks.length<=n->h.toks.length<=m->zz n m kf1=true:=λn m i e=>yl i e _ (by simp [a]);apply R.r;refine zf b (λv1 g b=>cp (ok93 (λx0 v L M k=>by rw [xB];exact d x0 v _ _ k) g) (R.r ?_));cases b;exact fz rfl rfl
theorem ok94 {b:Int}  (a:qW b=some res):Sp 94 [.int .i32 b] h (yu (.bool res) h):=by
 unfold qW at a;refine zb Tryz.func94 rfl (by kernel_rfl) (yw 25 rfl) (R.r ?_);cases a;exact fz rfl rfl
theorem ok178 {f:zd} {b:Bool} {res:Int} (s:∀x0 v (L:List Blk) (M:List Nat),f1 x0=some v->Sp ff1 (af1++[.int .i32 x0]++kf1) (h.ext L M) (yu (.bool v) (h.ext L M))) (a:vg f f1 b=some res):Sp 178 [.str f,.fn (.func ff1) af1 kf1,.bool b] h (yu (.int .i64 res) h):=by
 unfold vg at a;refine zV Tryz.func178 rfl (by kernel_rfl) (yw 21 rfl) (λc w=>?_);simp only [zz,AV.low,uf,u2,tS] at c;have k:∀n m,h.blks.length<=n->h.toks.length<=m->zz n m af1=true:=λn m j g=>yl j g _ (by simp [c]);have i:∀n m,h.blks.length<=n->h.toks.length<=m->zz n m kf1=true:=λn m j g=>yl j g _ (by simp [c]);apply R.r;refine zc rfl (e_range (n:=0) rfl ty9 gg rfl) ss (R.r ?_);refine wx (λ(e:Nat)=>zy 3 7 (zy 11 10 [(0,.any)])) (λe=>h.ext [.siter f e] []) a (λ_=>by simp only [zy,vf,ui,uk];try rfl) (wk.le LEL.o) ?_;intro z e y a d;apply R.r;refine ops_nextF rfl rfl gg rfl ss ss a (λu a=>?_) (λa=>?_)
 ·apply R.r;refine r_cond gg (λ_=>?_) (λhh=>by cases hh);apply R.r;refine zf a (λx p a=>xe rfl (scC rfl) (s _ _ _ _ p) ss (R.r ?_));refine zc rfl (yd rfl gg gg (bin_boolE ty4)) ss (R.r ?_);refine zg gg a (λl a=>?_) (λl a=>?_)
  ·apply R.r;cases a;replace a:=d;apply R.r;cases a;exact fz rfl rfl
  ·apply R.r;cases a;exact ⟨(e+(dec f e).2),d,wk.le LEL.o⟩
 ·apply R.r;refine r_cond gg (λhh=>by cases hh) (λ_=>R.r ?_);cases a;replace a:=d;apply R.r;cases a;exact fz rfl rfl
theorem ok146 {j:zd} {res:Int} (d:∀x0 v (L:List Blk) (M:List Nat),f1 x0=some v->Sp ff1 (af1++[.int .i32 x0]++kf1) (h.ext L M) (yu (.bool v) (h.ext L M))) (b:vD j f1=some res):Sp 146 [.str j,.fn (.func ff1) af1 kf1] h (yu (.int .i64 res) h):=by
 unfold vD at b;refine zV Tryz.func146 rfl (by kernel_rfl) (yw 8 rfl) (λa l=>?_);simp only [zz,AV.low,uf,u2,tS] at a;have c:∀n m,h.blks.length<=n->h.toks.length<=m->zz n m af1=true:=λn m i e=>yl i e _ (by simp [a]);have f:∀n m,h.blks.length<=n->h.toks.length<=m->zz n m kf1=true:=λn m i e=>yl i e _ (by simp [a]);apply R.r;refine zf b (λv1 g b=>cp (ok178 (λx0 v L M k=>by rw [xB];exact d x0 v _ _ k) g) (R.r ?_));cases b;exact fz rfl rfl
theorem ok95 {j:zd} (d:∀x0 v (L:List Blk) (M:List Nat),f1 x0=some v->Sp ff1 (af1++[.int .i32 x0]++kf1) (h.ext L M) (yu (.bool v) (h.ext L M))) (b:xM j f1=some res):Sp 95 [.str j,.fn (.func ff1) af1 kf1] h (yu (.bool res) h):=by
 unfold xM at b;refine zV Tryz.func95 rfl (by kernel_rfl) (yw 9 rfl) (λa l=>?_);simp only [zz,AV.low,uf,u2,tS] at a;have c:∀n m,h.blks.length<=n->h.toks.length<=m->zz n m af1=true:=λn m i e=>yl i e _ (by simp [a]);have f:∀n m,h.blks.length<=n->h.toks.length<=m->zz n m kf1=true:=λn m i e=>yl i e _ (by simp [a]);apply R.r;refine zf b (λv1 g b=>cp (ok146 (λx0 v L M k=>by rw [xB];exact d x0 v _ _ k) g) (R.r ?_));cases b;exact fz rfl rfl
theorem ok50 {d:zd}  (b:opIsName d=some res):Sp 50 [.str d] h (yu (.bool res) h):=by
 unfold opIsName at b;refine zb Tryz.func50 rfl (by kernel_rfl) (yw 18 rfl) (R.r ?_);refine ln λa=>?_;replace a:=zY a;apply R.r;refine lng λg=>R.r ?_;refine yi b (λv3 c b=>zO rfl sc (λf=>ok95 (λ_ v L M e=>ok94  e) (c f)) ss (R.r ?_));cases b;exact fz rfl rfl
theorem ok49 {c:zd}  (a:opMayPathC1 c=some res):Sp 49 [.str c] h (yu (.bool res) h):=by
 unfold opMayPathC1 at a;refine zb Tryz.func49 rfl (by kernel_rfl) (yw 6 rfl) (R.r ?_);refine zf a (λv1 b a=>cp (ok50 b) (R.r ?_));cases a;exact fz rfl rfl
theorem ok23 {d:(List zd)}  (b:ql d=some res):Sp 23 [.sl 1 (d.map zj)] h (yu (.bool res) h):=by
 unfold ql at b;refine zb Tryz.func23 rfl (by kernel_rfl) (yw 16 rfl) (R.r ?_);refine ln λa=>?_;replace a:=zY a;apply R.r;refine lng λg=>R.r ?_;refine yi b (λv3 c b=>zO rfl sc (λf=>ok48 (λ_ v L M e=>ok49  e) (c f)) ss (R.r ?_));cases b;exact fz rfl rfl
theorem fnPartsok {c:Nat} {x0:GE} {v:(List zd)} (h:callParts c x0=some v):fvParts c=.fn (.func (fnParts c)) [] []:=by
  unfold callParts at h;split at h <;> first | rfl | cases h
theorem okfvParts {c:Nat} {x0:GE} {res:(List zd)} (a:callParts c x0=some res):Sp (fnParts c) [.agg (GE.row x0)] h (yu (.sl 1 (res.map zj)) h):=by
 unfold callParts at a;split at a
 ·exact ok57 a
 ·exact ok60 a
 ·exact ok62 a
 ·exact ok64 a
 ·cases a
theorem ok10 {i:GH} {res:zd}  (a:zT i=some res):Sp 10 [.agg (GH.row i)] h (yu (.str res) h):=by
 unfold zT at a;refine zb Tryz.func10 rfl (by kernel_rfl) (yw 32 rfl) (R.r ?_);refine zf a (λv1 e a=>cp (ok23 e) (R.r ?_));refine yi a (λv2 g a=>zO rfl sc (λu=>ok24 (g u)) ss (R.r ?_));refine zg gg a (λp a=>?_) (λp a=>?_)
 ·apply R.r;cases a;exact fz rfl rfl
 ·apply R.r;refine zS [0,3] [(3,[(0,.cells (GH.row i))])] ⟨⟨rfl,trivial⟩,trivial⟩ mixed (by kernel_rfl) ?_;refine zf a (λv4 f a=>zr rfl rfl (λ_=>sc rfl) (by rintro _ ⟨B2,T2,rfl,b⟩;exact ok25 f) ss (R.r ?_));refine draw_okN rfl rfl (by rintro _ ⟨B2,T2,rfl,b⟩;exact x6 rfl ty5 gg (keeps1 b) (yy rfl) (za rfl)) ss ?_;refine zf a (λc k a=>zt rfl rfl (s_idxAgg (row:=λc=>(GK.row c)) k rfl ty72 ty71.choose_spec.1 ty71.choose_spec.2 gg gg rfl (λ_ _=>rfl) rfl) ss ?_);refine zP rfl (FOk.cons (.inr (yL trivial)) (FOk.cons (.inr (yL ⟨rfl,trivial⟩)) FOk.nil)) (by kernel_rfl) rfl (qC (n:=1) rfl ze71 rfl) ss ?_;refine zP rfl (FOk.cons (.inr (yL trivial)) (FOk.cons (.inr (yL ⟨rfl,trivial⟩)) FOk.nil)) (by kernel_rfl) rfl (zU (cs':=(GK.row c)) rfl ty71.choose_spec.1 gg gg (za rfl) rfl rfl rfl rfl rfl) rfl (R.r ?_);refine zS [2,12] [] trivial mixed (by kernel_rfl) (R.r ?_);refine zf a (λs l a=>zr rfl rfl (λ_=>sc rfl) (by rintro _ ⟨B2,T2,rfl,b⟩;exact ok26 l) ss (R.r ?_));refine zt rfl rfl (zo (es:=([s,c.word]:List zd).map zj) rfl el24 ze9 rfl rfl (ze gg (ze gg zk)) (.cons (za rfl) (.cons (za rfl) .nil)) rfl rfl rfl) ss (R.r ?_);refine zt rfl rfl (x6 rfl ty68 gg rfl (yy rfl) (fvtParts _ _ _)) ss (R.r ?_);refine zf a (λw d a=>draw_call rfl rfl (ye rfl rfl (evo_eq gg (fnPartsok d)) (zq gg zR) (.cons (za rfl) .nil)) (okfvParts d) ss ?_);refine zC a (λo a=>yV rfl (FOk.cons (.inr (yL trivial)) (FOk.cons (.inr (yL trivial)) FOk.nil)) (by rfl) rfl (e_appN (m:=0) (T':=[((([s,c.word]:List zd)++w)).length]) rfl rfl rfl rfl el24 el24 gg gg (za rfl) (za rfl) wL o rfl rfl) ss ?_);refine zf a (λv9 j a=>zr rfl rfl (λ_=>sc rfl) (by rintro _ ⟨B2,T2,rfl,b⟩;exact (ok26 j).le (.cons (leV.osl _ _ _) (.eq leL.nil))) ss (R.r ?_));cases a;exact fz rfl rfl
end Go.Vv
