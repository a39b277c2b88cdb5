/- Each function that the law reaches computes what its reading says; printed by a program. -/
import Derived.Test.YtgaelgcadcmfnaaGreatDoorVvSh
import Derived.Test.YtgaelgcadcmfnaaGreatDoorVvMr
import Derived.Test.YtgaelgcadcmfnaaGreatDoorVvRb
import Derived.Test.YtgaelgcadcmfnaaGreatDoorVvSo
import Derived.Test.YtgaelgcadcmfnaaGreatDoorVvIn
import Derived.Test.YtgaelgcadcmfnaaGreatDoorVxeF
import Derived.Test.YtgaelgcadcmfnaaGreatDoorVvU
import Derived.Test.YtgaelgcadcmfnaaGreatDoorD
import Derived.Test.YtgaelgcadcmfnaaGreatDoorProg
set_option linter.all false
namespace Go.Vv
open Go Go.Proofs
set_option maxRecDepth 100000
set_option synthInstance.maxSize 100000
set_option synthInstance.maxHeartbeats 1000000
set_option maxHeartbeats 1000000
variable {h:AH} {res:Bool} {n0 x0 y1 p1:Int} {ff1:FuncId} {af1 kf1:List AV}
section
variable {v a0 a1 a2 a3 a4 a5 a6 a7 a8 a9 a10 a11 a12 a13 a14 a15 a16 a17 a18 a19 a20 a21 a22 a23 a24 a25 a26 a27 a28 a29 a30 a31 a32 a33 a34 a35 a36 a37 a38 a39:AV} {r q:List AV} {t:Nat}
abbrev Sp:=Spec Tryz.prog
theorem gt0:yg (a0::r) (.tmp 0)=some a0:=rfl
theorem st0:qx (some 0) (a0::r) v=some (v::r):=rfl
theorem gt1:yg (a0::a1::r) (.tmp 1)=some a1:=rfl
theorem st1:qx (some 1) (a0::a1::r) v=some (a0::v::r):=rfl
theorem gt2:yg (a0::a1::a2::r) (.tmp 2)=some a2:=rfl
theorem st2:qx (some 2) (a0::a1::a2::r) v=some (a0::a1::v::r):=rfl
theorem gt5:yg (a0::a1::a2::a3::a4::a5::r) (.tmp 5)=some a5:=rfl
theorem st5:qx (some 5) (a0::a1::a2::a3::a4::a5::r) v=some (a0::a1::a2::a3::a4::v::r):=rfl
theorem gt6:yg (a0::a1::a2::a3::a4::a5::a6::r) (.tmp 6)=some a6:=rfl
theorem st6:qx (some 6) (a0::a1::a2::a3::a4::a5::a6::r) v=some (a0::a1::a2::a3::a4::a5::v::r):=rfl
theorem gt8:yg (a0::a1::a2::a3::a4::a5::a6::a7::a8::r) (.tmp 8)=some a8:=rfl
theorem st8:qx (some 8) (a0::a1::a2::a3::a4::a5::a6::a7::a8::r) v=some (a0::a1::a2::a3::a4::a5::a6::a7::v::r):=rfl
theorem gt30:yg (a0::a1::a2::a3::a4::a5::a6::a7::a8::a9::a10::a11::a12::a13::a14::a15::a16::a17::a18::a19::a20::a21::a22::a23::a24::a25::a26::a27::a28::a29::a30::r) (.tmp 30)=some a30:=rfl
theorem gt33:yg (a0::a1::a2::a3::a4::a5::a6::a7::a8::a9::a10::a11::a12::a13::a14::a15::a16::a17::a18::a19::a20::a21::a22::a23::a24::a25::a26::a27::a28::a29::a30::a31::a32::a33::r) (.tmp 33)=some a33:=rfl
theorem st34:qx (some 34) (a0::a1::a2::a3::a4::a5::a6::a7::a8::a9::a10::a11::a12::a13::a14::a15::a16::a17::a18::a19::a20::a21::a22::a23::a24::a25::a26::a27::a28::a29::a30::a31::a32::a33::a34::r) v=some (a0::a1::a2::a3::a4::a5::a6::a7::a8::a9::a10::a11::a12::a13::a14::a15::a16::a17::a18::a19::a20::a21::a22::a23::a24::a25::a26::a27::a28::a29::a30::a31::a32::a33::v::r):=rfl
theorem gk (h:yg r (.tmp t)=some v):yg (a0::a1::a2::a3::a4::a5::a6::a7::a8::a9::a10::a11::a12::a13::a14::a15::a16::a17::a18::a19::a20::a21::a22::a23::a24::a25::a26::a27::a28::a29::a30::a31::a32::a33::a34::a35::a36::a37::a38::a39::r) (.tmp (t+40))=some v:=h
theorem sk (h:qx (some t) r v=some q):qx (some (t+40)) (a0::a1::a2::a3::a4::a5::a6::a7::a8::a9::a10::a11::a12::a13::a14::a15::a16::a17::a18::a19::a20::a21::a22::a23::a24::a25::a26::a27::a28::a29::a30::a31::a32::a33::a34::a35::a36::a37::a38::a39::r) v=some (a0::a1::a2::a3::a4::a5::a6::a7::a8::a9::a10::a11::a12::a13::a14::a15::a16::a17::a18::a19::a20::a21::a22::a23::a24::a25::a26::a27::a28::a29::a30::a31::a32::a33::a34::a35::a36::a37::a38::a39::q):=congrArg (λx=>some (a0::a1::a2::a3::a4::a5::a6::a7::a8::a9::a10::a11::a12::a13::a14::a15::a16::a17::a18::a19::a20::a21::a22::a23::a24::a25::a26::a27::a28::a29::a30::a31::a32::a33::a34::a35::a36::a37::a38::a39::x)) (uK h)
end
def qv:Nat->AV
  | 1=>.fn (.func 57) [] []
  | 2=>.fn (.func 60) [] []
  | 3=>.fn (.func 62) [] []
  | 4=>.fn (.func 64) [] []
  | _=>.nilf
def fnParts:Nat->FuncId
  | 1=>57
  | 2=>60
  | 3=>62
  | 4=>64
  | _=>0
theorem fvtParts (P:Program) (t:TypeId) (c:Nat):tyfix P t (qv c)=qv c:=by unfold qv;split <;> rfl
def fvRead:Nat->AV
  | 1=>.fn (.func 59) [] []
  | 2=>.fn (.func 61) [] []
  | 3=>.fn (.func 63) [] []
  | 4=>.fn (.func 65) [] []
  | _=>.nilf
abbrev GI.row (x:GI):List AV:=[.int .u8 x.rep,.int .u32 x.inc]
abbrev GC.row (x:GC):List AV:=[.int .u8 x.actor.rep,.int .u32 x.actor.inc,.int .u64 x.seq]
abbrev GF.row (x:GF):List AV:=[.int .u64 x.time,.int .u8 x.dot.actor.rep,.int .u32 x.dot.actor.inc,.int .u64 x.dot.seq,.str x.text]
abbrev GE.row (x:GE):List AV:=[.int .u8 x.typ,.int .i64 x.n,.int .u64 x.time,.int .u8 x.dot.actor.rep,.int .u32 x.dot.actor.inc,.int .u64 x.dot.seq,.str x.text,.sl 5 (x.items.map GF.row),.sl 3 (x.tombs.map GC.row)]
mutual
def GA.row:GA->List AV
  | ⟨name,leaves,subs⟩=>[.str name,.sl 9 (leaves.map GE.row),.sl 3 (GA.rows subs)]
def GA.rows:List GA->List (List AV)
  | []=>[]
  | x::r=>x.row::GA.rows r
end
theorem GA.rows_eq (l:List GA):GA.rows l=l.map GA.row:=by
  induction l with
  | nil=>rfl
  | cons x r ih=>simp only [GA.rows,uu,ih]
theorem GA.row_eq (x:GA):x.row=[.str x.name,.sl 9 (x.leaves.map GE.row),.sl 3 (x.subs.map GA.row)]:=by
  cases x;simp only [GA.row,GA.rows_eq]
abbrev GL.row (x:GL):List AV:=[.str x.word,qv x.parts,fvRead x.read]
abbrev GH.row (x:GH):List AV:=[.sl 1 (x.path.map zg),.int .u8 x.leaf.typ,.int .i64 x.leaf.n,.int .u64 x.leaf.time,.int .u8 x.leaf.dot.actor.rep,.int .u32 x.leaf.dot.actor.inc,.int .u64 x.leaf.dot.seq,.str x.leaf.text,.sl 5 (x.leaf.items.map GF.row),.sl 3 (x.leaf.tombs.map GC.row)]
abbrev GJ.row (x:GJ):List AV:=[.sl 1 (x.path.map zg),.int .u8 x.typ,.bool x.had,.bool x.has,.int .u8 x.was.typ,.int .i64 x.was.n,.int .u64 x.was.time,.int .u8 x.was.dot.actor.rep,.int .u32 x.was.dot.actor.inc,.int .u64 x.was.dot.seq,.str x.was.text,.sl 5 (x.was.items.map GF.row),.sl 3 (x.was.tombs.map GC.row),.int .u8 x.is.typ,.int .i64 x.is.n,.int .u64 x.is.time,.int .u8 x.is.dot.actor.rep,.int .u32 x.is.dot.actor.inc,.int .u64 x.is.dot.seq,.str x.is.text,.sl 5 (x.is.items.map GF.row),.sl 3 (x.is.tombs.map GC.row)]
abbrev GK.row (x:GK):List AV:=[.sl 1 (x.path.map zg),.int .u8 x.l.typ,.int .i64 x.l.n,.int .u64 x.l.time,.int .u8 x.l.dot.actor.rep,.int .u32 x.l.dot.actor.inc,.int .u64 x.l.dot.seq,.str x.l.text,.sl 5 (x.l.items.map GF.row),.sl 3 (x.l.tombs.map GC.row)]
instance el23:El Tryz.prog 23 94 3:=mkEl Tryz.underlying23 (by kernel_rfl)
theorem mixed:Tryz.prog.follows .mixedOrders=true:=by kernel_rfl
theorem xk {Q:Exit->List AV->AH->Prop} {env:List AV} {B:List Blk} {T:List Nat} {id:Nat} {l:List Oper} (hd:drawOk ⟨l⟩ []=true) (a:zD Tryz.prog ⟨l⟩ [] (λn=>KeepB h (lk [] n)) (Q .normal) 0 l env (h.ext B T)):wS Tryz.prog (.region id ⟨l⟩ true) Q env (h.ext B T):=yn [] [] trivial mixed hd a
instance fo94x0:Fo Tryz.prog 94 0 0 9 1:=vO (by kernel_rfl) (by kernel_rfl)
instance ty9:Ty Tryz.prog 9 .string 1:=qG Tryz.underlying9 (by kernel_rfl)
instance fo94x2:Fo Tryz.prog 94 2 2 23 1:=vO (by kernel_rfl) (by kernel_rfl)
instance ty23:Ty Tryz.prog 23 (.slice 94) 1:=qG Tryz.underlying23 (by kernel_rfl)
instance fo94x1:Fo Tryz.prog 94 1 1 92 1:=vO (by kernel_rfl) (by kernel_rfl)
instance ty92:Ty Tryz.prog 92 (.slice 34) 1:=qG Tryz.underlying92 (by kernel_rfl)
instance el92:El Tryz.prog 92 34 9:=mkEl Tryz.underlying92 (by kernel_rfl)
theorem ty34:∃d,Ty Tryz.prog 34 d 9/\zU d=true:=⟨_,qG Tryz.underlying34 (by kernel_rfl),by kernel_rfl⟩
instance:TA Tryz.prog 34 9:=⟨ty34⟩
theorem ze34:yR Tryz.prog 34=some [.int .u8 0,.int .i64 0,.int .u64 0,.int .u8 0,.int .u32 0,.int .u64 0,.str [],.osl none 5 [],.osl none 3 []]:=by kernel_rfl
instance:ZE Tryz.prog 34 [.int .u8 0,.int .i64 0,.int .u64 0,.int .u8 0,.int .u32 0,.int .u64 0,.str [],.osl none 5 [],.osl none 3 []]:=⟨ze34⟩
instance fo34x4:Fo Tryz.prog 34 4 6 9 1:=vO (by kernel_rfl) (by kernel_rfl)
instance fo34x6:Fo Tryz.prog 34 6 8 32 1:=vO (by kernel_rfl) (by kernel_rfl)
instance ty32:Ty Tryz.prog 32 (.slice 30) 1:=qG Tryz.underlying32 (by kernel_rfl)
instance el32:El Tryz.prog 32 30 3:=mkEl Tryz.underlying32 (by kernel_rfl)
instance fo34x5:Fo Tryz.prog 34 5 7 31 1:=vO (by kernel_rfl) (by kernel_rfl)
instance ty31:Ty Tryz.prog 31 (.slice 54) 1:=qG Tryz.underlying31 (by kernel_rfl)
instance el31:El Tryz.prog 31 54 5:=mkEl Tryz.underlying31 (by kernel_rfl)
instance fo54x2:Fo Tryz.prog 54 2 4 9 1:=vO (by kernel_rfl) (by kernel_rfl)
theorem ze30:yR Tryz.prog 30=some [.int .u8 0,.int .u32 0,.int .u64 0]:=by kernel_rfl
instance:ZE Tryz.prog 30 [.int .u8 0,.int .u32 0,.int .u64 0]:=⟨ze30⟩
noncomputable def sf28:Array Field:=match Tryz.prog.underlying 28 with | some (.struct fs)=>fs | _=>#[]
theorem su28:Tryz.prog.underlying 28=some (.struct sf28):=by kernel_rfl
theorem ze28:yR Tryz.prog 28=some [.int .u8 0,.int .u32 0]:=by kernel_rfl
instance:ZE Tryz.prog 28 [.int .u8 0,.int .u32 0]:=⟨ze28⟩
theorem pl28:wM Tryz.prog sf28=some [(0,1),(1,1)]:=by kernel_rfl
noncomputable def sf30:Array Field:=match Tryz.prog.underlying 30 with | some (.struct fs)=>fs | _=>#[]
theorem su30:Tryz.prog.underlying 30=some (.struct sf30):=by kernel_rfl
theorem pl30:wM Tryz.prog sf30=some [(0,2),(2,1)]:=by kernel_rfl
theorem ty30:∃d,Ty Tryz.prog 30 d 3/\zU d=true:=⟨_,qG Tryz.underlying30 (by kernel_rfl),by kernel_rfl⟩
instance:TA Tryz.prog 30 3:=⟨ty30⟩
instance fo28x0:Fo Tryz.prog 28 0 0 5 1:=vO (by kernel_rfl) (by kernel_rfl)
instance ty5:Ty Tryz.prog 5 (.int .u8) 1:=qG Tryz.underlying5 (by kernel_rfl)
instance fo28x1:Fo Tryz.prog 28 1 1 26 1:=vO (by kernel_rfl) (by kernel_rfl)
instance ty26:Ty Tryz.prog 26 (.int .u32) 1:=qG Tryz.underlying26 (by kernel_rfl)
instance fo30x0:Fo Tryz.prog 30 0 0 28 2:=vO (by kernel_rfl) (by kernel_rfl)
theorem ty28:∃d,Ty Tryz.prog 28 d 2/\zU d=true:=⟨_,qG Tryz.underlying28 (by kernel_rfl),by kernel_rfl⟩
instance:TA Tryz.prog 28 2:=⟨ty28⟩
instance fo30x1:Fo Tryz.prog 30 1 2 25 1:=vO (by kernel_rfl) (by kernel_rfl)
instance ty25:Ty Tryz.prog 25 (.int .u64) 1:=qG Tryz.underlying25 (by kernel_rfl)
instance el47:El Tryz.prog 47 3 1:=mkEl Tryz.underlying47 (by kernel_rfl)
instance ty3:Ty Tryz.prog 3 (.int .i64) 1:=qG Tryz.underlying3 (by kernel_rfl)
theorem ze3:yR Tryz.prog 3=some [.int .i64 0]:=by kernel_rfl
instance:ZE Tryz.prog 3 [.int .i64 0]:=⟨ze3⟩
theorem ty54:∃d,Ty Tryz.prog 54 d 5/\zU d=true:=⟨_,qG Tryz.underlying54 (by kernel_rfl),by kernel_rfl⟩
instance:TA Tryz.prog 54 5:=⟨ty54⟩
theorem ze54:yR Tryz.prog 54=some [.int .u64 0,.int .u8 0,.int .u32 0,.int .u64 0,.str []]:=by kernel_rfl
instance:ZE Tryz.prog 54 [.int .u64 0,.int .u8 0,.int .u32 0,.int .u64 0,.str []]:=⟨ze54⟩
instance fo54x1:Fo Tryz.prog 54 1 1 30 3:=vO (by kernel_rfl) (by kernel_rfl)
theorem pk30:PK Tryz.prog 30 [.i,.i,.i]:=mkPK (by kernel_rfl) (by kernel_rfl) (by kernel_rfl)
theorem kq30:KQ Tryz.prog 30 (λx=>AV.agg (GC.row x)) GC.eqb:=.struct su30 pk30 (λ_ _=>rfl) (λa=>by simp [GC.eqb])
theorem az3:aZeroM Tryz.prog 3=some ((AV.int .i64) (0:Int)):=by kernel_rfl
instance fo54x0:Fo Tryz.prog 54 0 0 25 1:=vO (by kernel_rfl) (by kernel_rfl)
instance ty4:Ty Tryz.prog 4 .bool 1:=qG Tryz.underlying4 (by kernel_rfl)
theorem pk54:PK Tryz.prog 54 [.i,.i,.i,.i,.s]:=mkPK (by kernel_rfl) (by kernel_rfl) (by kernel_rfl)
instance fo34x0:Fo Tryz.prog 34 0 0 5 1:=vO (by kernel_rfl) (by kernel_rfl)
instance fo34x1:Fo Tryz.prog 34 1 1 2 1:=vO (by kernel_rfl) (by kernel_rfl)
instance ty2:Ty Tryz.prog 2 (.int .i64) 1:=qG Tryz.underlying2 (by kernel_rfl)
instance fo34x2:Fo Tryz.prog 34 2 2 25 1:=vO (by kernel_rfl) (by kernel_rfl)
instance fo34x3:Fo Tryz.prog 34 3 3 30 3:=vO (by kernel_rfl) (by kernel_rfl)
noncomputable def sf34:Array Field:=match Tryz.prog.underlying 34 with | some (.struct fs)=>fs | _=>#[]
theorem su34:Tryz.prog.underlying 34=some (.struct sf34):=by kernel_rfl
theorem pl34:wM Tryz.prog sf34=some [(0,1),(1,1),(2,1),(3,3),(6,1),(7,1),(8,1)]:=by kernel_rfl
instance el24:El Tryz.prog 24 9 1:=mkEl Tryz.underlying24 (by kernel_rfl)
theorem ze9:yR Tryz.prog 9=some [.str []]:=by kernel_rfl
instance:ZE Tryz.prog 9 [.str []]:=⟨ze9⟩
theorem ze72:yR Tryz.prog 72=some [.str [],.nilf,.nilf,.str [],.nilf,.nilf,.str [],.nilf,.nilf,.str [],.nilf,.nilf,.str [],.nilf,.nilf]:=by kernel_rfl
instance:ZE Tryz.prog 72 [.str [],.nilf,.nilf,.str [],.nilf,.nilf,.str [],.nilf,.nilf,.str [],.nilf,.nilf,.str [],.nilf,.nilf]:=⟨ze72⟩
noncomputable def sf71:Array Field:=match Tryz.prog.underlying 71 with | some (.struct fs)=>fs | _=>#[]
theorem su71:Tryz.prog.underlying 71=some (.struct sf71):=by kernel_rfl
theorem ze71:yR Tryz.prog 71=some [.str [],.nilf,.nilf]:=by kernel_rfl
instance:ZE Tryz.prog 71 [.str [],.nilf,.nilf]:=⟨ze71⟩
theorem pl71:wM Tryz.prog sf71=some [(0,1),(1,1),(2,1)]:=by kernel_rfl
instance ty72:Ty Tryz.prog 72 (.array 5 71) 15:=qG Tryz.underlying72 (by kernel_rfl)
theorem ty71:∃d,Ty Tryz.prog 71 d 3/\zU d=true:=⟨_,qG Tryz.underlying71 (by kernel_rfl),by kernel_rfl⟩
instance:TA Tryz.prog 71 3:=⟨ty71⟩
instance fo36x0:Fo Tryz.prog 36 0 0 24 1:=vO (by kernel_rfl) (by kernel_rfl)
instance ty24:Ty Tryz.prog 24 (.slice 9) 1:=qG Tryz.underlying24 (by kernel_rfl)
instance fo36x1:Fo Tryz.prog 36 1 1 34 9:=vO (by kernel_rfl) (by kernel_rfl)
instance fo71x0:Fo Tryz.prog 71 0 0 9 1:=vO (by kernel_rfl) (by kernel_rfl)
instance fo71x1:Fo Tryz.prog 71 1 1 68 1:=vO (by kernel_rfl) (by kernel_rfl)
instance ty68:Ty Tryz.prog 68 (.func #[34] #[24] false) 1:=qG Tryz.underlying68 (by kernel_rfl)
noncomputable def sf36:Array Field:=match Tryz.prog.underlying 36 with | some (.struct fs)=>fs | _=>#[]
theorem su36:Tryz.prog.underlying 36=some (.struct sf36):=by kernel_rfl
abbrev yq:List AV:=[.str ([]:zd),.nilf,.nilf,.str ([99,111,117,110,116,101,114]:zd),.fn (.func 57) [] [],.fn (.func 59) [] [],.str ([114,101,103,105,115,116,101,114]:zd),.fn (.func 60) [] [],.fn (.func 61) [] [],.str ([115,101,116]:zd),.fn (.func 62) [] [],.fn (.func 63) [] [],.str ([108,111,103]:zd),.fn (.func 64) [] [],.fn (.func 65) [] []]
abbrev lit1x:List AV:=[.int .u8 (0:Int),.int .u32 (0:Int),.int .u64 (0:Int)]
abbrev lit2x:List AV:=[.int .u8 (0:Int),.int .i64 (0:Int),.int .u64 (0:Int),.int .u8 (0:Int),.int .u32 (0:Int),.int .u64 (0:Int),.str ([]:zd),.osl none 5 (([]:List GF).map GF.row),.osl none 3 (([]:List GC).map GC.row)]
abbrev lit3x:List AV:=[.osl none 1 [],.int .u8 0,.int .i64 0,.int .u64 0,.int .u8 0,.int .u32 0,.int .u64 0,.str [],.osl none 5 [],.osl none 3 []]
abbrev lit4x:List AV:=[.osl none 1 [],.int .u8 0,.bool false,.bool false,.int .u8 0,.int .i64 0,.int .u64 0,.int .u8 0,.int .u32 0,.int .u64 0,.str [],.osl none 5 [],.osl none 3 [],.int .u8 0,.int .i64 0,.int .u64 0,.int .u8 0,.int .u32 0,.int .u64 0,.str [],.osl none 5 [],.osl none 3 []]
abbrev lit5x:List AV:=[.str ([114,101,103,105,115,116,101,114]:zd),.fn (.func 60) [] [],.fn (.func 61) [] []]
theorem ze36:yR Tryz.prog 36=some lit3x:=by kernel_rfl
instance:ZE Tryz.prog 36 lit3x:=⟨ze36⟩
theorem pl36:wM Tryz.prog sf36=some [(0,1),(1,9)]:=by kernel_rfl
noncomputable def sf54:Array Field:=match Tryz.prog.underlying 54 with | some (.struct fs)=>fs | _=>#[]
theorem su54:Tryz.prog.underlying 54=some (.struct sf54):=by kernel_rfl
theorem pl54:wM Tryz.prog sf54=some [(0,1),(1,3),(4,1)]:=by kernel_rfl
theorem ty94:∃d,Ty Tryz.prog 94 d 3/\zU d=true:=⟨_,qG Tryz.underlying94 (by kernel_rfl),by kernel_rfl⟩
instance:TA Tryz.prog 94 3:=⟨ty94⟩
theorem ze94:yR Tryz.prog 94=some [.str [],.osl none 9 [],.osl none 3 []]:=by kernel_rfl
instance:ZE Tryz.prog 94 [.str [],.osl none 9 [],.osl none 3 []]:=⟨ze94⟩
instance ty132:Ty Tryz.prog 132 (.func #[36] #[4] false) 1:=qG Tryz.underlying132 (by kernel_rfl)
theorem ty36:∃d,Ty Tryz.prog 36 d 10/\zU d=true:=⟨_,qG Tryz.underlying36 (by kernel_rfl),by kernel_rfl⟩
instance:TA Tryz.prog 36 10:=⟨ty36⟩
instance el59:El Tryz.prog 59 36 10:=mkEl Tryz.underlying59 (by kernel_rfl)
instance ty59:Ty Tryz.prog 59 (.slice 36) 1:=qG Tryz.underlying59 (by kernel_rfl)
theorem ze24:yR Tryz.prog 24=some [.osl none 1 []]:=by kernel_rfl
instance:ZE Tryz.prog 24 [.osl none 1 []]:=⟨ze24⟩
instance el117:El Tryz.prog 117 71 3:=mkEl Tryz.underlying117 (by kernel_rfl)
instance fo71x2:Fo Tryz.prog 71 2 2 69 1:=vO (by kernel_rfl) (by kernel_rfl)
instance ty69:Ty Tryz.prog 69 (.func #[119,3,9] #[4] false) 1:=qG Tryz.underlying69 (by kernel_rfl)
theorem ze25:yR Tryz.prog 25=some [.int .u64 0]:=by kernel_rfl
instance:ZE Tryz.prog 25 [.int .u64 0]:=⟨ze25⟩
instance el56:El Tryz.prog 56 5 1:=mkEl Tryz.underlying56 (by kernel_rfl)
theorem ze5:yR Tryz.prog 5=some [.int .u8 0]:=by kernel_rfl
instance:ZE Tryz.prog 5 [.int .u8 0]:=⟨ze5⟩
instance fo89x0:Fo Tryz.prog 89 0 0 24 1:=vO (by kernel_rfl) (by kernel_rfl)
instance fo89x1:Fo Tryz.prog 89 1 1 5 1:=vO (by kernel_rfl) (by kernel_rfl)
instance el82:El Tryz.prog 82 89 22:=mkEl Tryz.underlying82 (by kernel_rfl)
theorem ty89:∃d,Ty Tryz.prog 89 d 22/\zU d=true:=⟨_,qG Tryz.underlying89 (by kernel_rfl),by kernel_rfl⟩
instance:TA Tryz.prog 89 22:=⟨ty89⟩
theorem ze89:yR Tryz.prog 89=some lit4x:=by kernel_rfl
instance:ZE Tryz.prog 89 lit4x:=⟨ze89⟩
instance fo89x2:Fo Tryz.prog 89 2 2 4 1:=vO (by kernel_rfl) (by kernel_rfl)
instance fo89x3:Fo Tryz.prog 89 3 3 4 1:=vO (by kernel_rfl) (by kernel_rfl)
instance fo89x4:Fo Tryz.prog 89 4 4 34 9:=vO (by kernel_rfl) (by kernel_rfl)
instance fo89x5:Fo Tryz.prog 89 5 13 34 9:=vO (by kernel_rfl) (by kernel_rfl)
noncomputable def sf94:Array Field:=match Tryz.prog.underlying 94 with | some (.struct fs)=>fs | _=>#[]
theorem su94:Tryz.prog.underlying 94=some (.struct sf94):=by kernel_rfl
theorem pl94:wM Tryz.prog sf94=some [(0,1),(1,1),(2,1)]:=by kernel_rfl
instance ty208:Ty Tryz.prog 208 (.int .u64) 1:=qG Tryz.underlying208 (by kernel_rfl)
noncomputable def sf89:Array Field:=match Tryz.prog.underlying 89 with | some (.struct fs)=>fs | _=>#[]
theorem su89:Tryz.prog.underlying 89=some (.struct sf89):=by kernel_rfl
theorem pl89:wM Tryz.prog sf89=some [(0,1),(1,1),(2,1),(3,1),(4,9),(13,9)]:=by kernel_rfl
instance el48:El Tryz.prog 48 99 10:=mkEl Tryz.underlying48 (by kernel_rfl)
noncomputable def sf99:Array Field:=match Tryz.prog.underlying 99 with | some (.struct fs)=>fs | _=>#[]
theorem su99:Tryz.prog.underlying 99=some (.struct sf99):=by kernel_rfl
theorem ze99:yR Tryz.prog 99=some lit3x:=by kernel_rfl
instance:ZE Tryz.prog 99 lit3x:=⟨ze99⟩
theorem pl99:wM Tryz.prog sf99=some [(0,1),(1,9)]:=by kernel_rfl
abbrev GLeafRw (x:GE) (p q:AV):List AV:=[.int .u8 x.typ,.int .i64 x.n,.int .u64 x.time,.int .u8 x.dot.actor.rep,.int .u32 x.dot.actor.inc,.int .u64 x.dot.seq,.str x.text,p,q]
theorem ok17N (n:Nat):∀{t0:(List GA)} {b:Int} {res:Int} {h:AH} , yH n t0 b=some res->Sp 17 [.sl 3 (t0.map GA.row),.int .i64 b] h (yv (.int .i64 res) h):=by
 induction n with
 | zero=>intro t0 b res h  a;simp [yH] at a
 | succ n ih =>
  intro t0 b res h  a;unfold yH at a;refine za Tryz.func17 rfl (by kernel_rfl) (yx 84 rfl) (R.r ?_);refine wX (λ(y:Int×Int)=>zu 2 3 (zu 7 77 [(5,.int .i64 y.1),(6,.int .i64 y.2)])) (λy=>h.ext [] []) a (λ_=>by simp only [zu,vE,ul,um];try rfl) (wk.le LEL.o) ?_;intro S y P a B;apply R.r;refine ln λi=>?_;replace i:=yl i;apply R.r;refine zi gg a (λx a=>?_) (λx a=>?_)
  ·apply R.r;refine yn [16] [] trivial mixed (by kernel_rfl) (R.r ?_);refine zf a (λK w a=>zB rfl rfl (yN rfl el23 gg gg isl w (GA.row_eq _)) ss (R.r ?_));refine draw_len rfl rfl (s_lenStr rfl rfl rfl rfl ty9 gg) ss (R.r ?_);refine zf a (λM s a=>zB rfl rfl (yN rfl el23 gg gg isl s (GA.row_eq _)) ss (R.r ?_));refine zf a (λJ p a=>zw rfl rfl (λ_=>sc rfl) (by rintro _ ⟨B2,T2,rfl,I⟩;exact ih p) ss (R.r ?_));refine wX (λ(s2:Int×Int)=>zu 2 3 (zu 8 76 [(5,.int .i64 s2.1),(7,.int .i64 s2.2)])) (λs2=>h.ext [] []) a (λ_=>by simp only [zu,vE,ul,um];try rfl) (wk.le LEL.o) ?_;intro T s2 O a u;apply R.r;refine zf a (λH m a=>zc rfl (yN rfl el23 gg gg isl m (GA.row_eq _)) ss (R.r ?_));refine ln λc=>?_;replace c:=yl c;apply R.r;refine zi gg a (λj a=>?_) (λj a=>?_)
   ·apply R.r;refine zf a (λG l a=>zc rfl (yN rfl el23 gg gg isl l (GA.row_eq _)) ss (R.r ?_));refine zf a (λz k a=>ix k (R.r ?_));refine ln λf=>?_;replace f:=yl f;apply R.r;refine ln λg=>?_;replace g:=yl g;apply R.r;refine zF (λ(F:Nat) (A:Int)=>zu 2 3 (zu 10 74 [(5,.int .i64 A),(9,.int .i64 (F:Int))])) (λA=>h.ext [.cells (GE.row z)] []) a (λ_ _=>by simp only [zu,vE,ul,um];try rfl) (wk.le LEL.o) ?_;intro F A N a;apply R.r;refine ln λd=>?_;replace d:=yl d;apply R.r;refine zT gg a (λL Q E C a D=>?_) (λa=>?_)
    ·apply R.r;refine ix (zM C) (R.r ?_);refine ln λe=>?_;replace e:=yl e;apply R.r;cases a;exact ⟨(IntKind.wrap .i64 ((IntKind.wrap .i64 (A+(1:Int)))+((L.text).length:Int))),E,D,wk.le (by exact (.eq (.eq (.drop (.drop (.drop (.cons (leV.of_eq rfl) (.eq (.eq (.eq (.cons (leV.of_eq (xB (by omega) (by omega))) (.d16 (.d16 (.d16 (.d16 (.d4 (.d4 (.drop (.drop leL.nil)))))))))))))))))))⟩
    ·apply R.r;cases a;exact ⟨(A,(IntKind.wrap .i64 (s2.2+(1:Int)))),u,wk.trans (wk.le LEL.o) (zN (by simp [zy,AV.low]) rfl rfl (by simp [Blk.low,zy,AV.low]))⟩
   ·apply R.r;cases a;replace a:=u;apply R.r;cases a;exact ⟨(s2.1,(IntKind.wrap .i64 (y.2+(1:Int)))),B,wk.le LEL.o⟩
  ·apply R.r;cases a;replace a:=B;apply R.r;cases a;exact fz rfl rfl
theorem ok17 {t0:(List GA)} {a:Int} {res:Int}  (c:ref07Xsize t0 a=some res):Sp 17 [.sl 3 (t0.map GA.row),.int .i64 a] h (yv (.int .i64 res) h):=by
 obtain ⟨n,b⟩:=anyN_is c;exact ok17N n b
theorem ok6 {t0:(List GA)}  (a:vi t0=some res):Sp 6 [.sl 3 (t0.map GA.row)] h (yv (.bool res) h):=by
 unfold vi at a;refine za Tryz.func6 rfl (by kernel_rfl) (yx 6 rfl) (R.r ?_);refine zf a (λc b a=>cp (ok17 b) (R.r ?_));cases a;exact fz rfl rfl
theorem ok18 {res:GC}  (a:wZ n0=some res):Sp 18 [.int .u64 n0] h (yv (.agg (GC.row res)) h):=by
 unfold wZ at a;refine za Tryz.func18 rfl (by kernel_rfl) (yx 6 rfl) (R.r ?_);refine zc rfl (yf (cs':=[.int .u8 (0:Int),.int .u32 (1:Int)]) rfl su28 ze28 pl28 (ze rfl zk) (.cons (zb rfl) .nil) rfl rfl) ss (R.r ?_);refine zc rfl (yf (cs':=[.int .u8 (0:Int),.int .u32 (1:Int),.int .u64 n0]) rfl su30 ze30 pl30 (ze gg (ze gg zk)) (.cons (zb rfl) (.cons (zb rfl) .nil)) rfl rfl) ss (R.r ?_);cases a;exact fz rfl rfl
theorem ok51  (a:qH n0=some res):Sp 51 [.int .u64 n0] h (yv (.bool res) h):=by
 unfold qH at a;refine za Tryz.func51 rfl (by kernel_rfl) (yx 9 rfl) (R.r ?_);cases a;exact fz rfl rfl
theorem ok96 {a0:GI}  (a:dotMayActor a0=some res):Sp 96 [.agg (GI.row a0)] h (yv (.bool res) h):=by
 unfold dotMayActor at a;refine za Tryz.func96 rfl (by kernel_rfl) (yx 16 rfl) (R.r ?_);cases a;exact fz rfl rfl
theorem ok52 {c:GC}  (a:dotMay c=some res):Sp 52 [.agg (GC.row c)] h (yv (.bool res) h):=by
 unfold dotMay at a;refine za Tryz.func52 rfl (by kernel_rfl) (yx 16 rfl) (R.r ?_);refine zf a (λd b a=>cp (ok96 b) (R.r ?_));cases a;exact fz rfl rfl
theorem ok53 {b:zd}  (c:vB b=some res):Sp 53 [.str b] h (yv (.bool res) h):=by
 unfold vB at c;refine za Tryz.func53 rfl (by kernel_rfl) (yx 6 rfl) (R.r ?_);refine ln λa=>?_;replace a:=yl a;apply R.r;cases c;exact fz rfl rfl
theorem ok77 {b:(List Int)} {res:Int}  (a:vN b=some res):Sp 77 [.sl 1 (b.map (intRow .i64))] h (yv (.int .i64 res) h):=by
 unfold vN at a;refine za Tryz.func77 rfl (by kernel_rfl) (yx 18 rfl) (R.r ?_);refine ln λc=>?_;replace c:=yl c;apply R.r;refine zF (λ(i:Nat) (j:Unit)=>zu 0 3 (zu 4 2 (zu 9 9 [(8,.int .i64 (i:Int))]))) (λj=>h.ext [] []) a (λ_ _=>by simp only [zu,vE,ul,um];try rfl) (wk.le LEL.o) ?_;intro i j k a;apply R.r;refine zT gg a (λl m e g a d=>?_) (λa=>?_)
 ·apply R.r;refine ix (zM g) (R.r ?_);refine zi gg a (λf a=>?_) (λf a=>?_)
  ·apply R.r;cases a;replace a:=d;apply R.r;cases a;exact fz rfl rfl
  ·apply R.r;cases a;exact ⟨(),e,d,wk.le (by exact (.drop (.drop (.drop (.eq (.drop (.drop (.eq (.eq (.cons (leV.of_eq (xB (by omega) (by omega))) (.d4 (.d4 (.drop leL.nil)))))))))))))⟩
 ·apply R.r;cases a;exact fz rfl rfl
theorem ok209  (a:wl x0=some res):Sp 209 [.int .u32 x0] h (yv (.bool res) h):=by
 unfold wl at a;refine za Tryz.func209 rfl (by kernel_rfl) (yx 6 rfl) (R.r ?_);cases a;exact fz rfl rfl
theorem ok179 {res:Int}  (a:xT x0 y1=some res):Sp 179 [.int .u32 x0,.int .u32 y1] h (yv (.int .i64 res) h):=by
 unfold xT at a;refine za Tryz.func179 rfl (by kernel_rfl) (yx 20 rfl) (R.r ?_);refine zf a (λj f a=>cp (ok209 f) (R.r ?_));refine zf a (λv2 c a=>cp (ok209 c) (R.r ?_));refine zi gg a (λi a=>?_) (λi a=>?_)
 ·apply R.r;refine zi gg a (λd a=>?_) (λd a=>?_)
  ·apply R.r;cases a;exact fz rfl rfl
  ·apply R.r;cases a;exact fz rfl rfl
 ·apply R.r;refine zi gg a (λb a=>?_) (λb a=>?_)
  ·apply R.r;cases a;exact fz rfl rfl
  ·apply R.r;refine zi gg a (λe a=>?_) (λe a=>?_)
   ·apply R.r;cases a;exact fz rfl rfl
   ·apply R.r;refine zi gg a (λg a=>?_) (λg a=>?_)
    ·apply R.r;cases a;exact fz rfl rfl
    ·apply R.r;cases a;exact fz rfl rfl
theorem ok118  (a:wI x0=some res):Sp 118 [.int .u8 x0] h (yv (.bool res) h):=by
 unfold wI at a;refine za Tryz.func118 rfl (by kernel_rfl) (yx 6 rfl) (R.r ?_);cases a;exact fz rfl rfl
theorem ok79 {res:Int}  (a:yP x0 y1=some res):Sp 79 [.int .u8 x0,.int .u8 y1] h (yv (.int .i64 res) h):=by
 unfold yP at a;refine za Tryz.func79 rfl (by kernel_rfl) (yx 20 rfl) (R.r ?_);refine zf a (λj f a=>cp (ok118 f) (R.r ?_));refine zf a (λv2 c a=>cp (ok118 c) (R.r ?_));refine zi gg a (λi a=>?_) (λi a=>?_)
 ·apply R.r;refine zi gg a (λd a=>?_) (λd a=>?_)
  ·apply R.r;cases a;exact fz rfl rfl
  ·apply R.r;cases a;exact fz rfl rfl
 ·apply R.r;refine zi gg a (λb a=>?_) (λb a=>?_)
  ·apply R.r;cases a;exact fz rfl rfl
  ·apply R.r;refine zi gg a (λe a=>?_) (λe a=>?_)
   ·apply R.r;cases a;exact fz rfl rfl
   ·apply R.r;refine zi gg a (λg a=>?_) (λg a=>?_)
    ·apply R.r;cases a;exact fz rfl rfl
    ·apply R.r;cases a;exact fz rfl rfl
theorem ok148 {a0:GI} {f:GI} {res:Int}  (a:qM a0 f=some res):Sp 148 [.agg (GI.row a0),.agg (GI.row f)] h (yv (.int .i64 res) h):=by
 unfold qM at a;refine za Tryz.func148 rfl (by kernel_rfl) (yx 17 rfl) (R.r ?_);refine yn [4,9,11] [] trivial mixed (by kernel_rfl) (R.r ?_);refine zf a (λg e a=>zw rfl rfl (λ_=>sc rfl) (by rintro _ ⟨B2,T2,rfl,b⟩;exact ok79 e) ss (R.r ?_));refine zf a (λv2 c a=>zw rfl rfl (λ_=>sc rfl) (by rintro _ ⟨B2,T2,rfl,b⟩;exact ok179 c) ss ?_);refine zB rfl rfl (zr (es:=([g,v2]:List Int).map (intRow .i64)) rfl el47 ze3 rfl rfl (ze gg (ze gg zk)) (.cons (zb rfl) (.cons (zb rfl) .nil)) rfl rfl rfl) ss ?_;refine zf a (λv3 d a=>zw rfl rfl (λ_=>sc rfl) (by rintro _ ⟨B2,T2,rfl,b⟩;exact (ok77 d).le (.cons (leV.osl _ _ _) leL.nil)) ss (R.r ?_));cases a;exact fz rfl rfl
theorem ok180  (a:wj x0=some res):Sp 180 [.int .u64 x0] h (yv (.bool res) h):=by
 unfold wj at a;refine za Tryz.func180 rfl (by kernel_rfl) (yx 6 rfl) (R.r ?_);cases a;exact fz rfl rfl
theorem ok149 {res:Int}  (a:xp x0 y1=some res):Sp 149 [.int .u64 x0,.int .u64 y1] h (yv (.int .i64 res) h):=by
 unfold xp at a;refine za Tryz.func149 rfl (by kernel_rfl) (yx 20 rfl) (R.r ?_);refine zf a (λj f a=>cp (ok180 f) (R.r ?_));refine zf a (λv2 c a=>cp (ok180 c) (R.r ?_));refine zi gg a (λi a=>?_) (λi a=>?_)
 ·apply R.r;refine zi gg a (λd a=>?_) (λd a=>?_)
  ·apply R.r;cases a;exact fz rfl rfl
  ·apply R.r;cases a;exact fz rfl rfl
 ·apply R.r;refine zi gg a (λb a=>?_) (λb a=>?_)
  ·apply R.r;cases a;exact fz rfl rfl
  ·apply R.r;refine zi gg a (λe a=>?_) (λe a=>?_)
   ·apply R.r;cases a;exact fz rfl rfl
   ·apply R.r;refine zi gg a (λg a=>?_) (λg a=>?_)
    ·apply R.r;cases a;exact fz rfl rfl
    ·apply R.r;cases a;exact fz rfl rfl
theorem ok99 {a0:GC} {f:GC} {res:Int}  (a:qi a0 f=some res):Sp 99 [.agg (GC.row a0),.agg (GC.row f)] h (yv (.int .i64 res) h):=by
 unfold qi at a;refine za Tryz.func99 rfl (by kernel_rfl) (yx 17 rfl) (R.r ?_);refine yn [4,9,11] [] trivial mixed (by kernel_rfl) (R.r ?_);refine zf a (λg e a=>zw rfl rfl (λ_=>sc rfl) (by rintro _ ⟨B2,T2,rfl,b⟩;exact ok148 e) ss (R.r ?_));refine zf a (λv2 c a=>zw rfl rfl (λ_=>sc rfl) (by rintro _ ⟨B2,T2,rfl,b⟩;exact ok149 c) ss ?_);refine zB rfl rfl (zr (es:=([g,v2]:List Int).map (intRow .i64)) rfl el47 ze3 rfl rfl (ze gg (ze gg zk)) (.cons (zb rfl) (.cons (zb rfl) .nil)) rfl rfl rfl) ss ?_;refine zf a (λv3 d a=>zw rfl rfl (λ_=>sc rfl) (by rintro _ ⟨B2,T2,rfl,b⟩;exact (ok77 d).le (.cons (leV.osl _ _ _) leL.nil)) ss (R.r ?_));cases a;exact fz rfl rfl
theorem ok147 {a0:Int} {g:GC} {i:Int} {f:GC} {res:Int}  (a:leafXcompare a0 g i f=some res):Sp 147 [.int .u64 a0,.agg (GC.row g),.int .u64 i,.agg (GC.row f)] h (yv (.int .i64 res) h):=by
 unfold leafXcompare at a;refine za Tryz.func147 rfl (by kernel_rfl) (yx 17 rfl) (R.r ?_);refine yn [2,5,7] [] trivial mixed (by kernel_rfl) (R.r ?_);refine zf a (λj e a=>zw rfl rfl (λ_=>sc rfl) (by rintro _ ⟨B2,T2,rfl,b⟩;exact ok149 e) ss (R.r ?_));refine zf a (λv2 c a=>zw rfl rfl (λ_=>sc rfl) (by rintro _ ⟨B2,T2,rfl,b⟩;exact ok99 c) ss ?_);refine zB rfl rfl (zr (es:=([j,v2]:List Int).map (intRow .i64)) rfl el47 ze3 rfl rfl (ze gg (ze gg zk)) (.cons (zb rfl) (.cons (zb rfl) .nil)) rfl rfl rfl) ss ?_;refine zf a (λv3 d a=>zw rfl rfl (λ_=>sc rfl) (by rintro _ ⟨B2,T2,rfl,b⟩;exact (ok77 d).le (.cons (leV.osl _ _ _) leL.nil)) ss (R.r ?_));cases a;exact fz rfl rfl
theorem ok97 {b:Int} {f:GC} {a:Int} {e:GC}  (c:leafAhead b f a e=some res):Sp 97 [.int .u64 b,.agg (GC.row f),.int .u64 a,.agg (GC.row e)] h (yv (.bool res) h):=by
 unfold leafAhead at c;refine za Tryz.func97 rfl (by kernel_rfl) (yx 15 rfl) (R.r ?_);refine zf c (λg d c=>cp (ok147 d) (R.r ?_));cases c;exact fz rfl rfl
theorem ok98 {p:(List GF)}  (b:leafXtwice p=some res):Sp 98 [.sl 5 (p.map GF.row)] h (yv (.bool res) h):=by
 unfold leafXtwice at b;refine za Tryz.func98 rfl (by kernel_rfl) (yx 26 rfl) (R.r ?_);refine zc rfl (e_makeMap (n:=0) rfl rfl) ss (R.r ?_);refine ln λe=>?_;replace e:=yl e;apply R.r;refine zF (λ(s:Nat) (a:List (GC×Int))=>zu 1 2 (zu 4 3 (zu 10 16 [(9,.int .i64 (s:Int))]))) (λa=>h.ext [.mapo (a.map (mrow (λx=>AV.agg (GC.row x)) (AV.int .i64))) 0] []) b (λ_ _=>by simp only [zu,vE,ul,um];try rfl) (wk.le LEL.o) ?_;intro s a u b;apply R.r;refine zT gg b (λc w g l b i=>?_) (λb=>?_)
 ·apply R.r;refine ix (zM l) (R.r ?_);refine r_drawnF [3] (λ_=>MapE h 0 (a.map (mrow (λx=>AV.agg (GC.row x)) (AV.int .i64))) ((ment GC.eqb (0:Int) a c.dot).map (mrow (λx=>AV.agg (GC.row x)) (AV.int .i64)))) (λ_=>⟨_,_,rfl,.inl rfl⟩) mixed (by kernel_rfl) (R.r ?_);refine draw_okN rfl rfl (e_lookupF (m:=a) (k:=c.dot) (d:=(0:Int)) (j:=0) (kv:=(λx=>AV.agg (GC.row x))) (vv:=(AV.int .i64)) rfl Tryz.underlying190 kq30 az3 gg gg) ss (R.r ?_);refine zX rfl (FOk.all ⟨_,_,rfl,.inr rfl⟩) (by kernel_rfl) rfl (e_entry (m:=a) (k:=c.dot) (d:=(0:Int)) (j:=0) (kv:=(λx=>AV.agg (GC.row x))) (vv:=(AV.int .i64)) rfl Tryz.underlying190 kq30 az3 gg rfl gg rfl) ss (R.r ?_);refine zX rfl (FOk.skip (by kernel_rfl)) (by kernel_rfl) rfl (e_entryStore (m:=a) (k:=c.dot) (d:=(0:Int)) (v:=(IntKind.wrap .i64 ((xL GC.eqb (0:Int) a c.dot)+(1:Int)))) (j:=0) (eq:=GC.eqb) (kv:=(λx=>AV.agg (GC.row x))) (vv:=(AV.int .i64)) rfl gg rfl gg rfl gg rfl rfl) rfl (R.r ?_);cases b;exact ⟨(mput GC.eqb a c.dot (IntKind.wrap .i64 ((xL GC.eqb (0:Int) a c.dot)+(1:Int)))),g,i,wk.trans (wk.le (by exact (.eq (.drop (.drop (.eq (.drop (.drop (.drop (.eq (.eq (.cons (leV.of_eq (xB (by omega) (by omega))) (.d16 leL.nil))))))))))))) (zN (by simp [zy,AV.low]) rfl rfl (by simp [Blk.low,zy,AV.low,GC.row,mrow]))⟩
 ·apply R.r;refine ops_mlen (m:=a) (j:=0) (kv:=(λx=>AV.agg (GC.row x))) (vv:=(AV.int .i64)) rfl rfl rfl rfl rfl Tryz.underlying190 gg rfl ss (R.r ?_);refine ln λf=>?_;replace f:=yl f;apply R.r;cases b;exact fz rfl rfl
theorem ok54 {w:(List GF)} {b:Bool}  (a:qe w b=some res):Sp 54 [.sl 5 (w.map GF.row),.bool b] h (yv (.bool res) h):=by
 unfold qe at a;refine za Tryz.func54 rfl (by kernel_rfl) (yx 66 rfl) (R.r ?_);refine ln λe=>?_;replace e:=yl e;apply R.r;refine zF (λ(y:Nat) (x:Unit)=>zu 2 5 (zu 10 56 [(9,.int .i64 (y:Int))])) (λx=>h.ext [] []) a (λ_ _=>by simp only [zu,vE,ul,um];try rfl) (wk.le LEL.o) ?_;intro y x z a;apply R.r;refine zT gg a (λF E u s a d=>?_) (λa=>?_)
 ·apply R.r;refine ix (zM s) (R.r ?_);refine zf a (λA p a=>cp (ok52 p) (R.r ?_));refine zZ a (λD f a=>zH rfl sc (λc=>ok53 (f c)) ss (R.r ?_));refine zZ a (λB g a=>zH rfl sc (λc=>ok51 (g c)) ss ?_);refine qa rfl (λc=>xX rfl (zK gg c) (zK gg c) (bin_boolN ty4)) ss (R.r ?_);refine zi gg a (λl a=>?_) (λl a=>?_)
  ·apply R.r;cases a;replace a:=d;apply R.r;cases a;exact fz rfl rfl
  ·apply R.r;refine xk (by kernel_rfl) (R.r ?_);refine z7 a (λn a=>dgix n (R.r ?_));refine z7 a (λm a=>dgix m (R.r ?_));refine zZ a (λC k a=>x7 rfl rfl sc (λc=>ok97 (k c)) ss (R.r ?_));refine zi gg a (λj a=>?_) (λj a=>?_)
   ·apply R.r;cases a;replace a:=d;apply R.r;cases a;exact fz rfl rfl
   ·apply R.r;cases a;exact ⟨(),u,d,wk.trans (wk.le (by exact (.eq (.eq (.d4 (.drop (.eq (.eq (.cons (leV.of_eq (xB (by omega) (by omega))) (.d16 (.d16 (.d16 (.d4 (.d4 leL.nil)))))))))))))) (zN (by simp [zy,AV.low]) rfl rfl (by simp [Blk.low,zy,AV.low]))⟩
 ·apply R.r;refine zf a (λv21 i a=>cp (ok98 i) (R.r ?_));cases a;exact fz rfl rfl
theorem ok181 {w:(List GF)} {u:(GF->Option Bool)} {res:Int} (s:∀x0 v (L:List Blk) (M:List Nat),u x0=some v->Sp ff1 (af1++[.agg (GF.row x0)]++kf1) (h.ext L M) (yv (.bool v) (h.ext L M))) (a:xO w u=some res):Sp 181 [.sl 5 (w.map GF.row),.fn (.func ff1) af1 kf1] h (yv (.int .i64 res) h):=by
 unfold xO at a;refine zO Tryz.func181 rfl (by kernel_rfl) (yx 19 rfl) (λb A=>?_);simp only [zy,AV.low,ud,u5,tF] at b;have j:∀n m,h.blks.length<=n->h.toks.length<=m->zy n m af1=true:=λn m g e=>ya g e _ (by simp [b]);have f:∀n m,h.blks.length<=n->h.toks.length<=m->zy n m kf1=true:=λn m g e=>ya g e _ (by simp [b]);apply R.r;refine ln λc=>?_;replace c:=yl c;apply R.r;refine zF (λ(y:Nat) (x:Unit)=>zu 2 5 (zu 9 10 [(8,.int .i64 (y:Int))])) (λx=>h.ext [] []) a (λ_ _=>by simp only [zu,vE,ul,um];try rfl) (wk.le LEL.o) ?_;intro y x z a;apply R.r;refine zT gg a (λD C p i a d=>?_) (λa=>?_)
 ·apply R.r;refine ix (zM i) (R.r ?_);refine zf a (λB l a=>yO rfl (scC rfl) (s _ _ _ _ l) ss (R.r ?_));refine zi gg a (λk a=>?_) (λk a=>?_)
  ·apply R.r;cases a;replace a:=d;apply R.r;cases a;exact fz rfl rfl
  ·apply R.r;cases a;exact ⟨(),p,d,wk.le (by exact (.eq (.eq (.d4 (.drop (.eq (.cons (leV.of_eq (xB (by omega) (by omega))) (.d4 (.d4 (.drop (.drop leL.nil)))))))))))⟩
 ·apply R.r;cases a;exact fz rfl rfl
theorem ok150 {k:(List GF)} {j:(GF->Option Bool)} (d:∀x0 v (L:List Blk) (M:List Nat),j x0=some v->Sp ff1 (af1++[.agg (GF.row x0)]++kf1) (h.ext L M) (yv (.bool v) (h.ext L M))) (b:yK k j=some res):Sp 150 [.sl 5 (k.map GF.row),.fn (.func ff1) af1 kf1] h (yv (.bool res) h):=by
 unfold yK at b;refine zO Tryz.func150 rfl (by kernel_rfl) (yx 9 rfl) (λa o=>?_);simp only [zy,AV.low,ud,u5,tF] at a;have c:∀n m,h.blks.length<=n->h.toks.length<=m->zy n m af1=true:=λn m i e=>ya i e _ (by simp [a]);have f:∀n m,h.blks.length<=n->h.toks.length<=m->zy n m kf1=true:=λn m i e=>ya i e _ (by simp [a]);apply R.r;refine zf b (λp g b=>cp (ok181 (λx0 v L M l=>by rw [yZ];exact d x0 v _ _ l) g) (R.r ?_));cases b;exact fz rfl rfl
theorem ok151 {x0:GF} {c0:GC} {i0:Nat} (a:h.blk i0=some (.cells (GC.row c0))) (b:leafXhasC1 x0 c0=some res):Sp 151 [.agg (GF.row x0),.ptr i0 0] h (yv (.bool res) h):=by
 unfold leafXhasC1 at b;refine za Tryz.func151 rfl (by kernel_rfl) (yx 8 rfl) (R.r ?_);refine zc rfl (b_load rfl ty30.choose_spec.1 gg a (wN (cs':=(GC.row c0)) ty30.choose_spec.2 rfl rfl) (zb rfl)) ss ?_;refine zc rfl (xX rfl gg gg (bin_eq pk30 rfl)) ss (R.r ?_);cases b;exact fz rfl rfl
theorem ok100 {c:(List GF)} {d:GC}  (a:leafXhas c d=some res):Sp 100 [.sl 5 (c.map GF.row),.agg (GC.row d)] h (yv (.bool res) h):=by
 unfold leafXhas at a;refine za Tryz.func100 rfl (by kernel_rfl) (yx 8 rfl) (R.r ?_);refine zc rfl (vg rfl rfl rfl) ss ?_;refine zf a (λf b a=>cp (ok150 (λ_ v L M e=>ok151 (blk_ext2 (j:=0) rfl) e) b) (R.r ?_));cases a;exact fz rfl rfl
theorem ok55 {l:GE}  (a:leafXtombs l=some res):Sp 55 [.agg (GE.row l)] h (yv (.bool res) h):=by
 unfold leafXtombs at a;refine za Tryz.func55 rfl (by kernel_rfl) (yx 38 rfl) (R.r ?_);refine ln λc=>?_;replace c:=yl c;apply R.r;refine zF (λ(p:Nat) (n:Unit)=>zu 2 4 (zu 9 29 [(0,.any),(8,.int .i64 (p:Int))])) (λn=>h.ext [.cells (GE.row l)] []) a (λ_ _=>by simp only [zu,vE,ul,um];try rfl) (wk.le LEL.o) ?_;intro p n s a;apply R.r;refine zT gg a (λy x m k a i=>?_) (λa=>?_)
 ·apply R.r;refine ix (zM k) (R.r ?_);refine yn [1] [] trivial mixed (by kernel_rfl) (R.r ?_);refine zf a (λw f a=>zw rfl rfl (λ_=>sc rfl) (by rintro _ ⟨B2,T2,rfl,u⟩;exact ok52 f) ss (R.r ?_));refine z7 a (λg a=>dgix g (R.r ?_));refine zZ a (λv21 e a=>x7 rfl (aG_gv rfl rfl rfl) sc (λj=>ok99 (e j)) ss (R.r ?_));refine zZ a (λv22 b a=>x7 rfl rfl sc (λj=>ok100 (b j)) ss (R.r ?_));refine zi gg a (λd a=>?_) (λd a=>?_)
  ·apply R.r;cases a;replace a:=i;apply R.r;cases a;exact fz rfl rfl
  ·apply R.r;cases a;exact ⟨(),m,i,wk.trans (wk.le (by exact (.drop (.eq (.d4 (.eq (.eq (.cons (leV.of_eq (xB (by omega) (by omega))) (.d16 (.d4 (.d4 (.d4 (.drop leL.nil))))))))))))) (zN (by simp [zy,AV.low]) rfl rfl (by simp [Blk.low,zy,AV.low]))⟩
 ·apply R.r;cases a;exact fz rfl rfl
theorem ok101 {f:(List GF)} {i:(List GF)}  (a:wd f i=some res):Sp 101 [.sl 5 (f.map GF.row),.sl 5 (i.map GF.row)] h (yv (.bool res) h):=by
 unfold wd at a;refine za Tryz.func101 rfl (by kernel_rfl) (yx 26 rfl) (R.r ?_);refine ln λd=>?_;replace d:=yl d;apply R.r;refine ln λg=>?_;replace g:=yl g;apply R.r;refine zi gg a (λm a=>?_) (λm a=>?_)
 ·apply R.r;cases a;exact fz rfl rfl
 ·apply R.r;refine ln λb=>?_;replace b:=yl b;apply R.r;refine zF (λ(p:Nat) (n:Unit)=>zu 2 10 (zu 14 12 [(13,.int .i64 (p:Int))])) (λn=>h.ext [] []) a (λ_ _=>by simp only [zu,vE,ul,um];try rfl) (wk.le LEL.o) ?_;intro p n s a;apply R.r;refine zT gg a (λx w l k a j=>?_) (λa=>?_)
  ·apply R.r;refine xk (by kernel_rfl) (R.r ?_);refine dix (zM k) (R.r ?_);refine zf a (λu c a=>dix c (R.r ?_));refine zB rfl rfl (xX rfl gg gg (bin_ne pk54 rfl)) ss (R.r ?_);refine zi gg a (λe a=>?_) (λe a=>?_)
   ·apply R.r;cases a;replace a:=j;apply R.r;cases a;exact fz rfl rfl
   ·apply R.r;cases a;exact ⟨(),l,j,wk.le (by exact (.eq (.eq (.d4 (.d4 (.drop (.drop (.eq (.cons (leV.of_eq (xB (by omega) (by omega))) (.d4 (.d4 (.d4 leL.nil))))))))))))⟩
  ·apply R.r;cases a;exact fz rfl rfl
theorem ok102 {f:(List GC)} {i:(List GC)}  (a:wv f i=some res):Sp 102 [.sl 3 (f.map GC.row),.sl 3 (i.map GC.row)] h (yv (.bool res) h):=by
 unfold wv at a;refine za Tryz.func102 rfl (by kernel_rfl) (yx 26 rfl) (R.r ?_);refine ln λd=>?_;replace d:=yl d;apply R.r;refine ln λg=>?_;replace g:=yl g;apply R.r;refine zi gg a (λm a=>?_) (λm a=>?_)
 ·apply R.r;cases a;exact fz rfl rfl
 ·apply R.r;refine ln λb=>?_;replace b:=yl b;apply R.r;refine zF (λ(p:Nat) (n:Unit)=>zu 2 10 (zu 14 12 [(13,.int .i64 (p:Int))])) (λn=>h.ext [] []) a (λ_ _=>by simp only [zu,vE,ul,um];try rfl) (wk.le LEL.o) ?_;intro p n s a;apply R.r;refine zT gg a (λx w l k a j=>?_) (λa=>?_)
  ·apply R.r;refine xk (by kernel_rfl) (R.r ?_);refine dix (zM k) (R.r ?_);refine zf a (λu c a=>dix c (R.r ?_));refine zB rfl rfl (xX rfl gg gg (bin_ne pk30 rfl)) ss (R.r ?_);refine zi gg a (λe a=>?_) (λe a=>?_)
   ·apply R.r;cases a;replace a:=j;apply R.r;cases a;exact fz rfl rfl
   ·apply R.r;cases a;exact ⟨(),l,j,wk.le (by exact (.eq (.eq (.d4 (.d4 (.drop (.drop (.eq (.cons (leV.of_eq (xB (by omega) (by omega))) (.d4 (.d4 (.d4 leL.nil))))))))))))⟩
  ·apply R.r;cases a;exact fz rfl rfl
theorem ok56 {a0:GE} {e:GE}  (b:xR a0 e=some res):Sp 56 [.agg (GE.row a0),.agg (GE.row e)] h (yv (.bool res) h):=by
 unfold xR at b;refine za Tryz.func56 rfl (by kernel_rfl) (yx 52 rfl) (R.r ?_);refine qa rfl (λa=>xX rfl (zK gg a) (zK gg a) (bin_eq pk30 rfl)) ss (R.r ?_);refine zZ b (λf d b=>zH rfl sc (λa=>ok101 (d a)) ss (R.r ?_));refine zZ b (λv2 c b=>zH rfl sc (λa=>ok102 (c a)) ss (R.r ?_));cases b;exact fz rfl rfl
theorem ok24 {b:GE}  (a:leafMay b=some res):Sp 24 [.agg (GE.row b)] h (yv (.bool res) h):=by
 unfold leafMay at a;refine za Tryz.func24 rfl (by kernel_rfl) (yx 89 rfl) (R.r ?_);refine zc rfl (yf (cs':=[.int .u8 b.typ,.int .i64 (0:Int),.int .u64 (0:Int),.int .u8 (0:Int),.int .u32 (0:Int),.int .u64 (0:Int),.str ([]:zd),.osl none 5 (([]:List GF).map GF.row),.osl none 3 (([]:List GC).map GC.row)]) rfl su34 ze34 pl34 (ze gg zk) (.cons (zb rfl) .nil) rfl rfl) ss (R.r ?_);refine zi gg a (λz a=>?_) (λz a=>?_)
 ·apply R.r;refine zf a (λv2 o a=>cp ((ok56 o).le (.eq (.cons (leV.agg (.eq (.eq (.eq (.eq (.eq (.eq (.eq (.cons (leV.osl _ _ _) (.cons (leV.osl _ _ _) leL.nil))))))))) rfl) leL.nil))) (R.r ?_));cases a;exact fz rfl rfl
 ·apply R.r;refine zi gg a (λy a=>?_) (λy a=>?_)
  ·apply R.r;refine yn [3,5] [(3,[(0,.cells (GE.row b))]),(5,[(0,.cells (GE.row b))])] ⟨⟨rfl,trivial⟩,⟨rfl,trivial⟩,trivial⟩ mixed (by kernel_rfl) (R.r ?_);refine draw_okN rfl rfl (by rintro _ ⟨B2,T2,rfl,c⟩;exact wn rfl ty30.choose_spec.1 gg (keeps1 c) (wN (cs':=(GC.row b.dot)) ty30.choose_spec.2 rfl rfl) (zb rfl)) ss (R.r ?_);refine draw_okN rfl rfl (by rintro _ ⟨B2,T2,rfl,c⟩;exact wn rfl ty9 gg (keeps1 c) (yy rfl) (zb rfl)) ss (R.r ?_);refine zX rfl (FOk.cons (.inr (yT ⟨rfl,trivial⟩)) (FOk.cons (.inr (yT ⟨rfl,trivial⟩)) FOk.nil)) (by kernel_rfl) rfl (yo (cs':=[.int .u8 b.typ,.int .i64 (0:Int),.int .u64 b.time,.int .u8 (0:Int),.int .u32 (0:Int),.int .u64 (0:Int),.str ([]:zd),.osl none 5 (([]:List GF).map GF.row),.osl none 3 (([]:List GC).map GC.row)]) rfl ty25 gg gg (zb rfl) rfl rfl rfl rfl rfl) rfl (R.r ?_);refine zX rfl (FOk.cons (.inr (yT ⟨rfl,trivial⟩)) (FOk.cons (.inr (yT ⟨rfl,trivial⟩)) FOk.nil)) (by kernel_rfl) rfl (yo (cs':=[.int .u8 b.typ,.int .i64 (0:Int),.int .u64 b.time,.int .u8 b.dot.actor.rep,.int .u32 b.dot.actor.inc,.int .u64 b.dot.seq,.str ([]:zd),.osl none 5 (([]:List GF).map GF.row),.osl none 3 (([]:List GC).map GC.row)]) rfl ty30.choose_spec.1 gg gg (zb rfl) rfl rfl rfl rfl rfl) rfl (R.r ?_);refine zX rfl (FOk.cons (.inr (yT ⟨rfl,trivial⟩)) (FOk.cons (.inr (yT ⟨rfl,trivial⟩)) FOk.nil)) (by kernel_rfl) rfl (yo (cs':=[.int .u8 b.typ,.int .i64 (0:Int),.int .u64 b.time,.int .u8 b.dot.actor.rep,.int .u32 b.dot.actor.inc,.int .u64 b.dot.seq,.str b.text,.osl none 5 (([]:List GF).map GF.row),.osl none 3 (([]:List GC).map GC.row)]) rfl ty9 gg gg (zb rfl) rfl rfl rfl rfl rfl) rfl (R.r ?_);refine zZ a (λv4 n a=>zH rfl sc (λd=>ok51 (n d)) ss (R.r ?_));refine zZ a (λv5 w a=>zH (aG_gv rfl rfl rfl) sc (λd=>ok52 (w d)) ss (R.r ?_));refine zZ a (λF x a=>zH (aG_gv rfl rfl rfl) sc (λd=>ok53 (x d)) ss (R.r ?_));refine qa (aG_gv rfl rfl rfl) (λd=>yf (cs':=lit1x) rfl su30 ze30 pl30 zk .nil rfl rfl) ss ?_;refine qa (aG_gv rfl rfl rfl) (λd=>xX rfl (zK gg d) (zK gg d) (bin_ne pk30 rfl)) ss (R.r ?_);refine zi gg a (λu a=>?_) (λu a=>?_)
   ·apply R.r;cases a;exact fz rfl rfl
   ·apply R.r;refine zf a (λG p a=>cp ((ok56 p).le (.eq (.cons (leV.agg (.eq (.eq (.eq (.eq (.eq (.eq (.eq (.cons (leV.osl _ _ _) (.cons (leV.osl _ _ _) leL.nil))))))))) rfl) leL.nil))) (R.r ?_));cases a;exact fz rfl rfl
  ·apply R.r;refine zi gg a (λs a=>?_) (λs a=>?_)
   ·apply R.r;refine yn [3] [(3,[(0,.cells (GE.row b))])] ⟨⟨rfl,trivial⟩,trivial⟩ mixed (by kernel_rfl) (R.r ?_);refine draw_okN rfl rfl (by rintro _ ⟨B2,T2,rfl,c⟩;exact wn rfl ty32 gg (keeps1 c) (yy rfl) (zb rfl)) ss (R.r ?_);refine zX rfl (FOk.cons (.inr (yT ⟨rfl,trivial⟩)) FOk.nil) (by kernel_rfl) rfl (yo (cs':=[.int .u8 b.typ,.int .i64 (0:Int),.int .u64 (0:Int),.int .u8 (0:Int),.int .u32 (0:Int),.int .u64 (0:Int),.str ([]:zd),.sl 5 (b.items.map GF.row),.osl none 3 (([]:List GC).map GC.row)]) rfl ty31 gg gg (zb rfl) rfl rfl rfl rfl rfl) rfl (R.r ?_);refine zX rfl (FOk.cons (.inr (yT ⟨rfl,trivial⟩)) FOk.nil) (by kernel_rfl) rfl (yo (cs':=[.int .u8 b.typ,.int .i64 (0:Int),.int .u64 (0:Int),.int .u8 (0:Int),.int .u32 (0:Int),.int .u64 (0:Int),.str ([]:zd),.sl 5 (b.items.map GF.row),.sl 3 (b.tombs.map GC.row)]) rfl ty32 gg gg (zb rfl) rfl rfl rfl rfl rfl) rfl (R.r ?_);refine zf a (λB g a=>cp (ok54 g) (R.r ?_));refine zZ a (λE l a=>zH rfl sc (λd=>ok55 (l d)) ss (R.r ?_));refine zi gg a (λk a=>?_) (λk a=>?_)
    ·apply R.r;cases a;exact fz rfl rfl
    ·apply R.r;refine zf a (λA m a=>cp (ok56 m) (R.r ?_));cases a;exact fz rfl rfl
   ·apply R.r;refine zi gg a (λe a=>?_) (λe a=>?_)
    ·apply R.r;refine zf a (λC f a=>cp (ok54 f) (R.r ?_));refine zi gg a (λj a=>?_) (λj a=>?_)
     ·apply R.r;cases a;exact fz rfl rfl
     ·apply R.r;refine zf a (λD i a=>cp ((ok56 i).le (.eq (.cons (leV.agg (.eq (.eq (.eq (.eq (.eq (.eq (.eq (.eq (.cons (leV.osl _ _ _) leL.nil))))))))) rfl) leL.nil))) (R.r ?_));cases a;exact fz rfl rfl
    ·apply R.r;cases a;exact fz rfl rfl
theorem ok158 {a:Int} {res:zd} (b:vF a p1=some res):Sp 158 [.int .u64 a,.int .i64 p1] h (yv (.str res) h) :=
 spec_fmtU b
theorem ok105 {res:zd}  (a:yU n0=some res):Sp 105 [.int .u64 n0] h (yv (.str res) h):=by
 unfold yU at a;refine za Tryz.func105 rfl (by kernel_rfl) (yx 5 rfl) (R.r ?_);refine zf a (λc b a=>cp (ok158 b) (R.r ?_));cases a;exact fz rfl rfl
theorem ok106 {k:GC} {res:zd}  (a:yW k=some res):Sp 106 [.agg (GC.row k)] h (yv (.str res) h):=by
 unfold yW at a;refine za Tryz.func106 rfl (by kernel_rfl) (yx 20 rfl) (R.r ?_);refine yn [4,10,15] [] trivial mixed (by kernel_rfl) (R.r ?_);refine zB rfl rfl (yF rfl ty5 ty25 gg rfl) ss ?_;refine zf a (λm f a=>zw rfl rfl (λ_=>sc rfl) (by rintro _ ⟨B2,T2,rfl,b⟩;exact ok105 f) ss ?_);refine z7 a (λi a=>zB rfl rfl (xX rfl gg rfl (uv i)) ss (R.r ?_));refine zB rfl rfl (yF rfl ty26 ty25 gg rfl) ss ?_;refine zf a (λv3 c a=>zw rfl rfl (λ_=>sc rfl) (by rintro _ ⟨B2,T2,rfl,b⟩;exact ok105 c) ss ?_);refine z7 a (λj a=>zB rfl rfl (xX rfl gg gg (uv j)) ss ?_);refine z7 a (λg a=>zB rfl rfl (xX rfl gg rfl (uv g)) ss (R.r ?_));refine zf a (λl d a=>zw rfl rfl (λ_=>sc rfl) (by rintro _ ⟨B2,T2,rfl,b⟩;exact ok105 d) ss ?_);refine z7 a (λe a=>zB rfl rfl (xX rfl gg gg (uv e)) ss (R.r ?_));cases a;exact fz rfl rfl
theorem ok107 {a:zd} {res:zd} (b:qh a=some res):Sp 107 [.str a] h (yv (.str res) h) :=
 spec_hex b
theorem ok64 {s:GE} {res:(List zd)}  (a:exportXlog s=some res):Sp 64 [.agg (GE.row s)] h (yv (.sl 1 (res.map zg)) h):=by
 unfold exportXlog at a;refine za Tryz.func64 rfl (by kernel_rfl) (yx 30 rfl) (R.r ?_);refine ln λk=>?_;replace k:=yl k;apply R.r;refine zF (λ(x:Nat) (c:(List zd))=>zu 0 2 (zu 3 3 (zu 9 21 [(2,ve h 0 1 (c.map zg)),(8,.int .i64 (x:Int))]))) (λc=>h.ext [.cells (GE.row s)] [c.length]) a (λ_ _=>by simp only [zu,vE,ul,um];try rfl) (wk.trans (wk_tok gt2 rfl st2 rfl) (wk.le (by exact (.drop (.drop (.cons (leV.of_eq rfl) (.drop (.drop (.drop (.eq (.eq (.cons (leV.of_eq rfl) (.d16 (.d4 (.drop leL.nil))))))))))))))) ?_;intro x c y a;apply R.r;refine zT gg a (λA z u p a w=>?_) (λa=>?_)
 ·apply R.r;refine ix (zM p) (R.r ?_);refine yn [3,7,12] [] trivial mixed (by kernel_rfl) (R.r ?_);refine zf a (λv23 o a=>zw rfl rfl (λ_=>sc rfl) (by rintro _ ⟨B2,T2,rfl,e⟩;exact ok105 o) ss ?_);refine z7 a (λi a=>zB rfl rfl (xX rfl gg rfl (uv i)) ss (R.r ?_));refine zf a (λv25 l a=>zw rfl rfl (λ_=>sc rfl) (by rintro _ ⟨B2,T2,rfl,e⟩;exact ok106 l) ss ?_);refine z7 a (λg a=>zB rfl rfl (xX rfl gg gg (uv g)) ss ?_);refine z7 a (λd a=>zB rfl rfl (xX rfl gg rfl (uv d)) ss (R.r ?_));refine zf a (λb n a=>zw rfl rfl (λ_=>sc rfl) (by rintro _ ⟨B2,T2,rfl,e⟩;exact ok107 n) ss ?_);refine z7 a (λf a=>zB rfl rfl (xX rfl gg gg (uv f)) ss ?_);refine zB rfl rfl (zr (es:=([((((v23++([64]:zd))++v25)++([61]:zd))++b)]:List zd).map zg) rfl el24 ze9 rfl rfl (ze gg zk) (.cons (zb rfl) .nil) rfl rfl rfl) ss ?_;refine z7 a (λm a=>wF rfl (FOk.cons (.inr (yT trivial)) (FOk.cons (.inr (yT trivial)) (FOk.cons (.inr (yT trivial)) FOk.nil))) (by rfl) rfl (xw (j:=0) (T':=[((c++([((((v23++([64]:zd))++v25)++([61]:zd))++b)]:List zd))).length]) rfl rfl rfl rfl el24 el24 gg gg (zb rfl) (zb rfl) yI m rfl rfl) ss (R.r ?_));cases a;exact ⟨(c++([((((v23++([64]:zd))++v25)++([61]:zd))++b)]:List zd)),u,w,wk.trans (wk.le (by exact (.drop (.drop (.cons (leV.of_eq rfl) (.drop (.drop (.drop (.eq (.eq (.cons (leV.of_eq (xB (by omega) (by omega))) (.d16 (.d4 (.drop leL.nil)))))))))))))) (zN (by simp [zy,AV.low]) rfl rfl (by simp [Blk.low,zy,AV.low]))⟩
 ·apply R.r;cases a;exact fe rfl rfl (leV.osl _ _ _)
theorem qE {b:zd} {a:Int} {res:Int×Bool} (c:zp b p1 a=some res):Sp 159 [.str b,.int .i64 p1,.int .i64 a] h (yv (.tup [.int .u64 res.1,errv 225 res.2]) h) :=
 spec_parseU c
def cutTryzRen:Go.Shelf.Ren :=
  { f:=λx=>match x with
      | 145=>36
      | 217=>162
      | 219=>115
      | 220=>73
      | 224=>164
      | 225=>163
      | 266=>194
      | 267=>165
      | 314=>195
      | n=>n
    t:=λx=>match x with
      | 3=>3
      | 4=>4
      | 5=>5
      | 9=>9
      | 46=>208
      | 51=>26
      | 59=>83
      | 146=>229
      | n=>n
    g:=λx=>match x with
      | 1=>0
      | n=>n }
theorem cutTryzLays:Go.Proofs.LaysM.n145 Tryz.prog cutTryzRen where
  mixed:=mixed
  f145:=Tryz.func36.trans (by kernel_rfl)
  f217:=Tryz.func162.trans (by kernel_rfl)
  f219:=Tryz.func115.trans (by kernel_rfl)
  f220:=Tryz.func73.trans (by kernel_rfl)
  f224:=Tryz.func164.trans (by kernel_rfl)
  f225:=Tryz.func163.trans (by kernel_rfl)
  f266:=Tryz.func194.trans (by kernel_rfl)
  f267:=Tryz.func165.trans (by kernel_rfl)
  f314:=Tryz.func195.trans (by kernel_rfl)
  t3:=Tryz.underlying3
  a3:=Tryz.isAgg3
  z3:=Tryz.sizeOf3
  v3:=Tryz.zeroValue3
  t4:=Tryz.underlying4
  a4:=Tryz.isAgg4
  z4:=Tryz.sizeOf4
  v4:=Tryz.zeroValue4
  t5:=Tryz.underlying5
  a5:=Tryz.isAgg5
  z5:=Tryz.sizeOf5
  v5:=Tryz.zeroValue5
  t9:=Tryz.underlying9
  a9:=Tryz.isAgg9
  z9:=Tryz.sizeOf9
  v9:=Tryz.zeroValue9
  t46:=Tryz.underlying208
  a46:=Tryz.isAgg208
  z46:=Tryz.sizeOf208
  v46:=Tryz.zeroValue208
  t51:=Tryz.underlying26
  a51:=Tryz.isAgg26
  z51:=Tryz.sizeOf26
  v51:=Tryz.zeroValue26
  t59:=Tryz.underlying83
  a59:=Tryz.isAgg83
  z59:=Tryz.sizeOf83
  v59:=Tryz.zeroValue83
  t146:=Tryz.underlying229
  a146:=Tryz.isAgg229
  z146:=Tryz.sizeOf229
  v146:=Tryz.zeroValue229
  g1:=by kernel_rfl
  i3:=by kernel_rfl
  i4:=by kernel_rfl
  i5:=by kernel_rfl
  i9:=by kernel_rfl
  i46:=by kernel_rfl
  i51:=by kernel_rfl
  i59:=by kernel_rfl
  i146:=by kernel_rfl
  m1:=by kernel_rfl
  s1_3:=λw h=>cell_of_shapedOpen_int (P:=Tryz.prog) (g:=0) (t:=3) (zero:=#[.int .i64 0]) h (u9 (by kernel_rfl)) (by kernel_rfl) rfl (by kernel_rfl) (by kernel_rfl) Tryz.underlying3
theorem ok36 {a p1:zd} {res:zd×zd×Bool} (b:xb a p1=some res):Sp 36 [.str a,.str p1] h (yv (.tup [.str res.1,.str res.2.1,.bool res.2.2]) h) :=
 spec_cut cutTryzLays b
def splitTryzRen:Go.Shelf.Ren :=
  { f:=λx=>match x with
      | 146=>74
      | 221=>116
      | 268=>166
      | 138=>167
      | 143=>168
      | 195=>196
      | 197=>197
      | 218=>198
      | 219=>115
      | 260=>217
      | 217=>162
      | 225=>163
      | 224=>164
      | 267=>165
      | 266=>194
      | 314=>195
      | n=>n
    t:=λx=>match x with
      | 9=>9
      | 31=>24
      | 3=>3
      | 4=>4
      | 0=>0
      | 105=>232
      | 21=>21
      | 5=>5
      | 46=>208
      | 119=>257
      | 139=>260
      | 138=>259
      | 146=>229
      | 51=>26
      | n=>n
    g:=λx=>match x with
      | 1=>0
      | 3=>6
      | 4=>7
      | n=>n }
theorem splitTryzLays:Go.Proofs.LaysM.n146 Tryz.prog splitTryzRen where
  mixed:=mixed
  f146:=Tryz.func74.trans (by kernel_rfl)
  f221:=Tryz.func116.trans (by kernel_rfl)
  f268:=Tryz.func166.trans (by kernel_rfl)
  f138:=Tryz.func167.trans (by kernel_rfl)
  f143:=Tryz.func168.trans (by kernel_rfl)
  f195:=Tryz.func196.trans (by kernel_rfl)
  f197:=Tryz.func197.trans (by kernel_rfl)
  f218:=Tryz.func198.trans (by kernel_rfl)
  f219:=Tryz.func115.trans (by kernel_rfl)
  f260:=Tryz.func217.trans (by kernel_rfl)
  f217:=Tryz.func162.trans (by kernel_rfl)
  f225:=Tryz.func163.trans (by kernel_rfl)
  f224:=Tryz.func164.trans (by kernel_rfl)
  f267:=Tryz.func165.trans (by kernel_rfl)
  f266:=Tryz.func194.trans (by kernel_rfl)
  f314:=Tryz.func195.trans (by kernel_rfl)
  t0:=Tryz.underlying0
  a0:=Tryz.isAgg0
  z0:=Tryz.sizeOf0
  v0:=Tryz.zeroValue0
  t3:=Tryz.underlying3
  a3:=Tryz.isAgg3
  z3:=Tryz.sizeOf3
  v3:=Tryz.zeroValue3
  t4:=Tryz.underlying4
  a4:=Tryz.isAgg4
  z4:=Tryz.sizeOf4
  v4:=Tryz.zeroValue4
  t5:=Tryz.underlying5
  a5:=Tryz.isAgg5
  z5:=Tryz.sizeOf5
  v5:=Tryz.zeroValue5
  t9:=Tryz.underlying9
  a9:=Tryz.isAgg9
  z9:=Tryz.sizeOf9
  v9:=Tryz.zeroValue9
  t21:=Tryz.underlying21
  a21:=Tryz.isAgg21
  z21:=Tryz.sizeOf21
  v21:=Tryz.zeroValue21
  t31:=Tryz.underlying24
  a31:=Tryz.isAgg24
  z31:=Tryz.sizeOf24
  v31:=Tryz.zeroValue24
  t46:=Tryz.underlying208
  a46:=Tryz.isAgg208
  z46:=Tryz.sizeOf208
  v46:=Tryz.zeroValue208
  t51:=Tryz.underlying26
  a51:=Tryz.isAgg26
  z51:=Tryz.sizeOf26
  v51:=Tryz.zeroValue26
  t105:=Tryz.underlying232
  a105:=Tryz.isAgg232
  z105:=Tryz.sizeOf232
  v105:=Tryz.zeroValue232
  t119:=Tryz.underlying257
  a119:=Tryz.isAgg257
  z119:=Tryz.sizeOf257
  t138:=Tryz.underlying259
  a138:=Tryz.isAgg259
  z138:=Tryz.sizeOf259
  v138:=Tryz.zeroValue259
  t139:=Tryz.underlying260
  a139:=Tryz.isAgg260
  z139:=Tryz.sizeOf260
  v139:=Tryz.zeroValue260
  t146:=Tryz.underlying229
  a146:=Tryz.isAgg229
  z146:=Tryz.sizeOf229
  v146:=Tryz.zeroValue229
  g1:=by kernel_rfl
  g3:=by kernel_rfl
  g4:=by kernel_rfl
  i0:=by kernel_rfl
  i3:=by kernel_rfl
  i4:=by kernel_rfl
  i5:=by kernel_rfl
  i9:=by kernel_rfl
  i21:=by kernel_rfl
  i31:=by kernel_rfl
  i46:=by kernel_rfl
  i51:=by kernel_rfl
  i105:=by kernel_rfl
  i138:=by kernel_rfl
  i139:=by kernel_rfl
  i146:=by kernel_rfl
  m1:=by kernel_rfl
  m3:=by kernel_rfl
  m4:=by kernel_rfl
  s1_3:=λw h=>cell_of_shapedOpen_int (P:=Tryz.prog) (g:=0) (t:=3) (zero:=#[.int .i64 0]) h (u9 (by kernel_rfl)) (by kernel_rfl) rfl (by kernel_rfl) (by kernel_rfl) Tryz.underlying3
theorem ok74 {a:zd} {p1:zd} {res:List zd} (b:ye a p1=some res):Sp 74 [.str a,.str p1] h (yv (.sl 1 (res.map zg)) h) :=
 spec_split splitTryzLays b
theorem ok58 {a:Int} {res:zd} (b:vW a p1=some res):Sp 58 [.int .i64 a,.int .i64 p1] h (yv (.str res) h) :=
 spec_fmtI b
theorem ok57 {c:GE} {res:(List zd)}  (a:wE c=some res):Sp 57 [.agg (GE.row c)] h (yv (.sl 1 (res.map zg)) h):=by
 unfold wE at a;refine za Tryz.func57 rfl (by kernel_rfl) (yx 7 rfl) (R.r ?_);refine zf a (λd b a=>cp (ok58 b) ?_);refine zc rfl (zr (es:=([d]:List zd).map zg) rfl el24 ze9 rfl rfl (ze gg zk) (.cons (zb rfl) .nil) rfl rfl rfl) ss (R.r ?_);cases a;exact fe rfl rfl (leV.osl _ _ _)
theorem ok104 {b:zd} {a:Int} {res:Int×Bool} (c:wc b p1 a=some res):Sp 104 [.str b,.int .i64 p1,.int .i64 a] h (yv (.tup [.int .i64 res.1,errv 225 res.2]) h) :=
 spec_parseI c
theorem ok60 {g:GE} {res:(List zd)}  (a:xd g=some res):Sp 60 [.agg (GE.row g)] h (yv (.sl 1 (res.map zg)) h):=by
 unfold xd at a;refine za Tryz.func60 rfl (by kernel_rfl) (yx 17 rfl) (R.r ?_);refine zi gg a (λf a=>?_) (λf a=>?_)
 ·apply R.r;refine zc rfl (zr (es:=([([45]:zd)]:List zd).map zg) rfl el24 ze9 rfl rfl (ze rfl zk) (.cons (zb rfl) .nil) rfl rfl rfl) ss (R.r ?_);cases a;exact fe rfl rfl (leV.osl _ _ _)
 ·apply R.r;refine yn [2,5,8] [] trivial mixed (by kernel_rfl) (R.r ?_);refine zf a (λv2 c a=>zw rfl rfl (λ_=>sc rfl) (by rintro _ ⟨B2,T2,rfl,b⟩;exact ok105 c) ss (R.r ?_));refine zf a (λv3 d a=>zw rfl rfl (λ_=>sc rfl) (by rintro _ ⟨B2,T2,rfl,b⟩;exact ok106 d) ss (R.r ?_));refine zf a (λv4 e a=>zw rfl rfl (λ_=>sc rfl) (by rintro _ ⟨B2,T2,rfl,b⟩;exact ok107 e) ss ?_);refine zB rfl rfl (zr (es:=([v2,v3,v4]:List zd).map zg) rfl el24 ze9 rfl rfl (ze gg (ze gg (ze gg zk))) (.cons (zb rfl) (.cons (zb rfl) (.cons (zb rfl) .nil))) rfl rfl rfl) ss (R.r ?_);cases a;exact fe rfl rfl (leV.osl _ _ _)
theorem ok62 {s:GE} {res:(List zd)}  (a:exportXset s=some res):Sp 62 [.agg (GE.row s)] h (yv (.sl 1 (res.map zg)) h):=by
 unfold exportXset at a;refine za Tryz.func62 rfl (by kernel_rfl) (yx 41 rfl) (R.r ?_);refine ln λi=>?_;replace i:=yl i;apply R.r;refine zF (λ(C:Nat) (d:(List zd))=>zu 3 5 (zu 11 30 [(0,.any),(2,ve h 0 1 (d.map zg)),(10,.int .i64 (C:Int))])) (λd=>h.ext [.cells (GE.row s)] [d.length]) a (λ_ _=>by simp only [zu,vE,ul,um];try rfl) (wk.trans (wk_tok gt2 rfl st2 rfl) (wk.le (by exact (.drop (.eq (.cons (leV.of_eq rfl) (.d4 (.drop (.eq (.eq (.cons (leV.of_eq rfl) (.d16 (.d4 (.d4 (.d4 (.drop (.drop leL.nil))))))))))))))))) ?_;intro C d E a;apply R.r;refine zT gg a (λJ H A z a B=>?_) (λa=>?_)
 ·apply R.r;refine ix (zM z) (R.r ?_);refine yn [3,7] [] trivial mixed (by kernel_rfl) (R.r ?_);refine zf a (λv20 l a=>zw rfl rfl (λ_=>sc rfl) (by rintro _ ⟨B2,T2,rfl,u⟩;exact ok106 l) ss ?_);refine z7 a (λp a=>zB rfl rfl (xX rfl gg rfl (uv p)) ss (R.r ?_));refine zf a (λv22 e a=>zw rfl rfl (λ_=>sc rfl) (by rintro _ ⟨B2,T2,rfl,u⟩;exact ok107 e) ss ?_);refine z7 a (λf a=>zB rfl rfl (xX rfl gg gg (uv f)) ss ?_);refine zB rfl rfl (zr (es:=([((v20++([61]:zd))++v22)]:List zd).map zg) rfl el24 ze9 rfl rfl (ze gg zk) (.cons (zb rfl) .nil) rfl rfl rfl) ss ?_;refine z7 a (λg a=>wF rfl (FOk.cons (.inr (yT trivial)) (FOk.cons (.inr (yT trivial)) FOk.nil)) (by rfl) rfl (xw (j:=0) (T':=[((d++([((v20++([61]:zd))++v22)]:List zd))).length]) rfl rfl rfl rfl el24 el24 gg gg (zb rfl) (zb rfl) yI g rfl rfl) ss (R.r ?_));cases a;exact ⟨(d++([((v20++([61]:zd))++v22)]:List zd)),A,B,wk.trans (wk.le (by exact (.drop (.eq (.cons (leV.of_eq rfl) (.d4 (.drop (.eq (.eq (.cons (leV.of_eq (xB (by omega) (by omega))) (.d16 (.d4 (.d4 (.d4 (.drop (.drop leL.nil)))))))))))))))) (zN (by simp [zy,AV.low]) rfl rfl (by simp [Blk.low,zy,AV.low]))⟩
 ·apply R.r;refine ln λb=>?_;replace b:=yl b;apply R.r;refine zF (λ(D:Nat) (s2:(List zd))=>zu 0 2 (zu 3 24 (zu 30 11 [(2,ve h 0 1 (s2.map zg)),(29,.int .i64 (D:Int))]))) (λs2=>h.ext [.cells (GE.row s)] [s2.length]) a (λ_ _=>by simp only [zu,vE,ul,um];try rfl) (wk.le LEL.o) ?_;intro D s2 F a;apply R.r;refine zT gg a (λI G x w a y=>?_) (λa=>?_)
  ·apply R.r;refine ix (zM w) (R.r ?_);refine zf a (λc k a=>cp (ok106 k) ?_);refine z7 a (λm a=>zc rfl (xX rfl rfl gg (uv m)) ss ?_);refine zc rfl (zr (es:=([(([33]:zd)++c)]:List zd).map zg) rfl el24 ze9 rfl rfl (ze gg zk) (.cons (zb rfl) .nil) rfl rfl rfl) ss ?_;refine z7 a (λn a=>zc rfl (xw (j:=0) (T':=[((s2++([(([33]:zd)++c)]:List zd))).length]) rfl rfl rfl rfl el24 el24 gg gg (zb rfl) (zb rfl) yI n rfl rfl) ss (R.r ?_));cases a;exact ⟨(s2++([(([33]:zd)++c)]:List zd)),x,y,wk.trans (wk.le (by exact (.drop (.drop (.cons (leV.of_eq rfl) (.d16 (.d4 (.d4 (.eq (.eq (.cons (leV.of_eq (xB (by omega) (by omega))) (.d4 (.d4 (.drop (.drop (.drop leL.nil)))))))))))))))) (zN (by simp [zy,AV.low]) rfl rfl (by simp [Blk.low,zy,AV.low]))⟩
  ·apply R.r;cases a;exact fe rfl rfl (leV.osl _ _ _)
theorem ok193 {g:zd} {a:zd}  (d:yz g a=some res):Sp 193 [.str g,.str a] h (yv (.bool res) h):=by
 unfold yz at d;refine za Tryz.func193 rfl (by kernel_rfl) (yx 18 rfl) (R.r ?_);refine ln λb=>?_;replace b:=yl b;apply R.r;refine ln λc=>?_;replace c:=yl c;apply R.r;refine lng λi=>z7 d (λe d=>qa rfl (λf=>s_slcStr rfl ty9 (zK gg f) .none (.some (zK gg f)) (slc_of (e f))) ss ?_);apply R.r;cases d;exact fz rfl rfl
theorem ok160 {g:zd} {a:zd} {res:(zd×Bool)}  (b:yA g a=some res):Sp 160 [.str g,.str a] h (yv (.tup [.str res.1,.bool res.2]) h):=by
 unfold yA at b;refine za Tryz.func160 rfl (by kernel_rfl) (yx 15 rfl) (R.r ?_);refine zf b (λi d b=>cp (ok193 d) (R.r ?_));refine zi gg b (λe b=>?_) (λe b=>?_)
 ·apply R.r;cases b;exact fz rfl rfl
 ·apply R.r;refine ln λc=>?_;replace c:=yl c;refine zf b (λm4 f b=>zc rfl (s_slcStr rfl ty9 gg (.some gg) .none f) ss (R.r ?_));cases b;exact fz rfl rfl
theorem ok111 {d:zd} {a:zd} {res:(zd×Bool)}  (b:xn d a=some res):Sp 111 [.str d,.str a] h (yv (.tup [.str res.1,.bool res.2]) h):=by
 unfold xn at b;refine za Tryz.func111 rfl (by kernel_rfl) (yx 11 rfl) (R.r ?_);refine zf b (λe c b=>cp (ok160 c) (R.r ?_));cases b;exact fz rfl rfl
theorem ok25  {res:(GL×GL×GL×GL×GL)} {h:AH}  (a:exportXkinds  = some res):Sp 25 [] h (yv (.agg [.str res.1.word,qv res.1.parts,fvRead res.1.read,.str res.2.1.word,qv res.2.1.parts,fvRead res.2.1.read,.str res.2.2.1.word,qv res.2.2.1.parts,fvRead res.2.2.1.read,.str res.2.2.2.1.word,qv res.2.2.2.1.parts,fvRead res.2.2.2.1.read,.str res.2.2.2.2.word,qv res.2.2.2.2.parts,fvRead res.2.2.2.2.read]) h):=by
 unfold exportXkinds at a;refine za Tryz.func25 rfl (by kernel_rfl) (yx 7 rfl) (R.r ?_);refine zc rfl (yf (cs':=[.str ([]:zd),.nilf,.nilf]) rfl su71 ze71 pl71 zk .nil rfl rfl) ss ?_;refine zc rfl (yf (cs':=[.str ([99,111,117,110,116,101,114]:zd),.fn (.func 57) [] [],.fn (.func 59) [] []]) rfl su71 ze71 pl71 (ze rfl (ze rfl (ze rfl zk))) (.cons (zb rfl) (.cons (zb rfl) (.cons (zb rfl) .nil))) rfl rfl) ss ?_;refine zc rfl (yf (cs':=lit5x) rfl su71 ze71 pl71 (ze rfl (ze rfl (ze rfl zk))) (.cons (zb rfl) (.cons (zb rfl) (.cons (zb rfl) .nil))) rfl rfl) ss ?_;refine zc rfl (yf (cs':=[.str ([115,101,116]:zd),.fn (.func 62) [] [],.fn (.func 63) [] []]) rfl su71 ze71 pl71 (ze rfl (ze rfl (ze rfl zk))) (.cons (zb rfl) (.cons (zb rfl) (.cons (zb rfl) .nil))) rfl rfl) ss ?_;refine zc rfl (yf (cs':=[.str ([108,111,103]:zd),.fn (.func 64) [] [],.fn (.func 65) [] []]) rfl su71 ze71 pl71 (ze rfl (ze rfl (ze rfl zk))) (.cons (zb rfl) (.cons (zb rfl) (.cons (zb rfl) .nil))) rfl rfl) ss ?_;refine zc rfl (s_buildArr (cs':=yq) rfl ty72.u ze72 ty71.choose_spec.1 (ze gg (ze gg (ze gg (ze gg (ze gg zk))))) (.cons (zb rfl) (.cons (zb rfl) (.cons (zb rfl) (.cons (zb rfl) (.cons (zb rfl) .nil))))) rfl rfl) ss (R.r ?_);cases a;refine q_retL1 rfl (rl_cell ty72 gg rfl (ldC_ag (cs':=yq) rfl rfl) (zb rfl) rl_nil) (fin_ext (leV.refl _) rfl ?_);exact ⟨rfl,rfl⟩
def joinTryzRen:Go.Shelf.Ren :=
  { f:=λx=>match x with
      | 156=>26
      | 165=>66
      | 166=>20
      | 169=>21
      | 240=>47
      | 241=>113
      | 276=>92
      | 277=>161
      | n=>n
    t:=λx=>match x with
      | 0=>0
      | 3=>3
      | 4=>4
      | 9=>9
      | 20=>20
      | 31=>24
      | 37=>56
      | 70=>55
      | 72=>58
      | 75=>62
      | 76=>63
      | 127=>104
      | 164=>135
      | 5=>5
      | 80=>65
      | n=>n
    g:=λn=>n }
theorem joinTryzLays:Go.Proofs.Lays.n156 Tryz.prog joinTryzRen where
  mixed:=mixed
  f156:=Tryz.func26.trans (by kernel_rfl)
  f165:=Tryz.func66.trans (by kernel_rfl)
  f166:=Tryz.func20.trans (by kernel_rfl)
  f169:=Tryz.func21.trans (by kernel_rfl)
  f240:=Tryz.func47.trans (by kernel_rfl)
  f241:=Tryz.func113.trans (by kernel_rfl)
  f276:=Tryz.func92.trans (by kernel_rfl)
  f277:=Tryz.func161.trans (by kernel_rfl)
  t0:=Tryz.underlying0
  a0:=Tryz.isAgg0
  z0:=Tryz.sizeOf0
  v0:=Tryz.zeroValue0
  t3:=Tryz.underlying3
  a3:=Tryz.isAgg3
  z3:=Tryz.sizeOf3
  v3:=Tryz.zeroValue3
  t4:=Tryz.underlying4
  a4:=Tryz.isAgg4
  z4:=Tryz.sizeOf4
  v4:=Tryz.zeroValue4
  t9:=Tryz.underlying9
  a9:=Tryz.isAgg9
  z9:=Tryz.sizeOf9
  v9:=Tryz.zeroValue9
  t20:=Tryz.underlying20
  a20:=Tryz.isAgg20
  z20:=Tryz.sizeOf20
  v20:=Tryz.zeroValue20
  t31:=Tryz.underlying24
  a31:=Tryz.isAgg24
  z31:=Tryz.sizeOf24
  v31:=Tryz.zeroValue24
  t37:=Tryz.underlying56
  a37:=Tryz.isAgg56
  z37:=Tryz.sizeOf56
  v37:=Tryz.zeroValue56
  t70:=Tryz.underlying55
  a70:=Tryz.isAgg55
  z70:=Tryz.sizeOf55
  v70:=Tryz.zeroValue55
  t72:=Tryz.underlying58
  a72:=Tryz.isAgg58
  z72:=Tryz.sizeOf58
  v72:=Tryz.zeroValue58
  t75:=Tryz.underlying62
  a75:=Tryz.isAgg62
  z75:=Tryz.sizeOf62
  v75:=Tryz.zeroValue62
  t76:=Tryz.underlying63
  a76:=Tryz.isAgg63
  z76:=Tryz.sizeOf63
  v76:=Tryz.zeroValue63
  t127:=Tryz.underlying104
  a127:=Tryz.isAgg104
  z127:=Tryz.sizeOf104
  v127:=Tryz.zeroValue104
  t164:=Tryz.underlying135
  a164:=Tryz.isAgg135
  z164:=Tryz.sizeOf135
  v164:=Tryz.zeroValue135
theorem joinTryzExtra:Go.Proofs.Builder.Extra Tryz.prog joinTryzRen where
  sizeBuilder:=by kernel_rfl
  liesBuilder:=by kernel_rfl
  t5:=Tryz.underlying5
  a5:=Tryz.isAgg5
  z5:=Tryz.sizeOf5
  v5:=Tryz.zeroValue5
  infoByte:=by kernel_rfl
  cellsByte:=by kernel_rfl
  sizeByte:=by kernel_rfl
  neB5:=by decide
theorem ok26 {a:List zd} {p1:zd} {res:zd} (b:xG a p1=some res):Sp 26 [.sl 1 (a.map zg),.str p1] h (yv (.str res) h) :=
 spec_join joinTryzLays joinTryzExtra b
theorem ok93 {w:(List zd)} {u:(zd->Option Bool)} {res:Int} (s:∀x0 v (L:List Blk) (M:List Nat),u x0=some v->Sp ff1 (af1++[.str x0]++kf1) (h.ext L M) (yv (.bool v) (h.ext L M))) (a:xz w u=some res):Sp 93 [.sl 1 (w.map zg),.fn (.func ff1) af1 kf1] h (yv (.int .i64 res) h):=by
 unfold xz at a;refine zO Tryz.func93 rfl (by kernel_rfl) (yx 19 rfl) (λb A=>?_);simp only [zy,AV.low,ud,u5,tF] at b;have j:∀n m,h.blks.length<=n->h.toks.length<=m->zy n m af1=true:=λn m g e=>ya g e _ (by simp [b]);have f:∀n m,h.blks.length<=n->h.toks.length<=m->zy n m kf1=true:=λn m g e=>ya g e _ (by simp [b]);apply R.r;refine ln λc=>?_;replace c:=yl c;apply R.r;refine zF (λ(y:Nat) (x:Unit)=>zu 2 5 (zu 9 10 [(8,.int .i64 (y:Int))])) (λx=>h.ext [] []) a (λ_ _=>by simp only [zu,vE,ul,um];try rfl) (wk.le LEL.o) ?_;intro y x z a;apply R.r;refine zT gg a (λD C p i a d=>?_) (λa=>?_)
 ·apply R.r;refine ix (zM i) (R.r ?_);refine zf a (λB l a=>yO rfl (scC rfl) (s _ _ _ _ l) ss (R.r ?_));refine zi gg a (λk a=>?_) (λk a=>?_)
  ·apply R.r;cases a;replace a:=d;apply R.r;cases a;exact fz rfl rfl
  ·apply R.r;cases a;exact ⟨(),p,d,wk.le (by exact (.eq (.eq (.d4 (.drop (.eq (.cons (leV.of_eq (xB (by omega) (by omega))) (.d4 (.d4 (.drop (.drop leL.nil)))))))))))⟩
 ·apply R.r;cases a;exact fz rfl rfl
theorem ok48 {k:(List zd)} {j:(zd->Option Bool)} (d:∀x0 v (L:List Blk) (M:List Nat),j x0=some v->Sp ff1 (af1++[.str x0]++kf1) (h.ext L M) (yv (.bool v) (h.ext L M))) (b:yh k j=some res):Sp 48 [.sl 1 (k.map zg),.fn (.func ff1) af1 kf1] h (yv (.bool res) h):=by
 unfold yh at b;refine zO Tryz.func48 rfl (by kernel_rfl) (yx 9 rfl) (λa o=>?_);simp only [zy,AV.low,ud,u5,tF] at a;have c:∀n m,h.blks.length<=n->h.toks.length<=m->zy n m af1=true:=λn m i e=>ya i e _ (by simp [a]);have f:∀n m,h.blks.length<=n->h.toks.length<=m->zy n m kf1=true:=λn m i e=>ya i e _ (by simp [a]);apply R.r;refine zf b (λp g b=>cp (ok93 (λx0 v L M l=>by rw [yZ];exact d x0 v _ _ l) g) (R.r ?_));cases b;exact fz rfl rfl
end Go.Vv
