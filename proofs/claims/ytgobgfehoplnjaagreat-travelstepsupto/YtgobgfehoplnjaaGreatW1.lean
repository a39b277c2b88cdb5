/- Each function that the law reaches computes what its reading says; printed by a program. -/
import Derived.Test.YtgobgfehoplnjaaGreatVvSh
import Derived.Test.YtgobgfehoplnjaaGreatVvMr
import Derived.Test.YtgobgfehoplnjaaGreatVvSo
import Derived.Test.YtgobgfehoplnjaaGreatVvPt
import Derived.Test.YtgobgfehoplnjaaGreatVvSs
import Derived.Test.YtgobgfehoplnjaaGreatVvGp
import Derived.Test.YtgobgfehoplnjaaGreatVvU
import Derived.Test.YtgobgfehoplnjaaGreatD
import Derived.Test.YtgobgfehoplnjaaGreatProg
set_option linter.all false
namespace Go.Vv
open Go Go.Proofs
set_option maxRecDepth 100000
set_option synthInstance.maxSize 100000
set_option synthInstance.maxHeartbeats 1000000
set_option maxHeartbeats 1000000
variable {h:AH} {res:Bool} {bl mm pg0 mg0commits:Nat} {xx0 yy1:Int} {ff1:FuncId} {af1 kf1:List AV} {f1:(Int->Option Bool)}
section
variable {v a0 a1 a2 a3 a4 a5 a6 a7 a8 a9 a10 a11 a12 a13 a14 a15 a16 a17 a18 a19 a20 a21 a22 a23 a24 a25 a26 a27 a28 a29 a30 a31 a32 a33 a34 a35 a36 a37 a38 a39:AV} {r q:List AV} {t:Nat}
abbrev Sp:=Spec Tryz.prog
theorem gx (n:Nat) {env:List AV} {v:AV} [i:GT (.tmp n) env v]:yu env (.tmp n)=some v:=i.out
theorem sx (n:Nat) {env a:List AV} {v:AV} [i:ST (some n) env v a]:tq (some n) env v=some a:=i.out
theorem gt0:yu (a0::r) (.tmp 0)=some a0:=rfl
theorem st0:tq (some 0) (a0::r) v=some (v::r):=rfl
theorem gk (h:yu r (.tmp t)=some v):yu (a0::a1::a2::a3::a4::a5::a6::a7::a8::a9::a10::a11::a12::a13::a14::a15::a16::a17::a18::a19::a20::a21::a22::a23::a24::a25::a26::a27::a28::a29::a30::a31::a32::a33::a34::a35::a36::a37::a38::a39::r) (.tmp (t+40))=some v:=h
theorem sk (h:tq (some t) r v=some q):tq (some (t+40)) (a0::a1::a2::a3::a4::a5::a6::a7::a8::a9::a10::a11::a12::a13::a14::a15::a16::a17::a18::a19::a20::a21::a22::a23::a24::a25::a26::a27::a28::a29::a30::a31::a32::a33::a34::a35::a36::a37::a38::a39::r) v=some (a0::a1::a2::a3::a4::a5::a6::a7::a8::a9::a10::a11::a12::a13::a14::a15::a16::a17::a18::a19::a20::a21::a22::a23::a24::a25::a26::a27::a28::a29::a30::a31::a32::a33::a34::a35::a36::a37::a38::a39::q):=congrArg (λx=>some (a0::a1::a2::a3::a4::a5::a6::a7::a8::a9::a10::a11::a12::a13::a14::a15::a16::a17::a18::a19::a20::a21::a22::a23::a24::a25::a26::a27::a28::a29::a30::a31::a32::a33::a34::a35::a36::a37::a38::a39::x)) (kK h)
end
def zqd:Nat->AV
  | 1=>.fn (.func 190) [] []
  | 2=>.fn (.func 191) [] []
  | 3=>.fn (.func 192) [] []
  | _=>.fy
def zwv:Nat->FuncId
  | 1=>190
  | 2=>191
  | 3=>192
  | _=>0
theorem zu5 (c n m:Nat):(zqd c).low n m=true:=by unfold zqd;split <;> rfl
theorem zu4 (P:Program) (t:TypeId) (c:Nat):w6 P t (zqd c)=zqd c:=by unfold zqd;split <;> rfl
def zgr:Nat->AV
  | 1=>.fn (.func 231) [] []
  | 2=>.fn (.func 232) [] []
  | 3=>.fn (.func 233) [] []
  | 4=>.fn (.func 234) [] []
  | _=>.fy
def zoP:Nat->FuncId
  | 1=>231
  | 2=>232
  | 3=>233
  | 4=>234
  | _=>0
theorem zqc (P:Program) (t:TypeId) (c:Nat):w6 P t (zgr c)=zgr c:=by unfold zgr;split <;> rfl
abbrev GH.row (x:GH):List AV:=[.int .u8 x.fj,.int .u32 x.inc]
abbrev GA.row (x:GA):List AV:=[.int .u8 x.zi.fj,.int .u32 x.zi.inc,.int .u64 x.seq]
abbrev GM.row (x:GM):List AV:=[.int .u8 x.kind,.sl 1 (x.path.map yp),.int .i64 x.n,.str x.text,.sl 3 (x.gX.map GA.row)]
abbrev GJ.row (x:GJ):List AV:=[.int .u8 x.z6.zi.fj,.int .u32 x.z6.zi.inc,.int .u64 x.z6.seq,.int .u64 x.time,.int .u8 x.op.kind,.sl 1 (x.op.path.map yp),.int .i64 x.op.n,.str x.op.text,.sl 3 (x.op.gX.map GA.row)]
abbrev GI.row (x:GI):List AV:=[.int .u8 x.z6.zi.fj,.int .u32 x.z6.zi.inc,.int .u64 x.z6.seq,.sl 3 (x.z8.map GA.row),.sl 3 (x.vV.map GA.row),.int .u64 x.time,.int .u8 x.op.kind,.sl 1 (x.op.path.map yp),.int .i64 x.op.n,.str x.op.text,.sl 3 (x.op.gX.map GA.row)]
abbrev GP.row (x:GP):List AV:=[.int .u8 x.leaf,zqd x.may]
abbrev GF.row (x:GF):List AV:=[.int .u64 x.time,.int .u8 x.z6.zi.fj,.int .u32 x.z6.zi.inc,.int .u64 x.z6.seq,.str x.text]
abbrev GE.row (x:GE):List AV:=[.int .u8 x.w7,.int .i64 x.n,.int .u64 x.time,.int .u8 x.z6.zi.fj,.int .u32 x.z6.zi.inc,.int .u64 x.z6.seq,.str x.text,.sl 5 (x.y4.map GF.row),.sl 3 (x.x4.map GA.row)]
mutual
abbrev zH (x:List GE):AV:=.sl 9 (x.map GE.row)
def GC.row:GC->List AV
  | ⟨name,leaves,w5⟩=>[.str name,zH leaves,.sl 3 (GC.rows w5)]
def GC.rows:List GC->List (List AV)
  | []=>[]
  | x::r=>x.row::GC.rows r
end
theorem GC.aM (l:List GC):GC.rows l=l.map GC.row:=by
  induction l with
  | nil=>rfl
  | cons x r ih=>simp only [GC.rows,ld,ih]
theorem GC.q8 (x:GC):x.row=[.str x.name,.sl 9 (x.leaves.map GE.row),.sl 3 (x.w5.map GC.row)]:=by
  cases x;simp only [GC.row,GC.aM]
abbrev GL.row (x:GL):List AV:=[.int .u64 x.num,.sl 3 (x.f.map GA.row),.sl 3 (x.g9.map GA.row),.int .u64 x.time,.sl 3 (x.tree.map GC.row)]
abbrev GK.row (x:GK):List AV:=[.int .u8 x.e.z6.zi.fj,.int .u32 x.e.z6.zi.inc,.int .u64 x.e.z6.seq,.int .u64 x.e.time,.int .u8 x.e.op.kind,.sl 1 (x.e.op.path.map yp),.int .i64 x.e.op.n,.str x.e.op.text,.sl 3 (x.e.op.gX.map GA.row),.int .i64 x.bX]
theorem zwI:yX Tryz.prog 54=some [.int .u8 0,.int .u32 0,.int .u64 0,.int .u64 0,.int .u8 0,.gW none 1 [],.int .i64 0,.str [],.gW none 3 []]:=kr
instance:ZE Tryz.prog 54 [.int .u8 0,.int .u32 0,.int .u64 0,.int .u64 0,.int .u8 0,.gW none 1 [],.int .i64 0,.str [],.gW none 3 []]:=⟨zwI⟩
instance zwe:Fo Tryz.prog 57 0 0 49 3:=vi kr kr
theorem f5:∃d,Ty Tryz.prog 49 d 3/\ye d=true:=⟨_,vR Tryz.underlying49 kr,by kernel_rfl⟩
instance:TA Tryz.prog 49 3:=⟨f5⟩
instance zwc:Fo Tryz.prog 57 3 5 22 1:=vi kr kr
instance zxM:Ty Tryz.prog 22 (.int .u64) 1:=vR Tryz.underlying22 kr
instance zwb:Fo Tryz.prog 57 4 6 52 5:=vi kr kr
theorem zwQ:∃d,Ty Tryz.prog 52 d 5/\ye d=true:=⟨_,vR Tryz.underlying52 kr,by kernel_rfl⟩
instance:TA Tryz.prog 52 5:=⟨zwQ⟩
noncomputable def zwX:Array Field:=match Tryz.prog.underlying 54 with | some (.struct fs)=>fs | _=>#[]
instance:c7 Tryz.prog 54 zwX [(0,3),(3,1),(4,5)]:=⟨kr,kr⟩
theorem zwP:∃d,Ty Tryz.prog 54 d 9/\ye d=true:=⟨_,vR Tryz.underlying54 kr,by kernel_rfl⟩
instance:TA Tryz.prog 54 9:=⟨zwP⟩
instance zwq:Fo Tryz.prog 47 0 0 5 1:=vi kr kr
instance ty5:Ty Tryz.prog 5 (.int .u8) 1:=vR Tryz.underlying5 kr
instance zwp:Fo Tryz.prog 47 1 1 45 1:=vi kr kr
instance zxL:Ty Tryz.prog 45 (.int .u32) 1:=vR Tryz.underlying45 kr
instance zwo:Fo Tryz.prog 49 0 0 47 2:=vi kr kr
theorem ez:∃d,Ty Tryz.prog 47 d 2/\ye d=true:=⟨_,vR Tryz.underlying47 kr,by kernel_rfl⟩
instance:TA Tryz.prog 47 2:=⟨ez⟩
instance zwn:Fo Tryz.prog 49 1 2 22 1:=vi kr kr
instance zsz:El Tryz.prog 24 49 3:=cU Tryz.underlying24 kr
theorem zqJ:yX Tryz.prog 49=some [.int .u8 0,.int .u32 0,.int .u64 0]:=kr
instance:ZE Tryz.prog 49 [.int .u8 0,.int .u32 0,.int .u64 0]:=⟨zqJ⟩
theorem mixed:Tryz.prog.follows .mixedOrders=true:=kr
theorem zmc {Q:Exit->List AV->AH->Prop} {env:List AV} {B:List q6} {T:List Nat} {id:Nat} {l:List Oper} (hd:ry ⟨l⟩ []=true) (a:zI Tryz.prog ⟨l⟩ [] (λn=>zkn h (lk [] n)) (Q .normal) 0 l env (h.ext B T)):wO Tryz.prog (.region id ⟨l⟩ true) Q env (h.ext B T):=zeC [] [] trivial mixed hd a
noncomputable def zvA:Array Field:=match Tryz.prog.underlying 47 with | some (.struct fs)=>fs | _=>#[]
theorem zwS:Tryz.prog.underlying 47=some (.struct zvA):=kr
theorem zvE:PK Tryz.prog 47 [.i,.i]:=zuV kr kr kr
abbrev zJ (x:GH):AV:=.agg (GH.row x)
theorem ac:KQ Tryz.prog 47 (λx=>zJ x) GH.fi:=.struct zwS zvE (λ_ _=>rfl) (λa=>by simp [GH.fi])
theorem zqF:qV Tryz.prog 22=some ((AV.int .u64) (0:Int)):=kr
instance zxF:El Tryz.prog 153 3 1:=cU Tryz.underlying153 kr
instance aL:Ty Tryz.prog 3 (.int .i64) 1:=vR Tryz.underlying3 kr
theorem ze3:yX Tryz.prog 3=some [.int .i64 0]:=kr
instance:ZE Tryz.prog 3 [.int .i64 0]:=⟨ze3⟩
instance zsA:El Tryz.prog 172 47 2:=cU Tryz.underlying172 kr
theorem zqV:yX Tryz.prog 47=some [.int .u8 0,.int .u32 0]:=kr
instance:ZE Tryz.prog 47 [.int .u8 0,.int .u32 0]:=⟨zqV⟩
instance zq7:Ty Tryz.prog 172 (.slice 47) 1:=vR Tryz.underlying172 kr
noncomputable def ztm:Array Field:=match Tryz.prog.underlying 49 with | some (.struct fs)=>fs | _=>#[]
theorem zvy:Tryz.prog.underlying 49=some (.struct ztm):=kr
theorem zw2:zaK Tryz.prog ztm=some [(0,2),(2,1)]:=kr
instance:c7 Tryz.prog 49 ztm [(0,2),(2,1)]:=⟨kr,kr⟩
instance ztk:Ty Tryz.prog 142 (.map 47 22) 1:=vR Tryz.underlying142 kr
theorem p5:PK Tryz.prog 49 [.i,.i,.i]:=zuV kr kr kr
instance zwk:Fo Tryz.prog 52 2 2 2 1:=vi kr kr
instance cg:Ty Tryz.prog 2 (.int .i64) 1:=vR Tryz.underlying2 kr
instance zwj:Fo Tryz.prog 52 3 3 9 1:=vi kr kr
instance cu:Ty Tryz.prog 9 .string 1:=vR Tryz.underlying9 kr
instance zwi:Fo Tryz.prog 52 4 4 23 1:=vi kr kr
instance zq6:Ty Tryz.prog 23 (.slice 49) 1:=vR Tryz.underlying23 kr
instance p6:El Tryz.prog 23 49 3:=cU Tryz.underlying23 kr
theorem ztf:yX Tryz.prog 184=some [.int .u8 0,.fy]:=kr
instance:ZE Tryz.prog 184 [.int .u8 0,.fy]:=⟨ztf⟩
noncomputable def zto:Array Field:=match Tryz.prog.underlying 184 with | some (.struct fs)=>fs | _=>#[]
instance:c7 Tryz.prog 184 zto [(0,1),(1,1)]:=⟨kr,kr⟩
instance zxP:Ty Tryz.prog 229 (.array 6 184) 12:=vR Tryz.underlying229 kr
theorem zqX:yX Tryz.prog 229=some [.int .u8 0,.fy,.int .u8 0,.fy,.int .u8 0,.fy,.int .u8 0,.fy,.int .u8 0,.fy,.int .u8 0,.fy]:=kr
instance:ZE Tryz.prog 229 [.int .u8 0,.fy,.int .u8 0,.fy,.int .u8 0,.fy,.int .u8 0,.fy,.int .u8 0,.fy,.int .u8 0,.fy]:=⟨zqX⟩
theorem cA:∃d,Ty Tryz.prog 184 d 2/\ye d=true:=⟨_,vR Tryz.underlying184 kr,by kernel_rfl⟩
instance:TA Tryz.prog 184 2:=⟨cA⟩
instance bI:El Tryz.prog 50 9 1:=cU Tryz.underlying50 kr
instance ty4:Ty Tryz.prog 4 .bool 1:=vR Tryz.underlying4 kr
instance zwm:Fo Tryz.prog 52 0 0 5 1:=vi kr kr
instance zwl:Fo Tryz.prog 52 1 1 50 1:=vi kr kr
instance zvw:Ty Tryz.prog 50 (.slice 9) 1:=vR Tryz.underlying50 kr
instance zu7:Fo Tryz.prog 184 1 1 127 1:=vi kr kr
instance ztl:Ty Tryz.prog 127 (.func #[52] #[4] false) 1:=vR Tryz.underlying127 kr
instance zwh:Fo Tryz.prog 54 0 0 49 3:=vi kr kr
instance zwg:Fo Tryz.prog 54 1 3 22 1:=vi kr kr
instance zwf:Fo Tryz.prog 54 2 4 52 5:=vi kr kr
instance zsv:Fo Tryz.prog 57 2 4 24 1:=vi kr kr
instance me:Ty Tryz.prog 24 (.slice 49) 1:=vR Tryz.underlying24 kr
theorem dq:∃d,Ty Tryz.prog 57 d 11/\ye d=true:=⟨_,vR Tryz.underlying57 kr,by kernel_rfl⟩
instance:TA Tryz.prog 57 11:=⟨dq⟩
instance zwd:Fo Tryz.prog 57 1 3 23 1:=vi kr kr
instance zsV:Ty Tryz.prog 30 (.pointer 84) 1:=vR Tryz.underlying30 kr
instance zst:Fo Tryz.prog 84 1 5 82 1:=vi kr kr
instance aY:Ty Tryz.prog 82 (.map 49 57) 1:=vR Tryz.underlying82 kr
abbrev zn (x:GA):AV:=.agg (GA.row x)
theorem bD:KQ Tryz.prog 49 (λx=>zn x) GA.fi:=.struct zvy p5 (λ_ _=>rfl) (λa=>by simp [GA.fi])
abbrev zo (x:GI):AV:=.agg (GI.row x)
theorem zvo:qV Tryz.prog 57=some ((λx=>zo x) (GI.mk (GA.mk (GH.mk (0:Int) (0:Int)) (0:Int)) ([]:List GA) ([]:List GA) (0:Int) (GM.mk (0:Int) ([]:List zq) (0:Int) ([]:zq) ([]:List GA)))):=kr
theorem ztd:yX Tryz.prog 57=some [.int .u8 0,.int .u32 0,.int .u64 0,.gW none 3 [],.gW none 3 [],.int .u64 0,.int .u8 0,.gW none 1 [],.int .i64 0,.str [],.gW none 3 []]:=kr
instance:ZE Tryz.prog 57 [.int .u8 0,.int .u32 0,.int .u64 0,.gW none 3 [],.gW none 3 [],.int .u64 0,.int .u8 0,.gW none 1 [],.int .i64 0,.str [],.gW none 3 []]:=⟨ztd⟩
instance zv4:Fo Tryz.prog 84 0 0 28 5:=vi kr kr
instance zoO:Fo Tryz.prog 28 1 1 24 1:=vi kr kr
theorem ze9:yX Tryz.prog 9=some [.str []]:=kr
instance:ZE Tryz.prog 9 [.str []]:=⟨ze9⟩
instance zwr:Fo Tryz.prog 38 1 5 29 1:=vi kr kr
instance ai:Ty Tryz.prog 29 (.slice 57) 1:=vR Tryz.underlying29 kr
instance zqn:El Tryz.prog 29 57 11:=cU Tryz.underlying29 kr
instance zws:Fo Tryz.prog 38 0 0 28 5:=vi kr kr
instance wp:El Tryz.prog 26 95 3:=cU Tryz.underlying26 kr
instance zv2:Fo Tryz.prog 95 0 0 9 1:=vi kr kr
instance zss:Fo Tryz.prog 95 2 2 26 1:=vi kr kr
instance zq5:Ty Tryz.prog 26 (.slice 95) 1:=vR Tryz.underlying26 kr
instance zv1:Fo Tryz.prog 95 1 1 93 1:=vi kr kr
instance ztj:Ty Tryz.prog 93 (.slice 70) 1:=vR Tryz.underlying93 kr
instance bJ:El Tryz.prog 93 70 9:=cU Tryz.underlying93 kr
theorem bN:∃d,Ty Tryz.prog 70 d 9/\ye d=true:=⟨_,vR Tryz.underlying70 kr,by kernel_rfl⟩
instance:TA Tryz.prog 70 9:=⟨bN⟩
abbrev wD:List AV:=[.int .u8 (0:Int),.int .i64 (0:Int),.int .u64 (0:Int),.int .u8 (0:Int),.int .u32 (0:Int),.int .u64 (0:Int),.str ([]:zq),.gW none 5 (([]:List GF).map GF.row),.gW none 3 (([]:List GA).map GA.row)]
abbrev wh:List (AV×AV):=[(.int .u8 1,.fn (.func 156) [] []),(.int .u8 2,.fn (.func 157) [] []),(.int .u8 3,.fn (.func 158) [] []),(.int .u8 4,.fn (.func 159) [] []),(.int .u8 5,.fn (.func 160) [] [])]
abbrev zsf:List AV:=[.int .u8 0,.int .u32 0,.int .u64 0,.gW none 3 [],.gW none 3 [],.int .u64 0,.int .u8 0,.gW none 1 [],.int .i64 0,.str [],.gW none 3 [],.int .u8 0,.int .u32 0,.int .u64 0,.gW none 3 [],.gW none 3 [],.int .u64 0,.int .u8 0,.gW none 1 [],.int .i64 0,.str [],.gW none 3 [],.int .u8 0,.int .u32 0,.int .u64 0,.gW none 3 [],.gW none 3 [],.int .u64 0,.int .u8 0,.gW none 1 [],.int .i64 0,.str [],.gW none 3 []]
abbrev znD:List AV:=[.int .u8 0,.int .i64 0,.int .u64 0,.int .u8 0,.int .u32 0,.int .u64 0,.str [],.gW none 5 [],.gW none 3 []]
abbrev zlx:List AV:=[.int .u8 (0:Int),.int .u32 (0:Int),.int .u64 (0:Int)]
theorem zwG:yX Tryz.prog 70=some znD:=kr
instance:ZE Tryz.prog 70 znD:=⟨zwG⟩
instance zv7:Fo Tryz.prog 70 4 6 9 1:=vi kr kr
instance zv5:Fo Tryz.prog 70 6 8 23 1:=vi kr kr
instance zv6:Fo Tryz.prog 70 5 7 68 1:=vi kr kr
instance zvv:Ty Tryz.prog 68 (.slice 133) 1:=vR Tryz.underlying68 kr
instance bf:El Tryz.prog 68 133 5:=cU Tryz.underlying68 kr
instance zvb:Fo Tryz.prog 133 2 4 9 1:=vi kr kr
instance zvc:Fo Tryz.prog 133 1 1 49 3:=vi kr kr
instance zsu:Fo Tryz.prog 70 0 0 5 1:=vi kr kr
instance zwa:Fo Tryz.prog 70 1 1 2 1:=vi kr kr
instance zv9:Fo Tryz.prog 70 2 2 22 1:=vi kr kr
instance zv8:Fo Tryz.prog 70 3 3 49 3:=vi kr kr
theorem dz:∃d,Ty Tryz.prog 133 d 5/\ye d=true:=⟨_,vR Tryz.underlying133 kr,by kernel_rfl⟩
instance:TA Tryz.prog 133 5:=⟨dz⟩
theorem zo1:yX Tryz.prog 133=some [.int .u64 0,.int .u8 0,.int .u32 0,.int .u64 0,.str []]:=kr
instance:ZE Tryz.prog 133 [.int .u64 0,.int .u8 0,.int .u32 0,.int .u64 0,.str []]:=⟨zo1⟩
instance zvd:Fo Tryz.prog 133 0 0 22 1:=vi kr kr
theorem eZ:∃d,Ty Tryz.prog 95 d 3/\ye d=true:=⟨_,vR Tryz.underlying95 kr,by kernel_rfl⟩
instance:TA Tryz.prog 95 3:=⟨eZ⟩
theorem br:yX Tryz.prog 95=some [.str [],.gW none 9 [],.gW none 3 []]:=kr
instance:ZE Tryz.prog 95 [.str [],.gW none 9 [],.gW none 3 []]:=⟨br⟩
instance zwu:Fo Tryz.prog 28 2 2 23 1:=vi kr kr
instance zwt:Fo Tryz.prog 28 3 3 22 1:=vi kr kr
instance zsw:Fo Tryz.prog 28 4 4 26 1:=vi kr kr
theorem az3:qV Tryz.prog 3=some ((AV.int .i64) (0:Int)):=kr
theorem zrc:PK Tryz.prog 133 [.i,.i,.i,.i,.s]:=zuV kr kr kr
noncomputable def zwV:Array Field:=match Tryz.prog.underlying 70 with | some (.struct fs)=>fs | _=>#[]
instance:c7 Tryz.prog 70 zwV [(0,1),(1,1),(2,1),(3,3),(6,1),(7,1),(8,1)]:=⟨kr,kr⟩
instance zo9:Ty Tryz.prog 138 (.func #[26] #[26] false) 1:=vR Tryz.underlying138 kr
theorem zqY:yX Tryz.prog 138=some [.fy]:=kr
instance:ZE Tryz.prog 138 [.fy]:=⟨zqY⟩
theorem zwL:yX Tryz.prog 28=some [.int .u64 0,.gW none 3 [],.gW none 3 [],.int .u64 0,.gW none 3 []]:=kr
instance:ZE Tryz.prog 28 [.int .u64 0,.gW none 3 [],.gW none 3 [],.int .u64 0,.gW none 3 []]:=⟨zwL⟩
theorem zxX:∃d,Ty Tryz.prog 28 d 5/\ye d=true:=⟨_,vR Tryz.underlying28 kr,by kernel_rfl⟩
instance:TA Tryz.prog 28 5:=⟨zxX⟩
instance:c7 Tryz.prog 47 zvA [(0,1),(1,1)]:=⟨kr,kr⟩
noncomputable def zwY:Array Field:=match Tryz.prog.underlying 52 with | some (.struct fs)=>fs | _=>#[]
theorem zwJ:yX Tryz.prog 52=some [.int .u8 0,.gW none 1 [],.int .i64 0,.str [],.gW none 3 []]:=kr
instance:ZE Tryz.prog 52 [.int .u8 0,.gW none 1 [],.int .i64 0,.str [],.gW none 3 []]:=⟨zwJ⟩
instance:c7 Tryz.prog 52 zwY [(0,1),(1,1),(2,1),(3,1),(4,1)]:=⟨kr,kr⟩
noncomputable def zwW:Array Field:=match Tryz.prog.underlying 57 with | some (.struct fs)=>fs | _=>#[]
instance:c7 Tryz.prog 57 zwW [(0,3),(3,1),(4,1),(5,1),(6,5)]:=⟨kr,kr⟩
noncomputable def zwT:Array Field:=match Tryz.prog.underlying 95 with | some (.struct fs)=>fs | _=>#[]
instance:c7 Tryz.prog 95 zwT [(0,1),(1,1),(2,1)]:=⟨kr,kr⟩
instance zv3:Fo Tryz.prog 84 2 6 24 1:=vi kr kr
noncomputable def zw0:Array Field:=match Tryz.prog.underlying 28 with | some (.struct fs)=>fs | _=>#[]
instance:c7 Tryz.prog 28 zw0 [(0,1),(1,1),(2,1),(3,1),(4,1)]:=⟨kr,kr⟩
instance zxN:El Tryz.prog 85 54 9:=cU Tryz.underlying85 kr
instance zxE:El Tryz.prog 231 26 1:=cU Tryz.underlying231 kr
instance zxC:El Tryz.prog 307 23 1:=cU Tryz.underlying307 kr
instance zxB:El Tryz.prog 315 68 1:=cU Tryz.underlying315 kr
theorem zwH:yX Tryz.prog 68=some [.gW none 5 []]:=kr
instance:ZE Tryz.prog 68 [.gW none 5 []]:=⟨zwH⟩
theorem zth:yX Tryz.prog 123=some [.ea]:=kr
instance:ZE Tryz.prog 123 [.ea]:=⟨zth⟩
instance zwR:Ty Tryz.prog 123 (.map 49 3) 1:=vR Tryz.underlying123 kr
theorem zwO:yX Tryz.prog 23=some [.gW none 3 []]:=kr
instance:ZE Tryz.prog 23 [.gW none 3 []]:=⟨zwO⟩
instance zxO:Ty Tryz.prog 269 (.array 5 268) 5:=vR Tryz.underlying269 kr
theorem zqW:yX Tryz.prog 269=some [.fy,.fy,.fy,.fy,.fy]:=kr
instance:ZE Tryz.prog 269 [.fy,.fy,.fy,.fy,.fy]:=⟨zqW⟩
instance zo8:Ty Tryz.prog 268 (.func #[70,70,70] #[70] false) 1:=vR Tryz.underlying268 kr
theorem zwM:yX Tryz.prog 26=some [.gW none 3 []]:=kr
instance:ZE Tryz.prog 26 [.gW none 3 []]:=⟨zwM⟩
instance zqo:El Tryz.prog 161 165 10:=cU Tryz.underlying161 kr
theorem fo:∃d,Ty Tryz.prog 165 d 10/\ye d=true:=⟨_,vR Tryz.underlying165 kr,by kernel_rfl⟩
instance:TA Tryz.prog 165 10:=⟨fo⟩
theorem ztg:yX Tryz.prog 165=some [.int .u8 0,.int .u32 0,.int .u64 0,.int .u64 0,.int .u8 0,.gW none 1 [],.int .i64 0,.str [],.gW none 3 [],.int .i64 0]:=kr
instance:ZE Tryz.prog 165 [.int .u8 0,.int .u32 0,.int .u64 0,.int .u64 0,.int .u8 0,.gW none 1 [],.int .i64 0,.str [],.gW none 3 [],.int .i64 0]:=⟨ztg⟩
instance zva:Fo Tryz.prog 165 0 0 54 9:=vi kr kr
instance zu9:Fo Tryz.prog 165 1 9 3 1:=vi kr kr
instance rY:Ty Tryz.prog 159 (.pointer 161) 1:=vR Tryz.underlying159 kr
noncomputable def ztp:Array Field:=match Tryz.prog.underlying 165 with | some (.struct fs)=>fs | _=>#[]
instance:c7 Tryz.prog 165 ztp [(0,9),(9,1)]:=⟨kr,kr⟩
theorem zjP : aN Tryz.prog 159 "Push" = some (336, true) := kr
instance mf:Ty Tryz.prog 161 (.slice 165) 1:=vR Tryz.underlying161 kr
theorem zcb : aN Tryz.prog 159 "Len" = some (333, false) := kr
theorem nu : aN Tryz.prog 159 "Less" = some (334, false) := kr
theorem ns : aN Tryz.prog 159 "Swap" = some (337, false) := kr
theorem zk4 : aN Tryz.prog 159 "Pop" = some (335, true) := kr
instance zu8:Fo Tryz.prog 184 0 0 5 1:=vi kr kr
instance zjx:Ty Tryz.prog 180 (.int .u64) 1:=vR Tryz.underlying180 kr
noncomputable def ztn:Array Field:=match Tryz.prog.underlying 203 with | some (.struct fs)=>fs | _=>#[]
theorem zte:yX Tryz.prog 203=some znD:=kr
instance:ZE Tryz.prog 203 znD:=⟨zte⟩
instance:c7 Tryz.prog 203 ztn [(0,9)]:=⟨kr,kr⟩
instance zu6:Fo Tryz.prog 203 0 0 70 9:=vi kr kr
noncomputable def ztq:Array Field:=match Tryz.prog.underlying 133 with | some (.struct fs)=>fs | _=>#[]
instance:c7 Tryz.prog 133 ztq [(0,1),(1,3),(4,1)]:=⟨kr,kr⟩
theorem zsR:qV Tryz.prog 198=some .fy:=kr
instance zxD:El Tryz.prog 25 95 3:=cU Tryz.underlying25 kr
noncomputable def zwU:Array Field:=match Tryz.prog.underlying 84 with | some (.struct fs)=>fs | _=>#[]
theorem zwF:yX Tryz.prog 84=some [.int .u64 0,.gW none 3 [],.gW none 3 [],.int .u64 0,.gW none 3 [],.ea,.gW none 3 []]:=kr
instance:ZE Tryz.prog 84 [.int .u64 0,.gW none 3 [],.gW none 3 [],.int .u64 0,.gW none 3 [],.ea,.gW none 3 []]:=⟨zwF⟩
instance:c7 Tryz.prog 84 zwU [(0,5),(5,1),(6,1)]:=⟨kr,kr⟩
instance zx2:Ty Tryz.prog 67 (.array 3 57) 33:=vR Tryz.underlying67 kr
theorem zvt:yX Tryz.prog 67=some zsf:=kr
instance:ZE Tryz.prog 67 zsf:=⟨zvt⟩
instance zs7:El Tryz.prog 35 24 1:=cU Tryz.underlying35 kr
instance zvx:Ty Tryz.prog 35 (.slice 24) 1:=vR Tryz.underlying35 kr
theorem zwN:yX Tryz.prog 24=some [.gW none 3 []]:=kr
instance:ZE Tryz.prog 24 [.gW none 3 []]:=⟨zwN⟩
noncomputable def zwZ:Array Field:=match Tryz.prog.underlying 38 with | some (.struct fs)=>fs | _=>#[]
theorem zwK:yX Tryz.prog 38=some [.int .u64 0,.gW none 3 [],.gW none 3 [],.int .u64 0,.gW none 3 [],.gW none 11 []]:=kr
instance:ZE Tryz.prog 38 [.int .u64 0,.gW none 3 [],.gW none 3 [],.int .u64 0,.gW none 3 [],.gW none 11 []]:=⟨zwK⟩
instance:c7 Tryz.prog 38 zwZ [(0,5),(5,1)]:=⟨kr,kr⟩
abbrev zC (x:GE) (p q:AV):List AV:=[.int .u8 x.w7,.int .i64 x.n,.int .u64 x.time,.int .u8 x.z6.zi.fj,.int .u32 x.z6.zi.inc,.int .u64 x.z6.seq,.str x.text,p,q]
abbrev wI (x:GJ):AV:=.agg (GJ.row x)
theorem zvO {b:GI} {res:GJ}  (a:ri b=some res):Sp 30 [zo b] h (z7 (wI res) h):=by
 unfold ri at a;refine y8 Tryz.func30 10 ?_;refine zO sb ?_;exact Z
theorem zuR {a0:GH}  (a:mX a0=some res):Sp 113 [zJ a0] h (z7 (.bool res) h):=by
 unfold mX at a;refine y8 Tryz.func113 16 ?_;exact Z
theorem zpI {b:GA}  (a:pB b=some res):Sp 71 [zn b] h (z7 (.bool res) h):=by
 unfold pB at a;refine y8 Tryz.func71 16 ?_;refine cB a (λ_=>zuR) λc a=>?_;exact Z
abbrev za (x:List GA):AV:=.sl 3 (x.map GA.row)
theorem zoD {b:(List GA)} {res:(List (GH×Int))} (c:h.zh.length=bl) (a:xn b=some res):Sp 97 [za b] h (z7 (.map bl) (h.ext [.q7 (res.map (zZ (λx=>zJ x) (AV.int .u64))) 0] [])):=by
 unfold xn at a;subst c;refine y8 Tryz.func97 27 ?_;refine zO (tg (n:=0) rfl rfl) ?_;refine xU λk=>qe (λ(g:Nat) (e:List (GH×Int))=>zk 0 3 (zk 4 3 (zk 10 17 [(9,.int .i64 (g:Int))]))) (λe=>h.ext [.q7 (e.map (zZ (λx=>zJ x) (AV.int .u64))) 0] []) a (λg e i a=>cL a (λo p j f a l=>?_) (λa=>?_))
 ·refine ix (zt f) (R.r ?_);refine cB a (λ_=>zpI) λm a=>tB gg a (λd a=>?_) (λd a=>?_)
  ·refine dr [] ?_;refine dH (mL Tryz.underlying142 ac zqF) ?_;refine yn rfl rfl (ztr true rfl rfl (xq (gx 21) (xq (gx 23) vt)) rfl rfl) (sx 24) ?_;refine ur (mP Tryz.underlying142 ac) ?_;exact ZL
  ·apply R.r;exact ZL
 ·cases a;refine fr rfl (zi5 (by simp [q6.low,zA,AV.low,zZ,GH.row,GA.row,GM.row,GJ.row,GI.row]) ?_);exact ⟨rfl,rfl⟩
theorem zs0 {b:(List Int)} {res:Int}  (a:rj b=some res):Sp 68 [.sl 1 (b.map (zdK .i64))] h (z7 (.int .i64 res) h):=by
 unfold rj at a;refine y8 Tryz.func68 18 ?_;refine xU λk=>qe (λ(f:Nat) (g:Unit)=>zk 0 3 (zk 4 2 (zk 9 9 [(8,.int .i64 (f:Int))]))) (λg=>h.ext [] []) a (λf g i a=>cL a (λl m j e a d=>?_) (λa=>?_))
 ·refine ix (zt e) (R.r ?_);refine cF a (λc a=>?_) (λc a=>?_)
  ·cases a;replace a:=d;apply R.r;exact Z
  ·exact ZL
 ·exact Z
theorem zrK  (a:qU xx0=some res):Sp 181 [.int .u8 xx0] h (z7 (.bool res) h):=by
 unfold qU at a;refine y8 Tryz.func181 6 ?_;exact Z
theorem zrT {res:Int}  (a:wr xx0 yy1=some res):Sp 142 [.int .u8 xx0,.int .u8 yy1] h (z7 (.int .i64 res) h):=by
 unfold wr at a;refine y8 Tryz.func142 20 ?_;refine cB a (λ_=>zrK) λi a=>cB a (λ_=>zrK) λg a=>cF a (λf a=>?_) (λf a=>?_)
 ·refine cF a (λc a=>?_) (λc a=>?_)
  ·exact Z
  ·exact Z
 ·refine cF a (λb a=>?_) (λb a=>?_)
  ·exact Z
  ·refine cF a (λd a=>?_) (λd a=>?_)
   ·exact Z
   ·refine cF a (λe a=>?_) (λe a=>?_)
    ·exact Z
    ·exact Z
theorem zrJ  (a:qp xx0=some res):Sp 182 [.int .u32 xx0] h (z7 (.bool res) h):=by
 unfold qp at a;refine y8 Tryz.func182 6 ?_;exact Z
theorem zuE {res:Int}  (a:vQ xx0 yy1=some res):Sp 143 [.int .u32 xx0,.int .u32 yy1] h (z7 (.int .i64 res) h):=by
 unfold vQ at a;refine y8 Tryz.func143 20 ?_;refine cB a (λ_=>zrJ) λi a=>cB a (λ_=>zrJ) λg a=>cF a (λf a=>?_) (λf a=>?_)
 ·refine cF a (λc a=>?_) (λc a=>?_)
  ·exact Z
  ·exact Z
 ·refine cF a (λb a=>?_) (λb a=>?_)
  ·exact Z
  ·refine cF a (λd a=>?_) (λd a=>?_)
   ·exact Z
   ·refine cF a (λe a=>?_) (λe a=>?_)
    ·exact Z
    ·exact Z
theorem zr2 {a0:GH} {f:GH} {res:Int}  (a:qT a0 f=some res):Sp 112 [zJ a0,zJ f] h (z7 (.int .i64 res) h):=by
 unfold qT at a;refine y8 Tryz.func112 17 ?_;refine dr [4,9,11] ?_;refine cM a (λ_ e _=>zrT e) λi a=>zd a (λg b a=>yH rfl rfl (λ_=>sc rfl) (by rintro _ ⟨B2,T2,rfl,d⟩;exact zuE b) ss ?_);refine wo (bs (([i,g]:List Int).map (zdK .i64))) ?_;refine zd a (λv3 c a=>aP (by rintro _ ⟨B2,T2,rfl,d⟩;exact (zs0 c).le (.cons (g6.gW _ _ _) fd.nil)) ?_);exact Z
def zda:Go.Shelf.Ren :=
  { f:=λx=>match x with
      | 6=>169
      | 15=>141
      | 14=>218
      | 28=>179
      | 29=>180
      | 20=>245
      | 21=>246
      | 22=>247
      | 23=>248
      | 24=>249
      | 25=>250
      | 26=>251
      | 27=>252
      | 46=>281
      | 47=>220
      | 48=>221
      | 49=>282
      | 50=>283
      | 57=>297
      | n=>n
    t:=λx=>match x with
      | 22=>172
      | 24=>47
      | 25=>155
      | 3=>3
      | 39=>180
      | 0=>0
      | 53=>45
      | 55=>22
      | 4=>4
      | 46=>217
      | 45=>216
      | 50=>207
      | 5=>5
      | 9=>9
      | 66=>255
      | 70=>259
      | 76=>282
      | 77=>283
      | n=>n
    g:=λn=>n }
theorem zbY:Go.Proofs.SlLaysF0.n6 Tryz.prog zda where
  mixed:=mixed
  f6:=⟨Tryz.f169.name,by kernel_rfl,Tryz.func169.trans (by kernel_rfl)⟩
  f15:=Tryz.func141.trans (by kernel_rfl)
  f14:=⟨Tryz.f218.name,by kernel_rfl,Tryz.func218.trans (by kernel_rfl)⟩
  f28:=Tryz.func179.trans (by kernel_rfl)
  f29:=Tryz.func180.trans (by kernel_rfl)
  f20:=⟨Tryz.f245.name,by kernel_rfl,Tryz.func245.trans (by kernel_rfl)⟩
  f21:=⟨Tryz.f246.name,by kernel_rfl,Tryz.func246.trans (by kernel_rfl)⟩
  f22:=⟨Tryz.f247.name,by kernel_rfl,Tryz.func247.trans (by kernel_rfl)⟩
  f23:=⟨Tryz.f248.name,by kernel_rfl,Tryz.func248.trans (by kernel_rfl)⟩
  f24:=⟨Tryz.f249.name,by kernel_rfl,Tryz.func249.trans (by kernel_rfl)⟩
  f25:=⟨Tryz.f250.name,by kernel_rfl,Tryz.func250.trans (by kernel_rfl)⟩
  f26:=⟨Tryz.f251.name,by kernel_rfl,Tryz.func251.trans (by kernel_rfl)⟩
  f27:=⟨Tryz.f252.name,by kernel_rfl,Tryz.func252.trans (by kernel_rfl)⟩
  f46:=⟨Tryz.f281.name,by kernel_rfl,Tryz.func281.trans (by kernel_rfl)⟩
  f47:=Tryz.func220.trans (by kernel_rfl)
  f48:=Tryz.func221.trans (by kernel_rfl)
  f49:=⟨Tryz.f282.name,by kernel_rfl,Tryz.func282.trans (by kernel_rfl)⟩
  f50:=⟨Tryz.f283.name,by kernel_rfl,Tryz.func283.trans (by kernel_rfl)⟩
  f57:=⟨Tryz.f297.name,by kernel_rfl,Tryz.func297.trans (by kernel_rfl)⟩
  t0:=Tryz.underlying0
  a0:=Tryz.isAgg0
  z0:=Tryz.sizeOf0
  v0:=Tryz.zeroValue0
  t3:=Tryz.underlying3
  a3:=Tryz.isAgg3
  z3:=Tryz.sizeOf3
  v3:=Tryz.zeroValue3
  t4:=Tryz.underlying4
  a4:=Tryz.isAgg4
  z4:=Tryz.sizeOf4
  v4:=Tryz.zeroValue4
  t5:=Tryz.underlying5
  a5:=Tryz.isAgg5
  z5:=Tryz.sizeOf5
  v5:=Tryz.zeroValue5
  t9:=Tryz.underlying9
  a9:=Tryz.isAgg9
  z9:=Tryz.sizeOf9
  v9:=Tryz.zeroValue9
  t22:=Tryz.underlying172
  a22:=Tryz.isAgg172
  z22:=Tryz.sizeOf172
  v22:=Tryz.zeroValue172
  t25:=Tryz.underlying155
  a25:=Tryz.isAgg155
  z25:=Tryz.sizeOf155
  v25:=Tryz.zeroValue155
  t39:=Tryz.underlying180
  a39:=Tryz.isAgg180
  z39:=Tryz.sizeOf180
  v39:=Tryz.zeroValue180
  t45:=Tryz.underlying216
  a45:=Tryz.isAgg216
  z45:=Tryz.sizeOf216
  v45:=Tryz.zeroValue216
  t46:=Tryz.underlying217
  a46:=Tryz.isAgg217
  z46:=Tryz.sizeOf217
  v46:=Tryz.zeroValue217
  t50:=Tryz.underlying207
  a50:=Tryz.isAgg207
  z50:=Tryz.sizeOf207
  v50:=Tryz.zeroValue207
  t53:=Tryz.underlying45
  a53:=Tryz.isAgg45
  z53:=Tryz.sizeOf45
  v53:=Tryz.zeroValue45
  t55:=Tryz.underlying22
  a55:=Tryz.isAgg22
  z55:=Tryz.sizeOf22
  v55:=Tryz.zeroValue22
  t66:=Tryz.underlying255
  a66:=Tryz.isAgg255
  z66:=Tryz.sizeOf255
  v66:=Tryz.zeroValue255
  t70:=Tryz.underlying259
  a70:=Tryz.isAgg259
  z70:=Tryz.sizeOf259
  v70:=Tryz.zeroValue259
  t76:=Tryz.underlying282
  a76:=Tryz.isAgg282
  z76:=Tryz.sizeOf282
  v76:=Tryz.zeroValue282
  t77:=Tryz.underlying283
  a77:=Tryz.isAgg283
  z77:=Tryz.sizeOf283
  v77:=Tryz.zeroValue283
theorem zrv {n:Nat} (a:h.zh.length=n) (b:mm < h.zh.length):Sp 136 [.map mm] h (z7 (.fn (.func 170) [] [.ptr n 0]) (h.ext [.cells [.map mm]] [])):=by
 subst a;refine y8 Tryz.func136 4 ?_;refine zO mF ?_;refine fr rfl (zhF (bs:=[.cells [.map mm]]) (by simp [AV.low,zA]) rfl (by simp [q6.low,zA,AV.low];omega) ?_);exact ⟨rfl,rfl⟩
theorem zri {m:List (GH×Int)} {S:Type} {Hy:S->AH} {nb nt:Nat} {y:S->GH->Option (Bool×S)} {c z:Nat} {st:List (GH×Int)->S} (a:∀s,(Hy s).zh.length=nb) (d:∀s,(Hy s).zs.length=nt) (H:∀s,(Hy s).closed nb nt) (j:c < nb) (P:∀s x b G L M,y s x=some (b,G)->ek Tryz.prog c [zJ x] ((Hy s).ext L M) (z7 (.bool b) ((Hy G).ext L M))) (w:∀s,(Hy s).gZ z=some (.cells [.map mm])) (A:∀s,(Hy s).gZ mm=some (.q7 (m.map (zZ (λx=>zJ x) (AV.int .u64))) 0)) (C:∀q x,q.length < m.length->y (st q) x.1=some (true,st (q++[x]))):Sp 170 [.dG c,.ptr z 0] (Hy (st [])) (λN hh=>N=.fk []/\∃p,p.Perm m/\hh=Hy (st p)):=by
 refine zr Tryz.func170 rfl kr (tW 14 rfl) ?_;have f:∀k,c < nb+k:=λk=>o5 j (n4 _ _);have u:=yi (w (st [])) (a _);have g:∀k,z < nb+k:=λk=>o5 u (n4 _ _);have l:=yi (A (st [])) (a _);have e:∀k,mm < nb+k:=λk=>o5 l (n4 _ _);apply R.r;refine zO (yU rfl ztk gg (w _) (zB rfl) (zc rfl)) ?_;refine zch (kv:=(λx=>zJ x)) (vv:=(AV.int .u64)) (a _) rfl rfl Tryz.underlying142 gg (zz (A _)) rfl ss rfl (R.r ?_);refine ziw (m:=m) [(2,.any),(3,.any),(4,.any),(6,.any),(7,.any),(8,.any),(9,.any),(10,.any),(11,.any),(12,.any),(13,.any)] (λseen q=>(Hy (st q)).ext [.fB mm m.length seen] []) (E:=[.dG c,.ptr z 0,.any,.any,.any,.ptr (nb+0) 0,.any,.any,.any,.any,.any,.any,.any,.any]) (by simp only [cV,kf,kE];try rfl) (wk.le f9.o) ?_;intro seen q Q D;apply R.r;refine zdv (kv:=(λx=>zJ x)) (vv:=(AV.int .u64)) (a _) rfl rfl gg rfl (zz (A _)) ss (λi B F hs=>⟨_,ss,?_⟩) (λO=>?_)
 ·have J:q.length < m.length:=by
   have K:=D.length_eq;have I:=(pm F hs).length_eq;simp only [ng,m3] at K I;omega
  apply R.r;refine c1 ?_;refine zci (kv:=(λx=>zJ x)) (vv:=(AV.int .u64)) (a _) rfl rfl gg rfl (zz (A _)) F ss ?_;refine zy rfl (vL rfl gg rfl (zc rfl)) ss ?_;refine zy rfl (zeN (a _) (n:=1) rfl zqV rfl) ss ?_;refine zO (zeM (a _) (cs':=(GH.row B.1)) rfl ez.choose_spec.1 gg gg (zc rfl) rfl rfl rfl rfl rfl) ?_;refine zO (ziD (a _) rfl ez.choose_spec.1 gg rfl (yj (cs':=(GH.row B.1)) ez.choose_spec.2 rfl rfl) (zc rfl)) ?_;refine zcg rfl (zg8 rfl rfl gg fZ.o fT.o) (P _ _ _ _ _ _ (C q B J)) ss (R.r ?_);refine c0 ?_;exact ⟨i,B,F,hs,wk.trans (wk.le f9.o) (zef (a _) (d _) (a _) (d _) (H _) (by simp [zA,AV.low,j,f,u,g,l,e]) rfl rfl (by simp [q6.low,j,f,u,g,l,e]))⟩
 ·apply R.r;refine c0 ?_;refine fr rfl (ze8 (a _) (d _) (a _) (d _) (H _) (g6.refl _) rfl ?_);exact ⟨rfl,q,by rw [O,ko] at D;exact D,rfl⟩
theorem zrw {m:List (GH×Int)} {b z:Nat} (w:h.zh.length=bl) (A:h.zs.length=z) (G:h.gZ b=some (.cells [.map mm])) (L:h.gZ mm=some (.q7 (m.map (zZ (λx=>zJ x) (AV.int .u64))) 0)) (I:m.length<=lim):Sp 217 [.gW none 2 [],.fn (.func 170) [] [.ptr b 0]] h (λK hh=>∃p:List (GH×Int),p.Perm m/\K=.fm bl z 2 (p.map (λx=>x.1)).length/\hh=h.ext [.row z 2 ((p.map (λx=>x.1)).map GH.row)] [(p.map (λx=>x.1)).length]):=by
 subst w A;refine zx Tryz.func217 rfl kr (tW 13 rfl) (λE F=>?_);have l:=yi G rfl;have f:∀k,b < h.zh.length+k:=λk=>o5 l (n4 _ _);refine wK (yK ?_);refine vH (qF (gx 0) rfl rfl (sx 0) rfl rfl) (R.r ?_);refine ziv (k:=2) (λ(c:(List GH))=>h) (λ(c:(List GH))=>[yq h 0 2 (c.map GH.row),.cells [zU h 0 0 2 (c.length)]]) (λ(c:(List GH))=>[c.length]) ([]:List GH) (λs=>∃p:List (GH×Int),p.Perm m/\s=p.map (λx=>x.1)) (wk.le (by exact (.drop (.drop (.eq (.drop (.drop (.drop (.eq (.d4 (.drop (.drop fd.nil)))))))))))) (λ_=>rfl) rfl rfl rfl (λ_=>rfl) rfl (gx 6) rfl (λg o=>?_) (λc H1 M D=>?_)
 ·have d:∀H J,(g H J).low (h.zh.length+3) (h.zs.length+1)=true:=by intro H J;rw [o];simp [q6.low,zA,AV.low,l,f]
  refine Spec.mono (zri (Hy:=(ma (λ(c:(List GH))=>h) (λ(c:(List GH))=>[yq h 0 2 (c.map GH.row),.cells [zU h 0 0 2 (c.length)]]) (λ(c:(List GH))=>[c.length]) g)) (nb:=(h.zh.length+3)) (nt:=(h.zs.length+1)) (y:=am (λ(s:List GH) (x:GH)=>zQ (s.length+([x]:List GH).length<=lim) (some (true,(s++([x]:List GH),none))))) (st:=λq=>(q.map (λx=>x.1),none)) (λ_=>by simp only [ma];rw [zfa rfl];rfl) (λ_=>by simp only [ma];rw [zbK rfl];rfl) (λ_=>zaY F (n4 _ _) (n4 _ _) (by simp only [jp,l8,iS,kU,m3,lF,Nat.reduceAdd,l6,d] <;> simp [q6.low,zA,AV.low,l,f])) (jv _) (zkv o (xs:=λ(x:GH)=>[zJ x]) (λ_=>rfl) (λ_=>rfl) rfl (λ_=>rfl) (λ_=>by simp only [af,kf,kE];try rfl) (λc u O L1 M1 H1 D a=>?_)) (λ_=>by simp only [ma];exact zz G) (λ_=>by simp only [ma];exact zz L) (λq x N=>by simp only [am,zQ,oS,m3,lF,ki,ld,kb];rw [lc (by omega)])) (λ_ _ h=>by obtain ⟨_,p,C,e⟩:=h;exact ⟨p.map (λx=>x.1),⟨p,C,rfl⟩,e⟩);obtain rfl:H1=((h.ext ([yq h 0 2 (c.map GH.row),.cells [zU h 0 0 2 (c.length)]]++[g .ready none]) [c.length]).ext L1 M1).ext [] []:=D;refine yK ?_;refine zy rfl (zeN (rh rfl rfl) (n:=0) rfl zqV rfl) ss ?_;refine zO (zeM (rh rfl rfl) (cs':=(GH.row u)) rfl ez.choose_spec.1 gg gg (zc rfl) rfl rfl rfl rfl rfl) ?_;refine zeE rfl rfl (R.r ?_);refine zy rfl (zmm rfl rfl zq7 gg rfl (zB rfl) (zc rfl)) ss ?_;refine zO (ziD (rh rfl rfl) rfl ez.choose_spec.1 gg rfl (yj (cs':=(GH.row u)) ez.choose_spec.2 rfl rfl) (zc rfl)) ?_;refine zO (bs (([u]:List GH).map GH.row)) ?_;refine zM a (λB a=>zO (zoU (i:=0) (j:=0) (A':=[yq h 0 2 ((c++([u]:List GH)).map GH.row),.cells [zU h 0 0 2 (c.length)]]++[g .busy none]) (T':=[((c++([u]:List GH))).length]) rfl rfl rfl rfl rfl rfl zsA zsA gg gg rfl (zc rfl) zbE B rfl rfl rfl rfl rfl) ?_);refine zO (zhO (A':=[yq h 0 2 ((c++([u]:List GH)).map GH.row),.cells [zU h 0 0 2 (((c++([u]:List GH))).length)]]++[g .busy none]) (cs':=[zU h 0 0 2 (((c++([u]:List GH))).length)]) rfl rfl zq7 gg gg (zc rfl) rfl rfl rfl rfl rfl rfl) ?_;cases a;exact zeD F rfl rfl rfl rfl rfl rfl rfl rfl rfl rfl rfl (by simp only [jp,l8,iS,kU,m3,lF,Nat.reduceAdd,l6,d] <;> simp [q6.low,zA,AV.low,l,f])
 ·obtain ⟨p,C,rfl⟩:=M;obtain rfl:H1=h.ext [yq h 0 2 ((p.map (λx=>x.1)).map GH.row),.cells [zU h 0 0 2 (((p.map (λx=>x.1))).length)],.dead] [((p.map (λx=>x.1))).length]:=D;apply R.r;refine fr rfl (tP (rD (j:=0) (i:=0) rfl (by simp)) ?_);exact ⟨p,C,by simp only [oS];try rfl,by simp only [oS];try rfl⟩
theorem zrx {m:List (GH×Int)} {b d:Nat} (c:h.zh.length=bl) (e:h.zs.length=d) (l:h.gZ b=some (.cells [.map mm])) (k:h.gZ mm=some (.q7 (m.map (zZ (λx=>zJ x) (AV.int .u64))) 0)) (a:m.length<=lim):Sp 168 [.fn (.func 170) [] [.ptr b 0]] h (λn hh=>∃p:List (GH×Int),p.Perm m/\n=.fm bl d 2 (p.map (λx=>x.1)).length/\hh=h.ext [.row d 2 ((p.map (λx=>x.1)).map GH.row)] [(p.map (λx=>x.1)).length]):=by
 subst c e;refine zx Tryz.func168 rfl kr (tW 5 rfl) (λf o=>R.r ?_);refine rR (α:=List (GH×Int)) (R:=λp=>p.Perm m) (vf:=λp=>zU h 0 0 2 (p.map (λx=>x.1)).length) (L:=λp=>[yq h 0 2 ((p.map (λx=>x.1)).map GH.row)]) (M:=λp=>[(p.map (λx=>x.1)).length]) rfl (sc rfl) (zrw (by rw [xj];rfl) (by rw [sC];rfl) (zz l) (zz k) a) (λ_=>rfl) (λ_=>rfl) (λ_=>ss) (λp g=>R.r ?_);refine fr rfl (tP (rD (j:=0) (i:=0) rfl (by simp)) ?_);exact ⟨p,g,by simp only [oS];try rfl,by simp only [oS];try rfl⟩
theorem zpR {g:List (GH×Int)} {e:Nat} {res:(List GA)} (f:h.gZ e=some (.q7 (g.map (zZ (λx=>zJ x) (AV.int .u64))) 0)) (a:qd g=some res):Sp 100 [.map e] h (z7 (za res) h):=by
 unfold qd at a;refine zr Tryz.func100 rfl kr (tW 27 rfl) ?_;have c:=yi f rfl;have b:∀k,e < h.zh.length+k:=λk=>o5 c (n4 _ _);apply R.r;refine e6 (rV (w:=.fn (.func 170) [] [.ptr (h.zh.length+0) 0]) (zrv (by first | rfl | (rw [xj];rfl)) (zmv (zz f))) rfl) ?_;refine zd a (λy G a=>yC (X:=Unit) (v:=zU h 1 0 2 (y.length)) (H':=λ_=>h.ext [.cells [.map e],yq h 0 2 (y.map GH.row)] [y.length]) rfl (yb rfl rfl rfl fZ.o fT.o) ?_ ss (λ_=>?_))
 ·replace a:=G;refine eW Tryz.func135 12 ?_;refine zM a (λH a=>rR (α:=List (GH×Int)) (R:=λp=>p.Perm g) (vf:=λl=>zU h 1 0 2 (l.map (λx=>x.1)).length) (L:=λl=>[yq h 0 2 ((l.map (λx=>x.1)).map GH.row)]) (M:=λl=>[(l.map (λx=>x.1)).length]) (B':=λl=>[.cells [.map e],yq h 0 2 ((l.map (λx=>x.1)).map GH.row)]) (T':=λl=>[(l.map (λx=>x.1)).length]) rfl (sc rfl) (zrx (by first | rfl | (rw [xj];rfl)) (by first | rfl | (rw [sC];rfl)) (yQ rfl rfl) (zz f) H) (λ_=>rfl) (λ_=>rfl) (λ_=>ss) (λl E=>?_));replace a:=zcZ a l E;apply R.r;refine zd a (λF n a=>e6 (r8 zbY Tryz.isAgg47 Tryz.sizeOf47 (λ_=>rfl) (λ_=>rfl) (oT Tryz.func112 rfl kr) (λ_ _ _ h=>zr2 h) n (i:=1) (B':=[.cells [.map e],yq h 0 2 (F.map GH.row)]) rfl rfl) ?_);cases a;refine fr rfl (zdS ?_);refine ⟨by first | rfl | simp only [qr n],(),?_⟩;first | rfl | simp only [qr n]
 ·refine ln λJ=>R.r ?_;refine zM a (λP a=>qe (h0:=wk.trans (t8 rfl rfl (sx 2) rfl) (wk.le (by exact (.eq (.drop (.cons (g6.of_eq rfl) (.d4 (.eq (.eq (.cons (g6.of_eq rfl) (.d16 (.drop fd.nil)))))))))))) (λ(I:Nat) (u:(List GA))=>zk 3 4 (zk 10 17 [(1,.any),(2,dM h 1 3 (u.map GA.row)),(9,.int .i64 (I:Int))])) (λu=>h.ext [.cells [.map e],yq h 0 2 (y.map GH.row)] [y.length,u.length]) a (λI u K a=>?_));refine zaH gg a (λS Q B N O a C=>?_) (λa=>?_)
  ·apply R.r;refine zd a (λj s a=>zO (iR (yZ s rfl)) ?_);refine zO (vn (off:=0) (i:=1) (q:=h.zs.length+0) (z:=(I:Int).toNat) (row:=GH.row) (λ_=>rfl) rfl ez.choose_spec.1 (by decide) gg rfl rfl (wy s).2.2 (yj (cs':=(GH.row j)) ez.choose_spec.2 rfl rfl) (zc rfl)) ?_;refine zO (m9 (m:=g) (k:=j) (d:=(0:Int)) (kv:=(λx=>zJ x)) (vv:=(AV.int .u64)) rfl Tryz.underlying142 ac zqF gg (zz f) rfl) ?_;refine tB gg a (λA a=>?_) (λA a=>?_)
   ·refine dr [] ?_;refine wo (m9 (m:=g) (k:=j) (d:=(0:Int)) (kv:=(λx=>zJ x)) (vv:=(AV.int .u64)) rfl Tryz.underlying142 ac zqF gg (zz f) rfl) ?_;refine wo sb ?_;refine wo (bs (([(GA.mk j (zG GH.fi (0:Int) g j))]:List GA).map GA.row)) ?_;refine zM a (λD a=>dH (eT D) ?_);cases a;exact ⟨(u++([(GA.mk j (zG GH.fi (0:Int) g j))]:List GA)),B,C,wk.trans (wk.le (by exact (.eq (.drop (.cons (g6.of_eq rfl) (.d4 (.eq (.eq (.cons (g6.of_eq (oa (by omega) (by omega))) (.d16 (.drop fd.nil))))))))))) (yA (by simp [zA,AV.low,c,b]) rfl rfl (by simp [q6.low,zA,AV.low,c,b]))⟩
   ·apply R.r;cases a;exact ⟨u,B,C,wk.trans (wk.le (by exact (.eq (.drop (.cons (g6.of_eq rfl) (.d4 (.eq (.eq (.cons (g6.of_eq (oa (by omega) (by omega))) (.d16 (.drop fd.nil))))))))))) (yA (by simp [zA,AV.low,c,b]) rfl rfl (by simp [q6.low,zA,AV.low,c,b]))⟩
  ·apply R.r;exact Z
theorem ztQ {b:(List GA)} {res:(List GA)}  (a:rg b=some res):Sp 60 [za b] h (z7 (za res) h):=by
 unfold rg at a;refine y8 Tryz.func60 6 ?_;refine zd a (λe c a=>e6 (rV (w:=.map (h.zh.length+0)) (zoD (by first | rfl | (rw [xj];rfl)) c) (by first | rfl | (rw [xj];rfl))) ?_);refine cB a (λ_=>zpR (yQ rfl rfl)) λd a=>?_;exact Z
theorem zvJ {b:(List GA)} {a1:GH} {res:Int}  (a:zdW b a1=some res):Sp 72 [za b,zJ a1] h (z7 (.int .u64 res) h):=by
 unfold zdW at a;refine y8 Tryz.func72 9 ?_;refine dk [2] [(2,[(0,.cells (GH.row a1))])] ?_;refine zd a (λe d a=>pA kr rfl (fY.cons (.inr (oJ ⟨rfl,trivial⟩)) fY.nil) rfl (sc rfl) (rV (w:=.map (h.zh.length+1)) (zoD (by first | rfl | (rw [xj];rfl)) d) (by first | rfl | (rw [xj];rfl))) ss ?_);refine yM rfl rfl (by rintro _ ⟨B2,T2,rfl,c⟩;exact xM rfl ez.choose_spec.1 gg (qx c) (yj (cs':=(GH.row a1)) ez.choose_spec.2 rfl rfl) (zc rfl)) ss ?_;refine dH (mL Tryz.underlying142 ac zqF) ?_;exact Z
theorem ztR {d:(List GA)} {b:(List GA)}  (a:xB d b=some res):Sp 59 [za d,za b] h (z7 (.bool res) h):=by
 unfold xB at a;refine y8 Tryz.func59 26 ?_;refine xU λp=>xU λs=>cF a (λf a=>?_) (λf a=>?_)
 ·exact Z
 ·refine xU λl=>qe (λ(j:Nat) (k:Unit)=>zk 2 10 (zk 14 12 [(13,.int .i64 (j:Int))])) (λk=>h.ext [] []) a (λj k m a=>cL a (λu w n i a g=>?_) (λa=>?_))
  ·refine dr [] ?_;refine eU (zt i) (R.r ?_);refine zd a (λo e a=>eU e (R.r ?_));refine wo (wv rfl gg gg (pG p5 rfl)) ?_;refine cF a (λc a=>?_) (λc a=>?_)
   ·cases a;replace a:=g;apply R.r;exact Z
   ·exact ZL
  ·exact Z
theorem zr3  (a:qn xx0=some res):Sp 111 [.int .u64 xx0] h (z7 (.bool res) h):=by
 unfold qn at a;refine y8 Tryz.func111 6 ?_;exact Z
theorem ztP {res:Int}  (a:x6 xx0 yy1=some res):Sp 69 [.int .u64 xx0,.int .u64 yy1] h (z7 (.int .i64 res) h):=by
 unfold x6 at a;refine y8 Tryz.func69 20 ?_;refine cB a (λ_=>zr3) λi a=>cB a (λ_=>zr3) λg a=>cF a (λf a=>?_) (λf a=>?_)
 ·refine cF a (λc a=>?_) (λc a=>?_)
  ·exact Z
  ·exact Z
 ·refine cF a (λb a=>?_) (λb a=>?_)
  ·exact Z
  ·refine cF a (λd a=>?_) (λd a=>?_)
   ·exact Z
   ·refine cF a (λe a=>?_) (λe a=>?_)
    ·exact Z
    ·exact Z
theorem zoE {a0:GA} {f:GA} {res:Int}  (a:xN a0 f=some res):Sp 70 [zn a0,zn f] h (z7 (.int .i64 res) h):=by
 unfold xN at a;refine y8 Tryz.func70 17 ?_;refine dr [4,9,11] ?_;refine cM a (λ_ e _=>zr2 e) λi a=>zd a (λg b a=>yH rfl rfl (λ_=>sc rfl) (by rintro _ ⟨B2,T2,rfl,d⟩;exact ztP b) ss ?_);refine wo (bs (([i,g]:List Int).map (zdK .i64))) ?_;refine zd a (λv3 c a=>aP (by rintro _ ⟨B2,T2,rfl,d⟩;exact (zs0 c).le (.cons (g6.gW _ _ _) fd.nil)) ?_);exact Z
abbrev zeb (x:GM):AV:=.agg (GM.row x)
theorem zus {b:GM}  (a:mE b=some res):Sp 192 [zeb b] h (z7 (.bool res) h):=by
 unfold mE at a;refine y8 Tryz.func192 47 ?_;refine dm λn=>R.r ?_;refine dm λp=>R.r ?_;refine cF a (λi a=>?_) (λi a=>?_)
 ·exact Z
 ·refine xU λl=>qe (λ(k:Nat) (j:Unit)=>zk 2 19 (zk 24 23 [(0,.any),(23,.int .i64 (k:Int))])) (λj=>h.ext [.cells (GM.row b)] []) a (λk j m a=>cL a (λx w u f a g=>?_) (λa=>?_))
  ·refine ix (zt f) (R.r ?_);refine dr [1] ?_;refine cM a (λ_ e _=>zpI e) λs a=>zM a (λd a=>vE d (R.r ?_));refine cH a (λ_=>zoE) λo a=>cF a (λc a=>?_) (λc a=>?_)
   ·cases a;replace a:=g;apply R.r;exact Z
   ·exact ZL
  ·exact Z
theorem zuu {b:GM}  (a:zeK b=some res):Sp 190 [zeb b] h (z7 (.bool res) h):=by
 unfold zeK at a;refine y8 Tryz.func190 22 ?_;refine dm λc=>R.r ?_;exact Z
theorem zut {b:GM}  (a:zbC b=some res):Sp 191 [zeb b] h (z7 (.bool res) h):=by
 unfold zbC at a;refine y8 Tryz.func191 18 ?_;refine dm λd=>R.r ?_;refine dm λc=>R.r ?_;exact Z
theorem zrR {k0:Int} {res:(GP×Bool)}  (a:zjT k0=some res):Sp 146 [.int .u8 k0] h (z7 (.fk [.agg (GP.row res.1),.bool res.2]) h):=by
 unfold zjT at a;refine y8 Tryz.func146 21 ?_;refine zO sb ?_;refine zO sb ?_;refine zO sb ?_;refine zO sb ?_;refine zO sb ?_;refine zO (zaE (cs':=[.int .u8 (0:Int),.fy,.int .u8 (1:Int),.fn (.func 190) [] [],.int .u8 (2:Int),.fn (.func 191) [] [],.int .u8 (3:Int),.fn (.func 191) [] [],.int .u8 (3:Int),.fn (.func 192) [] [],.int .u8 (4:Int),.fn (.func 191) [] []]) rfl zxP.u zqX cA.choose_spec.1 cw.o ct.o rfl rfl) ?_;refine cF a (λd a=>?_) (λd a=>?_)
 ·refine zO sb ?_;exact Z
 ·refine zd a (λe c a=>zO (zio rfl zxP cA.choose_spec.1 gg gg rfl c) ?_);refine zO (xM rfl cA.choose_spec.1 gg rfl ((congrArg (λb=>dW b _ _ _) cA.choose_spec.2).trans (zp1 (row:=GP.row) (L:=([(GP.mk (0:Int) 0),(GP.mk (1:Int) 1),(GP.mk (2:Int) 2),(GP.mk (3:Int) 2),(GP.mk (3:Int) 3),(GP.mk (4:Int) 2)]:List GP)) (λ_=>rfl) c rfl)) (zc rfl)) ?_;cases a;refine fr rfl (wa (g6.refl _) (by simp [AV.low,zA,zu5]) ?_);exact ⟨rfl,rfl⟩
abbrev yR (x:List zq):AV:=.sl 1 (x.map yp)
theorem zud {c:(List zq)} {f1:(zq->Option Bool)} {res:Int} (l:∀p v (L:List q6) (M:List Nat),f1 p=some v->Sp ff1 (af1++[.str p]++kf1) (h.ext L M) (z7 (.bool v) (h.ext L M))) (a:wQ c f1=some res):Sp 229 [yR c,.fn (.func ff1) af1 kf1] h (z7 (.int .i64 res) h):=by
 unfold wQ at a;refine zx Tryz.func229 rfl kr (tW 19 rfl) (λb z=>?_);simp only [zA,AV.low,tr,lA,kJ] at b;have i:∀n m,h.zh.length<=n->h.zs.length<=m->zA n m af1=true:=λn m f d=>zT f d _ (by simp [b]);have e:∀n m,h.zh.length<=n->h.zs.length<=m->zA n m kf1=true:=λn m f d=>zT f d _ (by simp [b]);apply R.r;refine xU λx=>qe (λ(u:Nat) (s:Unit)=>zk 2 5 (zk 9 10 [(8,.int .i64 (u:Int))])) (λs=>h.ext [] []) a (λu s w a=>cL a (λC B y g a o=>?_) (λa=>?_))
 ·refine ix (zt g) (R.r ?_);refine zd a (λA k a=>yf rfl (dU rfl) (l _ _ _ _ k) ss (R.r ?_));refine cF a (λj a=>?_) (λj a=>?_)
  ·cases a;replace a:=o;apply R.r;exact Z
  ·exact ZL
 ·exact Z
theorem zur {c:(List zq)} {f1:(zq->Option Bool)} (f:∀d v (L:List q6) (M:List Nat),f1 d=some v->Sp ff1 (af1++[.str d]++kf1) (h.ext L M) (z7 (.bool v) (h.ext L M))) (a:xr c f1=some res):Sp 193 [yR c,.fn (.func ff1) af1 kf1] h (z7 (.bool res) h):=by
 unfold xr at a;refine zx Tryz.func193 rfl kr (tW 9 rfl) (λb l=>?_);simp only [zA,AV.low,tr,lA,kJ] at b;have e:∀n m,h.zh.length<=n->h.zs.length<=m->zA n m af1=true:=λn m j g=>zT j g _ (by simp [b]);have i:∀n m,h.zh.length<=n->h.zs.length<=m->zA n m kf1=true:=λn m j g=>zT j g _ (by simp [b]);apply R.r;refine cB a (λ_=>zud (λd v L M k=>by rw [xG];exact f d v _ _ k)) λo a=>?_;exact Z
theorem zt5 {d:zq} {b:Bool} {res:Int} (s:∀u v (L:List q6) (M:List Nat),f1 u=some v->Sp ff1 (af1++[.int .i32 u]++kf1) (h.ext L M) (z7 (.bool v) (h.ext L M))) (a:qz d f1 b=some res):Sp 254 [.str d,.fn (.func ff1) af1 kf1,.bool b] h (z7 (.int .i64 res) h):=by
 unfold qz at a;refine zx Tryz.func254 rfl kr (tW 21 rfl) (λc x=>?_);simp only [zA,AV.low,tr,lA,kJ] at c;have j:∀n m,h.zh.length<=n->h.zs.length<=m->zA n m af1=true:=λn m i f=>zT i f _ (by simp [c]);have g:∀n m,h.zh.length<=n->h.zs.length<=m->zA n m kf1=true:=λn m i f=>zT i f _ (by simp [c]);apply R.r;refine zO (zqp (n:=0) rfl cu gg rfl) ?_;refine xd (λ(l:Nat)=>zk 3 7 (zk 11 10 [(0,.any)])) (λl=>h.ext [.f7 d l] []) a (λ_=>UE) (wk.le f9.o) ?_;intro A l z a e;apply R.r;refine zlj rfl rfl gg rfl ss ss a (λw a=>?_) (λa=>?_)
 ·apply R.r;refine c1 ?_;refine zd a (λy p a=>yf rfl (dU rfl) (s _ _ _ _ p) ss (R.r ?_));refine zO (wv rfl gg gg (zcU ty4)) ?_;refine cF a (λk a=>?_) (λk a=>?_)
  ·cases a;replace a:=e;apply R.r;exact Z
  ·exact ZL
 ·apply R.r;refine c0 ?_;cases a;replace a:=e;apply R.r;exact Z
theorem zuh {c:zq} {res:Int} (f:∀d v (L:List q6) (M:List Nat),f1 d=some v->Sp ff1 (af1++[.int .i32 d]++kf1) (h.ext L M) (z7 (.bool v) (h.ext L M))) (a:qY c f1=some res):Sp 224 [.str c,.fn (.func ff1) af1 kf1] h (z7 (.int .i64 res) h):=by
 unfold qY at a;refine zx Tryz.func224 rfl kr (tW 8 rfl) (λb l=>?_);simp only [zA,AV.low,tr,lA,kJ] at b;have e:∀n m,h.zh.length<=n->h.zs.length<=m->zA n m af1=true:=λn m j g=>zT j g _ (by simp [b]);have i:∀n m,h.zh.length<=n->h.zs.length<=m->zA n m kf1=true:=λn m j g=>zT j g _ (by simp [b]);apply R.r;refine cB a (λ_=>zt5 (λd v L M k=>by rw [xG];exact f d v _ _ k)) λo a=>?_;exact Z
theorem zux {c:zq} (f:∀d v (L:List q6) (M:List Nat),f1 d=some v->Sp ff1 (af1++[.int .i32 d]++kf1) (h.ext L M) (z7 (.bool v) (h.ext L M))) (a:wu c f1=some res):Sp 184 [.str c,.fn (.func ff1) af1 kf1] h (z7 (.bool res) h):=by
 unfold wu at a;refine zx Tryz.func184 rfl kr (tW 9 rfl) (λb l=>?_);simp only [zA,AV.low,tr,lA,kJ] at b;have e:∀n m,h.zh.length<=n->h.zs.length<=m->zA n m af1=true:=λn m j g=>zT j g _ (by simp [b]);have i:∀n m,h.zh.length<=n->h.zs.length<=m->zA n m kf1=true:=λn m j g=>zT j g _ (by simp [b]);apply R.r;refine cB a (λ_=>zuh (λd v L M k=>by rw [xG];exact f d v _ _ k)) λo a=>?_;exact Z
theorem zuy {b:Int}  (a:sn b=some res):Sp 183 [.int .i32 b] h (z7 (.bool res) h):=by
 unfold sn at a;refine y8 Tryz.func183 25 ?_;exact Z
theorem zrS {b:zq}  (a:oF b=some res):Sp 144 [.str b] h (z7 (.bool res) h):=by
 unfold oF at a;refine y8 Tryz.func144 18 ?_;refine xU λd=>dm λe=>R.r ?_;refine cG a (λ_=>zux (λ_ v L M c=>zuy  c)) λv3 a=>?_;exact Z
theorem zuq {b:zq}  (a:pL b=some res):Sp 194 [.str b] h (z7 (.bool res) h):=by
 unfold pL at a;refine y8 Tryz.func194 6 ?_;refine cB a (λ_=>zrS) λc a=>?_;exact Z
theorem zuD {b:(List zq)}  (a:oE b=some res):Sp 147 [yR b] h (z7 (.bool res) h):=by
 unfold oE at a;refine y8 Tryz.func147 16 ?_;refine xU λd=>dm λe=>R.r ?_;refine cG a (λ_=>zur (λ_ v L M c=>zuq  c)) λv3 a=>?_;exact Z
theorem zsx {c:Nat} {a:GM} {v:Bool} (h:zd5 c a=some v):zqd c=.fn (.func (zwv c)) [] []:=by
  unfold zd5 at h;split at h <;> first | rfl | cases h
theorem zrh {c:Nat} {b:GM} (a:zd5 c b=some res):Sp (zwv c) [zeb b] h (z7 (.bool res) h):=by
 unfold zd5 at a;split at a
 ·exact zuu a
 ·exact zut a
 ·exact zus a
 ·cases a
theorem zuO {d:GM}  (a:zll d=some res):Sp 116 [zeb d] h (z7 (.bool res) h):=by
 unfold zll at a;refine y8 Tryz.func116 23 ?_;refine cB a (λ_=>zrR) λf a=>cG a (λ_=>zuD) λe a=>?_;refine vN rfl (λb=>xM rfl ztl (zN gg b) rfl (zB rfl) (zu4 _ _ _)) ss (R.r ?_);refine qc a (λv3 c a=>?_);refine w8 rfl (λb=>yb rfl rfl (zoQ (zN gg b) (zsx (c b))) (xq (zN gg b) vt) fT.o) (λb=>zrh (c b)) ss (R.r ?_);exact Z
theorem zsZ {b:GJ}  (a:qO b=some res):Sp 76 [wI b] h (z7 (.bool res) h):=by
 unfold qO at a;refine y8 Tryz.func76 21 ?_;refine cB a (λ_=>zpI) λd a=>cG a (λ_=>zuO) λc a=>?_;exact Z
theorem zoG {b:(List GA)} {c:GA}  (a:tQ b c=some res):Sp 29 [za b,zn c] h (z7 (.bool res) h):=by
 unfold tQ at a;refine y8 Tryz.func29 16 ?_;refine dr [1] ?_;refine cM a (λ_ e _=>zpI e) λf a=>cH a (λ_=>zvJ) λd a=>?_;exact Z
theorem zvG {g:(List GA)} {b:GI}  (a:qw g b=some res):Sp 94 [za g,zo b] h (z7 (.bool res) h):=by
 unfold qw at a;refine y8 Tryz.func94 40 ?_;refine xU λo=>qe (λ(i:Nat) (j:Unit)=>zk 1 2 (zk 4 3 (zk 10 30 [(9,.int .i64 (i:Int))]))) (λj=>h.ext [.cells (GI.row b)] []) a (λi j l a=>cL a (λp s m f a e=>?_) (λa=>?_))
 ·refine ix (zt f) (R.r ?_);refine dr [] ?_;refine zM a (λc a=>vE c (R.r ?_));refine cH a (λ_=>zoE) λn a=>?_;refine wV rfl rfl (λk=>wv rfl (zN gg k) (zN gg k) (rz p5 rfl)) ss (R.r ?_);refine cH a (λ_=>zoG) λv22 a=>cF a (λd a=>?_) (λd a=>?_)
  ·cases a;replace a:=e;apply R.r;exact Z
  ·exact ZL
 ·exact Z
theorem ztV {b:GI}  (a:tj b=some res):Sp 44 [zo b] h (z7 (.bool res) h):=by
 unfold tj at a;refine y8 Tryz.func44 45 ?_;refine dr [1,2] ?_;refine zd a (λj c a=>yH rfl rfl (λ_=>sc rfl) (by rintro _ ⟨B2,T2,rfl,d⟩;exact zvO c) ss ?_);refine cM a (λ_ e _=>zsZ e) λi a=>cH a (λ_=>ztQ) λv3 a=>cH a (λ_=>ztR) λv4 a=>cH a (λ_=>zvJ) λv5 a=>?_;refine qv rfl rfl (λf=>x9 rfl rfl rfl rfl p6 (zN gg f) vC) ss (R.r ?_);refine cH a (λ_=>zvG) λk a=>cH a (λ_=>zvG) λg a=>?_;exact Z
abbrev zb (x:List GC):AV:=.sl 3 (x.map GC.row)
theorem zpK {g0:GO} (e:h.gZ pg0=some (.cells [.int .u64 g0.base.num,za g0.base.f,za g0.base.g9,.int .u64 g0.base.time,zb g0.base.tree,.map mg0commits,za g0.vv])) (c:h.gZ mg0commits=some (.q7 (g0.ff.map (zZ (λx=>zn x) (λx=>zo x))) 0)) (a:ya g0=some res):Sp 27 [.ptr pg0 0] h (z7 (.bool res) h):=by
 unfold ya at a;refine zr Tryz.func27 rfl (by kernel_rfl) (env:=[.ptr pg0 0,xo,xo,xo,xo,xo,xo,xo,xo,xo,xo,xo]) (by rfl) ?_;have b:=yi c rfl;have d:∀k,mg0commits < h.zh.length+k:=λk=>o5 b (n4 _ _);have g:=yi e rfl;have i:∀k,pg0 < h.zh.length+k:=λk=>o5 g (n4 _ _);refine wK (yK ?_);refine zy rfl (ve rfl rfl (zc rfl)) (sx 2) ?_;refine yG (ww (wK (yK ?_)));refine zy rfl (xI rfl rfl (zc rfl)) (sx 3) ?_;refine zy rfl (wv rfl rfl rfl (zbP zsV rfl)) (sx 4) ?_;refine zy rfl (xI rfl rfl (zc rfl)) (sx 5) ?_;refine zy rfl (xI rfl rfl (zc rfl)) (sx 6) ?_;refine zy rfl (zaD rfl rfl rfl) (sx 7) ?_;refine zy rfl (ms rfl zst rfl rfl) (sx 8) ?_;refine zy rfl (yU rfl aY rfl e (zB rfl) (zc rfl)) (sx 9) ?_;refine zy rfl (wv rfl rfl rfl (zbP aY rfl)) (sx 10) ?_;refine zy rfl (zpe rfl rfl rfl rfl) (sx 11) ?_;refine zy rfl (ve rfl rfl (zc rfl)) (sx 2) ?_;refine yG (ww (zna ?_));obtain rfl:=kK a;refine zhe rfl (zit rfl zkY) (wa (g6.refl _) rfl ?_);exact ⟨rfl,rfl⟩
theorem ztU {g0:GO} {l:GA} (e:h.gZ pg0=some (.cells [.int .u64 g0.base.num,za g0.base.f,za g0.base.g9,.int .u64 g0.base.time,zb g0.base.tree,.map mg0commits,za g0.vv])) (b:h.gZ mg0commits=some (.q7 (g0.ff.map (zZ (λx=>zn x) (λx=>zo x))) 0)) (a:wE g0 l=some res):Sp 45 [.ptr pg0 0,zn l] h (z7 (.bool res) h):=by
 unfold wE at a;refine zr Tryz.func45 rfl kr (tW 28 rfl) ?_;have c:=yi b rfl;have g:∀k,mg0commits < h.zh.length+k:=λk=>o5 c (n4 _ _);have j:=yi e rfl;have n:∀k,pg0 < h.zh.length+k:=λk=>o5 j (n4 _ _);apply R.r;refine cB a (λ_=>zpK (zz e) (zz b)) λs a=>cF a (λo a=>?_) (λo a=>?_)
 ·exact Z
 ·refine dk [3,4,5] [(4,[(0,.cells (GA.row l))])] ?_;refine yM rfl rfl (by rintro _ ⟨B2,T2,rfl,i⟩;exact yU rfl aY (gx 12) e (zB rfl) (zc rfl)) (sx 13) ?_;refine yM rfl rfl (by rintro _ ⟨B2,T2,rfl,i⟩;exact xM rfl f5.choose_spec.1 gg (qx i) (yj (cs':=(GA.row l)) f5.choose_spec.2 rfl rfl) (zc rfl)) ss ?_;refine yM rfl rfl (by rintro _ ⟨B2,T2,rfl,i⟩;exact zd6 (m:=g0.ff) (k:=l) (d:=(GI.mk (GA.mk (GH.mk (0:Int) (0:Int)) (0:Int)) ([]:List GA) ([]:List GA) (0:Int) (GM.mk (0:Int) ([]:List zq) (0:Int) ([]:zq) ([]:List GA)))) (kv:=(λx=>zn x)) (vv:=(λx=>zo x)) rfl Tryz.underlying82 bD zvo gg (zz b) rfl) ss (R.r ?_);refine ur fS.out ?_;refine ur fS.out ?_;refine dr [] ?_;refine wV rfl rfl (λp=>yU rfl me (zN gg p) e (zB rfl) (zc rfl)) ss (R.r ?_);refine cH a (λ_=>zoG) λv3 a=>?_;exact Z
theorem zr7 {a0:List (GH×Int)} {u:Nat} {I:List (GH×Int)} {C:Nat} {G:(Int->Int->Option Int)} {z:FuncId} {o s:List AV} {res:(List (GH×Int))} (J:h.zh.length=bl) (A:h.gZ u=some (.q7 (a0.map (zZ (λx=>zJ x) (AV.int .u64))) 0)) (B:h.gZ C=some (.q7 (I.map (zZ (λx=>zJ x) (AV.int .u64))) 0)) (E:∀W D v (L:List q6) (M:List Nat),G W D=some v->Sp z (o++[.int .u64 W,.int .u64 D]++s) (h.ext L M) (z7 (.int .u64 v) (h.ext L M))) (a:wN a0 I G=some res):Sp 101 [.map u,.map C,.fn (.func z) o s] h (λZ hh=>∃p:List (GH×Int),p.Perm res/\Z=.map bl/\hh=h.ext [.q7 (p.map (zZ (λx=>zJ x) (AV.int .u64))) 0] []):=by
 unfold wN at a;subst J;refine zx Tryz.func101 rfl (by kernel_rfl) (env:=[.map u,.map C,.fn (.func z) o s,xo,xo,xo,xo,xo,xo,xo,xo,xo,xo,xo,xo,xo,xo,xo,xo,xo,xo,xo,xo,xo,xo,xo,xo,xo,xo,xo,xo,xo,xo,xo,xo,xo,xo,xo,xo,xo,xo,xo,xo,xo]) (by rfl) (λw hC=>?_);simp only [zA,AV.low,tr,lA,kJ] at w;have c:∀n m,h.zh.length<=n->h.zs.length<=m->zA n m o=true:=λn m P N=>zT P N _ (by simp [w]);have f:∀n m,h.zh.length<=n->h.zs.length<=m->zA n m s=true:=λn m P N=>zT P N _ (by simp [w]);have i:=yi A rfl;have e:∀k,u < h.zh.length+k:=λk=>o5 i (n4 _ _);have g:=yi B rfl;have b:∀k,C < h.zh.length+k:=λk=>o5 g (n4 _ _);refine wK (yK ?_);refine zy rfl (ve rfl rfl (zc rfl)) (sx 6) ?_;refine yG (ww (wK (yK ?_)));refine zy rfl (tg (n:=0) rfl rfl) (sx 12) ?_;refine zy rfl (ve rfl rfl (zc rfl)) (sx 7) ?_;refine yG (ww (wK (wK (yK ?_))));refine zy rfl (xI rfl rfl (zc rfl)) (sx 13) ?_;refine nx (kv:=(λx=>zJ x)) (vv:=(AV.int .u64)) rfl rfl Tryz.underlying142 rfl (zz A) rfl (sx 14) rfl ?_;refine yG (ww (nw ?_));refine zeA (λ(H:List (GH×Int))=>[(3,.any),(4,.any),(5,.any),(6,.any),(8,.any),(9,.any),(10,.any),(11,.any),(12,.any),(13,.any),(15,.any),(16,.any),(17,.any),(18,.any),(19,.any),(20,.any),(21,.any),(22,.any),(23,.any),(24,.any),(25,.any),(26,.any),(27,.any),(28,.any),(29,.any),(30,.any),(31,.any),(32,.any),(33,.any),(34,.any),(35,.any),(36,.any),(37,.any),(38,.any),(39,.any),(40,.any),(41,.any),(42,.any),(43,.any)]) (λl H=>h.ext [.q7 (H.map (zZ (λx=>zJ x) (AV.int .u64))) 0,.fB u a0.length l] []) a (λ_=>by simp only [cV,kf,kE];try rfl) (wk.le (by exact (.eq (.eq (.eq (.d4 (.eq (.d4 (.drop (.drop (.eq (.d16 (.d4 (.d4 (.d4 (.drop fd.nil)))))))))))))))) ?_;intro l H a;refine wK (yK ?_);refine zaL rfl rfl rfl rfl (zz A) (sx 15) a (λi1 D o1 R T a V=>⟨_,(sx 15),?_⟩) (λa=>?_)
 ·refine zy rfl (vL rfl rfl rfl (zc rfl)) (sx 16) ?_;refine yG (ww (wK ?_));refine pZ rfl (λ_=>?_) (λhh=>by cases hh);refine ziu (ww (nw (wK (yK ?_))));refine ny rfl rfl rfl rfl (zz A) R (sx 17) ?_;refine zy rfl (vL rfl rfl rfl (zc rfl)) (sx 18) ?_;refine zy rfl (vL rfl rfl rfl (zc rfl)) (sx 19) ?_;refine zy rfl (nG (n:=2) rfl zqV rfl) (sx 8) ?_;refine zy rfl (uE (cs':=(GH.row D.1)) rfl ez.choose_spec.1 rfl rfl (zc rfl) rfl rfl rfl rfl rfl) rfl ?_;refine zy rfl (ve rfl rfl (zc rfl)) (sx 9) ?_;refine yG (ww ?_);refine zmc (by kernel_rfl) ?_;refine yn rfl rfl (xI rfl rfl (zc rfl)) (sx 20) ?_;refine yn rfl rfl (xM rfl ez.choose_spec.1 rfl rfl (yj (cs':=(GH.row D.1)) ez.choose_spec.2 rfl rfl) (zc rfl)) (sx 21) ?_;refine yn rfl rfl (xI rfl rfl (zc rfl)) (sx 22) ?_;refine yn rfl rfl (xI rfl rfl (zc rfl)) (sx 23) ?_;refine yn rfl rfl (xI rfl rfl (zc rfl)) (sx 24) ?_;refine yn rfl rfl (xM rfl ez.choose_spec.1 rfl rfl (yj (cs':=(GH.row D.1)) ez.choose_spec.2 rfl rfl) (zc rfl)) (sx 25) ?_;refine yn rfl rfl (m9 (m:=I) (k:=D.1) (d:=(0:Int)) (kv:=(λx=>zJ x)) (vv:=(AV.int .u64)) rfl Tryz.underlying142 ac zqF rfl (zz B) rfl) (sx 26) ?_;refine zd a (λv4 O a=>wi rfl rfl (zb4 rfl rfl rfl (xq rfl (xq rfl vt)) (.cons (zc rfl) (.cons (zc rfl) .nil)) rfl) (E _ _ _ _ _ O) (sx 27) ?_);refine uA rfl fY.nil (by kernel_rfl) rfl (zfg (m:=H) (k:=D.1) (v:=v4) (j:=0) (kv:=(λx=>zJ x)) (vv:=(AV.int .u64)) rfl Tryz.underlying142 ac rfl rfl rfl rfl rfl rfl) rfl ?_;refine zfi ?_;refine zhg (zk8 ?_);obtain rfl:=kK a;exact ⟨i1,(wx GH.fi H D.1 v4),T,V,wk.trans (wk.le (by exact (.eq (.eq (.eq (.d4 (.eq (.d4 (.drop (.drop (.eq (.d16 (.d4 (.d4 (.d4 (.drop fd.nil)))))))))))))))) (yA (by simp [zA,AV.low,c,f,i,e,g,b]) rfl rfl (by simp [q6.low,zA,AV.low,c,f,i,e,g,b,GH.row,zZ]))⟩
 ·refine zy rfl (vL rfl rfl rfl (zc rfl)) (sx 16) ?_;refine yG (ww (wK ?_));refine pZ rfl (λhh=>by cases hh) (λ_=>zk5 ?_);refine zaI ?_;refine mB ?_;refine mC ?_;refine ww (wK (wK (yK ?_)));refine zy rfl (xI rfl rfl (zc rfl)) (sx 28) ?_;refine nx (kv:=(λx=>zJ x)) (vv:=(AV.int .u64)) rfl rfl Tryz.underlying142 rfl (zz B) rfl (sx 29) rfl ?_;refine yG (ww (nw ?_));refine zeA (λ(s2:List (GH×Int))=>[(1,.any),(3,.any),(4,.any),(5,.any),(6,.any),(8,.any),(9,.any),(10,.any),(11,.any),(12,.any),(13,.any),(14,.any),(15,.any),(16,.any),(17,.any),(18,.any),(19,.any),(20,.any),(21,.any),(22,.any),(23,.any),(24,.any),(25,.any),(26,.any),(27,.any),(28,.any),(30,.any),(31,.any),(32,.any),(33,.any),(34,.any),(35,.any),(36,.any),(37,.any),(38,.any),(39,.any),(40,.any),(41,.any),(42,.any),(43,.any)]) (λy s2=>h.ext [.q7 (s2.map (zZ (λx=>zJ x) (AV.int .u64))) 0,.fB u a0.length l,.fB C I.length y] []) a (λ_=>by simp only [cV,kf,kE];try rfl) (wk.le (by exact (.eq (.drop (.eq (.d4 (.eq (.d16 (.d4 (.drop (.eq (.d4 (.d4 (.d4 (.drop (.drop fd.nil)))))))))))))))) ?_;intro y s2 a;refine wK (yK ?_);refine zaL rfl rfl rfl rfl (zz B) (sx 30) a (λY F o2 K U a S=>⟨_,(sx 30),?_⟩) (λa=>?_)
  ·refine zy rfl (vL rfl rfl rfl (zc rfl)) (sx 31) ?_;refine yG (ww (wK ?_));refine pZ rfl (λ_=>?_) (λhh=>by cases hh);refine ziu (ww (nw (wK (yK ?_))));refine ny rfl rfl rfl rfl (zz B) K (sx 32) ?_;refine zy rfl (vL rfl rfl rfl (zc rfl)) (sx 33) ?_;refine zy rfl (vL rfl rfl rfl (zc rfl)) (sx 34) ?_;refine zy rfl (nG (n:=3) rfl zqV rfl) (sx 10) ?_;refine zy rfl (uE (cs':=(GH.row F.1)) rfl ez.choose_spec.1 rfl rfl (zc rfl) rfl rfl rfl rfl rfl) rfl ?_;refine zy rfl (ve rfl rfl (zc rfl)) (sx 11) ?_;refine yG (ww ?_);refine zmc (by kernel_rfl) ?_;refine yn rfl rfl (xI rfl rfl (zc rfl)) (sx 35) ?_;refine yn rfl rfl (xM rfl ez.choose_spec.1 rfl rfl (yj (cs':=(GH.row F.1)) ez.choose_spec.2 rfl rfl) (zc rfl)) (sx 36) ?_;refine yn rfl rfl (xI rfl rfl (zc rfl)) (sx 37) ?_;refine yn rfl rfl (xI rfl rfl (zc rfl)) (sx 38) ?_;refine yn rfl rfl (xM rfl ez.choose_spec.1 rfl rfl (yj (cs':=(GH.row F.1)) ez.choose_spec.2 rfl rfl) (zc rfl)) (sx 39) ?_;refine yn rfl rfl (m9 (m:=a0) (k:=F.1) (d:=(0:Int)) (kv:=(λx=>zJ x)) (vv:=(AV.int .u64)) rfl Tryz.underlying142 ac zqF rfl (zz A) rfl) (sk (sx 0)) ?_;refine yn rfl rfl (xI rfl rfl (zc rfl)) (sk (sx 1)) ?_;refine zd a (λX Q a=>wi rfl rfl (zb4 rfl rfl rfl (xq (gk rfl) (xq (gk rfl) vt)) (.cons (zc rfl) (.cons (zc rfl) .nil)) rfl) (E _ _ _ _ _ Q) (sk (sx 2)) ?_);refine uA rfl fY.nil (by kernel_rfl) rfl (zfg (m:=s2) (k:=F.1) (v:=X) (j:=0) (kv:=(λx=>zJ x)) (vv:=(AV.int .u64)) rfl Tryz.underlying142 ac rfl rfl rfl (gk rfl) rfl rfl) rfl ?_;refine zfi ?_;refine zhg (zk8 ?_);obtain rfl:=kK a;exact ⟨Y,(wx GH.fi s2 F.1 X),U,S,wk.trans (wk.le (by exact (.eq (.drop (.eq (.d4 (.eq (.d16 (.d4 (.drop (.eq (.d4 (.d4 (.d4 (.drop (.drop fd.nil)))))))))))))))) (yA (by simp [zA,AV.low,c,f,i,e,g,b]) rfl rfl (by simp [q6.low,zA,AV.low,c,f,i,e,g,b,GH.row,zZ]))⟩
  ·refine zy rfl (vL rfl rfl rfl (zc rfl)) (sx 31) ?_;refine yG (ww (wK ?_));refine pZ rfl (λhh=>by cases hh) (λ_=>zk5 ?_);refine zaI ?_;refine mB ?_;refine mC ?_;refine ww (wK (yK ?_));refine zy rfl (xI rfl rfl (zc rfl)) (sk (sx 3)) ?_;refine zy rfl (ve rfl (gk rfl) (zc rfl)) (sx 6) ?_;refine yG (ww (zna ?_));obtain rfl:=kK a;refine zhe rfl (zit rfl zkY) (zi5 (by simp [q6.low,zA,AV.low,zZ,GH.row,GA.row,GM.row,GJ.row,GI.row,GP.row,GF.row,GE.row,GL.row]) ?_);exact ⟨_,(ziB _).symm,rfl,rfl⟩
theorem zuT {res:Int}  (a:zas xx0 yy1=some res):Sp 102 [.int .u64 xx0,.int .u64 yy1] h (z7 (.int .u64 res) h):=by
 unfold zas at a;refine y8 Tryz.func102 8 ?_;refine zy rfl (ztr true rfl rfl (xq (gx 5) (xq (gx 6) vt)) rfl rfl) (sx 7) (R.r ?_);exact Z
theorem zrA {a0:(List GA)} {g:(List GA)} {res:(List GA)}  (a:qC a0 g=some res):Sp 52 [za a0,za g] h (z7 (za res) h):=by
 unfold qC at a;refine y8 Tryz.func52 11 ?_;refine zd a (λk e a=>e6 (rV (w:=.map (h.zh.length+0)) (zoD (by first | rfl | (rw [xj];rfl)) e) (by first | rfl | (rw [xj];rfl))) ?_);refine zd a (λj c a=>e6 (rV (w:=.map (h.zh.length+1)) (zoD (by first | rfl | (rw [xj];rfl)) c) (by first | rfl | (rw [xj];rfl))) ?_);refine zd a (λv3 d a=>rR (α:=List (GH×Int)) (R:=λp=>p.Perm v3) (vf:=λb=>.map (h.zh.length+2)) (L:=λb=>[.q7 (b.map (zZ (λx=>zJ x) (AV.int .u64))) 0]) (M:=λb=>[]) (B':=λb=>[.q7 (k.map (zZ (λx=>zJ x) (AV.int .u64))) 0,.q7 (j.map (zZ (λx=>zJ x) (AV.int .u64))) 0,.q7 (b.map (zZ (λx=>zJ x) (AV.int .u64))) 0]) (T':=λb=>[]) rfl (sc rfl) (zr7 (by first | rfl | (rw [xj];rfl)) (yQ rfl rfl) (yQ rfl rfl) (λ_ _ v L M i=>zuT  i) d) (λ_=>rfl) (λ_=>ko _) (λ_=>ss) (λb f=>?_));replace a:=zcZ a b f;refine cB a (λ_=>zpR (yQ rfl rfl)) λv5 a=>?_;exact Z
theorem zuG {res:Int}  (a:zar xx0 yy1=some res):Sp 134 [.int .u64 xx0,.int .u64 yy1] h (z7 (.int .u64 res) h):=by
 unfold zar at a;refine y8 Tryz.func134 8 ?_;refine zy rfl (ztr false rfl rfl (xq (gx 5) (xq (gx 6) vt)) rfl rfl) (sx 7) (R.r ?_);exact Z
theorem zw5 {a0:(List GA)} {g:(List GA)} {res:(List GA)}  (a:zcL a0 g=some res):Sp 95 [za a0,za g] h (z7 (za res) h):=by
 unfold zcL at a;refine y8 Tryz.func95 11 ?_;refine zd a (λk e a=>e6 (rV (w:=.map (h.zh.length+0)) (zoD (by first | rfl | (rw [xj];rfl)) e) (by first | rfl | (rw [xj];rfl))) ?_);refine zd a (λj c a=>e6 (rV (w:=.map (h.zh.length+1)) (zoD (by first | rfl | (rw [xj];rfl)) c) (by first | rfl | (rw [xj];rfl))) ?_);refine zd a (λv3 d a=>rR (α:=List (GH×Int)) (R:=λp=>p.Perm v3) (vf:=λb=>.map (h.zh.length+2)) (L:=λb=>[.q7 (b.map (zZ (λx=>zJ x) (AV.int .u64))) 0]) (M:=λb=>[]) (B':=λb=>[.q7 (k.map (zZ (λx=>zJ x) (AV.int .u64))) 0,.q7 (j.map (zZ (λx=>zJ x) (AV.int .u64))) 0,.q7 (b.map (zZ (λx=>zJ x) (AV.int .u64))) 0]) (T':=λb=>[]) rfl (sc rfl) (zr7 (by first | rfl | (rw [xj];rfl)) (yQ rfl rfl) (yQ rfl rfl) (λ_ _ v L M i=>zuG  i) d) (λ_=>rfl) (λ_=>ko _) (λ_=>ss) (λb f=>?_));replace a:=zcZ a b f;refine cB a (λ_=>zpR (yQ rfl rfl)) λv5 a=>?_;exact Z
end Go.Vv
