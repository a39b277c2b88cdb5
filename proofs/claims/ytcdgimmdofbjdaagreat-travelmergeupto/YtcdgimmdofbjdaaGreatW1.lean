/- Each function that the law reaches computes what its reading says; printed by a program. -/
import Derived.Test.YtcdgimmdofbjdaaGreatVvSh
import Derived.Test.YtcdgimmdofbjdaaGreatVvMr
import Derived.Test.YtcdgimmdofbjdaaGreatVvSo
import Derived.Test.YtcdgimmdofbjdaaGreatVvPt
import Derived.Test.YtcdgimmdofbjdaaGreatVvSs
import Derived.Test.YtcdgimmdofbjdaaGreatVvGp
import Derived.Test.YtcdgimmdofbjdaaGreatVvU
import Derived.Test.YtcdgimmdofbjdaaGreatD
import Derived.Test.YtcdgimmdofbjdaaGreatProg
set_option linter.all false
open Option renaming some→aa
open Option renaming none→ac
open Go.Proofs.Tryz renaming prog→aj
namespace Go.Vv
open Go Go.Proofs
set_option maxRecDepth 100000
set_option synthInstance.maxSize 100000
set_option synthInstance.maxHeartbeats 1000000
set_option maxHeartbeats 1000000
variable{h:AH}{deep1:Int}{res:Bool}{ff1:FuncId}{af1 kf1:List AV}
section
variable{v a0 a1 a2 a3 a4 a5 a6 a7 a8 a9 a10 a11 a12 a13 a14 a15 a16 a17 a18 a19 a20 a21 a22 a23 a24 a25 a26 a27 a28 a29 a30 a31 a32 a33 a34 a35 a36 a37 a38 a39:AV}{r q:List AV}{t:Nat}
abbrev Sp:=Spec aj
theorem gx(n:Nat){env:List AV}{v:AV}[i:GT (.tmp n) env v]:yy env (.tmp n)=aa v:=i.out
theorem sx(n:Nat){env a:List AV}{v:AV}[i:ST (aa n) env v a]:tX (aa n) env v=aa a:=i.out
theorem gt0:yy (a0::r) (.tmp 0)=aa a0:=rfl
theorem st0:tX (aa 0) (a0::r) v=aa (v::r):=rfl
theorem gk(h:yy r (.tmp t)=aa v):yy (a0::a1::a2::a3::a4::a5::a6::a7::a8::a9::a10::a11::a12::a13::a14::a15::a16::a17::a18::a19::a20::a21::a22::a23::a24::a25::a26::a27::a28::a29::a30::a31::a32::a33::a34::a35::a36::a37::a38::a39::r) (.tmp (t+40))=aa v:=h
theorem sk(h:tX (aa t) r v=aa q):tX (aa (t+40)) (a0::a1::a2::a3::a4::a5::a6::a7::a8::a9::a10::a11::a12::a13::a14::a15::a16::a17::a18::a19::a20::a21::a22::a23::a24::a25::a26::a27::a28::a29::a30::a31::a32::a33::a34::a35::a36::a37::a38::a39::r) v=aa (a0::a1::a2::a3::a4::a5::a6::a7::a8::a9::a10::a11::a12::a13::a14::a15::a16::a17::a18::a19::a20::a21::a22::a23::a24::a25::a26::a27::a28::a29::a30::a31::a32::a33::a34::a35::a36::a37::a38::a39::q):=congrArg (λx=>aa (a0::a1::a2::a3::a4::a5::a6::a7::a8::a9::a10::a11::a12::a13::a14::a15::a16::a17::a18::a19::a20::a21::a22::a23::a24::a25::a26::a27::a28::a29::a30::a31::a32::a33::a34::a35::a36::a37::a38::a39::x)) (ky h)
end
def zrH:Nat->AV
  |1=>.fn (.func 238) [] []
  |2=>.fn (.func 239) [] []
  |3=>.fn (.func 240) [] []
  |_=>.fC
def zyd:Nat->FuncId
  |1=>238
  |2=>239
  |3=>240
  |_=>0
theorem zwT(c n m:Nat):(zrH c).low n m=true:=by unfold zrH;split<;>rfl
theorem zwS(P:Program)(t:TypeId)(c:Nat):w5 P t (zrH c)=zrH c:=by unfold zrH;split<;>rfl
def zhr:Nat->AV
  |1=>.fn (.func 288) [] []
  |2=>.fn (.func 289) [] []
  |3=>.fn (.func 290) [] []
  |4=>.fn (.func 291) [] []
  |_=>.fC
def zqd:Nat->FuncId
  |1=>288
  |2=>289
  |3=>290
  |4=>291
  |_=>0
theorem zrG(P:Program)(t:TypeId)(c:Nat):w5 P t (zhr c)=zhr c:=by unfold zhr;split<;>rfl
abbrev GH.row(x:GH):List AV:=[.int .u8 x.fk,.int .u32 x.inc]
abbrev GA.row(x:GA):List AV:=[.int .u8 x.zi.fk,.int .u32 x.zi.inc,.int .u64 x.seq]
abbrev GF.row(x:GF):List AV:=[.int .u64 x.time,.int .u8 x.z6.zi.fk,.int .u32 x.z6.zi.inc,.int .u64 x.z6.seq,.str x.text]
abbrev GE.row(x:GE):List AV:=[.int .u8 x.x4,.int .i64 x.n,.int .u64 x.time,.int .u8 x.z6.zi.fk,.int .u32 x.z6.zi.inc,.int .u64 x.z6.seq,.str x.text,.sl 5 (x.z8.map GF.row),.sl 3 (x.y4.map GA.row)]
mutual
abbrev zH(x:List GE):AV:=.sl 9 (x.map GE.row)
def GC.row:GC->List AV
  |⟨name,leaves,wa⟩=>[.str name,zH leaves,.sl 3 (GC.rows wa)]
def GC.rows:List GC->List (List AV)
  |[]=>[]
  |x::r=>x.row::GC.rows r
end
theorem GC.zzr(l:List GC):GC.rows l=l.map GC.row:=by
  induction l with
  |nil=>rfl
  |cons x r ih=>simp only[GC.rows,m4,ih]
theorem GC.q8(x:GC):x.row=[.str x.name,.sl 9 (x.leaves.map GE.row),.sl 3 (x.wa.map GC.row)]:=by
  cases x;simp only[GC.row,GC.zzr]
abbrev GL.row(x:GL):List AV:=[.int .u64 x.num,.sl 3 (x.f.map GA.row),.sl 3 (x.fb.map GA.row),.int .u64 x.time,.sl 3 (x.tree.map GC.row)]
abbrev GN.row(x:GN):List AV:=[.int .u8 x.kind,.sl 1 (x.path.map yl),.int .i64 x.n,.str x.text,.sl 3 (x.gZ.map GA.row)]
abbrev GI.row(x:GI):List AV:=[.int .u8 x.z6.zi.fk,.int .u32 x.z6.zi.inc,.int .u64 x.z6.seq,.sl 3 (x.xo.map GA.row),.sl 3 (x.vV.map GA.row),.int .u64 x.time,.int .u8 x.op.kind,.sl 1 (x.op.path.map yl),.int .i64 x.op.n,.str x.op.text,.sl 3 (x.op.gZ.map GA.row)]
abbrev GJ.row(x:GJ):List AV:=[.int .u8 x.z6.zi.fk,.int .u32 x.z6.zi.inc,.int .u64 x.z6.seq,.int .u64 x.time,.int .u8 x.op.kind,.sl 1 (x.op.path.map yl),.int .i64 x.op.n,.str x.op.text,.sl 3 (x.op.gZ.map GA.row)]
abbrev GR.row(x:GR):List AV:=[.int .u8 x.leaf,zrH x.may]
abbrev GK.row(x:GK):List AV:=[.int .u8 x.e.z6.zi.fk,.int .u32 x.e.z6.zi.inc,.int .u64 x.e.z6.seq,.int .u64 x.e.time,.int .u8 x.e.op.kind,.sl 1 (x.e.op.path.map yl),.int .i64 x.e.op.n,.str x.e.op.text,.sl 3 (x.e.op.gZ.map GA.row),.int .i64 x.aF]
abbrev GO.row(x:GO):List AV:=[.sl 1 (x.path.map yl),.int .u8 x.l.x4,.int .i64 x.l.n,.int .u64 x.l.time,.int .u8 x.l.z6.zi.fk,.int .u32 x.l.z6.zi.inc,.int .u64 x.l.z6.seq,.str x.l.text,.sl 5 (x.l.z8.map GF.row),.sl 3 (x.l.y4.map GA.row)]
instance wd:El aj 26 105 3:=bh Tryz.underlying26 kr
theorem mixed:Tryz.prog.follows .mixedOrders=true:=kr
theorem zkn{Q:Exit->List AV->AH->Prop}{env:List AV}{B:List q6}{T:List Nat}{id:Nat}{l:List Oper}(hd:pg ⟨l⟩ []=true)(a:zI aj ⟨l⟩ [] (λn=>zlu h (lk [] n)) (Q .normal) 0 l env (h.ext B T)):vi aj (.region id ⟨l⟩ true) Q env (h.ext B T):=zik [] [] trivial mixed hd a
instance zw8:Fo aj 105 0 0 9 1:=vk kr kr
instance cd:Ty aj 9 .string 1:=qt Tryz.underlying9 kr
instance zrM:Fo aj 105 2 2 26 1:=vk kr kr
instance zsB:Ty aj 26 (.slice 105) 1:=qt Tryz.underlying26 kr
instance zw7:Fo aj 105 1 1 103 1:=vk kr kr
instance zqA:Ty aj 103 (.slice 84) 1:=qt Tryz.underlying103 kr
instance al:El aj 103 84 9:=bh Tryz.underlying103 kr
theorem ao:∃d,Ty aj 84 d 9/\yd d=true:=⟨_,qt Tryz.underlying84 kr,by kernel_rfl⟩
instance:TA aj 84 9:=⟨ao⟩
abbrev wA:List AV:=[.int .u8 (0:Int),.int .i64 (0:Int),.int .u64 (0:Int),.int .u8 (0:Int),.int .u32 (0:Int),.int .u64 (0:Int),.str ([]:zp),.gW ac 5 (([]:List GF).map GF.row),.gW ac 3 (([]:List GA).map GA.row)]
abbrev wz:List (AV×AV):=[(.int .u8 1,.fn (.func 193) [] []),(.int .u8 2,.fn (.func 194) [] []),(.int .u8 3,.fn (.func 195) [] []),(.int .u8 4,.fn (.func 196) [] []),(.int .u8 5,.fn (.func 197) [] [])]
abbrev ztO:List AV:=[.int .u8 0,.int .u32 0,.int .u64 0,.gW ac 3 [],.gW ac 3 [],.int .u64 0,.int .u8 0,.gW ac 1 [],.int .i64 0,.str [],.gW ac 3 [],.int .u8 0,.int .u32 0,.int .u64 0,.gW ac 3 [],.gW ac 3 [],.int .u64 0,.int .u8 0,.gW ac 1 [],.int .i64 0,.str [],.gW ac 3 [],.int .u8 0,.int .u32 0,.int .u64 0,.gW ac 3 [],.gW ac 3 [],.int .u64 0,.int .u8 0,.gW ac 1 [],.int .i64 0,.str [],.gW ac 3 []]
abbrev zoU:List AV:=[.int .u8 0,.int .i64 0,.int .u64 0,.int .u8 0,.int .u32 0,.int .u64 0,.str [],.gW ac 5 [],.gW ac 3 []]
abbrev zmE:List AV:=[.int .u8 (0:Int),.int .u32 (0:Int),.int .u64 (0:Int)]
theorem zyo:yY aj 84=aa zoU:=kr
instance:ZE aj 84 zoU:=⟨zyo⟩
instance zxT:Fo aj 84 4 6 9 1:=vk kr kr
instance zxR:Fo aj 84 6 8 23 1:=vk kr kr
instance zsC:Ty aj 23 (.slice 34) 1:=qt Tryz.underlying23 kr
instance o7:El aj 23 34 3:=bh Tryz.underlying23 kr
instance zxS:Fo aj 84 5 7 82 1:=vk kr kr
instance zxo:Ty aj 82 (.slice 167) 1:=qt Tryz.underlying82 kr
instance bD:El aj 82 167 5:=bh Tryz.underlying82 kr
instance zw0:Fo aj 167 2 4 9 1:=vk kr kr
instance zt9:El aj 24 34 3:=bh Tryz.underlying24 kr
theorem fO:∃d,Ty aj 34 d 3/\yd d=true:=⟨_,qt Tryz.underlying34 kr,by kernel_rfl⟩
instance:TA aj 34 3:=⟨fO⟩
theorem oZ:PK aj 34 [.i,.i,.i]:=zwI kr kr kr
instance zya:Fo aj 32 0 0 5 1:=vk kr kr
instance ty5:Ty aj 5 (.int .u8) 1:=qt Tryz.underlying5 kr
instance zx9:Fo aj 32 1 1 30 1:=vk kr kr
instance zzo:Ty aj 30 (.int .u32) 1:=qt Tryz.underlying30 kr
instance zx8:Fo aj 34 0 0 32 2:=vk kr kr
theorem eE:∃d,Ty aj 32 d 2/\yd d=true:=⟨_,qt Tryz.underlying32 kr,by kernel_rfl⟩
instance:TA aj 32 2:=⟨eE⟩
instance zx7:Fo aj 34 1 2 22 1:=vk kr kr
instance zzp:Ty aj 22 (.int .u64) 1:=qt Tryz.underlying22 kr
theorem zxv:PK aj 32 [.i,.i]:=zwI kr kr kr
theorem zsg:yY aj 34=aa [.int .u8 0,.int .u32 0,.int .u64 0]:=kr
instance:ZE aj 34 [.int .u8 0,.int .u32 0,.int .u64 0]:=⟨zsg⟩
instance zw1:Fo aj 167 1 1 34 3:=vk kr kr
instance zt2:Fo aj 84 0 0 5 1:=vk kr kr
instance zxW:Fo aj 84 1 1 2 1:=vk kr kr
instance cA:Ty aj 2 (.int .i64) 1:=qt Tryz.underlying2 kr
noncomputable def zuZ:Array Field:=match Tryz.prog.underlying 34 with|some (.struct fs)=>fs|_=>#[]
theorem zxp:Tryz.prog.underlying 34=aa (.struct zuZ):=kr
theorem zyK:zbm aj zuZ=aa [(0,2),(2,1)]:=kr
instance:bo aj 34 zuZ [(0,2),(2,1)]:=⟨kr,kr⟩
instance zxV:Fo aj 84 2 2 22 1:=vk kr kr
instance zxU:Fo aj 84 3 3 34 3:=vk kr kr
theorem dI:∃d,Ty aj 167 d 5/\yd d=true:=⟨_,qt Tryz.underlying167 kr,by kernel_rfl⟩
instance:TA aj 167 5:=⟨dI⟩
theorem zqr:yY aj 167=aa [.int .u64 0,.int .u8 0,.int .u32 0,.int .u64 0,.str []]:=kr
instance:ZE aj 167 [.int .u64 0,.int .u8 0,.int .u32 0,.int .u64 0,.str []]:=⟨zqr⟩
instance zw2:Fo aj 167 0 0 22 1:=vk kr kr
theorem el:∃d,Ty aj 105 d 3/\yd d=true:=⟨_,qt Tryz.underlying105 kr,by kernel_rfl⟩
instance:TA aj 105 3:=⟨el⟩
theorem o9:yY aj 105=aa [.str [],.gW ac 9 [],.gW ac 3 []]:=kr
instance:ZE aj 105 [.str [],.gW ac 9 [],.gW ac 3 []]:=⟨o9⟩
instance zqc:Fo aj 28 1 1 24 1:=vk kr kr
instance bF:Ty aj 24 (.slice 34) 1:=qt Tryz.underlying24 kr
instance zyc:Fo aj 28 2 2 23 1:=vk kr kr
instance zyb:Fo aj 28 3 3 22 1:=vk kr kr
instance zt5:Fo aj 28 4 4 26 1:=vk kr kr
noncomputable def zxr:Array Field:=match Tryz.prog.underlying 32 with|some (.struct fs)=>fs|_=>#[]
theorem zyD:Tryz.prog.underlying 32=aa (.struct zxr):=kr
abbrev zK(x:GH):AV:=.agg (GH.row x)
theorem aN:KQ aj 32 (λx=>zK x) GH.fh:=.struct zyD zxv (λ_ _=>rfl) (λa=>by simp[GH.fh])
theorem zsb:ut aj 22=aa ((AV.int .u64) (0:Int)):=kr
instance zzh:El aj 173 3 1:=bh Tryz.underlying173 kr
instance ap:Ty aj 3 (.int .i64) 1:=qt Tryz.underlying3 kr
theorem ze3:yY aj 3=aa [.int .i64 0]:=kr
instance:ZE aj 3 [.int .i64 0]:=⟨ze3⟩
abbrev zn(x:GA):AV:=.agg (GA.row x)
theorem bP:KQ aj 34 (λx=>zn x) GA.fh:=.struct zxp oZ (λ_ _=>rfl) (λa=>by simp[GA.fh])
theorem az3:ut aj 3=aa ((AV.int .i64) (0:Int)):=kr
instance ty4:Ty aj 4 .bool 1:=qt Tryz.underlying4 kr
theorem zsJ:PK aj 167 [.i,.i,.i,.i,.s]:=zwI kr kr kr
noncomputable def zyF:Array Field:=match Tryz.prog.underlying 84 with|some (.struct fs)=>fs|_=>#[]
instance:bo aj 84 zyF [(0,1),(1,1),(2,1),(3,3),(6,1),(7,1),(8,1)]:=⟨kr,kr⟩
instance zua:El aj 214 32 2:=bh Tryz.underlying214 kr
theorem zss:yY aj 32=aa [.int .u8 0,.int .u32 0]:=kr
instance:ZE aj 32 [.int .u8 0,.int .u32 0]:=⟨zss⟩
instance zsD:Ty aj 214 (.slice 32) 1:=qt Tryz.underlying214 kr
instance zuX:Ty aj 161 (.map 32 22) 1:=qt Tryz.underlying161 kr
instance zqz:Ty aj 178 (.func #[26] #[26] false) 1:=qt Tryz.underlying178 kr
theorem zsu:yY aj 178=aa [.fC]:=kr
instance:ZE aj 178 [.fC]:=⟨zsu⟩
theorem zys:yY aj 28=aa [.int .u64 0,.gW ac 3 [],.gW ac 3 [],.int .u64 0,.gW ac 3 []]:=kr
instance:ZE aj 28 [.int .u64 0,.gW ac 3 [],.gW ac 3 [],.int .u64 0,.gW ac 3 []]:=⟨zys⟩
theorem zzG:∃d,Ty aj 28 d 5/\yd d=true:=⟨_,qt Tryz.underlying28 kr,by kernel_rfl⟩
instance:TA aj 28 5:=⟨zzG⟩
instance b8:El aj 66 9 1:=bh Tryz.underlying66 kr
theorem ze9:yY aj 9=aa [.str []]:=kr
instance:ZE aj 9 [.str []]:=⟨ze9⟩
theorem zuO:yY aj 70=aa [.int .u8 0,.int .u32 0,.int .u64 0,.gW ac 3 [],.gW ac 3 [],.int .u64 0,.int .u8 0,.gW ac 1 [],.int .i64 0,.str [],.gW ac 3 []]:=kr
instance:ZE aj 70 [.int .u8 0,.int .u32 0,.int .u64 0,.gW ac 3 [],.gW ac 3 [],.int .u64 0,.int .u8 0,.gW ac 1 [],.int .i64 0,.str [],.gW ac 3 []]:=⟨zuO⟩
instance zxZ:Fo aj 70 1 3 23 1:=vk kr kr
instance zt3:Fo aj 70 2 4 24 1:=vk kr kr
instance zxX:Fo aj 70 4 6 68 5:=vk kr kr
instance zx4:Fo aj 68 1 1 66 1:=vk kr kr
instance zyy:Ty aj 66 (.slice 9) 1:=qt Tryz.underlying66 kr
instance zx1:Fo aj 68 4 4 23 1:=vk kr kr
theorem dB:∃d,Ty aj 70 d 11/\yd d=true:=⟨_,qt Tryz.underlying70 kr,by kernel_rfl⟩
instance:TA aj 70 11:=⟨dB⟩
theorem zyn:yY aj 90=aa [.int .u8 0,.int .u32 0,.int .u64 0,.int .u64 0,.int .u8 0,.gW ac 1 [],.int .i64 0,.str [],.gW ac 3 []]:=kr
instance:ZE aj 90 [.int .u8 0,.int .u32 0,.int .u64 0,.int .u64 0,.int .u8 0,.gW ac 1 [],.int .i64 0,.str [],.gW ac 3 []]:=⟨zyn⟩
instance zx0:Fo aj 70 0 0 34 3:=vk kr kr
instance zxY:Fo aj 70 3 5 22 1:=vk kr kr
theorem zyx:∃d,Ty aj 68 d 5/\yd d=true:=⟨_,qt Tryz.underlying68 kr,by kernel_rfl⟩
instance:TA aj 68 5:=⟨zyx⟩
noncomputable def zyE:Array Field:=match Tryz.prog.underlying 90 with|some (.struct fs)=>fs|_=>#[]
instance:bo aj 90 zyE [(0,3),(3,1),(4,5)]:=⟨kr,kr⟩
theorem zyw:∃d,Ty aj 90 d 9/\yd d=true:=⟨_,qt Tryz.underlying90 kr,by kernel_rfl⟩
instance:TA aj 90 9:=⟨zyw⟩
instance zx3:Fo aj 68 2 2 2 1:=vk kr kr
instance zx2:Fo aj 68 3 3 9 1:=vk kr kr
theorem zuQ:yY aj 231=aa [.int .u8 0,.fC]:=kr
instance:ZE aj 231 [.int .u8 0,.fC]:=⟨zuQ⟩
noncomputable def zu1:Array Field:=match Tryz.prog.underlying 231 with|some (.struct fs)=>fs|_=>#[]
instance:bo aj 231 zu1 [(0,1),(1,1)]:=⟨kr,kr⟩
instance zzu:Ty aj 292 (.array 6 231) 12:=qt Tryz.underlying292 kr
theorem zst:yY aj 292=aa [.int .u8 0,.fC,.int .u8 0,.fC,.int .u8 0,.fC,.int .u8 0,.fC,.int .u8 0,.fC,.int .u8 0,.fC]:=kr
instance:ZE aj 292 [.int .u8 0,.fC,.int .u8 0,.fC,.int .u8 0,.fC,.int .u8 0,.fC,.int .u8 0,.fC,.int .u8 0,.fC]:=⟨zst⟩
theorem cX:∃d,Ty aj 231 d 2/\yd d=true:=⟨_,qt Tryz.underlying231 kr,by kernel_rfl⟩
instance:TA aj 231 2:=⟨cX⟩
instance zx5:Fo aj 68 0 0 5 1:=vk kr kr
instance zwW:Fo aj 231 1 1 191 1:=vk kr kr
instance zuW:Ty aj 191 (.func #[68] #[4] false) 1:=qt Tryz.underlying191 kr
instance zxQ:Fo aj 90 0 0 34 3:=vk kr kr
instance zxP:Fo aj 90 1 3 22 1:=vk kr kr
instance zxO:Fo aj 90 2 4 68 5:=vk kr kr
instance zuu:Ty aj 35 (.pointer 117) 1:=qt Tryz.underlying35 kr
instance zrL:Fo aj 117 1 5 115 1:=vk kr kr
instance zfa:Ty aj 115 (.map 34 70) 1:=qt Tryz.underlying115 kr
abbrev zq(x:GI):AV:=.agg (GI.row x)
theorem zuL:ut aj 70=aa ((λx=>zq x) (GI.mk (GA.mk (GH.mk (0:Int) (0:Int)) (0:Int)) ([]:List GA) ([]:List GA) (0:Int) (GN.mk (0:Int) ([]:List zp) (0:Int) ([]:zp) ([]:List GA)))):=kr
instance zw6:Fo aj 117 0 0 28 5:=vk kr kr
instance zt4:Fo aj 62 1 5 29 1:=vk kr kr
instance zn5:Ty aj 29 (.slice 70) 1:=qt Tryz.underlying29 kr
instance zqh:El aj 29 70 11:=bh Tryz.underlying29 kr
instance zx6:Fo aj 62 0 0 28 5:=vk kr kr
instance:bo aj 32 zxr [(0,1),(1,1)]:=⟨kr,kr⟩
noncomputable def zyH:Array Field:=match Tryz.prog.underlying 68 with|some (.struct fs)=>fs|_=>#[]
theorem zyq:yY aj 68=aa [.int .u8 0,.gW ac 1 [],.int .i64 0,.str [],.gW ac 3 []]:=kr
instance:ZE aj 68 [.int .u8 0,.gW ac 1 [],.int .i64 0,.str [],.gW ac 3 []]:=⟨zyq⟩
instance:bo aj 68 zyH [(0,1),(1,1),(2,1),(3,1),(4,1)]:=⟨kr,kr⟩
noncomputable def zyG:Array Field:=match Tryz.prog.underlying 70 with|some (.struct fs)=>fs|_=>#[]
instance:bo aj 70 zyG [(0,3),(3,1),(4,1),(5,1),(6,5)]:=⟨kr,kr⟩
noncomputable def zu6:Array Field:=match Tryz.prog.underlying 105 with|some (.struct fs)=>fs|_=>#[]
instance:bo aj 105 zu6 [(0,1),(1,1),(2,1)]:=⟨kr,kr⟩
instance zrW:El aj 195 199 10:=bh Tryz.underlying195 kr
theorem fp:∃d,Ty aj 199 d 10/\yd d=true:=⟨_,qt Tryz.underlying199 kr,by kernel_rfl⟩
instance:TA aj 199 10:=⟨fp⟩
theorem zuR:yY aj 199=aa [.int .u8 0,.int .u32 0,.int .u64 0,.int .u64 0,.int .u8 0,.gW ac 1 [],.int .i64 0,.str [],.gW ac 3 [],.int .i64 0]:=kr
instance:ZE aj 199 [.int .u8 0,.int .u32 0,.int .u64 0,.int .u64 0,.int .u8 0,.gW ac 1 [],.int .i64 0,.str [],.gW ac 3 [],.int .i64 0]:=⟨zuR⟩
instance zwZ:Fo aj 199 0 0 90 9:=vk kr kr
instance zwY:Fo aj 199 1 9 3 1:=vk kr kr
instance zzq:El aj 87 90 9:=bh Tryz.underlying87 kr
instance pF:Ty aj 193 (.pointer 195) 1:=qt Tryz.underlying193 kr
noncomputable def zu2:Array Field:=match Tryz.prog.underlying 199 with|some (.struct fs)=>fs|_=>#[]
instance:bo aj 199 zu2 [(0,9),(9,1)]:=⟨kr,kr⟩
theorem zkW : rcB aj 193 "Push" = aa (399, true) := kr
instance m9:Ty aj 195 (.slice 199) 1:=qt Tryz.underlying195 kr
theorem zcS : rcB aj 193 "Len" = aa (396, false) := kr
theorem mn : rcB aj 193 "Less" = aa (397, false) := kr
theorem mj : rcB aj 193 "Swap" = aa (400, false) := kr
theorem zmb : rcB aj 193 "Pop" = aa (398, true) := kr
instance zwX:Fo aj 231 0 0 5 1:=vk kr kr
instance zkG:Ty aj 222 (.int .u64) 1:=qt Tryz.underlying222 kr
noncomputable def zu0:Array Field:=match Tryz.prog.underlying 251 with|some (.struct fs)=>fs|_=>#[]
theorem zuP:yY aj 251=aa zoU:=kr
instance:ZE aj 251 zoU:=⟨zuP⟩
instance:bo aj 251 zu0 [(0,9)]:=⟨kr,kr⟩
instance zwV:Fo aj 251 0 0 84 9:=vk kr kr
noncomputable def zu3:Array Field:=match Tryz.prog.underlying 167 with|some (.struct fs)=>fs|_=>#[]
instance:bo aj 167 zu3 [(0,1),(1,3),(4,1)]:=⟨kr,kr⟩
theorem zur:ut aj 246=aa .fC:=kr
instance zzg:El aj 25 105 3:=bh Tryz.underlying25 kr
instance zzf:El aj 294 26 1:=bh Tryz.underlying294 kr
instance zze:El aj 379 23 1:=bh Tryz.underlying379 kr
instance zzd:El aj 387 82 1:=bh Tryz.underlying387 kr
theorem zyp:yY aj 82=aa [.gW ac 5 []]:=kr
instance:ZE aj 82 [.gW ac 5 []]:=⟨zyp⟩
theorem zuS:yY aj 147=aa [.ef]:=kr
instance:ZE aj 147 [.ef]:=⟨zuS⟩
instance zyz:Ty aj 147 (.map 34 3) 1:=qt Tryz.underlying147 kr
theorem zyu:yY aj 23=aa [.gW ac 3 []]:=kr
instance:ZE aj 23 [.gW ac 3 []]:=⟨zyu⟩
instance zzt:Ty aj 335 (.array 5 334) 5:=qt Tryz.underlying335 kr
theorem zsr:yY aj 335=aa [.fC,.fC,.fC,.fC,.fC]:=kr
instance:ZE aj 335 [.fC,.fC,.fC,.fC,.fC]:=⟨zsr⟩
instance zqy:Ty aj 334 (.func #[84,84,84] #[84] false) 1:=qt Tryz.underlying334 kr
theorem zyt:yY aj 26=aa [.gW ac 3 []]:=kr
instance:ZE aj 26 [.gW ac 3 []]:=⟨zyt⟩
noncomputable def zyJ:Array Field:=match Tryz.prog.underlying 28 with|some (.struct fs)=>fs|_=>#[]
instance:bo aj 28 zyJ [(0,1),(1,1),(2,1),(3,1),(4,1)]:=⟨kr,kr⟩
instance zw5:Fo aj 117 2 6 24 1:=vk kr kr
noncomputable def zu5:Array Field:=match Tryz.prog.underlying 117 with|some (.struct fs)=>fs|_=>#[]
theorem zuU:yY aj 117=aa [.int .u64 0,.gW ac 3 [],.gW ac 3 [],.int .u64 0,.gW ac 3 [],.ef,.gW ac 3 []]:=kr
instance:ZE aj 117 [.int .u64 0,.gW ac 3 [],.gW ac 3 [],.int .u64 0,.gW ac 3 [],.ef,.gW ac 3 []]:=⟨zuU⟩
instance:bo aj 117 zu5 [(0,5),(5,1),(6,1)]:=⟨kr,kr⟩
instance zzL:Ty aj 81 (.array 3 70) 33:=qt Tryz.underlying81 kr
theorem zxm:yY aj 81=aa ztO:=kr
instance:ZE aj 81 ztO:=⟨zxm⟩
instance zzi:El aj 129 132 10:=bh Tryz.underlying129 kr
noncomputable def zu4:Array Field:=match Tryz.prog.underlying 132 with|some (.struct fs)=>fs|_=>#[]
theorem zuT:yY aj 132=aa [.gW ac 1 [],.int .u8 0,.int .i64 0,.int .u64 0,.int .u8 0,.int .u32 0,.int .u64 0,.str [],.gW ac 5 [],.gW ac 3 []]:=kr
instance:ZE aj 132 [.gW ac 1 [],.int .u8 0,.int .i64 0,.int .u64 0,.int .u8 0,.int .u32 0,.int .u64 0,.str [],.gW ac 5 [],.gW ac 3 []]:=⟨zuT⟩
instance:bo aj 132 zu4 [(0,1),(1,9)]:=⟨kr,kr⟩
instance zw4:Fo aj 132 0 0 66 1:=vk kr kr
instance zw3:Fo aj 132 1 1 84 9:=vk kr kr
noncomputable def zyI:Array Field:=match Tryz.prog.underlying 62 with|some (.struct fs)=>fs|_=>#[]
theorem zyr:yY aj 62=aa [.int .u64 0,.gW ac 3 [],.gW ac 3 [],.int .u64 0,.gW ac 3 [],.gW ac 11 []]:=kr
instance:ZE aj 62 [.int .u64 0,.gW ac 3 [],.gW ac 3 [],.int .u64 0,.gW ac 3 [],.gW ac 11 []]:=⟨zyr⟩
instance:bo aj 62 zyI [(0,5),(5,1)]:=⟨kr,kr⟩
abbrev zC(x:GE)(p q:AV):List AV:=[.int .u8 x.x4,.int .i64 x.n,.int .u64 x.time,.int .u8 x.z6.zi.fk,.int .u32 x.z6.zi.inc,.int .u64 x.z6.seq,.str x.text,p,q]
abbrev za(x:List GC):AV:=.sl 3 (x.map GC.row)
theorem zvv(n:Nat):∀{t0:(List GC)} {deep1:Int} {res:Int} {h:AH} , xK n t0 deep1=aa res->Sp 74 [za t0,.int .i64 deep1] h (yb (.int .i64 res) h):=by
 induction n with
 |zero=>intro t0 deep1 res h  a;simp[xK]at a
 |succ n ih =>
  intro t0 deep1 res h  a;unfold xK at a;refine xb Tryz.func74 84 ?_;refine xl (λ(l:Int×Int)=>zo 2 3 (zo 7 77 [(5,.int .i64 l.1),(6,.int .i64 l.2)])) (λl=>h.ext [] []) a (λ_=>UE) (wk.le ej.o) ?_;intro Q l O a y;apply R.r;refine xP λD=>cF a (λj a=>?_) (λj a=>?_)
  ·refine dr [16] ?_;refine zd a (λI i a=>wl (yu rfl wd gg gg oF i (GC.q8 _)) ?_);refine qG rfl rfl (zjx rfl rfl rfl rfl cd gg) ss (R.r ?_);refine zd a (λJ g a=>wl (yu rfl wd gg gg oF g (GC.q8 _)) ?_);refine zd a (λH f a=>ay (by rintro _ ⟨B2,T2,rfl,F⟩;exact ih f) ?_);refine xl (λ(s2:Int×Int)=>zo 2 3 (zo 8 76 [(5,.int .i64 s2.1),(7,.int .i64 s2.2)])) (λs2=>h.ext [] []) a (λ_=>UE) (wk.le ej.o) ?_;intro n2 s2 N a u;apply R.r;refine zd a (λE e a=>zO (yu rfl wd gg gg oF e (GC.q8 _)) ?_);refine xP λp=>cF a (λb a=>?_) (λb a=>?_)
   ·refine zd a (λC d a=>zO (yu rfl wd gg gg oF d (GC.q8 _)) ?_);refine zd a (λk c a=>ix c (R.r ?_));refine xP λz=>xP λA=>qg (λ(B:Nat)(x:Int)=>zo 2 3 (zo 10 74 [(5,.int .i64 x),(9,.int .i64 (B:Int))])) (λx=>h.ext [.cells (GE.row k)] []) a (λB x L a=>xP λs=>cL a (λM P K m a G=>?_) (λa=>?_))
    ·refine ix (zu m) (R.r ?_);refine xP λw=>?_;exact ZL
    ·exact ZL
   ·cases a;replace a:=u;apply R.r;exact ZL
  ·cases a;replace a:=y;apply R.r;exact Z
theorem zyU{t0:(List GC)}{res:Int}(a:mh t0 deep1=aa res):Sp 74 [za t0,.int .i64 deep1] h (yb (.int .i64 res) h):=by
 obtain⟨n,b⟩:=rE a;exact zvv n b
theorem zy5{t0:(List GC)}(a:uh t0=aa res):Sp 27 [za t0] h (yb (.bool res) h):=by
 unfold uh at a;refine xb Tryz.func27 6 ?_;refine cB a (λ_=>zyU) λb a=>?_;exact Z
abbrev zb(x:List GA):AV:=.sl 3 (x.map GA.row)
theorem zxF{a0:(List GA)}{g:(List GA)}(a:pu a0 g=aa res):Sp 17 [zb a0,zb g] h (yb (.bool res) h):=by
 unfold pu at a;refine xb Tryz.func17 26 ?_;refine xP λn=>xP λp=>cF a (λe a=>?_) (λe a=>?_)
 ·exact Z
 ·refine qg (λ(i:Nat)(k:Unit)=>zo 2 3 (zo 6 20 [(5,.int .i64 (i:Int))])) (λk=>h.ext [] []) a (λi k l a=>xP λj=>cL a (λs u m f a d=>?_) (λa=>?_))
  ·refine dr [] ?_;refine mS (zu f) (R.r ?_);refine zd a (λo c a=>mS c (R.r ?_));refine wl (wp rfl gg gg (ow oZ rfl)) ?_;refine cF a (λb a=>?_) (λb a=>?_)
   ·cases a;replace a:=d;apply R.r;exact Z
   ·exact ZL
  ·exact Z
theorem zwl{a0:GH}(a:uS a0=aa res):Sp 166 [zK a0] h (yb (.bool res) h):=by
 unfold uS at a;refine xb Tryz.func166 16 ?_;exact Z
theorem zfB{b:GA}(a:vz b=aa res):Sp 113 [zn b] h (yb (.bool res) h):=by
 unfold vz at a;refine xb Tryz.func113 16 ?_;refine cB a (λ_=>zwl) λc a=>?_;exact Z
theorem zp1{a0:GA}{d:GA}(a:wy a0 d=aa res):Sp 75 [zn a0,zn d] h (yb (.bool res) h):=by
 unfold wy at a;refine xb Tryz.func75 38 ?_;refine cF a (λc a=>?_) (λc a=>?_)
 ·exact Z
 ·refine cF a (λb a=>?_) (λb a=>?_)
  ·exact Z
  ·exact Z
theorem zsj{d:(List GA)}{a1:GH}{res:Int}(a:uT d a1=aa res):Sp 69 [zb d,zK a1] h (yb (.int .u64 res) h):=by
 unfold uT at a;refine xb Tryz.func69 42 ?_;refine qg (λ(l:Nat)(i:Int)=>zo 1 2 (zo 7 35 [(4,.any),(5,.int .u64 i),(6,.int .i64 (l:Int))])) (λi=>h.ext [.cells (GH.row a1)] []) a (λl i m a=>xP λk=>cL a (λu s o c a p=>?_) (λa=>?_))
 ·refine dr [4] ?_;refine mS (zu c) (R.r ?_);refine cM a (λ_ e _=>zfB e) λn a=>zJ a (λg a=>qd g (R.r ?_));refine vh rfl rfl (λj=>wp rfl (zM gg j) (zM gg j) (ph zxv rfl)) ss (R.r ?_);refine zJ a (λf a=>qd f (R.r ?_));refine cF a (λb a=>?_) (λb a=>?_)
  ·refine ix (zu c) (R.r ?_);exact ZL
  ·exact ZL
 ·exact Z
theorem zs6{m:(List GA)}{res:(List GA)}(a:vN m=aa res):Sp 51 [zb m] h (yb (zb res) h):=by
 unfold vN at a;refine xb Tryz.func51 76 ?_;refine qg (h0:=wk.le (by exact(.eq (.drop (.drop (.cons (g6.gW _ _ _) (.cons (g6.of_eq rfl) (.d16 (.d16 (.d16 (.d16 (.d4 (.drop (.drop (.drop fc.nil))))))))))))))) (λ(y:Nat)(x:(List GA))=>zo 1 2 (zo 5 71 [(3,zb x),(4,.int .i64 (y:Int))])) (λx=>h.ext [] []) a (λy x A a=>xP λz=>cL a (λF I E i a G=>?_) (λa=>?_))
 ·refine dr [4] ?_;refine mS (zu i) (R.r ?_);refine cM a (λ_ e _=>zfB e) λv39 a=>zJ a (λs a=>qd s (R.r ?_));refine zJ a (λg a=>qd g (R.r ?_));refine cH a (λ_=>zsj) λC a=>zJ a (λf a=>qd f (R.r ?_));refine cH a (λ_=>zsj) λv44 a=>cF a (λk a=>?_) (λk a=>?_)
  ·exact ZL
  ·refine xl (λ(s2:Int)=>zo 1 2 (zo 6 70 [(5,.int .i64 s2)])) (λs2=>h.ext [] []) a (λ_=>UE) (wk.le ej.o) ?_;intro n2 s2 H a w;apply R.r;refine dr [] ?_;refine qG rfl rfl (wj rfl rfl rfl rfl zt9 gg vO) ss (R.r ?_);refine zJ a (λl a=>qd l (R.r ?_));refine zJ a (λd a=>qd d (R.r ?_));refine cH a (λ_=>zp1) λv55 a=>cF a (λu a=>?_) (λu a=>?_)
   ·exact ZL
   ·cases a;replace a:=w;apply R.r;refine zkn kr ?_;refine wl (bs (([]:List GA).map GA.row)) ?_;refine zd a (λD n a=>wl (qU rfl zt9 gg (.inl rfl) .none (.some gg) n) ?_);refine zJ a (λj a=>dL (eN j) ?_);refine mS (zu i) (R.r ?_);refine wl (bs (([F]:List GA).map GA.row)) ?_;refine zJ a (λc a=>dL (eT c) ?_);refine zd a (λB b a=>wl (qU rfl zt9 gg (.inl rfl) (.some gg) .none b) ?_);refine zJ a (λp a=>dL (eT p) ?_);exact ZL
 ·exact Z
theorem ztq{c:zp}(a:tK c=aa res):Sp 176 [.str c] h (yb (.bool res) h):=by
 unfold tK at a;refine xb Tryz.func176 45 ?_;refine xP λm=>dE λn=>R.r ?_;refine cF a (λe a=>?_) (λe a=>?_)
 ·exact Z
 ·refine qg (λ(i:Nat)(j:Unit)=>zo 1 2 (zo 4 41 [(3,.int .i64 (i:Int))])) (λj=>h.ext [] []) a (λi j k a=>xP λg=>cL a (λo p l f a d=>?_) (λa=>?_))
  ·refine zO (zoh rfl cd gg gg (zu f)) ?_;refine cF a (λb a=>?_) (λb a=>?_)
   ·cases a;replace a:=d;apply R.r;exact Z
   ·exact ZL
  ·exact Z
theorem zrf{f:(List GA)}{c:GA}(a:uB f c=aa res):Sp 178 [zb f,zn c] h (yb (.bool res) h):=by
 unfold uB at a;refine xb Tryz.func178 18 ?_;refine qg (λ(i:Nat)(j:Unit)=>zo 1 2 (zo 6 12 [(4,.any),(5,.int .i64 (i:Int))])) (λj=>h.ext [.cells (GA.row c)] []) a (λi j k a=>xP λg=>cL a (λm n l e a d=>?_) (λa=>?_))
 ·refine dr [] ?_;refine mS (zu e) (R.r ?_);refine wl (wp rfl gg gg (ph oZ rfl)) ?_;refine cF a (λb a=>?_) (λb a=>?_)
  ·cases a;replace a:=d;apply R.r;exact Z
  ·exact ZL
 ·exact Z
abbrev yE(x:List GF):AV:=.sl 5 (x.map GF.row)
theorem ztp{f:(List GF)}{c:GA}{res:Int}(a:pt f c=aa res):Sp 177 [yE f,zn c] h (yb (.int .i64 res) h):=by
 unfold pt at a;refine xb Tryz.func177 20 ?_;refine qg (λ(i:Nat)(j:Unit)=>zo 1 2 (zo 6 14 [(4,.any),(5,.int .i64 (i:Int))])) (λj=>h.ext [.cells (GA.row c)] []) a (λi j k a=>xP λg=>cL a (λm n l e a d=>?_) (λa=>?_))
 ·refine dr [] ?_;refine mS (zu e) (R.r ?_);refine wl (wp rfl gg gg (ph oZ rfl)) ?_;refine cF a (λb a=>?_) (λb a=>?_)
  ·cases a;replace a:=d;apply R.r;exact Z
  ·exact ZL
 ·exact Z
theorem zrh{c:Int}{f:GA}{b:Int}{d:GA}(a:qp c f b d=aa res):Sp 127 [.int .u64 c,zn f,.int .u64 b,zn d] h (yb (.bool res) h):=by
 unfold qp at a;refine xb Tryz.func127 18 ?_;refine cF a (λe a=>?_) (λe a=>?_)
 ·exact Z
 ·refine cB a (λ_=>zp1) λg a=>?_;exact Z
abbrev zD(x:GE):AV:=.agg (GE.row x)
theorem zoP{m:GE}(a:vY m=aa res):Sp 126 [zD m] h (yb (.bool res) h):=by
 unfold vY at a;refine xb Tryz.func126 205 ?_;refine dE λL=>R.r ?_;refine dE λP=>R.r ?_;refine cF a (λB a=>?_) (λB a=>?_)
 ·exact Z
 ·refine zt rfl sb ss ?_;refine zt rfl (mB (n:=1) rfl zsg rfl) ss ?_;refine zt rfl (tc (cs':=zmE) rfl fO.choose_spec.1 gg gg (zc rfl) rfl rfl rfl rfl rfl) rfl ?_;refine yB (wt ?_);refine zee (λ(G:Unit)=>zo 2 203 [(0,.any)]) (λG=>h.ext [.cells (GE.row m),.cells zmE] []) a (λ_=>UE) (λW a b=>?_) (λG a=>?_)
  ·apply R.r;refine cF a (λz a=>?_) (λz a=>?_)
   ·refine qr rfl (λC=>wp rfl (zM gg C) (zM gg C) (ow oZ rfl)) ss (R.r ?_);refine cF a (λs a=>?_) (λs a=>?_)
    ·refine zef ?_;cases a;replace a:=b;exact Z
    ·refine sj ?_;cases a;exact⟨(),b,wk.le ej.o⟩
   ·refine cG a (λ_=>zfB) λQ a=>dE λF=>R.r ?_;refine cF a (λl a=>?_) (λl a=>?_)
    ·refine zef ?_;cases a;replace a:=b;exact Z
    ·refine sj ?_;cases a;exact⟨(),b,wk.le ej.o⟩
  ·apply R.r;refine qg (λ(n2:Nat)(s2:Unit)=>zo 2 2 (zo 5 200 [(0,.any),(4,.int .i64 (n2:Int))])) (λs2=>h.ext [.cells (GE.row m),.cells zmE] []) a (λn2 s2 M a=>xP λE=>cL a (λY V y x a c=>?_) (λa=>?_))
   ·refine ix (zu x) (R.r ?_);refine cB a (λ_=>zfB) λK a=>dE λH=>R.r ?_;refine cG a (λ_=>ztp) λO a=>cG a (λ_=>zrf) λv44 a=>cF a (λk a=>?_) (λk a=>?_)
    ·cases a;replace a:=c;apply R.r;exact Z
    ·refine dr [] ?_;refine zJ a (λi a=>qd i (R.r ?_));refine zJ a (λg a=>qd g (R.r ?_));refine cH a (λ_=>zrh) λN a=>cF a (λf a=>?_) (λf a=>?_)
     ·cases a;replace a:=c;apply R.r;exact Z
     ·cases a;exact⟨(),y,c,wk.trans (wk.le (by exact(.drop (.eq (.drop (.drop (.cons (g6.of_eq (oE (by omega) (by omega))) (.d16 (.d16 (.d16 (.d16 (.d16 (.d16 (.d16 (.d16 (.d16 (.d16 (.d16 (.d16 (.d4 (.d4 fc.nil))))))))))))))))))))) (yH (by simp[zB,AV.low]) rfl rfl (by simp[q6.low,zB,AV.low]))⟩
   ·refine qg (λ(D:Nat)(J:Unit)=>zo 2 4 (zo 7 198 [(0,.any),(6,.int .i64 (D:Int))])) (λJ=>h.ext [.cells (GE.row m),.cells zmE] []) a (λD J S a=>xP λI=>cL a (λU X A w a d=>?_) (λa=>?_))
    ·refine dr [5] ?_;refine mS (zu w) (R.r ?_);refine cM a (λ_ e _=>zfB e) λT a=>zJ a (λj a=>qd j (R.r ?_));refine zJ a (λu a=>qd u (R.r ?_));refine cH a (λ_=>zp1) λv76 a=>cF a (λp a=>?_) (λp a=>?_)
     ·cases a;replace a:=d;apply R.r;exact Z
     ·cases a;exact⟨(),A,d,wk.le (by exact(.drop (.eq (.d4 (.cons (g6.of_eq (oE (by omega) (by omega))) (.d16 (.d16 (.d16 (.d16 (.d16 (.d16 (.d16 (.d16 (.d16 (.d16 (.d16 (.d16 (.d4 (.drop (.drop fc.nil))))))))))))))))))))⟩
    ·exact Z
theorem ztC(n:Nat):∀{t0:(List GC)} {deep1:Int} {res:Bool} {h:AH} , ue n t0 deep1=aa res->Sp 125 [za t0,.int .i64 deep1] h (yb (.bool res) h):=by
 induction n with
 |zero=>intro t0 deep1 res h  a;simp[ue]at a
 |succ n ih =>
  intro t0 deep1 res h  a;unfold ue at a;refine xb Tryz.func125 95 ?_;refine qg (λ(x:Nat)(w:Unit)=>zo 2 3 (zo 6 89 [(5,.int .i64 (x:Int))])) (λw=>h.ext [] []) a (λx w y a=>xP λu=>cL a (λp F D o a k=>?_) (λa=>?_))
  ·refine zO (yu rfl wd gg gg oF (zu o) (GC.q8 _)) ?_;refine dr [] ?_;refine cH a (λ_=>ztq) λz a=>zJ a (λd a=>?_);refine vh rfl (zlt rfl rfl rfl) (λb=>qn default rfl wd (zM gg b) (zM gg b) oF (d b) (GC.q8 _)) ss (R.r ?_);refine uK rfl rfl (λb=>wj rfl rfl rfl rfl al (zM gg b) vO) ss (R.r ?_);refine uK rfl (zlt rfl rfl rfl) (λb=>wj rfl rfl rfl rfl wd (zM gg b) vO) ss (R.r ?_);refine qQ a (λC i a=>?_);refine rp rfl rfl sc (λb=>ih (i b)) ss (R.r ?_);refine cF a (λf a=>?_) (λf a=>?_)
   ·cases a;replace a:=k;apply R.r;exact Z
   ·refine qg (λ(n2:Nat)(s2:Unit)=>zo 2 3 (zo 8 87 [(7,.int .i64 (n2:Int))])) (λs2=>h.ext [.cells [.str p.name,zH p.leaves,za p.wa]] []) a (λn2 s2 B a=>xP λs=>cL a (λG E A l a m=>?_) (λa=>?_))
    ·refine dr [5] ?_;refine mS (zu l) (R.r ?_);refine cM a (λ_ e _=>zoP e) λv50 a=>zJ a (λj a=>qd j (R.r ?_));refine zJ a (λg a=>qd g (R.r ?_));refine cF a (λc a=>?_) (λc a=>?_)
     ·cases a;replace a:=m;apply R.r;cases a;replace a:=k;apply R.r;exact Z
     ·exact ZL
    ·exact ZL
  ·exact Z
theorem zwD{t0:(List GC)}(a:zcQ t0 deep1=aa res):Sp 125 [za t0,.int .i64 deep1] h (yb (.bool res) h):=by
 obtain⟨n,b⟩:=rE a;exact ztC n b
theorem zuA{t0:(List GC)}(a:se t0=aa res):Sp 70 [za t0] h (yb (.bool res) h):=by
 unfold se at a;refine xb Tryz.func70 5 ?_;refine cB a (λ_=>zwD) λb a=>?_;exact Z
theorem zsk{b:(List GA)}{c:GA}(a:uj b c=aa res):Sp 54 [zb b,zn c] h (yb (.bool res) h):=by
 unfold uj at a;refine xb Tryz.func54 16 ?_;refine dr [1] ?_;refine cM a (λ_ e _=>zfB e) λf a=>cH a (λ_=>zsj) λd a=>?_;exact Z
abbrev nV(x:GL):AV:=.agg (GL.row x)
theorem zy4{b0:GL}(a:uy b0=aa res):Sp 28 [nV b0] h (yb (.bool res) h):=by
 unfold uy at a;refine xb Tryz.func28 85 ?_;refine dr [2,5] ?_;refine cM a (λ_ e _=>zs6 e) λx a=>cM a (λ_ e _=>zxF e) λz a=>?_;refine uK rfl rfl (λu=>wj rfl rfl rfl rfl o7 (zM gg u) vO) ss (R.r ?_);refine cH a (λ_=>zuA) λv4 a=>cF a (λg a=>?_) (λg a=>?_)
 ·exact Z
 ·refine qg (λ(p:Nat)(o:Unit)=>zo 4 81 [(0,.any),(2,.any),(3,.int .i64 (p:Int))]) (λo=>h.ext [.cells (GL.row b0)] []) a (λp o s a=>xP λm=>cL a (λA y w i a j=>?_) (λa=>?_))
  ·refine dr [7] ?_;refine mS (zu i) (R.r ?_);refine cM a (λ_ e _=>zsk e) λv22 a=>zJ a (λd a=>qd d (R.r ?_));refine zJ a (λb a=>qd b (R.r ?_));refine cH a (λ_=>zp1) λv25 a=>cF a (λc a=>?_) (λc a=>?_)
   ·cases a;replace a:=j;apply R.r;exact Z
   ·exact ZL
  ·refine xP λl=>cF a (λf a=>?_) (λf a=>?_)
   ·refine dE λn=>R.r ?_;exact Z
   ·refine dE λk=>R.r ?_;exact Z
theorem zwx{c:(List GA)}{s:(GA->Option Bool)}{res:Int}(l:∀p v (L:List q6) (M:List Nat),s p=aa v->Sp ff1 (af1++[zn p]++kf1) (h.ext L M) (yb (.bool v) (h.ext L M)))(a:qm c s=aa res):Sp 135 [zb c,.fn (.func ff1) af1 kf1] h (yb (.int .i64 res) h):=by
 unfold qm at a;refine zy Tryz.func135 rfl kr (sL 19 rfl) (λb A=>?_);simp only[zB,AV.low,tx,lq,kA]at b;have i:∀n m,h.zh.length<=n->h.zs.length<=m->zB n m af1=true:=λn m f d=>zT f d _ (by simp[b]);have e:∀n m,h.zh.length<=n->h.zs.length<=m->zB n m kf1=true:=λn m f d=>zT f d _ (by simp[b]);apply R.r;refine xP λy=>qg (λ(w:Nat)(u:Unit)=>zo 2 5 (zo 9 10 [(8,.int .i64 (w:Int))])) (λu=>h.ext [] []) a (λw u x a=>cL a (λD C z g a o=>?_) (λa=>?_))
 ·refine ix (zu g) (R.r ?_);refine zd a (λB k a=>yf rfl (cg rfl) (l _ _ _ _ k) ss (R.r ?_));refine cF a (λj a=>?_) (λj a=>?_)
  ·cases a;replace a:=o;apply R.r;exact Z
  ·exact ZL
 ·exact Z
theorem zuy{c:(List GA)}{k:(GA->Option Bool)}(f:∀d v (L:List q6) (M:List Nat),k d=aa v->Sp ff1 (af1++[zn d]++kf1) (h.ext L M) (yb (.bool v) (h.ext L M)))(a:yh c k=aa res):Sp 81 [zb c,.fn (.func ff1) af1 kf1] h (yb (.bool res) h):=by
 unfold yh at a;refine zy Tryz.func81 rfl kr (sL 9 rfl) (λb o=>?_);simp only[zB,AV.low,tx,lq,kA]at b;have e:∀n m,h.zh.length<=n->h.zs.length<=m->zB n m af1=true:=λn m j g=>zT j g _ (by simp[b]);have i:∀n m,h.zh.length<=n->h.zs.length<=m->zB n m kf1=true:=λn m j g=>zT j g _ (by simp[b]);apply R.r;refine cB a (λ_=>zwx (λd v L M l=>by rw[x5];exact f d v _ _ l)) λp a=>?_;exact Z
theorem zwu{a0:GH}(a:zaz a0=aa res):Sp 140 [zK a0] h (yb (.bool res) h):=by
 unfold zaz at a;refine xb Tryz.func140 16 ?_;exact Z
theorem zra{b:GA}(a:om b=aa res):Sp 89 [zn b] h (yb (.bool res) h):=by
 unfold om at a;refine xb Tryz.func89 16 ?_;refine cB a (λ_=>zwu) λc a=>?_;exact Z
theorem zg2{b:(List GA)}{i:Nat}{res:(List (GH×Int))}(c:h.zh.length=i)(a:xr b=aa res):Sp 109 [zb b] h (yb (.map i) (h.ext [.q7 (res.map (zZ (λx=>zK x) (AV.int .u64))) 0] [])):=by
 unfold xr at a;subst c;refine xb Tryz.func109 27 ?_;refine zO (tS (n:=0) rfl rfl) ?_;refine xP λl=>qg (λ(g:Nat)(e:List (GH×Int))=>zo 0 3 (zo 4 3 (zo 10 17 [(9,.int .i64 (g:Int))]))) (λe=>h.ext [.q7 (e.map (zZ (λx=>zK x) (AV.int .u64))) 0] []) a (λg e j a=>cL a (λp s k f a m=>?_) (λa=>?_))
 ·refine ix (zu f) (R.r ?_);refine cB a (λ_=>zra) λo a=>si gg a (λd a=>?_) (λd a=>?_)
  ·refine dr [] ?_;refine dL (mL Tryz.underlying161 aN zsb) ?_;refine yq rfl rfl (zu8 true rfl rfl (xy (gx 21) (xy (gx 23) vK)) rfl rfl) (sx 24) ?_;refine qs (mP Tryz.underlying161 aN) ?_;exact ZL
  ·apply R.r;exact ZL
 ·cases a;refine fr rfl (zkg (by simp[q6.low,zB,AV.low,zZ,GH.row,GA.row,GF.row,GE.row,GL.row]) ?_);exact⟨rfl,rfl⟩
end Go.Vv
