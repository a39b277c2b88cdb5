/- The law varve.varvelaw44.ExportLines holds: for every input it returns true, and each argument reads as it read. No condition. -/
import Derived.Test.YtgaelgcadcmfnaaGreatDoorRows
import Derived.Test.YtgaelgcadcmfnaaGreatDoorW5
import Derived.Test.YtgaelgcadcmfnaaGreatDoorPlK0
import Derived.Test.YtgaelgcadcmfnaaGreatDoorPlK1
import Derived.Test.YtgaelgcadcmfnaaGreatDoorVvMr
import Derived.ProofKit
import Derived.HandedShaped
import Derived.OpenShut
import Derived.Lay
import Derived.LaidOnce
import Derived.SevenTiedAt
import Derived.MakeChecks
import Derived.LaidSub
import Derived.Lib.LaidTab
import Derived.Deep.DeepHandedRow
import Derived.Stop.LaidErr
import Derived.LaidLaws
import Derived.Test.YtgaelgcadcmfnaaGreatDoorCards
import Derived.Test.YtgaelgcadcmfnaaGreatDoorTie
namespace Go.Proofs.YtgaelgcadcmfnaaGreatDoor
open Go Go.Vv Go.ChangeShapes Go.WideShapes Go.ChangeAt Go.RowKit
set_option maxRecDepth 100000
set_option linter.unusedVariables false
set_option linter.unusedSimpArgs false
theorem co94:Tryz.prog.cellsOf 94=3:=by kernel_rfl
theorem co23:Tryz.prog.cellsOf 23=1:=by kernel_rfl
theorem co92:Tryz.prog.cellsOf 92=1:=by kernel_rfl
theorem co5:Tryz.prog.cellsOf 5=1:=by kernel_rfl
theorem co26:Tryz.prog.cellsOf 26=1:=by kernel_rfl
theorem co28:Tryz.prog.cellsOf 28=2:=by kernel_rfl
theorem rdGActor {H:Type} {enc:TypeId×Value->H} {W:World} (n:Nat):RdN enc Tryz.prog W n 28 GI.row GI.wf GI.bk :=
 (rd_struct (l:=(match Tryz.prog.underlying 28 with | some (.struct fs)=>fs.toList | _=>[])) (fs:=(match Tryz.prog.underlying 28 with | some (.struct fs)=>fs | _=>#[])) (by kernel_rfl) (by kernel_rfl) co28 (λm _=>(xH rfl co5 rfl (rd_int Tryz.underlying5) (xH rfl co26 rfl (rd_int Tryz.underlying26) (rf_nil (by decide)))))).map (λp=>GI.mk p.1 p.2.1) (λ_=>rfl) (λa h=>by simpa [GI.wf,sm] using h) (λ_=>rfl)
theorem co25:Tryz.prog.cellsOf 25=1:=by kernel_rfl
theorem co30:Tryz.prog.cellsOf 30=3:=by kernel_rfl
theorem rdGDot {H:Type} {enc:TypeId×Value->H} {W:World} (n:Nat):RdN enc Tryz.prog W n 30 GC.row GC.wf GC.bk :=
 (rd_struct (l:=(match Tryz.prog.underlying 30 with | some (.struct fs)=>fs.toList | _=>[])) (fs:=(match Tryz.prog.underlying 30 with | some (.struct fs)=>fs | _=>#[])) (by kernel_rfl) (by kernel_rfl) co30 (λm _=>(xH rfl co28 rfl (rdGActor _) (xH rfl co25 rfl (rd_int Tryz.underlying25) (rf_nil (by decide)))))).map (λp=>GC.mk p.1 p.2.1) (λ_=>rfl) (λa h=>by simpa [GC.wf,sm] using h) (λ_=>rfl)
theorem co9:Tryz.prog.cellsOf 9=1:=by kernel_rfl
theorem co54:Tryz.prog.cellsOf 54=5:=by kernel_rfl
theorem rdGItem {H:Type} {enc:TypeId×Value->H} {W:World} (n:Nat):RdN enc Tryz.prog W n 54 GF.row GF.wf GF.bk :=
 (rd_struct (l:=(match Tryz.prog.underlying 54 with | some (.struct fs)=>fs.toList | _=>[])) (fs:=(match Tryz.prog.underlying 54 with | some (.struct fs)=>fs | _=>#[])) (by kernel_rfl) (by kernel_rfl) co54 (λm _=>(xH rfl co25 rfl (rd_int Tryz.underlying25) (xH rfl co30 rfl (rdGDot _) (xH rfl co9 rfl (rd_str Tryz.underlying9) (rf_nil (by decide))))))).map (λp=>GF.mk p.1 p.2.1 p.2.2.1) (λ_=>rfl) (λa h=>by simpa [GF.wf,sm] using h) (λ_=>rfl)
theorem rdt31 {H:Type} {enc:TypeId×Value->H} {W:World} (n:Nat):RdN enc Tryz.prog W n 31 (λL:(List GF)=>[AV.sl 5 (L.map GF.row)]) (λL=>L.length<=maxLen/\∀y ∈ L,GF.wf y) (λL=>(L.map GF.bk).sum+1) :=
 rd_slice Tryz.underlying31 co54 (by decide) (λ_=>rfl) (λ_=>rfl) (λm _=>(rdGItem _))
theorem rdt32 {H:Type} {enc:TypeId×Value->H} {W:World} (n:Nat):RdN enc Tryz.prog W n 32 (λL:(List GC)=>[AV.sl 3 (L.map GC.row)]) (λL=>L.length<=maxLen/\∀y ∈ L,GC.wf y) (λL=>(L.map GC.bk).sum+1) :=
 rd_slice Tryz.underlying32 co30 (by decide) (λ_=>rfl) (λ_=>rfl) (λm _=>(rdGDot _))
theorem co2:Tryz.prog.cellsOf 2=1:=by kernel_rfl
theorem co31:Tryz.prog.cellsOf 31=1:=by kernel_rfl
theorem co32:Tryz.prog.cellsOf 32=1:=by kernel_rfl
theorem co34:Tryz.prog.cellsOf 34=9:=by kernel_rfl
theorem rdGLeaf {H:Type} {enc:TypeId×Value->H} {W:World} (n:Nat):RdN enc Tryz.prog W n 34 GE.row GE.wf GE.bk :=
 (rd_struct (l:=(match Tryz.prog.underlying 34 with | some (.struct fs)=>fs.toList | _=>[])) (fs:=(match Tryz.prog.underlying 34 with | some (.struct fs)=>fs | _=>#[])) (by kernel_rfl) (by kernel_rfl) co34 (λm _=>(xH rfl co5 rfl (rd_int Tryz.underlying5) (xH rfl co2 rfl (rd_int Tryz.underlying2) (xH rfl co25 rfl (rd_int Tryz.underlying25) (xH rfl co30 rfl (rdGDot _) (xH rfl co9 rfl (rd_str Tryz.underlying9) (xH rfl co31 rfl (rdt31 _) (xH rfl co32 rfl (rdt32 _) (rf_nil (by decide))))))))))).map (λp=>GE.mk p.1 p.2.1 p.2.2.1 p.2.2.2.1 p.2.2.2.2.1 p.2.2.2.2.2.1 p.2.2.2.2.2.2.1) (λ_=>rfl) (λa h=>by simpa [GE.wf,sm] using h) (λ_=>rfl)
theorem rdt92 {H:Type} {enc:TypeId×Value->H} {W:World} (n:Nat):RdN enc Tryz.prog W n 92 (λL:(List GE)=>[AV.sl 9 (L.map GE.row)]) (λL=>L.length<=maxLen/\∀y ∈ L,GE.wf y) (λL=>(L.map GE.bk).sum+1) :=
 rd_slice Tryz.underlying92 co34 (by decide) (λ_=>rfl) (λ_=>rfl) (λm _=>(rdGLeaf _))
theorem rdGNode {H:Type} {enc:TypeId×Value->H} {W:World} (n:Nat):RdN enc Tryz.prog W n 94 GA.row GA.wf GA.bk:=by
 induction n using Nat.strongRecOn with
 | _ n ih =>
  exact (rd_struct (l:=(match Tryz.prog.underlying 94 with | some (.struct fs)=>fs.toList | _=>[])) (fs:=(match Tryz.prog.underlying 94 with | some (.struct fs)=>fs | _=>#[])) (by kernel_rfl) (by kernel_rfl) co94 (λm hm=>(xH rfl co9 rfl (rd_str Tryz.underlying9) (xH rfl co92 rfl (rdt92 _) (xH rfl co23 rfl (rd_slice Tryz.underlying23 co94 (by decide) (λy=>by rw [GA.row_eq];rfl) (λy=>by rw [GA.row_eq];rfl) (λq hq=>ih q (by omega))) (rf_nil (by decide))))))).map (λp=>GA.mk p.1 p.2.1 p.2.2.1) (λ_=>GA.row_eq _) (λa h=>by simp only [GA.wf,GA.wfs_iff];simp only [sm,tF] at h ⊢;first | exact h | simp_all) (λ_=>by simp only [GA.bk,GA.bks_eq])
theorem rdt23 {H:Type} {enc:TypeId×Value->H} {W:World} (n:Nat):RdN enc Tryz.prog W n 23 (λL:(List GA)=>[AV.sl 3 (L.map GA.row)]) (λL=>L.length<=maxLen/\∀y ∈ L,GA.wf y) (λL=>(L.map GA.bk).sum+1) :=
 rd_slice Tryz.underlying23 co94 (by decide) (λy=>by rw [GA.row_eq];rfl) (λy=>by rw [GA.row_eq];rfl) (λm _=>(rdGNode _))
theorem ownExportLines:ownKnob Tryz.prog.godebug=none:=by kernel_rfl
theorem laidExportLines:laidOutB Tryz.prog=true:=by kernel_rfl
theorem starE : "*" ++ "errors.errorString" = "*errors.errorString" := by decide
theorem rowE1 (u : TypeId) (h : Tryz.prog.typeName? 3 u = some "*errors.errorString") : u = 254 :=
 typeName_ptr_named (nm := "errors.errorString") (by rw [starE]; kernel_rfl) (by kernel_rfl) (by decide) u (by rw [starE]; exact h)
theorem laidOf {W:World} (h:laidMetH Tryz.prog Rows.exportLinesUptoRow.laid W):laid Tryz.prog W:=by
 have h1 := laidMetH.filter (fun x => x.1 == "internal/strconv.uint64pow10") h;have h2 := laidMetH.filter (fun x => x.1 == "math/bits.deBruijn64tab") h;have e1 : Rows.exportLinesUptoRow.laid.filter (fun x => x.1 == "internal/strconv.uint64pow10") = [("internal/strconv.uint64pow10", Rows.laid_internal_strconv_uint64pow10)] := by rfl
 have e2 : Rows.exportLinesUptoRow.laid.filter (fun x => x.1 == "math/bits.deBruijn64tab") = [("math/bits.deBruijn64tab", Rows.laid_math_bits_deBruijn64tab)] := by rfl
 rw [e1] at h1;rw [e2] at h2;rw [MakeChecks.laidMetH_plain _ _ _ (by kernel_rfl)] at h1 h2;have d1:Rows.laid_internal_strconv_uint64pow10 (H:=Unit)=Lib.tabData .u64 Lib.pow10Tab:=by rfl
 have d2:Rows.laid_math_bits_deBruijn64tab (H:=Unit)=Lib.tabData .u8 [0,1,56,2,57,49,28,3,61,58,42,50,38,29,17,4,62,47,59,36,45,43,51,22,53,39,33,30,24,18,12,5,63,55,48,27,60,41,37,16,46,35,44,21,52,32,23,11,54,26,40,15,34,20,31,10,25,14,19,9,13,8,7,6]:=by rfl
 rw [d1] at h1;rw [d2] at h2;have gB : Tryz.prog.globalNamed "math/bits.deBruijn64tab" = some 5 := by kernel_rfl
 have h3 := laidMetH.filter (fun x => x.1 == "strconv.ErrSyntax") h;have e3 : Rows.exportLinesUptoRow.laid.filter (fun x => x.1 == "strconv.ErrSyntax") = [("strconv.ErrSyntax", Rows.laid_strconv_ErrSyntax)] := by rfl
 rw [e3] at h3;rw [MakeChecks.laidMetH_plain _ _ _ (by kernel_rfl)] at h3;have g3 : Tryz.prog.globalNamed "strconv.ErrSyntax" = some 2 := by kernel_rfl
 obtain ⟨a3,s3,c3,q3⟩:=laid_sentinel h3 g3 (by kernel_rfl) Tryz.underlying62 rowE1 Tryz.underlying254 Tryz.underlying256 rfl rfl Tryz.underlying9 (by kernel_rfl) (by kernel_rfl);have k3:W.cell? ⟨2,0,Option.none⟩=some (.iface 254 (.pointer (some a3))):=by simpa using World.var?_cell g3 c3 0
 have h4 := laidMetH.filter (fun x => x.1 == "strconv.ErrRange") h;have e4 : Rows.exportLinesUptoRow.laid.filter (fun x => x.1 == "strconv.ErrRange") = [("strconv.ErrRange", Rows.laid_strconv_ErrRange)] := by rfl
 rw [e4] at h4;rw [MakeChecks.laidMetH_plain _ _ _ (by kernel_rfl)] at h4;have g4 : Tryz.prog.globalNamed "strconv.ErrRange" = some 3 := by kernel_rfl
 obtain ⟨a4,s4,c4,q4⟩:=laid_sentinel h4 g4 (by kernel_rfl) Tryz.underlying62 rowE1 Tryz.underlying254 Tryz.underlying256 rfl rfl Tryz.underlying9 (by kernel_rfl) (by kernel_rfl);have k4:W.cell? ⟨3,0,Option.none⟩=some (.iface 254 (.pointer (some a4))):=by simpa using World.var?_cell g4 c4 0
 exact ⟨Lib.tabIs_of_head (g:=1) (t:=221) (e:=25) (by kernel_rfl) (by kernel_rfl) Tryz.underlying221 Tryz.underlying25 (by kernel_rfl) (by kernel_rfl) h1,
  (Lib.tabIs_of_head (t:=253) (e:=5) gB (by kernel_rfl) Tryz.underlying253 Tryz.underlying5 (by kernel_rfl) (by kernel_rfl) h2).cell gB 15 (by decide),⟨_,_,k3⟩,⟨_,_,k4⟩⟩
mutual
theorem ub {H:Type}:∀d:DataW H,Rows.uptoBulk d=wb d
 | .lit l=>by cases l <;> simp only [Rows.uptoBulk,wb]
 | .nil=>by simp only [Rows.uptoBulk,wb]
 | .ptr d=>by simp only [Rows.uptoBulk,wb,ub d]
 | .slice e s=>by simp only [Rows.uptoBulk,wb,ubAll e,ubAll s]
 | .agg p=>by simp only [Rows.uptoBulk,wb,ubAll p]
 | .iface _ d=>by simp only [Rows.uptoBulk,wb,ub d]
 | .map e=>by simp only [Rows.uptoBulk,wb,ubEs e]
 | .held _=>by simp only [Rows.uptoBulk,wb]
theorem ubAll {H:Type}:∀l:List (DataW H),Rows.uptoBulkAll l=wa l
 | []=>by simp only [Rows.uptoBulkAll,wa]
 | d::r=>by simp only [Rows.uptoBulkAll,wa,ub d,ubAll r]
theorem ubEs {H:Type}:∀l:List (Lit×DataW H),Rows.uptoBulkEntries l=vBulkEs l
 | []=>by simp only [Rows.uptoBulkEntries,vBulkEs]
 | x::r=>by simp only [Rows.uptoBulkEntries,vBulkEs,ubE x,ubEs r];omega
theorem ubE {H:Type}:∀x:Lit×DataW H,Rows.uptoBulkEntry x=vBulkE x
 | (l,d)=>by cases l <;> simp only [Rows.uptoBulkEntry,vBulkE,ub d]
end
theorem contractExportLines (H:Type) (enc:TypeId×Value->H) (W:World) (base:Nat) (args:Array Value) (ds gs:List (DataW H)) (before:List MemPlace)
  (hval:∀(j:Nat) t v,Tryz.f5.params[j]?=some t->args[j]?=some v->Value.okWide Tryz.prog W .any base t v)
  (hW:DataW.Whole enc Tryz.prog Tryz.f5.params.toList Rows.exportLinesSpec.vars false W args.toList ds gs before) (hk:Rows.uptoSmall H (ds++gs)=true) (hL:laidMetH Tryz.prog Rows.exportLinesUptoRow.laid W) (hsh:W.ShapedOpen Tryz.prog) :
  Calls Tryz.prog 5 args W λe W'=>∃v,e=.returned v/\Rows.exportLinesSpec.post enc Tryz.prog Tryz.f5 false true false false W args v W':=by
 haveI:GOk Tryz.prog W.heap.size W:=⟨hsh,ug _,laidOf hL⟩
 have hW':=hW;obtain ⟨p,q,hA0,hV,rfl,hfz,hnd⟩:=hW;have hA:DataW.TrodAll enc Tryz.prog W 0 (λ_=>true) true Tryz.f5.params.toList args.toList ds p:=hA0;rw [Tryz.params5] at hA hval;obtain ⟨v0,vs0,d0,ds0,p0,q0,hargs,rfl,rfl,t0,r0⟩:=trodAll_cons hA;obtain ⟨v1,vs1,d1,ds1,p1,q1,rfl,rfl,rfl,t1,r1⟩:=trodAll_cons r0;obtain ⟨rfl,rfl,rfl⟩:=trodAll_nil r1;obtain rfl:args=#[v0,v1]:=by cases args;simp_all
 obtain ⟨rfl,rfl⟩:=trodVars_none hV;clear hA0;simp only [tv] at hW';obtain ⟨y0,hy0,wf0,bk0⟩:=rd_arg (λn=>(rdt23 _)) t0;have hv0:=V.of_one (by rintro cs rfl;have:=hval 0 23 _ rfl rfl;simp [Value.okWide,Tryz.underlying23,Cell.okWide,Cell.ok] at this) hy0;obtain ⟨y1,hy1,wf1,bk1⟩:=rd_arg (λn=>(rd_int Tryz.underlying5)) t1;have hv1:=V.of_one (by rintro cs rfl;have:=hval 1 5 _ rfl rfl;simp [Value.okWide,Tryz.underlying5,Cell.okWide,Cell.ok] at this) hy1;have hlt:∀x ∈ (p0++p1),x.block < W.heap.size:=λx hx=>by simpa using hW'.lt x hx
 have hbk:((y0.map GA.bk).sum+1)+1<=1048576:=by
  have h:=u9 hk;simp only [tj,uT,tv,Rows.uptoBulkAll,ub] at h;omega
 refine ((ok5 (h:=h0) ((law44ExportLines_top) y0 y1 wf0 wf1 hbk)).2 W.heap.size W (g0 W) W _ (rel0 W) (VL.cons hv0 (VL.cons hv1 (by simp [VL])))).mono λe W' ⟨v,r,h',g',he,⟨hr,hh⟩,hg,hR,hv⟩=>?_;subst he hr;simp only [V] at hv;subst hv;exact ⟨_,rfl,post_of_below (pv:=[]) hW' hR.below (λ_ _ _=>(trodAll_cons_mk (shut_bool Tryz.underlying4 _) trodAll_mk0)) (λsp hsp=>(trodAll_cons_mk (WideElems.Trod_stays laidExportLines (by kernel_rfl) (u9 (by kernel_rfl)) t0 (λx hx=>hR.below.same (hlt x (by simp [hx]))) (λx hx=>hsp x (by simp [hx]))) (trodAll_cons_mk (WideElems.Trod_stays laidExportLines (by kernel_rfl) (u9 (by kernel_rfl)) t1 (λx hx=>hR.below.same (hlt x (by simp [hx]))) (λx hx=>hsp x (by simp [hx]))) trodAll_mk0))) (λ_ _=>rfl) (by simp) (ok_one (by kernel_rfl) rfl (okWide_bool_mk Tryz.underlying4 _))⟩
set_option maxRecDepth 100000 in
theorem witE (os:Os) (H:Type) (enc:TypeId×Value->H):∃(w:World) (tape:Tape) (i:Input),w.os=os/\(w.forCall tape i).Shaped Tryz.checked.prog/\i.vars=[]/\Input.okWide Tryz.checked.prog (w.forCall tape i) .any w.heap.size 5 i /\
   (Rows.OpenSpec.upto Rows.exportLinesSpec).preRow enc Tryz.checked.prog Tryz.f5 Rows.exportLinesUptoRow.domain false Rows.exportLinesUptoRow.laid (w.forCall tape i).memory i.args/\({}:Assume).holds Tryz.checked.prog (lone (Frame.enter Tryz.checked.prog 5 i.args .normal) [] (w.forCall tape i)):=by
 have hx:DataW.whole enc Tryz.prog ((World.laidAll Tryz.prog os Rows.exportLinesUptoRow.laid).forCall (λ_ _=>0) ⟨#[],#[.slice none 0 0,.int .u8 0],[]⟩).memory Tryz.f5.params.toList Rows.exportLinesSpec.vars false #[.slice none 0 0,.int .u8 0].toList 8=some ([.nil,.lit (.int .u8 0)],[],[]):=by kernel_rfl
 have hok:Input.okWideB Tryz.checked.prog ((World.laidAll Tryz.prog os Rows.exportLinesUptoRow.laid).forCall (λ_ _=>0) ⟨#[],#[.slice none 0 0,.int .u8 0],[]⟩) 5 ⟨#[],#[.slice none 0 0,.int .u8 0],[]⟩=true:=by kernel_rfl
 refine ⟨World.laidAll Tryz.prog os Rows.exportLinesUptoRow.laid,λ_ _=>0,⟨#[],#[.slice none 0 0,.int .u8 0],[]⟩,World.laidAll_os _ _ _,World.shaped_of_ZipB (by kernel_rfl) (by kernel_rfl),(Input.okWide_of_okWideB (base:=0) hok).1,(Input.okWide_of_okWideB hok).2,
  OpenSpec.preRow_of_cond 8 hx (by kernel_rfl) (λk hk=>by cases hk;kernel_rfl) (by kernel_rfl) (by rw [MakeChecks.laidMetH_plain _ _ _ (by kernel_rfl)];exact laidMet_laidAll _ (by kernel_rfl) (by kernel_rfl)),?_⟩
 simp [Assume.holds]
set_option maxRecDepth 100000 in
theorem liftedExportLines (os:Os) (started:os.Started) (H:Type) (enc:TypeId×Value->H) (F:Stop.Interp) :
  ReturnsInHanded {} Tryz.checked os 5 .any ((Rows.OpenSpec.upto Rows.exportLinesSpec).preRow enc Tryz.prog Tryz.f5 Rows.exportLinesUptoRow.domain false Rows.exportLinesUptoRow.laid) (((Rows.OpenSpec.upto Rows.exportLinesSpec).at F).post enc Tryz.prog Tryz.f5 false true false false):=by
 refine returnsInHanded_of_row (C:=Tryz.checked) (s:=(Rows.OpenSpec.upto Rows.exportLinesSpec)) ownExportLines started (by kernel_rfl) Tryz.func5 (witE os H enc) ?_;intro W base args ds gs before hval hW _ hcond _ hL hsh _;exact contractExportLines H enc W base args ds gs before hval hW (hcond _ rfl) hL hsh
theorem saidExportLines:Rows.ExportLinesUptoSaid :=
 OpenClaim.holds_of_cond 5 Tryz.f5 rfl rfl rfl rfl rfl rfl rfl ⟨rfl,rfl,rfl,rfl,rfl⟩ rfl rfl rfl rfl rfl (by kernel_rfl) Tryz.func5 (by kernel_rfl)
  (u9 (by kernel_rfl)) (by unfold Func.isWrapper;first | (rw [uv (by decide +kernel)];kernel_rfl) | (rw [uG (by decide +kernel)];exact ⟨rfl,rfl⟩))
  (λos started H enc _ F=>by rw [OpenClaim.pre_eq_preRow];exact liftedExportLines os started H enc F)
theorem plainE (f:FuncId) (fn:Func) (hf:Tryz.pinned.checked.prog.funcNamed Rows.exportLinesUptoRow.func=some f) (hfn:Tryz.pinned.checked.prog.funcs[f]?=some fn) :
  true=Tryz.pinned.checked.prog.looks []/\∀(j:Nat) t,fn.params[j]?=some t->Tryz.pinned.checked.prog.wantsStandIn t=false:=by
 obtain rfl:f=5:=uK ((show Tryz.prog.funcNamed Rows.exportLinesUptoRow.func=some 5 by kernel_rfl).symm.trans hf) |>.symm;obtain rfl:fn=Tryz.f5:=(uK (Tryz.func5.symm.trans hfn)).symm;refine ⟨by kernel_rfl,λj t ht=>?_⟩;rw [Tryz.params5] at ht;have hm:t ∈ [23,5]:=by simpa using Array.mem_of_getElem? ht
 have hall:([23,5].all λu=>!Tryz.prog.wantsStandIn u)=true:=by kernel_rfl
 exact (show Tryz.prog.wantsStandIn t=false by simpa using ur.1 hall t hm)
theorem ExportLinesUptoHolds:Rows.ExportLinesUptoCardSaid :=
 Claim7.holds_tied_plain_at .later [] _ _ _ _ saidExportLines (λ_ h=>by cases h) (by kernel_rfl) (λ_ h=>by cases h) exportLinesUpto_row_tie rfl ⟨rfl,rfl⟩ (by kernel_rfl) rfl plainE (by kernel_rfl)
end Go.Proofs.YtgaelgcadcmfnaaGreatDoor
