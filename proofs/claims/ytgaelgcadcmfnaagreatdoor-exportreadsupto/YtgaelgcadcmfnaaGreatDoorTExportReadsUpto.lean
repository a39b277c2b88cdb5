/- The law varve.varvelaw44.ExportReads holds: for every input it returns true, and each argument reads as it read. No condition. -/
import Derived.Test.YtgaelgcadcmfnaaGreatDoorRows
import Derived.Test.YtgaelgcadcmfnaaGreatDoorW6
import Derived.Test.YtgaelgcadcmfnaaGreatDoorPlK0
import Derived.Test.YtgaelgcadcmfnaaGreatDoorPlK1
import Derived.Test.YtgaelgcadcmfnaaGreatDoorVvLb
import Derived.ProofKit
import Derived.HandedShaped
import Derived.OpenShut
import Derived.Lay
import Derived.LaidOnce
import Derived.SevenTiedAt
import Derived.MakeChecks
import Derived.LaidSub
import Derived.Lib.LaidTab
import Derived.Deep.DeepHandedRow
import Derived.Stop.LaidErr
import Derived.LaidLaws
import Derived.Test.YtgaelgcadcmfnaaGreatDoorCards
import Derived.Test.YtgaelgcadcmfnaaGreatDoorTie
namespace Go.Proofs.YtgaelgcadcmfnaaGreatDoor
open Go Go.Vv Go.ChangeShapes Go.WideShapes Go.ChangeAt Go.RowKit
set_option maxRecDepth 100000
set_option linter.unusedVariables false
set_option linter.unusedSimpArgs false

theorem ownExportReads:ownKnob Tryz.prog.godebug=none:=by kernel_rfl
theorem laidExportReads:laidOutB Tryz.prog=true:=by kernel_rfl
theorem starE : "*" ++ "errors.errorString" = "*errors.errorString" := by decide
theorem rowE1 (u : TypeId) (h : Tryz.prog.typeName? 3 u = some "*errors.errorString") : u = 254 :=
 typeName_ptr_named (nm := "errors.errorString") (by rw [starE]; kernel_rfl) (by kernel_rfl) (by decide) u (by rw [starE]; exact h)
theorem laidOf {W:World} (h:laidMetH Tryz.prog Rows.exportReadsUptoRow.laid W):laid Tryz.prog W:=by
 have h1 := laidMetH.filter (fun x => x.1 == "internal/strconv.uint64pow10") h;have h2 := laidMetH.filter (fun x => x.1 == "math/bits.deBruijn64tab") h;have e1 : Rows.exportReadsUptoRow.laid.filter (fun x => x.1 == "internal/strconv.uint64pow10") = [("internal/strconv.uint64pow10", Rows.laid_internal_strconv_uint64pow10)] := by rfl
 have e2 : Rows.exportReadsUptoRow.laid.filter (fun x => x.1 == "math/bits.deBruijn64tab") = [("math/bits.deBruijn64tab", Rows.laid_math_bits_deBruijn64tab)] := by rfl
 rw [e1] at h1;rw [e2] at h2;rw [MakeChecks.laidMetH_plain _ _ _ (by kernel_rfl)] at h1 h2;have d1:Rows.laid_internal_strconv_uint64pow10 (H:=Unit)=Lib.tabData .u64 Lib.pow10Tab:=by rfl
 have d2:Rows.laid_math_bits_deBruijn64tab (H:=Unit)=Lib.tabData .u8 [0,1,56,2,57,49,28,3,61,58,42,50,38,29,17,4,62,47,59,36,45,43,51,22,53,39,33,30,24,18,12,5,63,55,48,27,60,41,37,16,46,35,44,21,52,32,23,11,54,26,40,15,34,20,31,10,25,14,19,9,13,8,7,6]:=by rfl
 rw [d1] at h1;rw [d2] at h2;have gB : Tryz.prog.globalNamed "math/bits.deBruijn64tab" = some 5 := by kernel_rfl
 have h3 := laidMetH.filter (fun x => x.1 == "strconv.ErrSyntax") h;have e3 : Rows.exportReadsUptoRow.laid.filter (fun x => x.1 == "strconv.ErrSyntax") = [("strconv.ErrSyntax", Rows.laid_strconv_ErrSyntax)] := by rfl
 rw [e3] at h3;rw [MakeChecks.laidMetH_plain _ _ _ (by kernel_rfl)] at h3;have g3 : Tryz.prog.globalNamed "strconv.ErrSyntax" = some 2 := by kernel_rfl
 obtain ⟨a3,s3,c3,q3⟩:=laid_sentinel h3 g3 (by kernel_rfl) Tryz.underlying62 rowE1 Tryz.underlying254 Tryz.underlying256 rfl rfl Tryz.underlying9 (by kernel_rfl) (by kernel_rfl);have k3:W.cell? ⟨2,0,Option.none⟩=some (.iface 254 (.pointer (some a3))):=by simpa using World.var?_cell g3 c3 0
 have h4 := laidMetH.filter (fun x => x.1 == "strconv.ErrRange") h;have e4 : Rows.exportReadsUptoRow.laid.filter (fun x => x.1 == "strconv.ErrRange") = [("strconv.ErrRange", Rows.laid_strconv_ErrRange)] := by rfl
 rw [e4] at h4;rw [MakeChecks.laidMetH_plain _ _ _ (by kernel_rfl)] at h4;have g4 : Tryz.prog.globalNamed "strconv.ErrRange" = some 3 := by kernel_rfl
 obtain ⟨a4,s4,c4,q4⟩:=laid_sentinel h4 g4 (by kernel_rfl) Tryz.underlying62 rowE1 Tryz.underlying254 Tryz.underlying256 rfl rfl Tryz.underlying9 (by kernel_rfl) (by kernel_rfl);have k4:W.cell? ⟨3,0,Option.none⟩=some (.iface 254 (.pointer (some a4))):=by simpa using World.var?_cell g4 c4 0
 exact ⟨Lib.tabIs_of_head (g:=1) (t:=221) (e:=25) (by kernel_rfl) (by kernel_rfl) Tryz.underlying221 Tryz.underlying25 (by kernel_rfl) (by kernel_rfl) h1,
  (Lib.tabIs_of_head (t:=253) (e:=5) gB (by kernel_rfl) Tryz.underlying253 Tryz.underlying5 (by kernel_rfl) (by kernel_rfl) h2).cell gB 15 (by decide),⟨_,_,k3⟩,⟨_,_,k4⟩⟩
mutual
theorem ub {H:Type}:∀d:DataW H,Rows.uptoBulk d=vBulk d
 | .lit l=>by cases l <;> simp only [Rows.uptoBulk,vBulk]
 | .nil=>by simp only [Rows.uptoBulk,vBulk]
 | .ptr d=>by simp only [Rows.uptoBulk,vBulk,ub d]
 | .slice e s=>by simp only [Rows.uptoBulk,vBulk,ubAll e,ubAll s]
 | .agg p=>by simp only [Rows.uptoBulk,vBulk,ubAll p]
 | .iface _ d=>by simp only [Rows.uptoBulk,vBulk,ub d]
 | .map e=>by simp only [Rows.uptoBulk,vBulk,ubEs e]
 | .held _=>by simp only [Rows.uptoBulk,vBulk]
theorem ubAll {H:Type}:∀l:List (DataW H),Rows.uptoBulkAll l=vBulkAll l
 | []=>by simp only [Rows.uptoBulkAll,vBulkAll]
 | d::r=>by simp only [Rows.uptoBulkAll,vBulkAll,ub d,ubAll r]
theorem ubEs {H:Type}:∀l:List (Lit×DataW H),Rows.uptoBulkEntries l=vBulkEs l
 | []=>by simp only [Rows.uptoBulkEntries,vBulkEs]
 | x::r=>by simp only [Rows.uptoBulkEntries,vBulkEs,ubE x,ubEs r];omega
theorem ubE {H:Type}:∀x:Lit×DataW H,Rows.uptoBulkEntry x=vBulkE x
 | (l,d)=>by cases l <;> simp only [Rows.uptoBulkEntry,vBulkE,ub d]
end
theorem contractExportReads (H:Type) (enc:TypeId×Value->H) (W:World) (base:Nat) (args:Array Value) (ds gs:List (DataW H)) (before:List MemPlace)
  (hval:∀(j:Nat) t v,Tryz.f4.params[j]?=some t->args[j]?=some v->Value.okWide Tryz.prog W .any base t v)
  (hW:DataW.Whole enc Tryz.prog Tryz.f4.params.toList Rows.exportReadsSpec.vars false W args.toList ds gs before) (hk:Rows.uptoSmall H (ds++gs)=true) (hL:laidMetH Tryz.prog Rows.exportReadsUptoRow.laid W) (hsh:W.ShapedOpen Tryz.prog) :
  Calls Tryz.prog 4 args W λe W'=>∃v,e=.returned v/\Rows.exportReadsSpec.post enc Tryz.prog Tryz.f4 false true false false W args v W':=by
 haveI:GOk Tryz.prog W.heap.size W:=⟨hsh,uj _,laidOf hL⟩
 have hW':=hW;obtain ⟨p,q,hA0,hV,rfl,hfz,hnd⟩:=hW;have hA:DataW.TrodAll enc Tryz.prog W 0 (λ_=>true) true Tryz.f4.params.toList args.toList ds p:=hA0;rw [Tryz.params4] at hA hval;obtain ⟨v0,vs0,d0,ds0,p0,q0,hargs,rfl,rfl,t0,r0⟩:=trodAll_cons hA;obtain ⟨rfl,rfl,rfl⟩:=trodAll_nil r0;obtain rfl:args=#[v0]:=by cases args;simp_all
 obtain ⟨rfl,rfl⟩:=trodVars_none hV;clear hA0;simp only [tp] at hW';obtain ⟨y0,hy0,wf0,bk0⟩:=rd_arg (λn=>(rd_str Tryz.underlying9)) t0;have hv0:=V.of_one (by rintro cs rfl;have:=hval 0 9 _ rfl rfl;simp [Value.okWide,Tryz.underlying9,Cell.okWide,Cell.ok] at this) hy0;have hlt:∀x ∈ p0,x.block < W.heap.size:=λx hx=>by simpa using hW'.lt x hx
 have hbk:(y0.length+1)<=1048576:=by
  have h:=u9 hk;simp only [tc,uT,tp,Rows.uptoBulkAll,ub] at h;omega
 refine ((ok4 (h:=h0) ((law44ExportReads_top) y0 wf0 hbk)).2 W.heap.size W (g0 W) W _ (rel0 W) (VL.cons hv0 (by simp [VL]))).mono λe W' ⟨v,r,h',g',he,⟨hr,hh⟩,hg,hR,hv⟩=>?_;subst he hr;simp only [V] at hv;subst hv;exact ⟨_,rfl,post_of_below (pv:=[]) hW' hR.below (λ_ _ _=>(trodAll_cons_mk (shut_bool Tryz.underlying4 _) trodAll_mk0)) (λsp hsp=>(trodAll_cons_mk (WideElems.Trod_stays laidExportReads (by kernel_rfl) (u9 (by kernel_rfl)) t0 (λx hx=>hR.below.same (hlt x (by simp [hx]))) (λx hx=>hsp x (by simp [hx]))) trodAll_mk0)) (λ_ _=>rfl) (by simp) (ok_one (by kernel_rfl) rfl (okWide_bool_mk Tryz.underlying4 _))⟩
set_option maxRecDepth 100000 in
theorem witE (os:Os) (H:Type) (enc:TypeId×Value->H):∃(w:World) (tape:Tape) (i:Input),w.os=os/\(w.forCall tape i).Shaped Tryz.checked.prog/\i.vars=[]/\Input.okWide Tryz.checked.prog (w.forCall tape i) .any w.heap.size 4 i /\
   (Rows.OpenSpec.upto Rows.exportReadsSpec).preRow enc Tryz.checked.prog Tryz.f4 Rows.exportReadsUptoRow.domain false Rows.exportReadsUptoRow.laid (w.forCall tape i).memory i.args/\({}:Assume).holds Tryz.checked.prog (lone (Frame.enter Tryz.checked.prog 4 i.args .normal) [] (w.forCall tape i)):=by
 have hx:DataW.whole enc Tryz.prog ((World.laidAll Tryz.prog os Rows.exportReadsUptoRow.laid).forCall (λ_ _=>0) ⟨#[],#[.string ⟨#[]⟩],[]⟩).memory Tryz.f4.params.toList Rows.exportReadsSpec.vars false #[.string ⟨#[]⟩].toList 8=some ([.lit (.string [])],[],[]):=by kernel_rfl
 have hok:Input.okWideB Tryz.checked.prog ((World.laidAll Tryz.prog os Rows.exportReadsUptoRow.laid).forCall (λ_ _=>0) ⟨#[],#[.string ⟨#[]⟩],[]⟩) 4 ⟨#[],#[.string ⟨#[]⟩],[]⟩=true:=by kernel_rfl
 refine ⟨World.laidAll Tryz.prog os Rows.exportReadsUptoRow.laid,λ_ _=>0,⟨#[],#[.string ⟨#[]⟩],[]⟩,World.laidAll_os _ _ _,World.shaped_of_ZipB (by kernel_rfl) (by kernel_rfl),(Input.okWide_of_okWideB (base:=0) hok).1,(Input.okWide_of_okWideB hok).2,
  OpenSpec.preRow_of_cond 8 hx (by kernel_rfl) (λk hk=>by cases hk;kernel_rfl) (by kernel_rfl) (by rw [MakeChecks.laidMetH_plain _ _ _ (by kernel_rfl)];exact laidMet_laidAll _ (by kernel_rfl) (by kernel_rfl)),?_⟩
 simp [Assume.holds]
set_option maxRecDepth 100000 in
theorem liftedExportReads (os:Os) (started:os.Started) (H:Type) (enc:TypeId×Value->H) (F:Stop.Interp) :
  ReturnsInHanded {} Tryz.checked os 4 .any ((Rows.OpenSpec.upto Rows.exportReadsSpec).preRow enc Tryz.prog Tryz.f4 Rows.exportReadsUptoRow.domain false Rows.exportReadsUptoRow.laid) (((Rows.OpenSpec.upto Rows.exportReadsSpec).at F).post enc Tryz.prog Tryz.f4 false true false false):=by
 refine returnsInHanded_of_row (C:=Tryz.checked) (s:=(Rows.OpenSpec.upto Rows.exportReadsSpec)) ownExportReads started (by kernel_rfl) Tryz.func4 (witE os H enc) ?_;intro W base args ds gs before hval hW _ hcond _ hL hsh _;exact contractExportReads H enc W base args ds gs before hval hW (hcond _ rfl) hL hsh
theorem saidExportReads:Rows.ExportReadsUptoSaid :=
 OpenClaim.holds_of_cond 4 Tryz.f4 rfl rfl rfl rfl rfl rfl rfl ⟨rfl,rfl,rfl,rfl,rfl⟩ rfl rfl rfl rfl rfl (by kernel_rfl) Tryz.func4 (by kernel_rfl)
  (u9 (by kernel_rfl)) (by unfold Func.isWrapper;first | (rw [um (by decide +kernel)];kernel_rfl) | (rw [ur (by decide +kernel)];exact ⟨rfl,rfl⟩))
  (λos started H enc _ F=>by rw [OpenClaim.pre_eq_preRow];exact liftedExportReads os started H enc F)
theorem plainE (f:FuncId) (fn:Func) (hf:Tryz.pinned.checked.prog.funcNamed Rows.exportReadsUptoRow.func=some f) (hfn:Tryz.pinned.checked.prog.funcs[f]?=some fn) :
  true=Tryz.pinned.checked.prog.looks []/\∀(j:Nat) t,fn.params[j]?=some t->Tryz.pinned.checked.prog.wantsStandIn t=false:=by
 obtain rfl:f=4:=uF ((show Tryz.prog.funcNamed Rows.exportReadsUptoRow.func=some 4 by kernel_rfl).symm.trans hf) |>.symm;obtain rfl:fn=Tryz.f4:=(uF (Tryz.func4.symm.trans hfn)).symm;refine ⟨by kernel_rfl,λj t ht=>?_⟩;rw [Tryz.params4] at ht;have hm:t ∈ [9]:=by simpa using Array.mem_of_getElem? ht
 have hall:([9].all λu=>!Tryz.prog.wantsStandIn u)=true:=by kernel_rfl
 exact (show Tryz.prog.wantsStandIn t=false by simpa using uu.1 hall t hm)
theorem ExportReadsUptoHolds:Rows.ExportReadsUptoCardSaid :=
 Claim7.holds_tied_plain_at .later [] _ _ _ _ saidExportReads (λ_ h=>by cases h) (by kernel_rfl) (λ_ h=>by cases h) exportReadsUpto_row_tie rfl ⟨rfl,rfl⟩ (by kernel_rfl) rfl plainE (by kernel_rfl)
end Go.Proofs.YtgaelgcadcmfnaaGreatDoor
