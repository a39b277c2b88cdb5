/- The law varve.varvelaw44.ExportSelect holds: for every input it returns true, and each argument reads as it read. No condition. -/
import Derived.Test.YtfdacjmlbokckaaGreatDoorRows
import Derived.Test.YtfdacjmlbokckaaGreatDoorW3
import Derived.Test.YtfdacjmlbokckaaGreatDoorPlE0
import Derived.Test.YtfdacjmlbokckaaGreatDoorPlE1
import Derived.Test.YtfdacjmlbokckaaGreatDoorVvRd
import Derived.ProofKit
import Derived.HandedShaped
import Derived.OpenShut
import Derived.Lay
import Derived.LaidOnce
import Derived.SevenTiedAt
import Derived.MakeChecks
import Derived.LaidSub
import Derived.Lib.LaidTab
import Derived.Deep.DeepHandedRow
import Derived.Test.YtfdacjmlbokckaaGreatDoorCards
import Derived.Test.YtfdacjmlbokckaaGreatDoorTie
namespace Go.Proofs.YtfdacjmlbokckaaGreatDoor
open Go Go.Vv Go.ChangeShapes Go.WideShapes Go.ChangeAt Go.RowKit
set_option maxRecDepth 100000
set_option linter.unusedVariables false
set_option linter.unusedSimpArgs false
theorem co82:Tryz.prog.cellsOf 82=3:=by kernel_rfl
theorem co23:Tryz.prog.cellsOf 23=1:=by kernel_rfl
theorem co80:Tryz.prog.cellsOf 80=1:=by kernel_rfl
theorem co5:Tryz.prog.cellsOf 5=1:=by kernel_rfl
theorem co34:Tryz.prog.cellsOf 34=1:=by kernel_rfl
theorem co36:Tryz.prog.cellsOf 36=2:=by kernel_rfl
theorem rdGActor {H:Type} {enc:TypeId×Value→H} {W:World} (n:Nat):RdN enc Tryz.prog W n 36 GActor.row GActor.wf GActor.bk :=
 (rd_struct (l:=(match Tryz.prog.underlying 36 with | some (.struct fs)=>fs.toList | _=>[])) (fs:=(match Tryz.prog.underlying 36 with | some (.struct fs)=>fs | _=>#[])) (by kernel_rfl) (by kernel_rfl) co36 (fun m _=>(xU rfl co5 rfl (rd_int Tryz.underlying5) (xU rfl co34 rfl (rd_int Tryz.underlying34) (rf_nil (by decide)))))).map (fun p=>GActor.mk p.1 p.2.1) (fun _=>rfl) (fun a h=>by simpa [GActor.wf,and_assoc] using h) (fun _=>rfl)
theorem co33:Tryz.prog.cellsOf 33=1:=by kernel_rfl
theorem co38:Tryz.prog.cellsOf 38=3:=by kernel_rfl
theorem rdGDot {H:Type} {enc:TypeId×Value→H} {W:World} (n:Nat):RdN enc Tryz.prog W n 38 GDot.row GDot.wf GDot.bk :=
 (rd_struct (l:=(match Tryz.prog.underlying 38 with | some (.struct fs)=>fs.toList | _=>[])) (fs:=(match Tryz.prog.underlying 38 with | some (.struct fs)=>fs | _=>#[])) (by kernel_rfl) (by kernel_rfl) co38 (fun m _=>(xU rfl co36 rfl (rdGActor _) (xU rfl co33 rfl (rd_int Tryz.underlying33) (rf_nil (by decide)))))).map (fun p=>GDot.mk p.1 p.2.1) (fun _=>rfl) (fun a h=>by simpa [GDot.wf,and_assoc] using h) (fun _=>rfl)
theorem co9:Tryz.prog.cellsOf 9=1:=by kernel_rfl
theorem co57:Tryz.prog.cellsOf 57=5:=by kernel_rfl
theorem rdGItem {H:Type} {enc:TypeId×Value→H} {W:World} (n:Nat):RdN enc Tryz.prog W n 57 GItem.row GItem.wf GItem.bk :=
 (rd_struct (l:=(match Tryz.prog.underlying 57 with | some (.struct fs)=>fs.toList | _=>[])) (fs:=(match Tryz.prog.underlying 57 with | some (.struct fs)=>fs | _=>#[])) (by kernel_rfl) (by kernel_rfl) co57 (fun m _=>(xU rfl co33 rfl (rd_int Tryz.underlying33) (xU rfl co38 rfl (rdGDot _) (xU rfl co9 rfl (rd_str Tryz.underlying9) (rf_nil (by decide))))))).map (fun p=>GItem.mk p.1 p.2.1 p.2.2.1) (fun _=>rfl) (fun a h=>by simpa [GItem.wf,and_assoc] using h) (fun _=>rfl)
theorem rdt39 {H:Type} {enc:TypeId×Value→H} {W:World} (n:Nat):RdN enc Tryz.prog W n 39 (fun L:(List GItem)=>[AV.sl 5 (L.map GItem.row)]) (fun L=>L.length≤maxLen∧∀ y ∈ L,GItem.wf y) (fun L=>(L.map GItem.bk).sum+1) :=
 rd_slice Tryz.underlying39 co57 (by decide) (fun _=>rfl) (fun _=>rfl) (fun m _=>(rdGItem _))
theorem rdt40 {H:Type} {enc:TypeId×Value→H} {W:World} (n:Nat):RdN enc Tryz.prog W n 40 (fun L:(List GDot)=>[AV.sl 3 (L.map GDot.row)]) (fun L=>L.length≤maxLen∧∀ y ∈ L,GDot.wf y) (fun L=>(L.map GDot.bk).sum+1) :=
 rd_slice Tryz.underlying40 co38 (by decide) (fun _=>rfl) (fun _=>rfl) (fun m _=>(rdGDot _))
theorem co2:Tryz.prog.cellsOf 2=1:=by kernel_rfl
theorem co39:Tryz.prog.cellsOf 39=1:=by kernel_rfl
theorem co40:Tryz.prog.cellsOf 40=1:=by kernel_rfl
theorem co42:Tryz.prog.cellsOf 42=9:=by kernel_rfl
theorem rdGLeaf {H:Type} {enc:TypeId×Value→H} {W:World} (n:Nat):RdN enc Tryz.prog W n 42 GLeaf.row GLeaf.wf GLeaf.bk :=
 (rd_struct (l:=(match Tryz.prog.underlying 42 with | some (.struct fs)=>fs.toList | _=>[])) (fs:=(match Tryz.prog.underlying 42 with | some (.struct fs)=>fs | _=>#[])) (by kernel_rfl) (by kernel_rfl) co42 (fun m _=>(xU rfl co5 rfl (rd_int Tryz.underlying5) (xU rfl co2 rfl (rd_int Tryz.underlying2) (xU rfl co33 rfl (rd_int Tryz.underlying33) (xU rfl co38 rfl (rdGDot _) (xU rfl co9 rfl (rd_str Tryz.underlying9) (xU rfl co39 rfl (rdt39 _) (xU rfl co40 rfl (rdt40 _) (rf_nil (by decide))))))))))).map (fun p=>GLeaf.mk p.1 p.2.1 p.2.2.1 p.2.2.2.1 p.2.2.2.2.1 p.2.2.2.2.2.1 p.2.2.2.2.2.2.1) (fun _=>rfl) (fun a h=>by simpa [GLeaf.wf,and_assoc] using h) (fun _=>rfl)
theorem rdt80 {H:Type} {enc:TypeId×Value→H} {W:World} (n:Nat):RdN enc Tryz.prog W n 80 (fun L:(List GLeaf)=>[AV.sl 9 (L.map GLeaf.row)]) (fun L=>L.length≤maxLen∧∀ y ∈ L,GLeaf.wf y) (fun L=>(L.map GLeaf.bk).sum+1) :=
 rd_slice Tryz.underlying80 co42 (by decide) (fun _=>rfl) (fun _=>rfl) (fun m _=>(rdGLeaf _))
theorem rdGNode {H:Type} {enc:TypeId×Value→H} {W:World} (n:Nat):RdN enc Tryz.prog W n 82 GNode.row GNode.wf GNode.bk:=by
 induction n using Nat.strongRecOn with
 | _ n ih =>
  exact (rd_struct (l:=(match Tryz.prog.underlying 82 with | some (.struct fs)=>fs.toList | _=>[])) (fs:=(match Tryz.prog.underlying 82 with | some (.struct fs)=>fs | _=>#[])) (by kernel_rfl) (by kernel_rfl) co82 (fun m hm=>(xU rfl co9 rfl (rd_str Tryz.underlying9) (xU rfl co80 rfl (rdt80 _) (xU rfl co23 rfl (rd_slice Tryz.underlying23 co82 (by decide) (fun y=>by rw [GNode.row_eq];rfl) (fun y=>by rw [GNode.row_eq];rfl) (fun q hq=>ih q (by omega))) (rf_nil (by decide))))))).map (fun p=>GNode.mk p.1 p.2.1 p.2.2.1) (fun _=>GNode.row_eq _) (fun a h=>by simp only [GNode.wf,GNode.wfs_iff];simp only [and_assoc,and_true] at h ⊢;first | exact h | simp_all) (fun _=>by simp only [GNode.bk,GNode.bks_eq])
theorem rdt23 {H:Type} {enc:TypeId×Value→H} {W:World} (n:Nat):RdN enc Tryz.prog W n 23 (fun L:(List GNode)=>[AV.sl 3 (L.map GNode.row)]) (fun L=>L.length≤maxLen∧∀ y ∈ L,GNode.wf y) (fun L=>(L.map GNode.bk).sum+1) :=
 rd_slice Tryz.underlying23 co82 (by decide) (fun y=>by rw [GNode.row_eq];rfl) (fun y=>by rw [GNode.row_eq];rfl) (fun m _=>(rdGNode _))
theorem rdt24 {H:Type} {enc:TypeId×Value→H} {W:World} (n:Nat):RdN enc Tryz.prog W n 24 (fun L:(List zM)=>[AV.sl 1 (L.map zP)]) (fun L=>L.length≤maxLen∧∀ y ∈ L,y.length≤maxLen) (fun L=>(L.map (fun s=>s.length+1)).sum+1) :=
 rd_slice Tryz.underlying24 co9 (by decide) (fun _=>rfl) (fun _=>rfl) (fun m _=>(rd_str Tryz.underlying9))
theorem ownExportSelect:ownKnob Tryz.prog.godebug=none:=by kernel_rfl
theorem laidExportSelect:laidOutB Tryz.prog=true:=by kernel_rfl
theorem laidOf {W:World} (h:laidMetH Tryz.prog Rows.exportSelectUptoRow.laid W):laid Tryz.prog W:=by
 have h1 := laidMetH.filter (fun x => x.1 == "internal/strconv.uint64pow10") h
 have h2 := laidMetH.filter (fun x => x.1 == "math/bits.deBruijn64tab") h
 have e1 : Rows.exportSelectUptoRow.laid.filter (fun x => x.1 == "internal/strconv.uint64pow10") = [("internal/strconv.uint64pow10", Rows.laid_internal_strconv_uint64pow10)] := by rfl
 have e2 : Rows.exportSelectUptoRow.laid.filter (fun x => x.1 == "math/bits.deBruijn64tab") = [("math/bits.deBruijn64tab", Rows.laid_math_bits_deBruijn64tab)] := by rfl
 rw [e1] at h1
 rw [e2] at h2
 rw [MakeChecks.laidMetH_plain _ _ _ (by kernel_rfl)] at h1 h2
 have d1:Rows.laid_internal_strconv_uint64pow10 (H:=Unit)=Lib.tabData .u64 Lib.pow10Tab:=by rfl
 have d2:Rows.laid_math_bits_deBruijn64tab (H:=Unit)=Lib.tabData .u8 [0,1,56,2,57,49,28,3,61,58,42,50,38,29,17,4,62,47,59,36,45,43,51,22,53,39,33,30,24,18,12,5,63,55,48,27,60,41,37,16,46,35,44,21,52,32,23,11,54,26,40,15,34,20,31,10,25,14,19,9,13,8,7,6]:=by rfl
 rw [d1] at h1
 rw [d2] at h2
 have gB : Tryz.prog.globalNamed "math/bits.deBruijn64tab" = some 5 := by kernel_rfl
 exact ⟨Lib.tabIs_of_head (g:=0) (t:=156) (e:=33) (by kernel_rfl) (by kernel_rfl) Tryz.underlying156 Tryz.underlying33 (by kernel_rfl) (by kernel_rfl) h1,
  (Lib.tabIs_of_head (t:=178) (e:=5) gB (by kernel_rfl) Tryz.underlying178 Tryz.underlying5 (by kernel_rfl) (by kernel_rfl) h2).cell gB 15 (by decide)⟩
mutual
theorem ub {H:Type}:∀ d:DataW H,Rows.uptoBulk d=wv d
 | .lit l=>by cases l <;> simp only [Rows.uptoBulk,wv]
 | .nil=>by simp only [Rows.uptoBulk,wv]
 | .ptr d=>by simp only [Rows.uptoBulk,wv,ub d]
 | .slice e s=>by simp only [Rows.uptoBulk,wv,ubAll e,ubAll s]
 | .agg p=>by simp only [Rows.uptoBulk,wv,ubAll p]
 | .iface _ d=>by simp only [Rows.uptoBulk,wv,ub d]
 | .map e=>by simp only [Rows.uptoBulk,wv,ubEs e]
 | .held _=>by simp only [Rows.uptoBulk,wv]
theorem ubAll {H:Type}:∀ l:List (DataW H),Rows.uptoBulkAll l=wu l
 | []=>by simp only [Rows.uptoBulkAll,wu]
 | d::r=>by simp only [Rows.uptoBulkAll,wu,ub d,ubAll r]
theorem ubEs {H:Type}:∀ l:List (Lit×DataW H),Rows.uptoBulkEntries l=vBulkEs l
 | []=>by simp only [Rows.uptoBulkEntries,vBulkEs]
 | x::r=>by simp only [Rows.uptoBulkEntries,vBulkEs,ubE x,ubEs r];omega
theorem ubE {H:Type}:∀ x:Lit×DataW H,Rows.uptoBulkEntry x=vBulkE x
 | (l,d)=>by cases l <;> simp only [Rows.uptoBulkEntry,vBulkE,ub d]
end
theorem contractExportSelect (H:Type) (enc:TypeId×Value→H) (W:World) (base:Nat) (args:Array Value) (ds gs:List (DataW H)) (before:List MemPlace)
  (hval:∀ (j:Nat) t v,Tryz.f3.params[j]?=some t→args[j]?=some v→Value.okWide Tryz.prog W .any base t v)
  (hW:DataW.Whole enc Tryz.prog Tryz.f3.params.toList Rows.exportSelectSpec.vars false W args.toList ds gs before) (hk:Rows.uptoSmall H (ds++gs)=true) (hL:laidMetH Tryz.prog Rows.exportSelectUptoRow.laid W) (hsh:W.ShapedOpen Tryz.prog) :
  Calls Tryz.prog 3 args W fun e W'=>∃ v,e=.returned v∧Rows.exportSelectSpec.post enc Tryz.prog Tryz.f3 false true false false W args v W':=by
 haveI:GOk Tryz.prog W.heap.size W:=⟨hsh,Nat.le_refl _,laidOf hL⟩
 have hW':=hW
 obtain ⟨p,q,hA0,hV,rfl,hfz,hnd⟩:=hW
 have hA:DataW.TrodAll enc Tryz.prog W 0 (fun _=>true) true Tryz.f3.params.toList args.toList ds p:=hA0
 rw [Tryz.params3] at hA hval
 obtain ⟨v0,vs0,d0,ds0,p0,q0,hargs,rfl,rfl,t0,r0⟩:=trodAll_cons hA
 obtain ⟨v1,vs1,d1,ds1,p1,q1,rfl,rfl,rfl,t1,r1⟩:=trodAll_cons r0
 obtain ⟨rfl,rfl,rfl⟩:=trodAll_nil r1
 obtain rfl:args=#[v0,v1]:=by cases args;simp_all
 obtain ⟨rfl,rfl⟩:=trodVars_none hV
 clear hA0
 simp only [List.append_nil] at hW'
 obtain ⟨y0,hy0,wf0,bk0⟩:=rd_arg (fun n=>(rdt23 _)) t0
 have hv0:=V.of_one (by rintro cs rfl;have:=hval 0 23 _ rfl rfl;simp [Value.okWide,Tryz.underlying23,Cell.okWide,Cell.ok] at this) hy0
 obtain ⟨y1,hy1,wf1,bk1⟩:=rd_arg (fun n=>(rdt24 _)) t1
 have hv1:=V.of_one (by rintro cs rfl;have:=hval 1 24 _ rfl rfl;simp [Value.okWide,Tryz.underlying24,Cell.okWide,Cell.ok] at this) hy1
 have hlt:∀ x ∈ (p0++p1),x.block < W.heap.size:=fun x hx=>by simpa using hW'.lt x hx
 have hbk:((y0.map GNode.bk).sum+1)+((y1.map (fun s=>s.length+1)).sum+1)≤1048576:=by
  have h:=of_decide_eq_true hk
  simp only [List.cons_append,List.nil_append,List.append_nil,Rows.uptoBulkAll,ub] at h
  omega
 refine ((ok3 (h:=h0) ((law44ExportSelect_top) y0 y1 wf0 wf1 hbk)).2 W.heap.size W (g0 W) W _ (rel0 W) (VL.cons hv0 (VL.cons hv1 (by simp [VL])))).mono fun e W' ⟨v,r,h',g',he,⟨hr,hh⟩,hg,hR,hv⟩=>?_
 subst he hr
 simp only [V] at hv
 subst hv
 exact ⟨_,rfl,post_of_below (pv:=[]) hW' hR.below (fun _ _ _=>(trodAll_cons_mk (shut_bool Tryz.underlying4 _) trodAll_mk0)) (fun sp hsp=>(trodAll_cons_mk (WideElems.Trod_stays laidExportSelect (by kernel_rfl) (of_decide_eq_true (by kernel_rfl)) t0 (fun x hx=>hR.below.same (hlt x (by simp [hx]))) (fun x hx=>hsp x (by simp [hx]))) (trodAll_cons_mk (WideElems.Trod_stays laidExportSelect (by kernel_rfl) (of_decide_eq_true (by kernel_rfl)) t1 (fun x hx=>hR.below.same (hlt x (by simp [hx]))) (fun x hx=>hsp x (by simp [hx]))) trodAll_mk0))) (fun _ _=>rfl) (by simp) (ok_one (by kernel_rfl) rfl (okWide_bool_mk Tryz.underlying4 _))⟩
set_option maxRecDepth 100000 in
theorem witE (os:Os) (H:Type) (enc:TypeId×Value→H):∃ (w:World) (tape:Tape) (i:Input),w.os=os∧(w.forCall tape i).Shaped Tryz.checked.prog∧i.vars=[]∧Input.okWide Tryz.checked.prog (w.forCall tape i) .any w.heap.size 3 i ∧
   (Rows.OpenSpec.upto Rows.exportSelectSpec).preRow enc Tryz.checked.prog Tryz.f3 Rows.exportSelectUptoRow.domain false Rows.exportSelectUptoRow.laid (w.forCall tape i).memory i.args∧({}:Assume).holds Tryz.checked.prog (lone (Frame.enter Tryz.checked.prog 3 i.args .normal) [] (w.forCall tape i)):=by
 have hx:DataW.whole enc Tryz.prog ((World.laidAll Tryz.prog os Rows.exportSelectUptoRow.laid).forCall (fun _ _=>0) ⟨#[],#[.slice none 0 0,.slice none 0 0],[]⟩).memory Tryz.f3.params.toList Rows.exportSelectSpec.vars false #[.slice none 0 0,.slice none 0 0].toList 8=some ([.nil,.nil],[],[]):=by kernel_rfl
 have hok:Input.okWideB Tryz.checked.prog ((World.laidAll Tryz.prog os Rows.exportSelectUptoRow.laid).forCall (fun _ _=>0) ⟨#[],#[.slice none 0 0,.slice none 0 0],[]⟩) 3 ⟨#[],#[.slice none 0 0,.slice none 0 0],[]⟩=true:=by kernel_rfl
 refine ⟨World.laidAll Tryz.prog os Rows.exportSelectUptoRow.laid,fun _ _=>0,⟨#[],#[.slice none 0 0,.slice none 0 0],[]⟩,World.laidAll_os _ _ _,World.shaped_of_ZipB (by kernel_rfl) (by kernel_rfl),(Input.okWide_of_okWideB (base:=0) hok).1,(Input.okWide_of_okWideB hok).2,
  OpenSpec.preRow_of_cond 8 hx (by kernel_rfl) (fun k hk=>by cases hk;kernel_rfl) (by kernel_rfl) (by rw [MakeChecks.laidMetH_plain _ _ _ (by kernel_rfl)];exact laidMet_laidAll _ (by kernel_rfl) (by kernel_rfl)),?_⟩
 simp [Assume.holds]
set_option maxRecDepth 100000 in
theorem liftedExportSelect (os:Os) (started:os.Started) (H:Type) (enc:TypeId×Value→H) (F:Stop.Interp) :
  ReturnsInHanded {} Tryz.checked os 3 .any ((Rows.OpenSpec.upto Rows.exportSelectSpec).preRow enc Tryz.prog Tryz.f3 Rows.exportSelectUptoRow.domain false Rows.exportSelectUptoRow.laid) (((Rows.OpenSpec.upto Rows.exportSelectSpec).at F).post enc Tryz.prog Tryz.f3 false true false false):=by
 refine returnsInHanded_of_row (C:=Tryz.checked) (s:=(Rows.OpenSpec.upto Rows.exportSelectSpec)) ownExportSelect started (by kernel_rfl) Tryz.func3 (witE os H enc) ?_
 intro W base args ds gs before hval hW _ hcond _ hL hsh _
 exact contractExportSelect H enc W base args ds gs before hval hW (hcond _ rfl) hL hsh
theorem saidExportSelect:Rows.ExportSelectUptoSaid :=
 OpenClaim.holds_of_cond 3 Tryz.f3 rfl rfl rfl rfl rfl rfl rfl ⟨rfl,rfl,rfl,rfl,rfl⟩ rfl rfl rfl rfl rfl (by kernel_rfl) Tryz.func3 (by kernel_rfl)
  (of_decide_eq_true (by kernel_rfl)) (by unfold Func.isWrapper;first | (rw [if_pos (by decide +kernel)];kernel_rfl) | (rw [if_neg (by decide +kernel)];exact ⟨rfl,rfl⟩))
  (fun os started H enc _ F=>by rw [OpenClaim.pre_eq_preRow];exact liftedExportSelect os started H enc F)
theorem plainE (f:FuncId) (fn:Func) (hf:Tryz.pinned.checked.prog.funcNamed Rows.exportSelectUptoRow.func=some f) (hfn:Tryz.pinned.checked.prog.funcs[f]?=some fn) :
  true=Tryz.pinned.checked.prog.looks []∧∀ (j:Nat) t,fn.params[j]?=some t→Tryz.pinned.checked.prog.wantsStandIn t=false:=by
 obtain rfl:f=3:=Option.some.inj ((show Tryz.prog.funcNamed Rows.exportSelectUptoRow.func=some 3 by kernel_rfl).symm.trans hf) |>.symm
 obtain rfl:fn=Tryz.f3:=(Option.some.inj (Tryz.func3.symm.trans hfn)).symm
 refine ⟨by kernel_rfl,fun j t ht=>?_⟩
 rw [Tryz.params3] at ht
 have hm:t ∈ [23,24]:=by simpa using Array.mem_of_getElem? ht
 have hall:([23,24].all fun u=>!Tryz.prog.wantsStandIn u)=true:=by kernel_rfl
 exact (show Tryz.prog.wantsStandIn t=false by simpa using List.all_eq_true.1 hall t hm)
theorem ExportSelectUptoHolds:Rows.ExportSelectUptoCardSaid :=
 Claim7.holds_tied_plain_at .later [] _ _ _ _ saidExportSelect (fun _ h=>by cases h) (by kernel_rfl) (fun _ h=>by cases h) exportSelectUpto_row_tie rfl ⟨rfl,rfl⟩ (by kernel_rfl) rfl plainE (by kernel_rfl)
end Go.Proofs.YtfdacjmlbokckaaGreatDoor
