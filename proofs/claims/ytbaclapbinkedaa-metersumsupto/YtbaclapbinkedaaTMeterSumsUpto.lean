/- The law varve.varvelaw45.MeterSums holds: for every input it returns true, and each argument reads as it read. No condition. -/
import Derived.Test.YtbaclapbinkedaaRows
import Derived.Test.YtbaclapbinkedaaW4
import Derived.Test.YtbaclapbinkedaaPlN0
import Derived.Test.YtbaclapbinkedaaPlN1
import Derived.Test.YtbaclapbinkedaaVvUp
import Derived.ProofKit
import Derived.HandedShaped
import Derived.OpenShut
namespace Go.Proofs.Ytbaclapbinkedaa
open Go Go.Vv Go.ChangeShapes Go.WideShapes Go.ChangeAt Go.RowKit
set_option maxRecDepth 100000
set_option linter.unusedVariables false
set_option linter.unusedSimpArgs false
theorem co41:Try.prog.cellsOf 41=3:=by kernel_rfl
theorem co23:Try.prog.cellsOf 23=1:=by kernel_rfl
theorem co39:Try.prog.cellsOf 39=1:=by kernel_rfl
theorem co5:Try.prog.cellsOf 5=1:=by kernel_rfl
theorem co49:Try.prog.cellsOf 49=1:=by kernel_rfl
theorem co51:Try.prog.cellsOf 51=2:=by kernel_rfl
theorem rdGActor {H:Type} {enc:TypeId×Value→H} {W:World} (n:Nat):RdN enc Try.prog W n 51 GActor.row GActor.wf GActor.bk :=
 (rd_struct (l:=(match Try.prog.underlying 51 with | some (.struct fs)=>fs.toList | _=>[])) (fs:=(match Try.prog.underlying 51 with | some (.struct fs)=>fs | _=>#[])) (by kernel_rfl) (by kernel_rfl) co51 (fun m _=>(wK rfl co5 rfl (rd_int Try.underlying5) (wK rfl co49 rfl (rd_int Try.underlying49) (rf_nil (by decide)))))).map (fun p=>GActor.mk p.1 p.2.1) (fun _=>rfl) (fun a h=>by simpa [GActor.wf,and_assoc] using h) (fun _=>rfl)
theorem co48:Try.prog.cellsOf 48=1:=by kernel_rfl
theorem co53:Try.prog.cellsOf 53=3:=by kernel_rfl
theorem rdGDot {H:Type} {enc:TypeId×Value→H} {W:World} (n:Nat):RdN enc Try.prog W n 53 GDot.row GDot.wf GDot.bk :=
 (rd_struct (l:=(match Try.prog.underlying 53 with | some (.struct fs)=>fs.toList | _=>[])) (fs:=(match Try.prog.underlying 53 with | some (.struct fs)=>fs | _=>#[])) (by kernel_rfl) (by kernel_rfl) co53 (fun m _=>(wK rfl co51 rfl (rdGActor _) (wK rfl co48 rfl (rd_int Try.underlying48) (rf_nil (by decide)))))).map (fun p=>GDot.mk p.1 p.2.1) (fun _=>rfl) (fun a h=>by simpa [GDot.wf,and_assoc] using h) (fun _=>rfl)
theorem co9:Try.prog.cellsOf 9=1:=by kernel_rfl
theorem co56:Try.prog.cellsOf 56=5:=by kernel_rfl
theorem rdGItem {H:Type} {enc:TypeId×Value→H} {W:World} (n:Nat):RdN enc Try.prog W n 56 GItem.row GItem.wf GItem.bk :=
 (rd_struct (l:=(match Try.prog.underlying 56 with | some (.struct fs)=>fs.toList | _=>[])) (fs:=(match Try.prog.underlying 56 with | some (.struct fs)=>fs | _=>#[])) (by kernel_rfl) (by kernel_rfl) co56 (fun m _=>(wK rfl co48 rfl (rd_int Try.underlying48) (wK rfl co53 rfl (rdGDot _) (wK rfl co9 rfl (rd_str Try.underlying9) (rf_nil (by decide))))))).map (fun p=>GItem.mk p.1 p.2.1 p.2.2.1) (fun _=>rfl) (fun a h=>by simpa [GItem.wf,and_assoc] using h) (fun _=>rfl)
theorem rdt57 {H:Type} {enc:TypeId×Value→H} {W:World} (n:Nat):RdN enc Try.prog W n 57 (fun L:(List GItem)=>[AV.sl 5 (L.map GItem.row)]) (fun L=>L.length≤maxLen∧∀ y ∈ L,GItem.wf y) (fun L=>(L.map GItem.bk).sum+1) :=
 rd_slice Try.underlying57 co56 (by decide) (fun _=>rfl) (fun _=>rfl) (fun m _=>(rdGItem _))
theorem rdt26 {H:Type} {enc:TypeId×Value→H} {W:World} (n:Nat):RdN enc Try.prog W n 26 (fun L:(List GDot)=>[AV.sl 3 (L.map GDot.row)]) (fun L=>L.length≤maxLen∧∀ y ∈ L,GDot.wf y) (fun L=>(L.map GDot.bk).sum+1) :=
 rd_slice Try.underlying26 co53 (by decide) (fun _=>rfl) (fun _=>rfl) (fun m _=>(rdGDot _))
theorem co2:Try.prog.cellsOf 2=1:=by kernel_rfl
theorem co57:Try.prog.cellsOf 57=1:=by kernel_rfl
theorem co26:Try.prog.cellsOf 26=1:=by kernel_rfl
theorem co59:Try.prog.cellsOf 59=9:=by kernel_rfl
theorem rdGLeaf {H:Type} {enc:TypeId×Value→H} {W:World} (n:Nat):RdN enc Try.prog W n 59 GLeaf.row GLeaf.wf GLeaf.bk :=
 (rd_struct (l:=(match Try.prog.underlying 59 with | some (.struct fs)=>fs.toList | _=>[])) (fs:=(match Try.prog.underlying 59 with | some (.struct fs)=>fs | _=>#[])) (by kernel_rfl) (by kernel_rfl) co59 (fun m _=>(wK rfl co5 rfl (rd_int Try.underlying5) (wK rfl co2 rfl (rd_int Try.underlying2) (wK rfl co48 rfl (rd_int Try.underlying48) (wK rfl co53 rfl (rdGDot _) (wK rfl co9 rfl (rd_str Try.underlying9) (wK rfl co57 rfl (rdt57 _) (wK rfl co26 rfl (rdt26 _) (rf_nil (by decide))))))))))).map (fun p=>GLeaf.mk p.1 p.2.1 p.2.2.1 p.2.2.2.1 p.2.2.2.2.1 p.2.2.2.2.2.1 p.2.2.2.2.2.2.1) (fun _=>rfl) (fun a h=>by simpa [GLeaf.wf,and_assoc] using h) (fun _=>rfl)
theorem rdt39 {H:Type} {enc:TypeId×Value→H} {W:World} (n:Nat):RdN enc Try.prog W n 39 (fun L:(List GLeaf)=>[AV.sl 9 (L.map GLeaf.row)]) (fun L=>L.length≤maxLen∧∀ y ∈ L,GLeaf.wf y) (fun L=>(L.map GLeaf.bk).sum+1) :=
 rd_slice Try.underlying39 co59 (by decide) (fun _=>rfl) (fun _=>rfl) (fun m _=>(rdGLeaf _))
theorem rdGNode {H:Type} {enc:TypeId×Value→H} {W:World} (n:Nat):RdN enc Try.prog W n 41 GNode.row GNode.wf GNode.bk:=by
 induction n using Nat.strongRecOn with
 | _ n ih =>
  exact (rd_struct (l:=(match Try.prog.underlying 41 with | some (.struct fs)=>fs.toList | _=>[])) (fs:=(match Try.prog.underlying 41 with | some (.struct fs)=>fs | _=>#[])) (by kernel_rfl) (by kernel_rfl) co41 (fun m hm=>(wK rfl co9 rfl (rd_str Try.underlying9) (wK rfl co39 rfl (rdt39 _) (wK rfl co23 rfl (rd_slice Try.underlying23 co41 (by decide) (fun y=>by rw [GNode.row_eq];rfl) (fun y=>by rw [GNode.row_eq];rfl) (fun q hq=>ih q (by omega))) (rf_nil (by decide))))))).map (fun p=>GNode.mk p.1 p.2.1 p.2.2.1) (fun _=>GNode.row_eq _) (fun a h=>by simp only [GNode.wf,GNode.wfs_iff];simp only [and_assoc,and_true] at h ⊢;first | exact h | simp_all) (fun _=>by simp only [GNode.bk,GNode.bks_eq])
theorem rdt23 {H:Type} {enc:TypeId×Value→H} {W:World} (n:Nat):RdN enc Try.prog W n 23 (fun L:(List GNode)=>[AV.sl 3 (L.map GNode.row)]) (fun L=>L.length≤maxLen∧∀ y ∈ L,GNode.wf y) (fun L=>(L.map GNode.bk).sum+1) :=
 rd_slice Try.underlying23 co41 (by decide) (fun y=>by rw [GNode.row_eq];rfl) (fun y=>by rw [GNode.row_eq];rfl) (fun m _=>(rdGNode _))
theorem ownMeterSums:ownKnob Try.prog.godebug=none:=by kernel_rfl
theorem laidMeterSums:laidOutB Try.prog=true:=by kernel_rfl
mutual
theorem ub {H:Type}:∀ d:DataW H,Rows.uptoBulk d=vB d
 | .lit l=>by cases l <;> simp only [Rows.uptoBulk,vB]
 | .nil=>by simp only [Rows.uptoBulk,vB]
 | .ptr d=>by simp only [Rows.uptoBulk,vB,ub d]
 | .slice e s=>by simp only [Rows.uptoBulk,vB,ubAll e,ubAll s]
 | .agg p=>by simp only [Rows.uptoBulk,vB,ubAll p]
 | .iface _ d=>by simp only [Rows.uptoBulk,vB,ub d]
 | .map e=>by simp only [Rows.uptoBulk,vB,ubEs e]
 | .held _=>by simp only [Rows.uptoBulk,vB]
theorem ubAll {H:Type}:∀ l:List (DataW H),Rows.uptoBulkAll l=vA l
 | []=>by simp only [Rows.uptoBulkAll,vA]
 | d::r=>by simp only [Rows.uptoBulkAll,vA,ub d,ubAll r]
theorem ubEs {H:Type}:∀ l:List (Lit×DataW H),Rows.uptoBulkEntries l=vBulkEs l
 | []=>by simp only [Rows.uptoBulkEntries,vBulkEs]
 | x::r=>by simp only [Rows.uptoBulkEntries,vBulkEs,ubE x,ubEs r];omega
theorem ubE {H:Type}:∀ x:Lit×DataW H,Rows.uptoBulkEntry x=vBulkE x
 | (l,d)=>by cases l <;> simp only [Rows.uptoBulkEntry,vBulkE,ub d]
end
theorem contractMeterSums (H:Type) (enc:TypeId×Value→H) (W:World) (base:Nat) (args:Array Value) (ds gs:List (DataW H)) (before:List MemPlace)
  (hval:∀ (j:Nat) t v,Try.f3.params[j]?=some t→args[j]?=some v→Value.okWide Try.prog W .any base t v)
  (hW:DataW.Whole enc Try.prog Try.f3.params.toList Rows.meterSumsSpec.vars false W args.toList ds gs before) (hk:Rows.uptoSmall H (ds++gs)=true) (hsh:W.ShapedOpen Try.prog) :
  Calls Try.prog 3 args W fun e W'=>∃ v,e=.returned v∧Rows.meterSumsSpec.post enc Try.prog Try.f3 false true false false W args v W':=by
 haveI:GOk Try.prog W.heap.size W:=⟨hsh,Nat.le_refl _⟩
 have hW':=hW
 obtain ⟨p,q,hA0,hV,rfl,hfz,hnd⟩:=hW
 have hA:DataW.TrodAll enc Try.prog W 0 (fun _=>true) true Try.f3.params.toList args.toList ds p:=hA0
 rw [Try.params3] at hA hval
 obtain ⟨v0,vs0,d0,ds0,p0,q0,hargs,rfl,rfl,t0,r0⟩:=trodAll_cons hA
 obtain ⟨rfl,rfl,rfl⟩:=trodAll_nil r0
 obtain rfl:args=#[v0]:=by cases args;simp_all
 obtain ⟨rfl,rfl⟩:=trodVars_none hV
 clear hA0
 simp only [List.append_nil] at hW'
 obtain ⟨y0,hy0,wf0,bk0⟩:=rd_arg (fun n=>(rdt23 _)) t0
 have hv0:=V.of_one (by rintro cs rfl;have:=hval 0 23 _ rfl rfl;simp [Value.okWide,Try.underlying23,Cell.okWide,Cell.ok] at this) hy0
 have hlt:∀ x ∈ p0,x.block < W.heap.size:=fun x hx=>by simpa using hW'.lt x hx
 have hbk:((y0.map GNode.bk).sum+1)≤1048576:=by
  have h:=of_decide_eq_true hk
  simp only [List.cons_append,List.nil_append,List.append_nil,Rows.uptoBulkAll,ub] at h
  omega
 refine ((ok3 (h:=h0) ((law45MeterSums_top) y0 wf0 hbk)).2 W.heap.size W (g0 W) W _ (rel0 W) (VL.cons hv0 (by simp [VL]))).mono fun e W' ⟨v,r,h',g',he,⟨hr,hh⟩,hg,hR,hv⟩=>?_
 subst he hr
 simp only [V] at hv
 subst hv
 exact ⟨_,rfl,post_of_below (pv:=[]) hW' hR.below (fun _ _ _=>(trodAll_cons_mk (shut_bool Try.underlying4 _) trodAll_mk0)) (fun sp hsp=>(trodAll_cons_mk (WideElems.Trod_stays laidMeterSums (by kernel_rfl) (of_decide_eq_true (by kernel_rfl)) t0 (fun x hx=>hR.below.same (hlt x (by simp [hx]))) (fun x hx=>hsp x (by simp [hx]))) trodAll_mk0)) (fun _ _=>rfl) (by simp) (ok_one (by kernel_rfl) rfl (okWide_bool_mk Try.underlying4 _))⟩
set_option maxRecDepth 100000 in
theorem liftedMeterSums (os:Os) (started:os.Started) (H:Type) (enc:TypeId×Value→H) (F:Stop.Interp) :
  ReturnsInHanded {} Try.checked os 3 .any ((Rows.OpenSpec.upto Rows.meterSumsSpec).pre6 enc Try.prog Try.f3 Rows.meterSumsUptoRow.domain false) (((Rows.OpenSpec.upto Rows.meterSumsSpec).at F).post enc Try.prog Try.f3 false true false false):=by
 refine returns_cond_shaped (C:=Try.checked) (s:=(Rows.OpenSpec.upto Rows.meterSumsSpec)) (k:=Rows.uptoSmall) rfl ownMeterSums started (by kernel_rfl) Try.func3
  (OpenSpec.witness (enc:=enc) (C:=Try.checked) (s:=(Rows.OpenSpec.upto Rows.meterSumsSpec)) (k:=Rows.uptoSmall) rfl false ⟨#[],#[.slice none 0 0],[]⟩ 8 (by kernel_rfl) (by kernel_rfl) (by kernel_rfl)
   (x:=(([.nil],[],[]))) (by kernel_rfl) rfl (by kernel_rfl)) ?_
 intro W base args ds gs before hval hW hk hsh
 exact contractMeterSums H enc W base args ds gs before hval hW hk hsh
set_option maxHeartbeats 4000000 in
theorem closedMeterSums:joinedFacts Try.pinned.checked.prog 3 Try.f3 (Rows.OpenSpec.upto Rows.meterSumsSpec).bare Rows.meterSumsUptoRow=true:=by
 unfold joinedFacts
 simp only [Bool.and_eq_true]
 repeat' apply And.intro
 all_goals as_aux_lemma=>kernel_rfl
theorem namedMeterSums:Try.pinned.checked.prog.funcNamed Rows.meterSumsUptoRow.func=some 3:=by kernel_rfl
theorem instMeterSums:Try.f3.isInstance Try.pinned.checked.prog Rows.meterSumsUptoRow.origin Rows.meterSumsUptoRow.targs:=of_decide_eq_true (by kernel_rfl)
theorem MeterSumsUptoHolds:Rows.MeterSumsUptoSaid :=
 OpenClaim.holds_of_cond 3 Try.f3 rfl rfl rfl rfl rfl rfl rfl ⟨rfl,rfl,rfl,rfl,rfl⟩ rfl rfl rfl rfl rfl namedMeterSums Try.func3 closedMeterSums
  instMeterSums (by unfold Func.isWrapper;first | (rw [if_pos (by decide +kernel)];kernel_rfl) | (rw [if_neg (by decide +kernel)];exact ⟨rfl,rfl⟩))
  (fun os started H enc _ F=>liftedMeterSums os started H enc F)
end Go.Proofs.Ytbaclapbinkedaa
