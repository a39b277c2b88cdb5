/- The law varve.varvelaw10.FoldFolds holds: for every input it returns true, and each argument reads as it read. No condition. -/
import Derived.Test.YtdgbnljehpacjaaGreatRows
import Derived.Test.YtdgbnljehpacjaaGreatW8
import Derived.Test.YtdgbnljehpacjaaGreatPlX1
import Derived.Test.YtdgbnljehpacjaaGreatPlF1
import Derived.Test.YtdgbnljehpacjaaGreatVvZ
import Derived.ProofKit
import Derived.HandedShaped
import Derived.OpenShut
namespace Go.Proofs.YtdgbnljehpacjaaGreat
open Go Go.Vv Go.ChangeShapes Go.WideShapes Go.ChangeAt Go.RowKit
set_option maxRecDepth 100000
set_option linter.unusedVariables false
set_option linter.unusedSimpArgs false
theorem co49:Tryz.prog.cellsOf 49=3:=by kernel_rfl
theorem co23:Tryz.prog.cellsOf 23=1:=by kernel_rfl
theorem co47:Tryz.prog.cellsOf 47=1:=by kernel_rfl
theorem co5:Tryz.prog.cellsOf 5=1:=by kernel_rfl
theorem co31:Tryz.prog.cellsOf 31=1:=by kernel_rfl
theorem co33:Tryz.prog.cellsOf 33=2:=by kernel_rfl
theorem rdGActor {H:Type} {enc:TypeId×Value->H} {W:World} (n:Nat):RdN enc Tryz.prog W n 33 GJ.row GJ.wf GJ.bk :=
 (rd_struct (l:=(match Tryz.prog.underlying 33 with | some (.struct fs)=>fs.toList | _=>[])) (fs:=(match Tryz.prog.underlying 33 with | some (.struct fs)=>fs | _=>#[])) (by kernel_rfl) (by kernel_rfl) co33 (λm _=>(xg rfl co5 rfl (rd_int Tryz.underlying5) (xg rfl co31 rfl (rd_int Tryz.underlying31) (rf_nil (by decide)))))).map (λp=>GJ.mk p.1 p.2.1) (λ_=>rfl) (λa h=>by simpa [GJ.wf,sI] using h) (λ_=>rfl)
theorem co34:Tryz.prog.cellsOf 34=1:=by kernel_rfl
theorem co36:Tryz.prog.cellsOf 36=3:=by kernel_rfl
theorem rdGDot {H:Type} {enc:TypeId×Value->H} {W:World} (n:Nat):RdN enc Tryz.prog W n 36 GE.row GE.wf GE.bk :=
 (rd_struct (l:=(match Tryz.prog.underlying 36 with | some (.struct fs)=>fs.toList | _=>[])) (fs:=(match Tryz.prog.underlying 36 with | some (.struct fs)=>fs | _=>#[])) (by kernel_rfl) (by kernel_rfl) co36 (λm _=>(xg rfl co33 rfl (rdGActor _) (xg rfl co34 rfl (rd_int Tryz.underlying34) (rf_nil (by decide)))))).map (λp=>GE.mk p.1 p.2.1) (λ_=>rfl) (λa h=>by simpa [GE.wf,sI] using h) (λ_=>rfl)
theorem co9:Tryz.prog.cellsOf 9=1:=by kernel_rfl
theorem co73:Tryz.prog.cellsOf 73=5:=by kernel_rfl
theorem rdGItem {H:Type} {enc:TypeId×Value->H} {W:World} (n:Nat):RdN enc Tryz.prog W n 73 GF.row GF.wf GF.bk :=
 (rd_struct (l:=(match Tryz.prog.underlying 73 with | some (.struct fs)=>fs.toList | _=>[])) (fs:=(match Tryz.prog.underlying 73 with | some (.struct fs)=>fs | _=>#[])) (by kernel_rfl) (by kernel_rfl) co73 (λm _=>(xg rfl co34 rfl (rd_int Tryz.underlying34) (xg rfl co36 rfl (rdGDot _) (xg rfl co9 rfl (rd_str Tryz.underlying9) (rf_nil (by decide))))))).map (λp=>GF.mk p.1 p.2.1 p.2.2.1) (λ_=>rfl) (λa h=>by simpa [GF.wf,sI] using h) (λ_=>rfl)
theorem rdt53 {H:Type} {enc:TypeId×Value->H} {W:World} (n:Nat):RdN enc Tryz.prog W n 53 (λL:(List GF)=>[AV.sl 5 (L.map GF.row)]) (λL=>L.length<=maxLen/\∀y ∈ L,GF.wf y) (λL=>(L.map GF.bk).sum+1) :=
 rd_slice Tryz.underlying53 co73 (by decide) (λ_=>rfl) (λ_=>rfl) (λm _=>(rdGItem _))
theorem rdt38 {H:Type} {enc:TypeId×Value->H} {W:World} (n:Nat):RdN enc Tryz.prog W n 38 (λL:(List GE)=>[AV.sl 3 (L.map GE.row)]) (λL=>L.length<=maxLen/\∀y ∈ L,GE.wf y) (λL=>(L.map GE.bk).sum+1) :=
 rd_slice Tryz.underlying38 co36 (by decide) (λ_=>rfl) (λ_=>rfl) (λm _=>(rdGDot _))
theorem co2:Tryz.prog.cellsOf 2=1:=by kernel_rfl
theorem co53:Tryz.prog.cellsOf 53=1:=by kernel_rfl
theorem co38:Tryz.prog.cellsOf 38=1:=by kernel_rfl
theorem co55:Tryz.prog.cellsOf 55=9:=by kernel_rfl
theorem rdGLeaf {H:Type} {enc:TypeId×Value->H} {W:World} (n:Nat):RdN enc Tryz.prog W n 55 GC.row GC.wf GC.bk :=
 (rd_struct (l:=(match Tryz.prog.underlying 55 with | some (.struct fs)=>fs.toList | _=>[])) (fs:=(match Tryz.prog.underlying 55 with | some (.struct fs)=>fs | _=>#[])) (by kernel_rfl) (by kernel_rfl) co55 (λm _=>(xg rfl co5 rfl (rd_int Tryz.underlying5) (xg rfl co2 rfl (rd_int Tryz.underlying2) (xg rfl co34 rfl (rd_int Tryz.underlying34) (xg rfl co36 rfl (rdGDot _) (xg rfl co9 rfl (rd_str Tryz.underlying9) (xg rfl co53 rfl (rdt53 _) (xg rfl co38 rfl (rdt38 _) (rf_nil (by decide))))))))))).map (λp=>GC.mk p.1 p.2.1 p.2.2.1 p.2.2.2.1 p.2.2.2.2.1 p.2.2.2.2.2.1 p.2.2.2.2.2.2.1) (λ_=>rfl) (λa h=>by simpa [GC.wf,sI] using h) (λ_=>rfl)
theorem rdt47 {H:Type} {enc:TypeId×Value->H} {W:World} (n:Nat):RdN enc Tryz.prog W n 47 (λL:(List GC)=>[AV.sl 9 (L.map GC.row)]) (λL=>L.length<=maxLen/\∀y ∈ L,GC.wf y) (λL=>(L.map GC.bk).sum+1) :=
 rd_slice Tryz.underlying47 co55 (by decide) (λ_=>rfl) (λ_=>rfl) (λm _=>(rdGLeaf _))
theorem rdGNode {H:Type} {enc:TypeId×Value->H} {W:World} (n:Nat):RdN enc Tryz.prog W n 49 GA.row GA.wf GA.bk:=by
 induction n using Nat.strongRecOn with
 | _ n ih =>
  exact (rd_struct (l:=(match Tryz.prog.underlying 49 with | some (.struct fs)=>fs.toList | _=>[])) (fs:=(match Tryz.prog.underlying 49 with | some (.struct fs)=>fs | _=>#[])) (by kernel_rfl) (by kernel_rfl) co49 (λm hm=>(xg rfl co9 rfl (rd_str Tryz.underlying9) (xg rfl co47 rfl (rdt47 _) (xg rfl co23 rfl (rd_slice Tryz.underlying23 co49 (by decide) (λy=>by rw [GA.row_eq];rfl) (λy=>by rw [GA.row_eq];rfl) (λq hq=>ih q (by omega))) (rf_nil (by decide))))))).map (λp=>GA.mk p.1 p.2.1 p.2.2.1) (λ_=>GA.row_eq _) (λa h=>by simp only [GA.wf,GA.wfs_iff];simp only [sI,tQ] at h ⊢;first | exact h | simp_all) (λ_=>by simp only [GA.bk,GA.bks_eq])
theorem rdt23 {H:Type} {enc:TypeId×Value->H} {W:World} (n:Nat):RdN enc Tryz.prog W n 23 (λL:(List GA)=>[AV.sl 3 (L.map GA.row)]) (λL=>L.length<=maxLen/\∀y ∈ L,GA.wf y) (λL=>(L.map GA.bk).sum+1) :=
 rd_slice Tryz.underlying23 co49 (by decide) (λy=>by rw [GA.row_eq];rfl) (λy=>by rw [GA.row_eq];rfl) (λm _=>(rdGNode _))
theorem rdt37 {H:Type} {enc:TypeId×Value->H} {W:World} (n:Nat):RdN enc Tryz.prog W n 37 (λL:(List zu)=>[AV.sl 1 (L.map zN)]) (λL=>L.length<=maxLen/\∀y ∈ L,y.length<=maxLen) (λL=>(L.map (λs=>s.length+1)).sum+1) :=
 rd_slice Tryz.underlying37 co9 (by decide) (λ_=>rfl) (λ_=>rfl) (λm _=>(rd_str Tryz.underlying9))
theorem co37:Tryz.prog.cellsOf 37=1:=by kernel_rfl
theorem co40:Tryz.prog.cellsOf 40=5:=by kernel_rfl
theorem rdGOp {H:Type} {enc:TypeId×Value->H} {W:World} (n:Nat):RdN enc Tryz.prog W n 40 GK.row GK.wf GK.bk :=
 (rd_struct (l:=(match Tryz.prog.underlying 40 with | some (.struct fs)=>fs.toList | _=>[])) (fs:=(match Tryz.prog.underlying 40 with | some (.struct fs)=>fs | _=>#[])) (by kernel_rfl) (by kernel_rfl) co40 (λm _=>(xg rfl co5 rfl (rd_int Tryz.underlying5) (xg rfl co37 rfl (rdt37 _) (xg rfl co2 rfl (rd_int Tryz.underlying2) (xg rfl co9 rfl (rd_str Tryz.underlying9) (xg rfl co38 rfl (rdt38 _) (rf_nil (by decide))))))))).map (λp=>GK.mk p.1 p.2.1 p.2.2.1 p.2.2.2.1 p.2.2.2.2.1) (λ_=>rfl) (λa h=>by simpa [GK.wf,sI] using h) (λ_=>rfl)
theorem co42:Tryz.prog.cellsOf 42=9:=by kernel_rfl
theorem rdGEvent {H:Type} {enc:TypeId×Value->H} {W:World} (n:Nat):RdN enc Tryz.prog W n 42 GH.row GH.wf GH.bk :=
 (rd_struct (l:=(match Tryz.prog.underlying 42 with | some (.struct fs)=>fs.toList | _=>[])) (fs:=(match Tryz.prog.underlying 42 with | some (.struct fs)=>fs | _=>#[])) (by kernel_rfl) (by kernel_rfl) co42 (λm _=>(xg rfl co36 rfl (rdGDot _) (xg rfl co34 rfl (rd_int Tryz.underlying34) (xg rfl co40 rfl (rdGOp _) (rf_nil (by decide))))))).map (λp=>GH.mk p.1 p.2.1 p.2.2.1) (λ_=>rfl) (λa h=>by simpa [GH.wf,sI] using h) (λ_=>rfl)
theorem rdt24 {H:Type} {enc:TypeId×Value->H} {W:World} (n:Nat):RdN enc Tryz.prog W n 24 (λL:(List GH)=>[AV.sl 9 (L.map GH.row)]) (λL=>L.length<=maxLen/\∀y ∈ L,GH.wf y) (λL=>(L.map GH.bk).sum+1) :=
 rd_slice Tryz.underlying24 co42 (by decide) (λ_=>rfl) (λ_=>rfl) (λm _=>(rdGEvent _))
theorem ownFoldFolds:ownKnob Tryz.prog.godebug=none:=by kernel_rfl
theorem laidFoldFolds:laidOutB Tryz.prog=true:=by kernel_rfl
mutual
theorem ub {H:Type}:∀d:DataW H,Rows.uptoBulk d=wR d
 | .lit l=>by cases l <;> simp only [Rows.uptoBulk,wR]
 | .nil=>by simp only [Rows.uptoBulk,wR]
 | .ptr d=>by simp only [Rows.uptoBulk,wR,ub d]
 | .slice e s=>by simp only [Rows.uptoBulk,wR,ubAll e,ubAll s]
 | .agg p=>by simp only [Rows.uptoBulk,wR,ubAll p]
 | .iface _ d=>by simp only [Rows.uptoBulk,wR,ub d]
 | .map e=>by simp only [Rows.uptoBulk,wR,ubEs e]
 | .held _=>by simp only [Rows.uptoBulk,wR]
theorem ubAll {H:Type}:∀l:List (DataW H),Rows.uptoBulkAll l=wQ l
 | []=>by simp only [Rows.uptoBulkAll,wQ]
 | d::r=>by simp only [Rows.uptoBulkAll,wQ,ub d,ubAll r]
theorem ubEs {H:Type}:∀l:List (Lit×DataW H),Rows.uptoBulkEntries l=vBulkEs l
 | []=>by simp only [Rows.uptoBulkEntries,vBulkEs]
 | x::r=>by simp only [Rows.uptoBulkEntries,vBulkEs,ubE x,ubEs r];omega
theorem ubE {H:Type}:∀x:Lit×DataW H,Rows.uptoBulkEntry x=vBulkE x
 | (l,d)=>by cases l <;> simp only [Rows.uptoBulkEntry,vBulkE,ub d]
end
theorem contractFoldFolds (H:Type) (enc:TypeId×Value->H) (W:World) (base:Nat) (args:Array Value) (ds gs:List (DataW H)) (before:List MemPlace)
  (hval:∀(j:Nat) t v,Tryz.f3.params[j]?=some t->args[j]?=some v->Value.okWide Tryz.prog W .any base t v)
  (hW:DataW.Whole enc Tryz.prog Tryz.f3.params.toList Rows.foldFoldsSpec.vars false W args.toList ds gs before) (hk:Rows.uptoSmall H (ds++gs)=true) (hsh:W.ShapedOpen Tryz.prog) :
  Calls Tryz.prog 3 args W λe W'=>∃v,e=.returned v/\Rows.foldFoldsSpec.post enc Tryz.prog Tryz.f3 false true false false W args v W':=by
 haveI:GOk Tryz.prog W.heap.size W:=⟨hsh,uh _,trivial⟩
 have hW':=hW;obtain ⟨p,q,hA0,hV,rfl,hfz,hnd⟩:=hW;have hA:DataW.TrodAll enc Tryz.prog W 0 (λ_=>true) true Tryz.f3.params.toList args.toList ds p:=hA0;rw [Tryz.params3] at hA hval;obtain ⟨v0,vs0,d0,ds0,p0,q0,hargs,rfl,rfl,t0,r0⟩:=trodAll_cons hA;obtain ⟨v1,vs1,d1,ds1,p1,q1,rfl,rfl,rfl,t1,r1⟩:=trodAll_cons r0;obtain ⟨rfl,rfl,rfl⟩:=trodAll_nil r1;obtain rfl:args=#[v0,v1]:=by cases args;simp_all
 obtain ⟨rfl,rfl⟩:=trodVars_none hV;clear hA0;simp only [sq] at hW';obtain ⟨y0,hy0,wf0,bk0⟩:=rd_arg (λn=>(rdt23 _)) t0;have hv0:=V.of_one (by rintro cs rfl;have:=hval 0 23 _ rfl rfl;simp [Value.okWide,Tryz.underlying23,Cell.okWide,Cell.ok] at this) hy0;obtain ⟨y1,hy1,wf1,bk1⟩:=rd_arg (λn=>(rdt24 _)) t1;have hv1:=V.of_one (by rintro cs rfl;have:=hval 1 24 _ rfl rfl;simp [Value.okWide,Tryz.underlying24,Cell.okWide,Cell.ok] at this) hy1;have hlt:∀x ∈ (p0++p1),x.block < W.heap.size:=λx hx=>by simpa using hW'.lt x hx
 have hbk:((y0.map GA.bk).sum+1)+((y1.map GH.bk).sum+1)<=1048576:=by
  have h:=tq hk;simp only [tP,uR,sq,Rows.uptoBulkAll,ub] at h;omega
 refine ((ok3 (h:=h0) ((law10FoldFolds_top) y0 y1 wf0 wf1 hbk)).2 W.heap.size W (g0 W) W _ (rel0 W) (VL.cons hv0 (VL.cons hv1 (by simp [VL])))).mono λe W' ⟨v,r,h',g',he,⟨hr,hh⟩,hg,hR,hv⟩=>?_;subst he hr;simp only [V] at hv;subst hv;exact ⟨_,rfl,post_of_below (pv:=[]) hW' hR.below (λ_ _ _=>(trodAll_cons_mk (shut_bool Tryz.underlying4 _) trodAll_mk0)) (λsp hsp=>(trodAll_cons_mk (WideElems.Trod_stays laidFoldFolds (by kernel_rfl) (tq (by kernel_rfl)) t0 (λx hx=>hR.below.same (hlt x (by simp [hx]))) (λx hx=>hsp x (by simp [hx]))) (trodAll_cons_mk (WideElems.Trod_stays laidFoldFolds (by kernel_rfl) (tq (by kernel_rfl)) t1 (λx hx=>hR.below.same (hlt x (by simp [hx]))) (λx hx=>hsp x (by simp [hx]))) trodAll_mk0))) (λ_ _=>rfl) (by simp) (ok_one (by kernel_rfl) rfl (okWide_bool_mk Tryz.underlying4 _))⟩
set_option maxRecDepth 100000 in
theorem liftedFoldFolds (os:Os) (started:os.Started) (H:Type) (enc:TypeId×Value->H) (F:Stop.Interp) :
  ReturnsInHanded {} Tryz.checked os 3 .any ((Rows.OpenSpec.upto Rows.foldFoldsSpec).pre6 enc Tryz.prog Tryz.f3 Rows.foldFoldsUptoRow.domain false) (((Rows.OpenSpec.upto Rows.foldFoldsSpec).at F).post enc Tryz.prog Tryz.f3 false true false false):=by
 refine returns_cond_shaped (C:=Tryz.checked) (s:=(Rows.OpenSpec.upto Rows.foldFoldsSpec)) (k:=Rows.uptoSmall) rfl ownFoldFolds started (by kernel_rfl) Tryz.func3
  (OpenSpec.witness (enc:=enc) (C:=Tryz.checked) (s:=(Rows.OpenSpec.upto Rows.foldFoldsSpec)) (k:=Rows.uptoSmall) rfl false ⟨#[],#[.slice none 0 0,.slice none 0 0],[]⟩ 8 (by kernel_rfl) (by kernel_rfl) (by kernel_rfl)
   (x:=(([.nil,.nil],[],[]))) (by kernel_rfl) rfl (by kernel_rfl)) ?_
 intro W base args ds gs before hval hW hk hsh;exact contractFoldFolds H enc W base args ds gs before hval hW hk hsh
set_option maxHeartbeats 4000000 in
theorem closedFoldFolds:joinedFacts Tryz.pinned.checked.prog 3 Tryz.f3 (Rows.OpenSpec.upto Rows.foldFoldsSpec).bare Rows.foldFoldsUptoRow=true:=by
 unfold joinedFacts;simp only [ud]
 repeat' apply And.intro
 all_goals as_aux_lemma=>kernel_rfl
theorem namedFoldFolds:Tryz.pinned.checked.prog.funcNamed Rows.foldFoldsUptoRow.func=some 3:=by kernel_rfl
theorem instFoldFolds:Tryz.f3.isInstance Tryz.pinned.checked.prog Rows.foldFoldsUptoRow.origin Rows.foldFoldsUptoRow.targs:=tq (by kernel_rfl)
theorem FoldFoldsUptoHolds:Rows.FoldFoldsUptoSaid :=
 OpenClaim.holds_of_cond 3 Tryz.f3 rfl rfl rfl rfl rfl rfl rfl ⟨rfl,rfl,rfl,rfl,rfl⟩ rfl rfl rfl rfl rfl namedFoldFolds Tryz.func3 closedFoldFolds
  instFoldFolds (by unfold Func.isWrapper;first | (rw [uv (by decide +kernel)];kernel_rfl) | (rw [uC (by decide +kernel)];exact ⟨rfl,rfl⟩))
  (λos started H enc _ F=>liftedFoldFolds os started H enc F)
end Go.Proofs.YtdgbnljehpacjaaGreat
