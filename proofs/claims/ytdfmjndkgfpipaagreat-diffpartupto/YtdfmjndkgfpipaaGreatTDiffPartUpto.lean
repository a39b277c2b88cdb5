/- The law varve.varvelaw31.DiffPart holds: for every input it returns true, and each argument reads as it read. No condition. -/
import Derived.Test.YtdfmjndkgfpipaaGreatRows
import Derived.Test.YtdfmjndkgfpipaaGreatW4
import Derived.Test.YtdfmjndkgfpipaaGreatPlD0
import Derived.Test.YtdfmjndkgfpipaaGreatPlD1
import Derived.Test.YtdfmjndkgfpipaaGreatVvUp
import Derived.ProofKit
import Derived.HandedShaped
import Derived.OpenShut
namespace Go.Proofs.YtdfmjndkgfpipaaGreat
open Go Go.Vv Go.ChangeShapes Go.WideShapes Go.ChangeAt Go.RowKit
set_option maxRecDepth 100000
set_option linter.unusedVariables false
set_option linter.unusedSimpArgs false
theorem co59:Tryz.prog.cellsOf 59=3:=by kernel_rfl
theorem co23:Tryz.prog.cellsOf 23=1:=by kernel_rfl
theorem co57:Tryz.prog.cellsOf 57=1:=by kernel_rfl
theorem co5:Tryz.prog.cellsOf 5=1:=by kernel_rfl
theorem co34:Tryz.prog.cellsOf 34=1:=by kernel_rfl
theorem co36:Tryz.prog.cellsOf 36=2:=by kernel_rfl
theorem rdGActor {H:Type} {enc:TypeId×Value→H} {W:World} (n:Nat):RdN enc Tryz.prog W n 36 GActor.row GActor.wf GActor.bk :=
 (rd_struct (l:=(match Tryz.prog.underlying 36 with | some (.struct fs)=>fs.toList | _=>[])) (fs:=(match Tryz.prog.underlying 36 with | some (.struct fs)=>fs | _=>#[])) (by kernel_rfl) (by kernel_rfl) co36 (fun m _=>(wZ rfl co5 rfl (rd_int Tryz.underlying5) (wZ rfl co34 rfl (rd_int Tryz.underlying34) (rf_nil (by decide)))))).map (fun p=>GActor.mk p.1 p.2.1) (fun _=>rfl) (fun a h=>by simpa [GActor.wf,and_assoc] using h) (fun _=>rfl)
theorem co33:Tryz.prog.cellsOf 33=1:=by kernel_rfl
theorem co38:Tryz.prog.cellsOf 38=3:=by kernel_rfl
theorem rdGDot {H:Type} {enc:TypeId×Value→H} {W:World} (n:Nat):RdN enc Tryz.prog W n 38 GDot.row GDot.wf GDot.bk :=
 (rd_struct (l:=(match Tryz.prog.underlying 38 with | some (.struct fs)=>fs.toList | _=>[])) (fs:=(match Tryz.prog.underlying 38 with | some (.struct fs)=>fs | _=>#[])) (by kernel_rfl) (by kernel_rfl) co38 (fun m _=>(wZ rfl co36 rfl (rdGActor _) (wZ rfl co33 rfl (rd_int Tryz.underlying33) (rf_nil (by decide)))))).map (fun p=>GDot.mk p.1 p.2.1) (fun _=>rfl) (fun a h=>by simpa [GDot.wf,and_assoc] using h) (fun _=>rfl)
theorem co9:Tryz.prog.cellsOf 9=1:=by kernel_rfl
theorem co93:Tryz.prog.cellsOf 93=5:=by kernel_rfl
theorem rdGItem {H:Type} {enc:TypeId×Value→H} {W:World} (n:Nat):RdN enc Tryz.prog W n 93 GItem.row GItem.wf GItem.bk :=
 (rd_struct (l:=(match Tryz.prog.underlying 93 with | some (.struct fs)=>fs.toList | _=>[])) (fs:=(match Tryz.prog.underlying 93 with | some (.struct fs)=>fs | _=>#[])) (by kernel_rfl) (by kernel_rfl) co93 (fun m _=>(wZ rfl co33 rfl (rd_int Tryz.underlying33) (wZ rfl co38 rfl (rdGDot _) (wZ rfl co9 rfl (rd_str Tryz.underlying9) (rf_nil (by decide))))))).map (fun p=>GItem.mk p.1 p.2.1 p.2.2.1) (fun _=>rfl) (fun a h=>by simpa [GItem.wf,and_assoc] using h) (fun _=>rfl)
theorem rdt39 {H:Type} {enc:TypeId×Value→H} {W:World} (n:Nat):RdN enc Tryz.prog W n 39 (fun L:(List GItem)=>[AV.sl 5 (L.map GItem.row)]) (fun L=>L.length≤maxLen∧∀ y ∈ L,GItem.wf y) (fun L=>(L.map GItem.bk).sum+1) :=
 rd_slice Tryz.underlying39 co93 (by decide) (fun _=>rfl) (fun _=>rfl) (fun m _=>(rdGItem _))
theorem rdt40 {H:Type} {enc:TypeId×Value→H} {W:World} (n:Nat):RdN enc Tryz.prog W n 40 (fun L:(List GDot)=>[AV.sl 3 (L.map GDot.row)]) (fun L=>L.length≤maxLen∧∀ y ∈ L,GDot.wf y) (fun L=>(L.map GDot.bk).sum+1) :=
 rd_slice Tryz.underlying40 co38 (by decide) (fun _=>rfl) (fun _=>rfl) (fun m _=>(rdGDot _))
theorem co2:Tryz.prog.cellsOf 2=1:=by kernel_rfl
theorem co39:Tryz.prog.cellsOf 39=1:=by kernel_rfl
theorem co40:Tryz.prog.cellsOf 40=1:=by kernel_rfl
theorem co42:Tryz.prog.cellsOf 42=9:=by kernel_rfl
theorem rdGLeaf {H:Type} {enc:TypeId×Value→H} {W:World} (n:Nat):RdN enc Tryz.prog W n 42 GLeaf.row GLeaf.wf GLeaf.bk :=
 (rd_struct (l:=(match Tryz.prog.underlying 42 with | some (.struct fs)=>fs.toList | _=>[])) (fs:=(match Tryz.prog.underlying 42 with | some (.struct fs)=>fs | _=>#[])) (by kernel_rfl) (by kernel_rfl) co42 (fun m _=>(wZ rfl co5 rfl (rd_int Tryz.underlying5) (wZ rfl co2 rfl (rd_int Tryz.underlying2) (wZ rfl co33 rfl (rd_int Tryz.underlying33) (wZ rfl co38 rfl (rdGDot _) (wZ rfl co9 rfl (rd_str Tryz.underlying9) (wZ rfl co39 rfl (rdt39 _) (wZ rfl co40 rfl (rdt40 _) (rf_nil (by decide))))))))))).map (fun p=>GLeaf.mk p.1 p.2.1 p.2.2.1 p.2.2.2.1 p.2.2.2.2.1 p.2.2.2.2.2.1 p.2.2.2.2.2.2.1) (fun _=>rfl) (fun a h=>by simpa [GLeaf.wf,and_assoc] using h) (fun _=>rfl)
theorem rdt57 {H:Type} {enc:TypeId×Value→H} {W:World} (n:Nat):RdN enc Tryz.prog W n 57 (fun L:(List GLeaf)=>[AV.sl 9 (L.map GLeaf.row)]) (fun L=>L.length≤maxLen∧∀ y ∈ L,GLeaf.wf y) (fun L=>(L.map GLeaf.bk).sum+1) :=
 rd_slice Tryz.underlying57 co42 (by decide) (fun _=>rfl) (fun _=>rfl) (fun m _=>(rdGLeaf _))
theorem rdGNode {H:Type} {enc:TypeId×Value→H} {W:World} (n:Nat):RdN enc Tryz.prog W n 59 GNode.row GNode.wf GNode.bk:=by
 induction n using Nat.strongRecOn with
 | _ n ih =>
  exact (rd_struct (l:=(match Tryz.prog.underlying 59 with | some (.struct fs)=>fs.toList | _=>[])) (fs:=(match Tryz.prog.underlying 59 with | some (.struct fs)=>fs | _=>#[])) (by kernel_rfl) (by kernel_rfl) co59 (fun m hm=>(wZ rfl co9 rfl (rd_str Tryz.underlying9) (wZ rfl co57 rfl (rdt57 _) (wZ rfl co23 rfl (rd_slice Tryz.underlying23 co59 (by decide) (fun y=>by rw [GNode.row_eq];rfl) (fun y=>by rw [GNode.row_eq];rfl) (fun q hq=>ih q (by omega))) (rf_nil (by decide))))))).map (fun p=>GNode.mk p.1 p.2.1 p.2.2.1) (fun _=>GNode.row_eq _) (fun a h=>by simp only [GNode.wf,GNode.wfs_iff];simp only [and_assoc,and_true] at h ⊢;first | exact h | simp_all) (fun _=>by simp only [GNode.bk,GNode.bks_eq])
theorem rdt23 {H:Type} {enc:TypeId×Value→H} {W:World} (n:Nat):RdN enc Tryz.prog W n 23 (fun L:(List GNode)=>[AV.sl 3 (L.map GNode.row)]) (fun L=>L.length≤maxLen∧∀ y ∈ L,GNode.wf y) (fun L=>(L.map GNode.bk).sum+1) :=
 rd_slice Tryz.underlying23 co59 (by decide) (fun y=>by rw [GNode.row_eq];rfl) (fun y=>by rw [GNode.row_eq];rfl) (fun m _=>(rdGNode _))
theorem rdt24 {H:Type} {enc:TypeId×Value→H} {W:World} (n:Nat):RdN enc Tryz.prog W n 24 (fun L:(List zJ)=>[AV.sl 1 (L.map zP)]) (fun L=>L.length≤maxLen∧∀ y ∈ L,y.length≤maxLen) (fun L=>(L.map (fun s=>s.length+1)).sum+1) :=
 rd_slice Tryz.underlying24 co9 (by decide) (fun _=>rfl) (fun _=>rfl) (fun m _=>(rd_str Tryz.underlying9))
theorem ownDiffPart:ownKnob Tryz.prog.godebug=none:=by kernel_rfl
theorem laidDiffPart:laidOutB Tryz.prog=true:=by kernel_rfl
mutual
theorem ub {H:Type}:∀ d:DataW H,Rows.uptoBulk d=vS d
 | .lit l=>by cases l <;> simp only [Rows.uptoBulk,vS]
 | .nil=>by simp only [Rows.uptoBulk,vS]
 | .ptr d=>by simp only [Rows.uptoBulk,vS,ub d]
 | .slice e s=>by simp only [Rows.uptoBulk,vS,ubAll e,ubAll s]
 | .agg p=>by simp only [Rows.uptoBulk,vS,ubAll p]
 | .iface _ d=>by simp only [Rows.uptoBulk,vS,ub d]
 | .map e=>by simp only [Rows.uptoBulk,vS,ubEs e]
 | .held _=>by simp only [Rows.uptoBulk,vS]
theorem ubAll {H:Type}:∀ l:List (DataW H),Rows.uptoBulkAll l=vR l
 | []=>by simp only [Rows.uptoBulkAll,vR]
 | d::r=>by simp only [Rows.uptoBulkAll,vR,ub d,ubAll r]
theorem ubEs {H:Type}:∀ l:List (Lit×DataW H),Rows.uptoBulkEntries l=vBulkEs l
 | []=>by simp only [Rows.uptoBulkEntries,vBulkEs]
 | x::r=>by simp only [Rows.uptoBulkEntries,vBulkEs,ubE x,ubEs r];omega
theorem ubE {H:Type}:∀ x:Lit×DataW H,Rows.uptoBulkEntry x=vBulkE x
 | (l,d)=>by cases l <;> simp only [Rows.uptoBulkEntry,vBulkE,ub d]
end
theorem contractDiffPart (H:Type) (enc:TypeId×Value→H) (W:World) (base:Nat) (args:Array Value) (ds gs:List (DataW H)) (before:List MemPlace)
  (hval:∀ (j:Nat) t v,Tryz.f3.params[j]?=some t→args[j]?=some v→Value.okWide Tryz.prog W .any base t v)
  (hW:DataW.Whole enc Tryz.prog Tryz.f3.params.toList Rows.diffPartSpec.vars false W args.toList ds gs before) (hk:Rows.uptoSmall H (ds++gs)=true) (hsh:W.ShapedOpen Tryz.prog) :
  Calls Tryz.prog 3 args W fun e W'=>∃ v,e=.returned v∧Rows.diffPartSpec.post enc Tryz.prog Tryz.f3 false true false false W args v W':=by
 haveI:GOk Tryz.prog W.heap.size W:=⟨hsh,Nat.le_refl _⟩
 have hW':=hW
 obtain ⟨p,q,hA0,hV,rfl,hfz,hnd⟩:=hW
 have hA:DataW.TrodAll enc Tryz.prog W 0 (fun _=>true) true Tryz.f3.params.toList args.toList ds p:=hA0
 rw [Tryz.params3] at hA hval
 obtain ⟨v0,vs0,d0,ds0,p0,q0,hargs,rfl,rfl,t0,r0⟩:=trodAll_cons hA
 obtain ⟨v1,vs1,d1,ds1,p1,q1,rfl,rfl,rfl,t1,r1⟩:=trodAll_cons r0
 obtain ⟨v2,vs2,d2,ds2,p2,q2,rfl,rfl,rfl,t2,r2⟩:=trodAll_cons r1
 obtain ⟨rfl,rfl,rfl⟩:=trodAll_nil r2
 obtain rfl:args=#[v0,v1,v2]:=by cases args;simp_all
 obtain ⟨rfl,rfl⟩:=trodVars_none hV
 clear hA0
 simp only [List.append_nil] at hW'
 obtain ⟨y0,hy0,wf0,bk0⟩:=rd_arg (fun n=>(rdt23 _)) t0
 have hv0:=V.of_one (by rintro cs rfl;have:=hval 0 23 _ rfl rfl;simp [Value.okWide,Tryz.underlying23,Cell.okWide,Cell.ok] at this) hy0
 obtain ⟨y1,hy1,wf1,bk1⟩:=rd_arg (fun n=>(rdt23 _)) t1
 have hv1:=V.of_one (by rintro cs rfl;have:=hval 1 23 _ rfl rfl;simp [Value.okWide,Tryz.underlying23,Cell.okWide,Cell.ok] at this) hy1
 obtain ⟨y2,hy2,wf2,bk2⟩:=rd_arg (fun n=>(rdt24 _)) t2
 have hv2:=V.of_one (by rintro cs rfl;have:=hval 2 24 _ rfl rfl;simp [Value.okWide,Tryz.underlying24,Cell.okWide,Cell.ok] at this) hy2
 have hlt:∀ x ∈ (p0++(p1++p2)),x.block < W.heap.size:=fun x hx=>by simpa using hW'.lt x hx
 have hbk:((y0.map GNode.bk).sum+1)+((y1.map GNode.bk).sum+1)+((y2.map (fun s=>s.length+1)).sum+1)≤1048576:=by
  have h:=of_decide_eq_true hk
  simp only [List.cons_append,List.nil_append,List.append_nil,Rows.uptoBulkAll,ub] at h
  omega
 refine ((ok3 (h:=h0) ((law31DiffPart_top) y0 y1 y2 wf0 wf1 wf2 hbk)).2 W.heap.size W (g0 W) W _ (rel0 W) (VL.cons hv0 (VL.cons hv1 (VL.cons hv2 (by simp [VL]))))).mono fun e W' ⟨v,r,h',g',he,⟨hr,hh⟩,hg,hR,hv⟩=>?_
 subst he hr
 simp only [V] at hv
 subst hv
 exact ⟨_,rfl,post_of_below (pv:=[]) hW' hR.below (fun _ _ _=>(trodAll_cons_mk (shut_bool Tryz.underlying4 _) trodAll_mk0)) (fun sp hsp=>(trodAll_cons_mk (WideElems.Trod_stays laidDiffPart (by kernel_rfl) (of_decide_eq_true (by kernel_rfl)) t0 (fun x hx=>hR.below.same (hlt x (by simp [hx]))) (fun x hx=>hsp x (by simp [hx]))) (trodAll_cons_mk (WideElems.Trod_stays laidDiffPart (by kernel_rfl) (of_decide_eq_true (by kernel_rfl)) t1 (fun x hx=>hR.below.same (hlt x (by simp [hx]))) (fun x hx=>hsp x (by simp [hx]))) (trodAll_cons_mk (WideElems.Trod_stays laidDiffPart (by kernel_rfl) (of_decide_eq_true (by kernel_rfl)) t2 (fun x hx=>hR.below.same (hlt x (by simp [hx]))) (fun x hx=>hsp x (by simp [hx]))) trodAll_mk0)))) (fun _ _=>rfl) (by simp) (ok_one (by kernel_rfl) rfl (okWide_bool_mk Tryz.underlying4 _))⟩
set_option maxRecDepth 100000 in
theorem liftedDiffPart (os:Os) (started:os.Started) (H:Type) (enc:TypeId×Value→H) (F:Stop.Interp) :
  ReturnsInHanded {} Tryz.checked os 3 .any ((Rows.OpenSpec.upto Rows.diffPartSpec).pre6 enc Tryz.prog Tryz.f3 Rows.diffPartUptoRow.domain false) (((Rows.OpenSpec.upto Rows.diffPartSpec).at F).post enc Tryz.prog Tryz.f3 false true false false):=by
 refine returns_cond_shaped (C:=Tryz.checked) (s:=(Rows.OpenSpec.upto Rows.diffPartSpec)) (k:=Rows.uptoSmall) rfl ownDiffPart started (by kernel_rfl) Tryz.func3
  (OpenSpec.witness (enc:=enc) (C:=Tryz.checked) (s:=(Rows.OpenSpec.upto Rows.diffPartSpec)) (k:=Rows.uptoSmall) rfl false ⟨#[],#[.slice none 0 0,.slice none 0 0,.slice none 0 0],[]⟩ 8 (by kernel_rfl) (by kernel_rfl) (by kernel_rfl)
   (x:=(([.nil,.nil,.nil],[],[]))) (by kernel_rfl) rfl (by kernel_rfl)) ?_
 intro W base args ds gs before hval hW hk hsh
 exact contractDiffPart H enc W base args ds gs before hval hW hk hsh
set_option maxHeartbeats 4000000 in
theorem closedDiffPart:joinedFacts Tryz.pinned.checked.prog 3 Tryz.f3 (Rows.OpenSpec.upto Rows.diffPartSpec).bare Rows.diffPartUptoRow=true:=by
 unfold joinedFacts
 simp only [Bool.and_eq_true]
 repeat' apply And.intro
 all_goals as_aux_lemma=>kernel_rfl
theorem namedDiffPart:Tryz.pinned.checked.prog.funcNamed Rows.diffPartUptoRow.func=some 3:=by kernel_rfl
theorem instDiffPart:Tryz.f3.isInstance Tryz.pinned.checked.prog Rows.diffPartUptoRow.origin Rows.diffPartUptoRow.targs:=of_decide_eq_true (by kernel_rfl)
theorem DiffPartUptoHolds:Rows.DiffPartUptoSaid :=
 OpenClaim.holds_of_cond 3 Tryz.f3 rfl rfl rfl rfl rfl rfl rfl ⟨rfl,rfl,rfl,rfl,rfl⟩ rfl rfl rfl rfl rfl namedDiffPart Tryz.func3 closedDiffPart
  instDiffPart (by unfold Func.isWrapper;first | (rw [if_pos (by decide +kernel)];kernel_rfl) | (rw [if_neg (by decide +kernel)];exact ⟨rfl,rfl⟩))
  (fun os started H enc _ F=>liftedDiffPart os started H enc F)
end Go.Proofs.YtdfmjndkgfpipaaGreat
