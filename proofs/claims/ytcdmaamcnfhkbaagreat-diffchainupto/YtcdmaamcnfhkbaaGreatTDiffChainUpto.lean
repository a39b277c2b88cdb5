/- The law varve.varvelaw31.DiffChain holds: for every input it returns true, and each argument reads as it read. No condition. -/
import Derived.Test.YtcdmaamcnfhkbaaGreatRows
import Derived.Test.YtcdmaamcnfhkbaaGreatW4
import Derived.Test.YtcdmaamcnfhkbaaGreatPlD0
import Derived.Test.YtcdmaamcnfhkbaaGreatPlD1
import Derived.Test.YtcdmaamcnfhkbaaGreatVvUp
import Derived.ProofKit
import Derived.HandedShaped
import Derived.OpenShut
namespace Go.Proofs.YtcdmaamcnfhkbaaGreat
open Go Go.Vv Go.ChangeShapes Go.WideShapes Go.ChangeAt Go.RowKit
set_option maxRecDepth 100000
set_option linter.unusedVariables false
set_option linter.unusedSimpArgs false
theorem co51:Tryz.prog.cellsOf 51=3:=by kernel_rfl
theorem co23:Tryz.prog.cellsOf 23=1:=by kernel_rfl
theorem co49:Tryz.prog.cellsOf 49=1:=by kernel_rfl
theorem co5:Tryz.prog.cellsOf 5=1:=by kernel_rfl
theorem co40:Tryz.prog.cellsOf 40=1:=by kernel_rfl
theorem co42:Tryz.prog.cellsOf 42=2:=by kernel_rfl
theorem rdGActor {H:Type} {enc:TypeId×Value→H} {W:World} (n:Nat):RdN enc Tryz.prog W n 42 GActor.row GActor.wf GActor.bk :=
 (rd_struct (l:=(match Tryz.prog.underlying 42 with | some (.struct fs)=>fs.toList | _=>[])) (fs:=(match Tryz.prog.underlying 42 with | some (.struct fs)=>fs | _=>#[])) (by kernel_rfl) (by kernel_rfl) co42 (fun m _=>(vn rfl co5 rfl (rd_int Tryz.underlying5) (vn rfl co40 rfl (rd_int Tryz.underlying40) (rf_nil (by decide)))))).map (fun p=>GActor.mk p.1 p.2.1) (fun _=>rfl) (fun a h=>by simpa [GActor.wf,and_assoc] using h) (fun _=>rfl)
theorem co39:Tryz.prog.cellsOf 39=1:=by kernel_rfl
theorem co44:Tryz.prog.cellsOf 44=3:=by kernel_rfl
theorem rdGDot {H:Type} {enc:TypeId×Value→H} {W:World} (n:Nat):RdN enc Tryz.prog W n 44 GDot.row GDot.wf GDot.bk :=
 (rd_struct (l:=(match Tryz.prog.underlying 44 with | some (.struct fs)=>fs.toList | _=>[])) (fs:=(match Tryz.prog.underlying 44 with | some (.struct fs)=>fs | _=>#[])) (by kernel_rfl) (by kernel_rfl) co44 (fun m _=>(vn rfl co42 rfl (rdGActor _) (vn rfl co39 rfl (rd_int Tryz.underlying39) (rf_nil (by decide)))))).map (fun p=>GDot.mk p.1 p.2.1) (fun _=>rfl) (fun a h=>by simpa [GDot.wf,and_assoc] using h) (fun _=>rfl)
theorem co9:Tryz.prog.cellsOf 9=1:=by kernel_rfl
theorem co87:Tryz.prog.cellsOf 87=5:=by kernel_rfl
theorem rdGItem {H:Type} {enc:TypeId×Value→H} {W:World} (n:Nat):RdN enc Tryz.prog W n 87 GItem.row GItem.wf GItem.bk :=
 (rd_struct (l:=(match Tryz.prog.underlying 87 with | some (.struct fs)=>fs.toList | _=>[])) (fs:=(match Tryz.prog.underlying 87 with | some (.struct fs)=>fs | _=>#[])) (by kernel_rfl) (by kernel_rfl) co87 (fun m _=>(vn rfl co39 rfl (rd_int Tryz.underlying39) (vn rfl co44 rfl (rdGDot _) (vn rfl co9 rfl (rd_str Tryz.underlying9) (rf_nil (by decide))))))).map (fun p=>GItem.mk p.1 p.2.1 p.2.2.1) (fun _=>rfl) (fun a h=>by simpa [GItem.wf,and_assoc] using h) (fun _=>rfl)
theorem rdt45 {H:Type} {enc:TypeId×Value→H} {W:World} (n:Nat):RdN enc Tryz.prog W n 45 (fun L:(List GItem)=>[AV.sl 5 (L.map GItem.row)]) (fun L=>L.length≤maxLen∧∀ y ∈ L,GItem.wf y) (fun L=>(L.map GItem.bk).sum+1) :=
 rd_slice Tryz.underlying45 co87 (by decide) (fun _=>rfl) (fun _=>rfl) (fun m _=>(rdGItem _))
theorem rdt46 {H:Type} {enc:TypeId×Value→H} {W:World} (n:Nat):RdN enc Tryz.prog W n 46 (fun L:(List GDot)=>[AV.sl 3 (L.map GDot.row)]) (fun L=>L.length≤maxLen∧∀ y ∈ L,GDot.wf y) (fun L=>(L.map GDot.bk).sum+1) :=
 rd_slice Tryz.underlying46 co44 (by decide) (fun _=>rfl) (fun _=>rfl) (fun m _=>(rdGDot _))
theorem co2:Tryz.prog.cellsOf 2=1:=by kernel_rfl
theorem co45:Tryz.prog.cellsOf 45=1:=by kernel_rfl
theorem co46:Tryz.prog.cellsOf 46=1:=by kernel_rfl
theorem co48:Tryz.prog.cellsOf 48=9:=by kernel_rfl
theorem rdGLeaf {H:Type} {enc:TypeId×Value→H} {W:World} (n:Nat):RdN enc Tryz.prog W n 48 GLeaf.row GLeaf.wf GLeaf.bk :=
 (rd_struct (l:=(match Tryz.prog.underlying 48 with | some (.struct fs)=>fs.toList | _=>[])) (fs:=(match Tryz.prog.underlying 48 with | some (.struct fs)=>fs | _=>#[])) (by kernel_rfl) (by kernel_rfl) co48 (fun m _=>(vn rfl co5 rfl (rd_int Tryz.underlying5) (vn rfl co2 rfl (rd_int Tryz.underlying2) (vn rfl co39 rfl (rd_int Tryz.underlying39) (vn rfl co44 rfl (rdGDot _) (vn rfl co9 rfl (rd_str Tryz.underlying9) (vn rfl co45 rfl (rdt45 _) (vn rfl co46 rfl (rdt46 _) (rf_nil (by decide))))))))))).map (fun p=>GLeaf.mk p.1 p.2.1 p.2.2.1 p.2.2.2.1 p.2.2.2.2.1 p.2.2.2.2.2.1 p.2.2.2.2.2.2.1) (fun _=>rfl) (fun a h=>by simpa [GLeaf.wf,and_assoc] using h) (fun _=>rfl)
theorem rdt49 {H:Type} {enc:TypeId×Value→H} {W:World} (n:Nat):RdN enc Tryz.prog W n 49 (fun L:(List GLeaf)=>[AV.sl 9 (L.map GLeaf.row)]) (fun L=>L.length≤maxLen∧∀ y ∈ L,GLeaf.wf y) (fun L=>(L.map GLeaf.bk).sum+1) :=
 rd_slice Tryz.underlying49 co48 (by decide) (fun _=>rfl) (fun _=>rfl) (fun m _=>(rdGLeaf _))
theorem rdGNode {H:Type} {enc:TypeId×Value→H} {W:World} (n:Nat):RdN enc Tryz.prog W n 51 GNode.row GNode.wf GNode.bk:=by
 induction n using Nat.strongRecOn with
 | _ n ih =>
  exact (rd_struct (l:=(match Tryz.prog.underlying 51 with | some (.struct fs)=>fs.toList | _=>[])) (fs:=(match Tryz.prog.underlying 51 with | some (.struct fs)=>fs | _=>#[])) (by kernel_rfl) (by kernel_rfl) co51 (fun m hm=>(vn rfl co9 rfl (rd_str Tryz.underlying9) (vn rfl co49 rfl (rdt49 _) (vn rfl co23 rfl (rd_slice Tryz.underlying23 co51 (by decide) (fun y=>by rw [GNode.row_eq];rfl) (fun y=>by rw [GNode.row_eq];rfl) (fun q hq=>ih q (by omega))) (rf_nil (by decide))))))).map (fun p=>GNode.mk p.1 p.2.1 p.2.2.1) (fun _=>GNode.row_eq _) (fun a h=>by simp only [GNode.wf,GNode.wfs_iff];simp only [and_assoc,and_true] at h ⊢;first | exact h | simp_all) (fun _=>by simp only [GNode.bk,GNode.bks_eq])
theorem rdt23 {H:Type} {enc:TypeId×Value→H} {W:World} (n:Nat):RdN enc Tryz.prog W n 23 (fun L:(List GNode)=>[AV.sl 3 (L.map GNode.row)]) (fun L=>L.length≤maxLen∧∀ y ∈ L,GNode.wf y) (fun L=>(L.map GNode.bk).sum+1) :=
 rd_slice Tryz.underlying23 co51 (by decide) (fun y=>by rw [GNode.row_eq];rfl) (fun y=>by rw [GNode.row_eq];rfl) (fun m _=>(rdGNode _))
theorem ownDiffChain:ownKnob Tryz.prog.godebug=none:=by kernel_rfl
theorem laidDiffChain:laidOutB Tryz.prog=true:=by kernel_rfl
mutual
theorem ub {H:Type}:∀ d:DataW H,Rows.uptoBulk d=vY d
 | .lit l=>by cases l <;> simp only [Rows.uptoBulk,vY]
 | .nil=>by simp only [Rows.uptoBulk,vY]
 | .ptr d=>by simp only [Rows.uptoBulk,vY,ub d]
 | .slice e s=>by simp only [Rows.uptoBulk,vY,ubAll e,ubAll s]
 | .agg p=>by simp only [Rows.uptoBulk,vY,ubAll p]
 | .iface _ d=>by simp only [Rows.uptoBulk,vY,ub d]
 | .map e=>by simp only [Rows.uptoBulk,vY,ubEs e]
 | .held _=>by simp only [Rows.uptoBulk,vY]
theorem ubAll {H:Type}:∀ l:List (DataW H),Rows.uptoBulkAll l=vX l
 | []=>by simp only [Rows.uptoBulkAll,vX]
 | d::r=>by simp only [Rows.uptoBulkAll,vX,ub d,ubAll r]
theorem ubEs {H:Type}:∀ l:List (Lit×DataW H),Rows.uptoBulkEntries l=vBulkEs l
 | []=>by simp only [Rows.uptoBulkEntries,vBulkEs]
 | x::r=>by simp only [Rows.uptoBulkEntries,vBulkEs,ubE x,ubEs r];omega
theorem ubE {H:Type}:∀ x:Lit×DataW H,Rows.uptoBulkEntry x=vBulkE x
 | (l,d)=>by cases l <;> simp only [Rows.uptoBulkEntry,vBulkE,ub d]
end
theorem contractDiffChain (H:Type) (enc:TypeId×Value→H) (W:World) (base:Nat) (args:Array Value) (ds gs:List (DataW H)) (before:List MemPlace)
  (hval:∀ (j:Nat) t v,Tryz.f3.params[j]?=some t→args[j]?=some v→Value.okWide Tryz.prog W .any base t v)
  (hW:DataW.Whole enc Tryz.prog Tryz.f3.params.toList Rows.diffChainSpec.vars false W args.toList ds gs before) (hk:Rows.uptoSmall H (ds++gs)=true) (hsh:W.ShapedOpen Tryz.prog) :
  Calls Tryz.prog 3 args W fun e W'=>∃ v,e=.returned v∧Rows.diffChainSpec.post enc Tryz.prog Tryz.f3 false true false false W args v W':=by
 haveI:GOk Tryz.prog W.heap.size W:=⟨hsh,Nat.le_refl _⟩
 have hW':=hW
 obtain ⟨p,q,hA0,hV,rfl,hfz,hnd⟩:=hW
 have hA:DataW.TrodAll enc Tryz.prog W 0 (fun _=>true) true Tryz.f3.params.toList args.toList ds p:=hA0
 rw [Tryz.params3] at hA hval
 obtain ⟨v0,vs0,d0,ds0,p0,q0,hargs,rfl,rfl,t0,r0⟩:=trodAll_cons hA
 obtain ⟨v1,vs1,d1,ds1,p1,q1,rfl,rfl,rfl,t1,r1⟩:=trodAll_cons r0
 obtain ⟨v2,vs2,d2,ds2,p2,q2,rfl,rfl,rfl,t2,r2⟩:=trodAll_cons r1
 obtain ⟨rfl,rfl,rfl⟩:=trodAll_nil r2
 obtain rfl:args=#[v0,v1,v2]:=by cases args;simp_all
 obtain ⟨rfl,rfl⟩:=trodVars_none hV
 clear hA0
 simp only [List.append_nil] at hW'
 obtain ⟨y0,hy0,wf0,bk0⟩:=rd_arg (fun n=>(rdt23 _)) t0
 have hv0:=V.of_one (by rintro cs rfl;have:=hval 0 23 _ rfl rfl;simp [Value.okWide,Tryz.underlying23,Cell.okWide,Cell.ok] at this) hy0
 obtain ⟨y1,hy1,wf1,bk1⟩:=rd_arg (fun n=>(rdt23 _)) t1
 have hv1:=V.of_one (by rintro cs rfl;have:=hval 1 23 _ rfl rfl;simp [Value.okWide,Tryz.underlying23,Cell.okWide,Cell.ok] at this) hy1
 obtain ⟨y2,hy2,wf2,bk2⟩:=rd_arg (fun n=>(rdt23 _)) t2
 have hv2:=V.of_one (by rintro cs rfl;have:=hval 2 23 _ rfl rfl;simp [Value.okWide,Tryz.underlying23,Cell.okWide,Cell.ok] at this) hy2
 have hlt:∀ x ∈ (p0++(p1++p2)),x.block < W.heap.size:=fun x hx=>by simpa using hW'.lt x hx
 have hbk:((y0.map GNode.bk).sum+1)+((y1.map GNode.bk).sum+1)+((y2.map GNode.bk).sum+1)≤1048576:=by
  have h:=of_decide_eq_true hk
  simp only [List.cons_append,List.nil_append,List.append_nil,Rows.uptoBulkAll,ub] at h
  omega
 refine ((ok3 (h:=h0) ((law31DiffChain_top) y0 y1 y2 wf0 wf1 wf2 (by omega))).2 W.heap.size W (g0 W) W _ (rel0 W) (VL.cons hv0 (VL.cons hv1 (VL.cons hv2 (by simp [VL]))))).mono fun e W' ⟨v,r,h',g',he,⟨hr,hh⟩,hg,hR,hv⟩=>?_
 subst he hr
 simp only [V] at hv
 subst hv
 exact ⟨_,rfl,post_of_below (pv:=[]) hW' hR.below (fun _ _ _=>(trodAll_cons_mk (shut_bool Tryz.underlying4 _) trodAll_mk0)) (fun sp hsp=>(trodAll_cons_mk (WideElems.Trod_stays laidDiffChain (by kernel_rfl) (of_decide_eq_true (by kernel_rfl)) t0 (fun x hx=>hR.below.same (hlt x (by simp [hx]))) (fun x hx=>hsp x (by simp [hx]))) (trodAll_cons_mk (WideElems.Trod_stays laidDiffChain (by kernel_rfl) (of_decide_eq_true (by kernel_rfl)) t1 (fun x hx=>hR.below.same (hlt x (by simp [hx]))) (fun x hx=>hsp x (by simp [hx]))) (trodAll_cons_mk (WideElems.Trod_stays laidDiffChain (by kernel_rfl) (of_decide_eq_true (by kernel_rfl)) t2 (fun x hx=>hR.below.same (hlt x (by simp [hx]))) (fun x hx=>hsp x (by simp [hx]))) trodAll_mk0)))) (fun _ _=>rfl) (by simp) (ok_one (by kernel_rfl) rfl (okWide_bool_mk Tryz.underlying4 _))⟩
set_option maxRecDepth 100000 in
theorem liftedDiffChain (os:Os) (started:os.Started) (H:Type) (enc:TypeId×Value→H) (F:Stop.Interp) :
  ReturnsInHanded {} Tryz.checked os 3 .any ((Rows.OpenSpec.upto Rows.diffChainSpec).pre6 enc Tryz.prog Tryz.f3 Rows.diffChainUptoRow.domain false) (((Rows.OpenSpec.upto Rows.diffChainSpec).at F).post enc Tryz.prog Tryz.f3 false true false false):=by
 refine returns_cond_shaped (C:=Tryz.checked) (s:=(Rows.OpenSpec.upto Rows.diffChainSpec)) (k:=Rows.uptoSmall) rfl ownDiffChain started (by kernel_rfl) Tryz.func3
  (OpenSpec.witness (enc:=enc) (C:=Tryz.checked) (s:=(Rows.OpenSpec.upto Rows.diffChainSpec)) (k:=Rows.uptoSmall) rfl false ⟨#[],#[.slice none 0 0,.slice none 0 0,.slice none 0 0],[]⟩ 8 (by kernel_rfl) (by kernel_rfl) (by kernel_rfl)
   (x:=(([.nil,.nil,.nil],[],[]))) (by kernel_rfl) rfl (by kernel_rfl)) ?_
 intro W base args ds gs before hval hW hk hsh
 exact contractDiffChain H enc W base args ds gs before hval hW hk hsh
set_option maxHeartbeats 4000000 in
theorem closedDiffChain:joinedFacts Tryz.pinned.checked.prog 3 Tryz.f3 (Rows.OpenSpec.upto Rows.diffChainSpec).bare Rows.diffChainUptoRow=true:=by
 unfold joinedFacts
 simp only [Bool.and_eq_true]
 repeat' apply And.intro
 all_goals as_aux_lemma=>kernel_rfl
theorem namedDiffChain:Tryz.pinned.checked.prog.funcNamed Rows.diffChainUptoRow.func=some 3:=by kernel_rfl
theorem instDiffChain:Tryz.f3.isInstance Tryz.pinned.checked.prog Rows.diffChainUptoRow.origin Rows.diffChainUptoRow.targs:=of_decide_eq_true (by kernel_rfl)
theorem DiffChainUptoHolds:Rows.DiffChainUptoSaid :=
 OpenClaim.holds_of_cond 3 Tryz.f3 rfl rfl rfl rfl rfl rfl rfl ⟨rfl,rfl,rfl,rfl,rfl⟩ rfl rfl rfl rfl rfl namedDiffChain Tryz.func3 closedDiffChain
  instDiffChain (by unfold Func.isWrapper;first | (rw [if_pos (by decide +kernel)];kernel_rfl) | (rw [if_neg (by decide +kernel)];exact ⟨rfl,rfl⟩))
  (fun os started H enc _ F=>liftedDiffChain os started H enc F)
end Go.Proofs.YtcdmaamcnfhkbaaGreat
