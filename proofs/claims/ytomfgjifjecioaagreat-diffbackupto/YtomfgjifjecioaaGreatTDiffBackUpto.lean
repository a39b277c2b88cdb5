/- The law varve.varvelaw31.DiffBack holds: for every input it returns true, and each argument reads as it read. No condition. -/
import Derived.Test.YtomfgjifjecioaaGreatRows
import Derived.Test.YtomfgjifjecioaaGreatW4
import Derived.Test.YtomfgjifjecioaaGreatPlD0
import Derived.Test.YtomfgjifjecioaaGreatPlD1
import Derived.Test.YtomfgjifjecioaaGreatVvUp
import Derived.ProofKit
import Derived.HandedShaped
import Derived.OpenShut
namespace Go.Proofs.YtomfgjifjecioaaGreat
open Go Go.Vv Go.ChangeShapes Go.WideShapes Go.ChangeAt Go.RowKit
set_option maxRecDepth 100000
set_option linter.unusedVariables false
set_option linter.unusedSimpArgs false
theorem co48:Tryz.prog.cellsOf 48=3:=by kernel_rfl
theorem co23:Tryz.prog.cellsOf 23=1:=by kernel_rfl
theorem co46:Tryz.prog.cellsOf 46=1:=by kernel_rfl
theorem co5:Tryz.prog.cellsOf 5=1:=by kernel_rfl
theorem co37:Tryz.prog.cellsOf 37=1:=by kernel_rfl
theorem co39:Tryz.prog.cellsOf 39=2:=by kernel_rfl
theorem rdGActor {H:Type} {enc:TypeId×Value→H} {W:World} (n:Nat):RdN enc Tryz.prog W n 39 GActor.row GActor.wf GActor.bk :=
 (rd_struct (l:=(match Tryz.prog.underlying 39 with | some (.struct fs)=>fs.toList | _=>[])) (fs:=(match Tryz.prog.underlying 39 with | some (.struct fs)=>fs | _=>#[])) (by kernel_rfl) (by kernel_rfl) co39 (fun m _=>(wU rfl co5 rfl (rd_int Tryz.underlying5) (wU rfl co37 rfl (rd_int Tryz.underlying37) (rf_nil (by decide)))))).map (fun p=>GActor.mk p.1 p.2.1) (fun _=>rfl) (fun a h=>by simpa [GActor.wf,and_assoc] using h) (fun _=>rfl)
theorem co36:Tryz.prog.cellsOf 36=1:=by kernel_rfl
theorem co41:Tryz.prog.cellsOf 41=3:=by kernel_rfl
theorem rdGDot {H:Type} {enc:TypeId×Value→H} {W:World} (n:Nat):RdN enc Tryz.prog W n 41 GDot.row GDot.wf GDot.bk :=
 (rd_struct (l:=(match Tryz.prog.underlying 41 with | some (.struct fs)=>fs.toList | _=>[])) (fs:=(match Tryz.prog.underlying 41 with | some (.struct fs)=>fs | _=>#[])) (by kernel_rfl) (by kernel_rfl) co41 (fun m _=>(wU rfl co39 rfl (rdGActor _) (wU rfl co36 rfl (rd_int Tryz.underlying36) (rf_nil (by decide)))))).map (fun p=>GDot.mk p.1 p.2.1) (fun _=>rfl) (fun a h=>by simpa [GDot.wf,and_assoc] using h) (fun _=>rfl)
theorem co9:Tryz.prog.cellsOf 9=1:=by kernel_rfl
theorem co87:Tryz.prog.cellsOf 87=5:=by kernel_rfl
theorem rdGItem {H:Type} {enc:TypeId×Value→H} {W:World} (n:Nat):RdN enc Tryz.prog W n 87 GItem.row GItem.wf GItem.bk :=
 (rd_struct (l:=(match Tryz.prog.underlying 87 with | some (.struct fs)=>fs.toList | _=>[])) (fs:=(match Tryz.prog.underlying 87 with | some (.struct fs)=>fs | _=>#[])) (by kernel_rfl) (by kernel_rfl) co87 (fun m _=>(wU rfl co36 rfl (rd_int Tryz.underlying36) (wU rfl co41 rfl (rdGDot _) (wU rfl co9 rfl (rd_str Tryz.underlying9) (rf_nil (by decide))))))).map (fun p=>GItem.mk p.1 p.2.1 p.2.2.1) (fun _=>rfl) (fun a h=>by simpa [GItem.wf,and_assoc] using h) (fun _=>rfl)
theorem rdt42 {H:Type} {enc:TypeId×Value→H} {W:World} (n:Nat):RdN enc Tryz.prog W n 42 (fun L:(List GItem)=>[AV.sl 5 (L.map GItem.row)]) (fun L=>L.length≤maxLen∧∀ y ∈ L,GItem.wf y) (fun L=>(L.map GItem.bk).sum+1) :=
 rd_slice Tryz.underlying42 co87 (by decide) (fun _=>rfl) (fun _=>rfl) (fun m _=>(rdGItem _))
theorem rdt43 {H:Type} {enc:TypeId×Value→H} {W:World} (n:Nat):RdN enc Tryz.prog W n 43 (fun L:(List GDot)=>[AV.sl 3 (L.map GDot.row)]) (fun L=>L.length≤maxLen∧∀ y ∈ L,GDot.wf y) (fun L=>(L.map GDot.bk).sum+1) :=
 rd_slice Tryz.underlying43 co41 (by decide) (fun _=>rfl) (fun _=>rfl) (fun m _=>(rdGDot _))
theorem co2:Tryz.prog.cellsOf 2=1:=by kernel_rfl
theorem co42:Tryz.prog.cellsOf 42=1:=by kernel_rfl
theorem co43:Tryz.prog.cellsOf 43=1:=by kernel_rfl
theorem co45:Tryz.prog.cellsOf 45=9:=by kernel_rfl
theorem rdGLeaf {H:Type} {enc:TypeId×Value→H} {W:World} (n:Nat):RdN enc Tryz.prog W n 45 GLeaf.row GLeaf.wf GLeaf.bk :=
 (rd_struct (l:=(match Tryz.prog.underlying 45 with | some (.struct fs)=>fs.toList | _=>[])) (fs:=(match Tryz.prog.underlying 45 with | some (.struct fs)=>fs | _=>#[])) (by kernel_rfl) (by kernel_rfl) co45 (fun m _=>(wU rfl co5 rfl (rd_int Tryz.underlying5) (wU rfl co2 rfl (rd_int Tryz.underlying2) (wU rfl co36 rfl (rd_int Tryz.underlying36) (wU rfl co41 rfl (rdGDot _) (wU rfl co9 rfl (rd_str Tryz.underlying9) (wU rfl co42 rfl (rdt42 _) (wU rfl co43 rfl (rdt43 _) (rf_nil (by decide))))))))))).map (fun p=>GLeaf.mk p.1 p.2.1 p.2.2.1 p.2.2.2.1 p.2.2.2.2.1 p.2.2.2.2.2.1 p.2.2.2.2.2.2.1) (fun _=>rfl) (fun a h=>by simpa [GLeaf.wf,and_assoc] using h) (fun _=>rfl)
theorem rdt46 {H:Type} {enc:TypeId×Value→H} {W:World} (n:Nat):RdN enc Tryz.prog W n 46 (fun L:(List GLeaf)=>[AV.sl 9 (L.map GLeaf.row)]) (fun L=>L.length≤maxLen∧∀ y ∈ L,GLeaf.wf y) (fun L=>(L.map GLeaf.bk).sum+1) :=
 rd_slice Tryz.underlying46 co45 (by decide) (fun _=>rfl) (fun _=>rfl) (fun m _=>(rdGLeaf _))
theorem rdGNode {H:Type} {enc:TypeId×Value→H} {W:World} (n:Nat):RdN enc Tryz.prog W n 48 GNode.row GNode.wf GNode.bk:=by
 induction n using Nat.strongRecOn with
 | _ n ih =>
  exact (rd_struct (l:=(match Tryz.prog.underlying 48 with | some (.struct fs)=>fs.toList | _=>[])) (fs:=(match Tryz.prog.underlying 48 with | some (.struct fs)=>fs | _=>#[])) (by kernel_rfl) (by kernel_rfl) co48 (fun m hm=>(wU rfl co9 rfl (rd_str Tryz.underlying9) (wU rfl co46 rfl (rdt46 _) (wU rfl co23 rfl (rd_slice Tryz.underlying23 co48 (by decide) (fun y=>by rw [GNode.row_eq];rfl) (fun y=>by rw [GNode.row_eq];rfl) (fun q hq=>ih q (by omega))) (rf_nil (by decide))))))).map (fun p=>GNode.mk p.1 p.2.1 p.2.2.1) (fun _=>GNode.row_eq _) (fun a h=>by simp only [GNode.wf,GNode.wfs_iff];simp only [and_assoc,and_true] at h ⊢;first | exact h | simp_all) (fun _=>by simp only [GNode.bk,GNode.bks_eq])
theorem rdt23 {H:Type} {enc:TypeId×Value→H} {W:World} (n:Nat):RdN enc Tryz.prog W n 23 (fun L:(List GNode)=>[AV.sl 3 (L.map GNode.row)]) (fun L=>L.length≤maxLen∧∀ y ∈ L,GNode.wf y) (fun L=>(L.map GNode.bk).sum+1) :=
 rd_slice Tryz.underlying23 co48 (by decide) (fun y=>by rw [GNode.row_eq];rfl) (fun y=>by rw [GNode.row_eq];rfl) (fun m _=>(rdGNode _))
theorem ownDiffBack:ownKnob Tryz.prog.godebug=none:=by kernel_rfl
theorem laidDiffBack:laidOutB Tryz.prog=true:=by kernel_rfl
mutual
theorem ub {H:Type}:∀ d:DataW H,Rows.uptoBulk d=vI d
 | .lit l=>by cases l <;> simp only [Rows.uptoBulk,vI]
 | .nil=>by simp only [Rows.uptoBulk,vI]
 | .ptr d=>by simp only [Rows.uptoBulk,vI,ub d]
 | .slice e s=>by simp only [Rows.uptoBulk,vI,ubAll e,ubAll s]
 | .agg p=>by simp only [Rows.uptoBulk,vI,ubAll p]
 | .iface _ d=>by simp only [Rows.uptoBulk,vI,ub d]
 | .map e=>by simp only [Rows.uptoBulk,vI,ubEs e]
 | .held _=>by simp only [Rows.uptoBulk,vI]
theorem ubAll {H:Type}:∀ l:List (DataW H),Rows.uptoBulkAll l=vH l
 | []=>by simp only [Rows.uptoBulkAll,vH]
 | d::r=>by simp only [Rows.uptoBulkAll,vH,ub d,ubAll r]
theorem ubEs {H:Type}:∀ l:List (Lit×DataW H),Rows.uptoBulkEntries l=vBulkEs l
 | []=>by simp only [Rows.uptoBulkEntries,vBulkEs]
 | x::r=>by simp only [Rows.uptoBulkEntries,vBulkEs,ubE x,ubEs r];omega
theorem ubE {H:Type}:∀ x:Lit×DataW H,Rows.uptoBulkEntry x=vBulkE x
 | (l,d)=>by cases l <;> simp only [Rows.uptoBulkEntry,vBulkE,ub d]
end
theorem contractDiffBack (H:Type) (enc:TypeId×Value→H) (W:World) (base:Nat) (args:Array Value) (ds gs:List (DataW H)) (before:List MemPlace)
  (hval:∀ (j:Nat) t v,Tryz.f3.params[j]?=some t→args[j]?=some v→Value.okWide Tryz.prog W .any base t v)
  (hW:DataW.Whole enc Tryz.prog Tryz.f3.params.toList Rows.diffBackSpec.vars false W args.toList ds gs before) (hk:Rows.uptoSmall H (ds++gs)=true) (hsh:W.ShapedOpen Tryz.prog) :
  Calls Tryz.prog 3 args W fun e W'=>∃ v,e=.returned v∧Rows.diffBackSpec.post enc Tryz.prog Tryz.f3 false true false false W args v W':=by
 haveI:GOk Tryz.prog W.heap.size W:=⟨hsh,Nat.le_refl _⟩
 have hW':=hW
 obtain ⟨p,q,hA0,hV,rfl,hfz,hnd⟩:=hW
 have hA:DataW.TrodAll enc Tryz.prog W 0 (fun _=>true) true Tryz.f3.params.toList args.toList ds p:=hA0
 rw [Tryz.params3] at hA hval
 obtain ⟨v0,vs0,d0,ds0,p0,q0,hargs,rfl,rfl,t0,r0⟩:=trodAll_cons hA
 obtain ⟨v1,vs1,d1,ds1,p1,q1,rfl,rfl,rfl,t1,r1⟩:=trodAll_cons r0
 obtain ⟨rfl,rfl,rfl⟩:=trodAll_nil r1
 obtain rfl:args=#[v0,v1]:=by cases args;simp_all
 obtain ⟨rfl,rfl⟩:=trodVars_none hV
 clear hA0
 simp only [List.append_nil] at hW'
 obtain ⟨y0,hy0,wf0,bk0⟩:=rd_arg (fun n=>(rdt23 _)) t0
 have hv0:=V.of_one (by rintro cs rfl;have:=hval 0 23 _ rfl rfl;simp [Value.okWide,Tryz.underlying23,Cell.okWide,Cell.ok] at this) hy0
 obtain ⟨y1,hy1,wf1,bk1⟩:=rd_arg (fun n=>(rdt23 _)) t1
 have hv1:=V.of_one (by rintro cs rfl;have:=hval 1 23 _ rfl rfl;simp [Value.okWide,Tryz.underlying23,Cell.okWide,Cell.ok] at this) hy1
 have hlt:∀ x ∈ (p0++p1),x.block < W.heap.size:=fun x hx=>by simpa using hW'.lt x hx
 have hbk:((y0.map GNode.bk).sum+1)+((y1.map GNode.bk).sum+1)≤1048576:=by
  have h:=of_decide_eq_true hk
  simp only [List.cons_append,List.nil_append,List.append_nil,Rows.uptoBulkAll,ub] at h
  omega
 refine ((ok3 (h:=h0) ((law31DiffBack_top) y0 y1 wf0 wf1 hbk)).2 W.heap.size W (g0 W) W _ (rel0 W) (VL.cons hv0 (VL.cons hv1 (by simp [VL])))).mono fun e W' ⟨v,r,h',g',he,⟨hr,hh⟩,hg,hR,hv⟩=>?_
 subst he hr
 simp only [V] at hv
 subst hv
 exact ⟨_,rfl,post_of_below (pv:=[]) hW' hR.below (fun _ _ _=>(trodAll_cons_mk (shut_bool Tryz.underlying4 _) trodAll_mk0)) (fun sp hsp=>(trodAll_cons_mk (WideElems.Trod_stays laidDiffBack (by kernel_rfl) (of_decide_eq_true (by kernel_rfl)) t0 (fun x hx=>hR.below.same (hlt x (by simp [hx]))) (fun x hx=>hsp x (by simp [hx]))) (trodAll_cons_mk (WideElems.Trod_stays laidDiffBack (by kernel_rfl) (of_decide_eq_true (by kernel_rfl)) t1 (fun x hx=>hR.below.same (hlt x (by simp [hx]))) (fun x hx=>hsp x (by simp [hx]))) trodAll_mk0))) (fun _ _=>rfl) (by simp) (ok_one (by kernel_rfl) rfl (okWide_bool_mk Tryz.underlying4 _))⟩
set_option maxRecDepth 100000 in
theorem liftedDiffBack (os:Os) (started:os.Started) (H:Type) (enc:TypeId×Value→H) (F:Stop.Interp) :
  ReturnsInHanded {} Tryz.checked os 3 .any ((Rows.OpenSpec.upto Rows.diffBackSpec).pre6 enc Tryz.prog Tryz.f3 Rows.diffBackUptoRow.domain false) (((Rows.OpenSpec.upto Rows.diffBackSpec).at F).post enc Tryz.prog Tryz.f3 false true false false):=by
 refine returns_cond_shaped (C:=Tryz.checked) (s:=(Rows.OpenSpec.upto Rows.diffBackSpec)) (k:=Rows.uptoSmall) rfl ownDiffBack started (by kernel_rfl) Tryz.func3
  (OpenSpec.witness (enc:=enc) (C:=Tryz.checked) (s:=(Rows.OpenSpec.upto Rows.diffBackSpec)) (k:=Rows.uptoSmall) rfl false ⟨#[],#[.slice none 0 0,.slice none 0 0],[]⟩ 8 (by kernel_rfl) (by kernel_rfl) (by kernel_rfl)
   (x:=(([.nil,.nil],[],[]))) (by kernel_rfl) rfl (by kernel_rfl)) ?_
 intro W base args ds gs before hval hW hk hsh
 exact contractDiffBack H enc W base args ds gs before hval hW hk hsh
set_option maxHeartbeats 4000000 in
theorem closedDiffBack:joinedFacts Tryz.pinned.checked.prog 3 Tryz.f3 (Rows.OpenSpec.upto Rows.diffBackSpec).bare Rows.diffBackUptoRow=true:=by
 unfold joinedFacts
 simp only [Bool.and_eq_true]
 repeat' apply And.intro
 all_goals as_aux_lemma=>kernel_rfl
theorem namedDiffBack:Tryz.pinned.checked.prog.funcNamed Rows.diffBackUptoRow.func=some 3:=by kernel_rfl
theorem instDiffBack:Tryz.f3.isInstance Tryz.pinned.checked.prog Rows.diffBackUptoRow.origin Rows.diffBackUptoRow.targs:=of_decide_eq_true (by kernel_rfl)
theorem DiffBackUptoHolds:Rows.DiffBackUptoSaid :=
 OpenClaim.holds_of_cond 3 Tryz.f3 rfl rfl rfl rfl rfl rfl rfl ⟨rfl,rfl,rfl,rfl,rfl⟩ rfl rfl rfl rfl rfl namedDiffBack Tryz.func3 closedDiffBack
  instDiffBack (by unfold Func.isWrapper;first | (rw [if_pos (by decide +kernel)];kernel_rfl) | (rw [if_neg (by decide +kernel)];exact ⟨rfl,rfl⟩))
  (fun os started H enc _ F=>liftedDiffBack os started H enc F)
end Go.Proofs.YtomfgjifjecioaaGreat
