/- The law varve.varvelaw31.DiffMakes holds: for every input it returns true, and each argument reads as it read. No condition. -/
import Derived.Test.YtgeajmfobeecbaaGreatRows
import Derived.Test.YtgeajmfobeecbaaGreatW7
import Derived.Test.YtgeajmfobeecbaaGreatPlG0
import Derived.Test.YtgeajmfobeecbaaGreatPlG1
import Derived.Test.YtgeajmfobeecbaaGreatVvMr
import Derived.ProofKit
import Derived.HandedShaped
import Derived.OpenShut
namespace Go.Proofs.YtgeajmfobeecbaaGreat
open Go Go.Vv Go.ChangeShapes Go.WideShapes Go.ChangeAt Go.RowKit
set_option maxRecDepth 100000
set_option linter.unusedVariables false
set_option linter.unusedSimpArgs false
theorem co56:Tryz.prog.cellsOf 56=3:=by kernel_rfl
theorem co23:Tryz.prog.cellsOf 23=1:=by kernel_rfl
theorem co54:Tryz.prog.cellsOf 54=1:=by kernel_rfl
theorem co5:Tryz.prog.cellsOf 5=1:=by kernel_rfl
theorem co39:Tryz.prog.cellsOf 39=1:=by kernel_rfl
theorem co41:Tryz.prog.cellsOf 41=2:=by kernel_rfl
theorem rdGActor {H:Type} {enc:TypeId×Value->H} {W:World} (n:Nat):RdN enc Tryz.prog W n 41 GJ.row GJ.wf GJ.bk :=
 (rd_struct (l:=(match Tryz.prog.underlying 41 with | some (.struct fs)=>fs.toList | _=>[])) (fs:=(match Tryz.prog.underlying 41 with | some (.struct fs)=>fs | _=>#[])) (by kernel_rfl) (by kernel_rfl) co41 (λm _=>(y5 rfl co5 rfl (rd_int Tryz.underlying5) (y5 rfl co39 rfl (rd_int Tryz.underlying39) (rf_nil (by decide)))))).map (λp=>GJ.mk p.1 p.2.1) (λ_=>rfl) (λa h=>by simpa [GJ.wf,si] using h) (λ_=>rfl)
theorem co38:Tryz.prog.cellsOf 38=1:=by kernel_rfl
theorem co43:Tryz.prog.cellsOf 43=3:=by kernel_rfl
theorem rdGDot {H:Type} {enc:TypeId×Value->H} {W:World} (n:Nat):RdN enc Tryz.prog W n 43 GF.row GF.wf GF.bk :=
 (rd_struct (l:=(match Tryz.prog.underlying 43 with | some (.struct fs)=>fs.toList | _=>[])) (fs:=(match Tryz.prog.underlying 43 with | some (.struct fs)=>fs | _=>#[])) (by kernel_rfl) (by kernel_rfl) co43 (λm _=>(y5 rfl co41 rfl (rdGActor _) (y5 rfl co38 rfl (rd_int Tryz.underlying38) (rf_nil (by decide)))))).map (λp=>GF.mk p.1 p.2.1) (λ_=>rfl) (λa h=>by simpa [GF.wf,si] using h) (λ_=>rfl)
theorem co9:Tryz.prog.cellsOf 9=1:=by kernel_rfl
theorem co51:Tryz.prog.cellsOf 51=5:=by kernel_rfl
theorem rdGItem {H:Type} {enc:TypeId×Value->H} {W:World} (n:Nat):RdN enc Tryz.prog W n 51 GI.row GI.wf GI.bk :=
 (rd_struct (l:=(match Tryz.prog.underlying 51 with | some (.struct fs)=>fs.toList | _=>[])) (fs:=(match Tryz.prog.underlying 51 with | some (.struct fs)=>fs | _=>#[])) (by kernel_rfl) (by kernel_rfl) co51 (λm _=>(y5 rfl co38 rfl (rd_int Tryz.underlying38) (y5 rfl co43 rfl (rdGDot _) (y5 rfl co9 rfl (rd_str Tryz.underlying9) (rf_nil (by decide))))))).map (λp=>GI.mk p.1 p.2.1 p.2.2.1) (λ_=>rfl) (λa h=>by simpa [GI.wf,si] using h) (λ_=>rfl)
theorem rdt44 {H:Type} {enc:TypeId×Value->H} {W:World} (n:Nat):RdN enc Tryz.prog W n 44 (λL:(List GI)=>[AV.sl 5 (L.map GI.row)]) (λL=>L.length<=maxLen/\∀y ∈ L,GI.wf y) (λL=>(L.map GI.bk).sum+1) :=
 rd_slice Tryz.underlying44 co51 (by decide) (λ_=>rfl) (λ_=>rfl) (λm _=>(rdGItem _))
theorem rdt45 {H:Type} {enc:TypeId×Value->H} {W:World} (n:Nat):RdN enc Tryz.prog W n 45 (λL:(List GF)=>[AV.sl 3 (L.map GF.row)]) (λL=>L.length<=maxLen/\∀y ∈ L,GF.wf y) (λL=>(L.map GF.bk).sum+1) :=
 rd_slice Tryz.underlying45 co43 (by decide) (λ_=>rfl) (λ_=>rfl) (λm _=>(rdGDot _))
theorem co2:Tryz.prog.cellsOf 2=1:=by kernel_rfl
theorem co44:Tryz.prog.cellsOf 44=1:=by kernel_rfl
theorem co45:Tryz.prog.cellsOf 45=1:=by kernel_rfl
theorem co47:Tryz.prog.cellsOf 47=9:=by kernel_rfl
theorem rdGLeaf {H:Type} {enc:TypeId×Value->H} {W:World} (n:Nat):RdN enc Tryz.prog W n 47 GE.row GE.wf GE.bk :=
 (rd_struct (l:=(match Tryz.prog.underlying 47 with | some (.struct fs)=>fs.toList | _=>[])) (fs:=(match Tryz.prog.underlying 47 with | some (.struct fs)=>fs | _=>#[])) (by kernel_rfl) (by kernel_rfl) co47 (λm _=>(y5 rfl co5 rfl (rd_int Tryz.underlying5) (y5 rfl co2 rfl (rd_int Tryz.underlying2) (y5 rfl co38 rfl (rd_int Tryz.underlying38) (y5 rfl co43 rfl (rdGDot _) (y5 rfl co9 rfl (rd_str Tryz.underlying9) (y5 rfl co44 rfl (rdt44 _) (y5 rfl co45 rfl (rdt45 _) (rf_nil (by decide))))))))))).map (λp=>GE.mk p.1 p.2.1 p.2.2.1 p.2.2.2.1 p.2.2.2.2.1 p.2.2.2.2.2.1 p.2.2.2.2.2.2.1) (λ_=>rfl) (λa h=>by simpa [GE.wf,si] using h) (λ_=>rfl)
theorem rdt54 {H:Type} {enc:TypeId×Value->H} {W:World} (n:Nat):RdN enc Tryz.prog W n 54 (λL:(List GE)=>[AV.sl 9 (L.map GE.row)]) (λL=>L.length<=maxLen/\∀y ∈ L,GE.wf y) (λL=>(L.map GE.bk).sum+1) :=
 rd_slice Tryz.underlying54 co47 (by decide) (λ_=>rfl) (λ_=>rfl) (λm _=>(rdGLeaf _))
theorem rdGNode {H:Type} {enc:TypeId×Value->H} {W:World} (n:Nat):RdN enc Tryz.prog W n 56 GA.row GA.wf GA.bk:=by
 induction n using Nat.strongRecOn with
 | _ n ih =>
  exact (rd_struct (l:=(match Tryz.prog.underlying 56 with | some (.struct fs)=>fs.toList | _=>[])) (fs:=(match Tryz.prog.underlying 56 with | some (.struct fs)=>fs | _=>#[])) (by kernel_rfl) (by kernel_rfl) co56 (λm hm=>(y5 rfl co9 rfl (rd_str Tryz.underlying9) (y5 rfl co54 rfl (rdt54 _) (y5 rfl co23 rfl (rd_slice Tryz.underlying23 co56 (by decide) (λy=>by rw [GA.row_eq];rfl) (λy=>by rw [GA.row_eq];rfl) (λq hq=>ih q (by omega))) (rf_nil (by decide))))))).map (λp=>GA.mk p.1 p.2.1 p.2.2.1) (λ_=>GA.row_eq _) (λa h=>by simp only [GA.wf,GA.wfs_iff];simp only [si,t7] at h ⊢;first | exact h | simp_all) (λ_=>by simp only [GA.bk,GA.bks_eq])
theorem rdt23 {H:Type} {enc:TypeId×Value->H} {W:World} (n:Nat):RdN enc Tryz.prog W n 23 (λL:(List GA)=>[AV.sl 3 (L.map GA.row)]) (λL=>L.length<=maxLen/\∀y ∈ L,GA.wf y) (λL=>(L.map GA.bk).sum+1) :=
 rd_slice Tryz.underlying23 co56 (by decide) (λy=>by rw [GA.row_eq];rfl) (λy=>by rw [GA.row_eq];rfl) (λm _=>(rdGNode _))
theorem rdt37 {H:Type} {enc:TypeId×Value->H} {W:World} (n:Nat):RdN enc Tryz.prog W n 37 (λL:(List zd)=>[AV.sl 1 (L.map zC)]) (λL=>L.length<=maxLen/\∀y ∈ L,y.length<=maxLen) (λL=>(L.map (λs=>s.length+1)).sum+1) :=
 rd_slice Tryz.underlying37 co9 (by decide) (λ_=>rfl) (λ_=>rfl) (λm _=>(rd_str Tryz.underlying9))
theorem co37:Tryz.prog.cellsOf 37=1:=by kernel_rfl
theorem co4:Tryz.prog.cellsOf 4=1:=by kernel_rfl
theorem co49:Tryz.prog.cellsOf 49=22:=by kernel_rfl
theorem rdGEdit {H:Type} {enc:TypeId×Value->H} {W:World} (n:Nat):RdN enc Tryz.prog W n 49 GC.row GC.wf GC.bk :=
 (rd_struct (l:=(match Tryz.prog.underlying 49 with | some (.struct fs)=>fs.toList | _=>[])) (fs:=(match Tryz.prog.underlying 49 with | some (.struct fs)=>fs | _=>#[])) (by kernel_rfl) (by kernel_rfl) co49 (λm _=>(y5 rfl co37 rfl (rdt37 _) (y5 rfl co5 rfl (rd_int Tryz.underlying5) (y5 rfl co4 rfl (rd_bool Tryz.underlying4) (y5 rfl co4 rfl (rd_bool Tryz.underlying4) (y5 rfl co47 rfl (rdGLeaf _) (y5 rfl co47 rfl (rdGLeaf _) (rf_nil (by decide)))))))))).map (λp=>GC.mk p.1 p.2.1 p.2.2.1 p.2.2.2.1 p.2.2.2.2.1 p.2.2.2.2.2.1) (λ_=>rfl) (λa h=>by simpa [GC.wf,si] using h) (λ_=>rfl)
theorem rdt24 {H:Type} {enc:TypeId×Value->H} {W:World} (n:Nat):RdN enc Tryz.prog W n 24 (λL:(List GC)=>[AV.sl 22 (L.map GC.row)]) (λL=>L.length<=maxLen/\∀y ∈ L,GC.wf y) (λL=>(L.map GC.bk).sum+1) :=
 rd_slice Tryz.underlying24 co49 (by decide) (λ_=>rfl) (λ_=>rfl) (λm _=>(rdGEdit _))
theorem ownDiffMakes:ownKnob Tryz.prog.godebug=none:=by kernel_rfl
theorem qT:laidOutB Tryz.prog=true:=by kernel_rfl
mutual
theorem ub {H:Type}:∀d:DataW H,Rows.uptoBulk d=wq d
 | .lit l=>by cases l <;> simp only [Rows.uptoBulk,wq]
 | .nil=>by simp only [Rows.uptoBulk,wq]
 | .ptr d=>by simp only [Rows.uptoBulk,wq,ub d]
 | .slice e s=>by simp only [Rows.uptoBulk,wq,ubAll e,ubAll s]
 | .agg p=>by simp only [Rows.uptoBulk,wq,ubAll p]
 | .iface _ d=>by simp only [Rows.uptoBulk,wq,ub d]
 | .map e=>by simp only [Rows.uptoBulk,wq,ubEs e]
 | .held _=>by simp only [Rows.uptoBulk,wq]
theorem ubAll {H:Type}:∀l:List (DataW H),Rows.uptoBulkAll l=wA l
 | []=>by simp only [Rows.uptoBulkAll,wA]
 | d::r=>by simp only [Rows.uptoBulkAll,wA,ub d,ubAll r]
theorem ubEs {H:Type}:∀l:List (Lit×DataW H),Rows.uptoBulkEntries l=vBulkEs l
 | []=>by simp only [Rows.uptoBulkEntries,vBulkEs]
 | x::r=>by simp only [Rows.uptoBulkEntries,vBulkEs,ubE x,ubEs r];omega
theorem ubE {H:Type}:∀x:Lit×DataW H,Rows.uptoBulkEntry x=vBulkE x
 | (l,d)=>by cases l <;> simp only [Rows.uptoBulkEntry,vBulkE,ub d]
end
theorem contractDiffMakes (H:Type) (enc:TypeId×Value->H) (W:World) (base:Nat) (args:Array Value) (ds gs:List (DataW H)) (before:List MemPlace)
  (hval:∀(j:Nat) t v,Tryz.f3.params[j]?=some t->args[j]?=some v->Value.okWide Tryz.prog W .any base t v)
  (hW:DataW.Whole enc Tryz.prog Tryz.f3.params.toList Rows.diffMakesSpec.vars false W args.toList ds gs before) (hk:Rows.uptoSmall H (ds++gs)=true) (hsh:W.ShapedOpen Tryz.prog) :
  Calls Tryz.prog 3 args W λe W'=>∃v,e=.returned v/\Rows.diffMakesSpec.post enc Tryz.prog Tryz.f3 false true false false W args v W':=by
 haveI:GOk Tryz.prog W.heap.size W:=⟨hsh,uh _⟩
 have hW':=hW;obtain ⟨p,q,hA0,hV,rfl,hfz,hnd⟩:=hW;have hA:DataW.TrodAll enc Tryz.prog W 0 (λ_=>true) true Tryz.f3.params.toList args.toList ds p:=hA0;rw [Tryz.params3] at hA hval;obtain ⟨v0,vs0,d0,ds0,p0,q0,hargs,rfl,rfl,t0,r0⟩:=trodAll_cons hA;obtain ⟨v1,vs1,d1,ds1,p1,q1,rfl,rfl,rfl,t1,r1⟩:=trodAll_cons r0;obtain ⟨v2,vs2,d2,ds2,p2,q2,rfl,rfl,rfl,t2,r2⟩:=trodAll_cons r1;obtain ⟨v3,vs3,d3,ds3,p3,q3,rfl,rfl,rfl,t3,r3⟩:=trodAll_cons r2;obtain ⟨rfl,rfl,rfl⟩:=trodAll_nil r3;obtain rfl:args=#[v0,v1,v2,v3]:=by cases args;simp_all
 obtain ⟨rfl,rfl⟩:=trodVars_none hV;clear hA0;simp only [tu] at hW';obtain ⟨y0,hy0,wf0,bk0⟩:=rd_arg (λn=>(rdt23 _)) t0;have hv0:=V.of_one (by rintro cs rfl;have:=hval 0 23 _ rfl rfl;simp [Value.okWide,Tryz.underlying23,Cell.okWide,Cell.ok] at this) hy0;obtain ⟨y1,hy1,wf1,bk1⟩:=rd_arg (λn=>(rdt23 _)) t1;have hv1:=V.of_one (by rintro cs rfl;have:=hval 1 23 _ rfl rfl;simp [Value.okWide,Tryz.underlying23,Cell.okWide,Cell.ok] at this) hy1;obtain ⟨y2,hy2,wf2,bk2⟩:=rd_arg (λn=>(rdt24 _)) t2;have hv2:=V.of_one (by rintro cs rfl;have:=hval 2 24 _ rfl rfl;simp [Value.okWide,Tryz.underlying24,Cell.okWide,Cell.ok] at this) hy2;obtain ⟨y3,hy3,wf3,bk3⟩:=rd_arg (λn=>(rdt24 _)) t3;have hv3:=V.of_one (by rintro cs rfl;have:=hval 3 24 _ rfl rfl;simp [Value.okWide,Tryz.underlying24,Cell.okWide,Cell.ok] at this) hy3;have hv0:=(leG.oldM (by decide) GA.rowB_old) _ _ (g0_old W) hv0;have hv1:=(leG.oldM (by decide) GA.rowB_old) _ _ (g0_old W) hv1;have hlt:∀x ∈ (p0++(p1++(p2++p3))),x.block < W.heap.size:=λx hx=>by simpa using hW'.lt x hx
 have hbk:((y0.map GA.bk).sum+1)+((y1.map GA.bk).sum+1)+((y2.map GC.bk).sum+1)+((y3.map GC.bk).sum+1)<=1048576:=by
  have h:=u9 hk;simp only [tJ,uU,tu,Rows.uptoBulkAll,ub] at h;omega
 refine ((okT3 (h:=h0) rfl ((law31DiffMakes_top) y0 y1 y2 y3 wf0 wf1 wf2 wf3 hbk)) W.heap.size W (g0 W) W _ (rel0 W) (VL.cons hv0 (VL.cons hv1 (VL.cons hv2 (VL.cons hv3 (by simp [VL])))))).mono λe W' ⟨v,r,h',g',he,hr,hR,hv⟩=>?_;subst he hr;simp only [V] at hv;subst hv;exact ⟨_,rfl,post_of_below (pv:=[]) hW' hR.below (λ_ _ _=>(trodAll_cons_mk (shut_bool Tryz.underlying4 _) trodAll_mk0)) (λsp hsp=>(trodAll_cons_mk (WideElems.Trod_stays qT (by kernel_rfl) (u9 (by kernel_rfl)) t0 (λx hx=>hR.below.same (hlt x (by simp [hx]))) (λx hx=>hsp x (by simp [hx]))) (trodAll_cons_mk (WideElems.Trod_stays qT (by kernel_rfl) (u9 (by kernel_rfl)) t1 (λx hx=>hR.below.same (hlt x (by simp [hx]))) (λx hx=>hsp x (by simp [hx]))) (trodAll_cons_mk (WideElems.Trod_stays qT (by kernel_rfl) (u9 (by kernel_rfl)) t2 (λx hx=>hR.below.same (hlt x (by simp [hx]))) (λx hx=>hsp x (by simp [hx]))) (trodAll_cons_mk (WideElems.Trod_stays qT (by kernel_rfl) (u9 (by kernel_rfl)) t3 (λx hx=>hR.below.same (hlt x (by simp [hx]))) (λx hx=>hsp x (by simp [hx]))) trodAll_mk0))))) (λ_ _=>rfl) (by simp) (ok_one (by kernel_rfl) rfl (okWide_bool_mk Tryz.underlying4 _))⟩
set_option maxRecDepth 100000 in
theorem liftedDiffMakes (os:Os) (started:os.Started) (H:Type) (enc:TypeId×Value->H) (F:Stop.Interp) :
  ReturnsInHanded {} Tryz.checked os 3 .any ((Rows.OpenSpec.upto Rows.diffMakesSpec).pre6 enc Tryz.prog Tryz.f3 Rows.diffMakesUptoRow.domain false) (((Rows.OpenSpec.upto Rows.diffMakesSpec).at F).post enc Tryz.prog Tryz.f3 false true false false):=by
 refine returns_cond_shaped (C:=Tryz.checked) (s:=(Rows.OpenSpec.upto Rows.diffMakesSpec)) (k:=Rows.uptoSmall) rfl ownDiffMakes started (by kernel_rfl) Tryz.func3
  (OpenSpec.witness (enc:=enc) (C:=Tryz.checked) (s:=(Rows.OpenSpec.upto Rows.diffMakesSpec)) (k:=Rows.uptoSmall) rfl false ⟨#[],#[.slice none 0 0,.slice none 0 0,.slice none 0 0,.slice none 0 0],[]⟩ 8 (by kernel_rfl) (by kernel_rfl) (by kernel_rfl)
   (x:=(([.nil,.nil,.nil,.nil],[],[]))) (by kernel_rfl) rfl (by kernel_rfl)) ?_
 intro W base args ds gs before hval hW hk hsh;exact contractDiffMakes H enc W base args ds gs before hval hW hk hsh
set_option maxHeartbeats 4000000 in
theorem closedDiffMakes:joinedFacts Tryz.pinned.checked.prog 3 Tryz.f3 (Rows.OpenSpec.upto Rows.diffMakesSpec).bare Rows.diffMakesUptoRow=true:=by
 unfold joinedFacts;simp only [ud]
 repeat' apply And.intro
 all_goals as_aux_lemma=>kernel_rfl
theorem namedDiffMakes:Tryz.pinned.checked.prog.funcNamed Rows.diffMakesUptoRow.func=some 3:=by kernel_rfl
theorem instDiffMakes:Tryz.f3.isInstance Tryz.pinned.checked.prog Rows.diffMakesUptoRow.origin Rows.diffMakesUptoRow.targs:=u9 (by kernel_rfl)
theorem DiffMakesUptoHolds:Rows.DiffMakesUptoSaid :=
 OpenClaim.holds_of_cond 3 Tryz.f3 rfl rfl rfl rfl rfl rfl rfl ⟨rfl,rfl,rfl,rfl,rfl⟩ rfl rfl rfl rfl rfl namedDiffMakes Tryz.func3 closedDiffMakes
  instDiffMakes (by unfold Func.isWrapper;first | (rw [uF (by decide +kernel)];kernel_rfl) | (rw [th (by decide +kernel)];exact ⟨rfl,rfl⟩))
  (λos started H enc _ F=>liftedDiffMakes os started H enc F)
end Go.Proofs.YtgeajmfobeecbaaGreat
