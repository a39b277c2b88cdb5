/- The law varve.varvelaw07.TreeMerges holds: for every input it returns true, and each argument reads as it read. No condition. -/
import Derived.Test.YtonoilllklmacaaGreatRows
import Derived.Test.YtonoilllklmacaaGreatW8
import Derived.Test.YtonoilllklmacaaGreatPlU0
import Derived.Test.YtonoilllklmacaaGreatPlU1
import Derived.Test.YtonoilllklmacaaGreatVvY
import Derived.ProofKit
import Derived.HandedShaped
import Derived.OpenShut
namespace Go.Proofs.YtonoilllklmacaaGreat
open Go Go.Vv Go.ChangeShapes Go.WideShapes Go.ChangeAt Go.RowKit
set_option maxRecDepth 100000
set_option linter.unusedVariables false
set_option linter.unusedSimpArgs false
theorem co56:Tryz.prog.cellsOf 56=3:=by kernel_rfl
theorem co23:Tryz.prog.cellsOf 23=1:=by kernel_rfl
theorem co54:Tryz.prog.cellsOf 54=1:=by kernel_rfl
theorem co5:Tryz.prog.cellsOf 5=1:=by kernel_rfl
theorem co36:Tryz.prog.cellsOf 36=1:=by kernel_rfl
theorem co38:Tryz.prog.cellsOf 38=2:=by kernel_rfl
theorem rdGActor {H:Type} {enc:TypeId×Value->H} {W:World} (n:Nat):RdN enc Tryz.prog W n 38 GI.row GI.wf GI.bk :=
 (rd_struct (l:=(match Tryz.prog.underlying 38 with | some (.struct fs)=>fs.toList | _=>[])) (fs:=(match Tryz.prog.underlying 38 with | some (.struct fs)=>fs | _=>#[])) (by kernel_rfl) (by kernel_rfl) co38 (λm _=>(wC rfl co5 rfl (rd_int Tryz.underlying5) (wC rfl co36 rfl (rd_int Tryz.underlying36) (rf_nil (by decide)))))).map (λp=>GI.mk p.1 p.2.1) (λ_=>rfl) (λa h=>by simpa [GI.wf,rj] using h) (λ_=>rfl)
theorem co39:Tryz.prog.cellsOf 39=1:=by kernel_rfl
theorem co41:Tryz.prog.cellsOf 41=3:=by kernel_rfl
theorem rdGDot {H:Type} {enc:TypeId×Value->H} {W:World} (n:Nat):RdN enc Tryz.prog W n 41 GE.row GE.wf GE.bk :=
 (rd_struct (l:=(match Tryz.prog.underlying 41 with | some (.struct fs)=>fs.toList | _=>[])) (fs:=(match Tryz.prog.underlying 41 with | some (.struct fs)=>fs | _=>#[])) (by kernel_rfl) (by kernel_rfl) co41 (λm _=>(wC rfl co38 rfl (rdGActor _) (wC rfl co39 rfl (rd_int Tryz.underlying39) (rf_nil (by decide)))))).map (λp=>GE.mk p.1 p.2.1) (λ_=>rfl) (λa h=>by simpa [GE.wf,rj] using h) (λ_=>rfl)
theorem co9:Tryz.prog.cellsOf 9=1:=by kernel_rfl
theorem co70:Tryz.prog.cellsOf 70=5:=by kernel_rfl
theorem rdGItem {H:Type} {enc:TypeId×Value->H} {W:World} (n:Nat):RdN enc Tryz.prog W n 70 GF.row GF.wf GF.bk :=
 (rd_struct (l:=(match Tryz.prog.underlying 70 with | some (.struct fs)=>fs.toList | _=>[])) (fs:=(match Tryz.prog.underlying 70 with | some (.struct fs)=>fs | _=>#[])) (by kernel_rfl) (by kernel_rfl) co70 (λm _=>(wC rfl co39 rfl (rd_int Tryz.underlying39) (wC rfl co41 rfl (rdGDot _) (wC rfl co9 rfl (rd_str Tryz.underlying9) (rf_nil (by decide))))))).map (λp=>GF.mk p.1 p.2.1 p.2.2.1) (λ_=>rfl) (λa h=>by simpa [GF.wf,rj] using h) (λ_=>rfl)
theorem rdt49 {H:Type} {enc:TypeId×Value->H} {W:World} (n:Nat):RdN enc Tryz.prog W n 49 (λL:(List GF)=>[AV.sl 5 (L.map GF.row)]) (λL=>L.length<=maxLen/\∀y ∈ L,GF.wf y) (λL=>(L.map GF.bk).sum+1) :=
 rd_slice Tryz.underlying49 co70 (by decide) (λ_=>rfl) (λ_=>rfl) (λm _=>(rdGItem _))
theorem rdt43 {H:Type} {enc:TypeId×Value->H} {W:World} (n:Nat):RdN enc Tryz.prog W n 43 (λL:(List GE)=>[AV.sl 3 (L.map GE.row)]) (λL=>L.length<=maxLen/\∀y ∈ L,GE.wf y) (λL=>(L.map GE.bk).sum+1) :=
 rd_slice Tryz.underlying43 co41 (by decide) (λ_=>rfl) (λ_=>rfl) (λm _=>(rdGDot _))
theorem co2:Tryz.prog.cellsOf 2=1:=by kernel_rfl
theorem co49:Tryz.prog.cellsOf 49=1:=by kernel_rfl
theorem co43:Tryz.prog.cellsOf 43=1:=by kernel_rfl
theorem co51:Tryz.prog.cellsOf 51=9:=by kernel_rfl
theorem rdGLeaf {H:Type} {enc:TypeId×Value->H} {W:World} (n:Nat):RdN enc Tryz.prog W n 51 GC.row GC.wf GC.bk :=
 (rd_struct (l:=(match Tryz.prog.underlying 51 with | some (.struct fs)=>fs.toList | _=>[])) (fs:=(match Tryz.prog.underlying 51 with | some (.struct fs)=>fs | _=>#[])) (by kernel_rfl) (by kernel_rfl) co51 (λm _=>(wC rfl co5 rfl (rd_int Tryz.underlying5) (wC rfl co2 rfl (rd_int Tryz.underlying2) (wC rfl co39 rfl (rd_int Tryz.underlying39) (wC rfl co41 rfl (rdGDot _) (wC rfl co9 rfl (rd_str Tryz.underlying9) (wC rfl co49 rfl (rdt49 _) (wC rfl co43 rfl (rdt43 _) (rf_nil (by decide))))))))))).map (λp=>GC.mk p.1 p.2.1 p.2.2.1 p.2.2.2.1 p.2.2.2.2.1 p.2.2.2.2.2.1 p.2.2.2.2.2.2.1) (λ_=>rfl) (λa h=>by simpa [GC.wf,rj] using h) (λ_=>rfl)
theorem rdt54 {H:Type} {enc:TypeId×Value->H} {W:World} (n:Nat):RdN enc Tryz.prog W n 54 (λL:(List GC)=>[AV.sl 9 (L.map GC.row)]) (λL=>L.length<=maxLen/\∀y ∈ L,GC.wf y) (λL=>(L.map GC.bk).sum+1) :=
 rd_slice Tryz.underlying54 co51 (by decide) (λ_=>rfl) (λ_=>rfl) (λm _=>(rdGLeaf _))
theorem rdGNode {H:Type} {enc:TypeId×Value->H} {W:World} (n:Nat):RdN enc Tryz.prog W n 56 GA.row GA.wf GA.bk:=by
 induction n using Nat.strongRecOn with
 | _ n ih =>
  exact (rd_struct (l:=(match Tryz.prog.underlying 56 with | some (.struct fs)=>fs.toList | _=>[])) (fs:=(match Tryz.prog.underlying 56 with | some (.struct fs)=>fs | _=>#[])) (by kernel_rfl) (by kernel_rfl) co56 (λm hm=>(wC rfl co9 rfl (rd_str Tryz.underlying9) (wC rfl co54 rfl (rdt54 _) (wC rfl co23 rfl (rd_slice Tryz.underlying23 co56 (by decide) (λy=>by rw [GA.row_eq];rfl) (λy=>by rw [GA.row_eq];rfl) (λq hq=>ih q (by omega))) (rf_nil (by decide))))))).map (λp=>GA.mk p.1 p.2.1 p.2.2.1) (λ_=>GA.row_eq _) (λa h=>by simp only [GA.wf,GA.wfs_iff];simp only [rj,tM] at h ⊢;first | exact h | simp_all) (λ_=>by simp only [GA.bk,GA.bks_eq])
theorem rdt23 {H:Type} {enc:TypeId×Value->H} {W:World} (n:Nat):RdN enc Tryz.prog W n 23 (λL:(List GA)=>[AV.sl 3 (L.map GA.row)]) (λL=>L.length<=maxLen/\∀y ∈ L,GA.wf y) (λL=>(L.map GA.bk).sum+1) :=
 rd_slice Tryz.underlying23 co56 (by decide) (λy=>by rw [GA.row_eq];rfl) (λy=>by rw [GA.row_eq];rfl) (λm _=>(rdGNode _))
theorem ownTreeMerges:ownKnob Tryz.prog.godebug=none:=by kernel_rfl
theorem laidTreeMerges:laidOutB Tryz.prog=true:=by kernel_rfl
mutual
theorem ub {H:Type}:∀d:DataW H,Rows.uptoBulk d=w8 d
 | .lit l=>by cases l <;> simp only [Rows.uptoBulk,w8]
 | .nil=>by simp only [Rows.uptoBulk,w8]
 | .ptr d=>by simp only [Rows.uptoBulk,w8,ub d]
 | .slice e s=>by simp only [Rows.uptoBulk,w8,ubAll e,ubAll s]
 | .agg p=>by simp only [Rows.uptoBulk,w8,ubAll p]
 | .iface _ d=>by simp only [Rows.uptoBulk,w8,ub d]
 | .map e=>by simp only [Rows.uptoBulk,w8,ubEs e]
 | .held _=>by simp only [Rows.uptoBulk,w8]
theorem ubAll {H:Type}:∀l:List (DataW H),Rows.uptoBulkAll l=w7 l
 | []=>by simp only [Rows.uptoBulkAll,w7]
 | d::r=>by simp only [Rows.uptoBulkAll,w7,ub d,ubAll r]
theorem ubEs {H:Type}:∀l:List (Lit×DataW H),Rows.uptoBulkEntries l=vBulkEs l
 | []=>by simp only [Rows.uptoBulkEntries,vBulkEs]
 | x::r=>by simp only [Rows.uptoBulkEntries,vBulkEs,ubE x,ubEs r];omega
theorem ubE {H:Type}:∀x:Lit×DataW H,Rows.uptoBulkEntry x=vBulkE x
 | (l,d)=>by cases l <;> simp only [Rows.uptoBulkEntry,vBulkE,ub d]
end
theorem contractTreeMerges (H:Type) (enc:TypeId×Value->H) (W:World) (base:Nat) (args:Array Value) (ds gs:List (DataW H)) (before:List MemPlace)
  (hval:∀(j:Nat) t v,Tryz.f3.params[j]?=some t->args[j]?=some v->Value.okWide Tryz.prog W .any base t v)
  (hW:DataW.Whole enc Tryz.prog Tryz.f3.params.toList Rows.treeMergesSpec.vars false W args.toList ds gs before) (hk:Rows.uptoSmall H (ds++gs)=true) (hsh:W.ShapedOpen Tryz.prog) :
  Calls Tryz.prog 3 args W λe W'=>∃v,e=.returned v/\Rows.treeMergesSpec.post enc Tryz.prog Tryz.f3 false true false false W args v W':=by
 haveI:GOk Tryz.prog W.heap.size W:=⟨hsh,ug _,trivial⟩
 have hW':=hW;obtain ⟨p,q,hA0,hV,rfl,hfz,hnd⟩:=hW;have hA:DataW.TrodAll enc Tryz.prog W 0 (λ_=>true) true Tryz.f3.params.toList args.toList ds p:=hA0;rw [Tryz.params3] at hA hval;obtain ⟨v0,vs0,d0,ds0,p0,q0,hargs,rfl,rfl,t0,r0⟩:=trodAll_cons hA;obtain ⟨v1,vs1,d1,ds1,p1,q1,rfl,rfl,rfl,t1,r1⟩:=trodAll_cons r0;obtain ⟨v2,vs2,d2,ds2,p2,q2,rfl,rfl,rfl,t2,r2⟩:=trodAll_cons r1;obtain ⟨rfl,rfl,rfl⟩:=trodAll_nil r2;obtain rfl:args=#[v0,v1,v2]:=by cases args;simp_all
 obtain ⟨rfl,rfl⟩:=trodVars_none hV;clear hA0;simp only [sY] at hW';obtain ⟨y0,hy0,wf0,bk0⟩:=rd_arg (λn=>(rdt23 _)) t0;have hv0:=V.of_one (by rintro cs rfl;have:=hval 0 23 _ rfl rfl;simp [Value.okWide,Tryz.underlying23,Cell.okWide,Cell.ok] at this) hy0;obtain ⟨y1,hy1,wf1,bk1⟩:=rd_arg (λn=>(rdt23 _)) t1;have hv1:=V.of_one (by rintro cs rfl;have:=hval 1 23 _ rfl rfl;simp [Value.okWide,Tryz.underlying23,Cell.okWide,Cell.ok] at this) hy1;obtain ⟨y2,hy2,wf2,bk2⟩:=rd_arg (λn=>(rdt23 _)) t2;have hv2:=V.of_one (by rintro cs rfl;have:=hval 2 23 _ rfl rfl;simp [Value.okWide,Tryz.underlying23,Cell.okWide,Cell.ok] at this) hy2;have hlt:∀x ∈ (p0++(p1++p2)),x.block < W.heap.size:=λx hx=>by simpa using hW'.lt x hx
 have hbk:((y0.map GA.bk).sum+1)+((y1.map GA.bk).sum+1)+((y2.map GA.bk).sum+1)<=1048576:=by
  have h:=tc hk;simp only [tP,uI,sY,Rows.uptoBulkAll,ub] at h;omega
 refine ((okT3 (h:=h0) rfl ((law07TreeMerges_top) y0 y1 y2 wf0 wf1 wf2 hbk)) W.heap.size W (g0 W) W _ (rel0 W) (VL.cons hv0 (VL.cons hv1 (VL.cons hv2 (by simp [VL]))))).mono λe W' ⟨v,r,h',g',he,hr,hR,hv⟩=>?_;subst he hr;simp only [V] at hv;subst hv;exact ⟨_,rfl,post_of_below (pv:=[]) hW' hR.below (λ_ _ _=>(trodAll_cons_mk (shut_bool Tryz.underlying4 _) trodAll_mk0)) (λsp hsp=>(trodAll_cons_mk (WideElems.Trod_stays laidTreeMerges (by kernel_rfl) (tc (by kernel_rfl)) t0 (λx hx=>hR.below.same (hlt x (by simp [hx]))) (λx hx=>hsp x (by simp [hx]))) (trodAll_cons_mk (WideElems.Trod_stays laidTreeMerges (by kernel_rfl) (tc (by kernel_rfl)) t1 (λx hx=>hR.below.same (hlt x (by simp [hx]))) (λx hx=>hsp x (by simp [hx]))) (trodAll_cons_mk (WideElems.Trod_stays laidTreeMerges (by kernel_rfl) (tc (by kernel_rfl)) t2 (λx hx=>hR.below.same (hlt x (by simp [hx]))) (λx hx=>hsp x (by simp [hx]))) trodAll_mk0)))) (λ_ _=>rfl) (by simp) (ok_one (by kernel_rfl) rfl (okWide_bool_mk Tryz.underlying4 _))⟩
set_option maxRecDepth 100000 in
theorem liftedTreeMerges (os:Os) (started:os.Started) (H:Type) (enc:TypeId×Value->H) (F:Stop.Interp) :
  ReturnsInHanded {} Tryz.checked os 3 .any ((Rows.OpenSpec.upto Rows.treeMergesSpec).pre6 enc Tryz.prog Tryz.f3 Rows.treeMergesUptoRow.domain false) (((Rows.OpenSpec.upto Rows.treeMergesSpec).at F).post enc Tryz.prog Tryz.f3 false true false false):=by
 refine returns_cond_shaped (C:=Tryz.checked) (s:=(Rows.OpenSpec.upto Rows.treeMergesSpec)) (k:=Rows.uptoSmall) rfl ownTreeMerges started (by kernel_rfl) Tryz.func3
  (OpenSpec.witness (enc:=enc) (C:=Tryz.checked) (s:=(Rows.OpenSpec.upto Rows.treeMergesSpec)) (k:=Rows.uptoSmall) rfl false ⟨#[],#[.slice none 0 0,.slice none 0 0,.slice none 0 0],[]⟩ 8 (by kernel_rfl) (by kernel_rfl) (by kernel_rfl)
   (x:=(([.nil,.nil,.nil],[],[]))) (by kernel_rfl) rfl (by kernel_rfl)) ?_
 intro W base args ds gs before hval hW hk hsh;exact contractTreeMerges H enc W base args ds gs before hval hW hk hsh
set_option maxHeartbeats 4000000 in
theorem closedTreeMerges:joinedFacts Tryz.pinned.checked.prog 3 Tryz.f3 (Rows.OpenSpec.upto Rows.treeMergesSpec).bare Rows.treeMergesUptoRow=true:=by
 unfold joinedFacts;simp only [ud]
 repeat' apply And.intro
 all_goals as_aux_lemma=>kernel_rfl
theorem namedTreeMerges:Tryz.pinned.checked.prog.funcNamed Rows.treeMergesUptoRow.func=some 3:=by kernel_rfl
theorem instTreeMerges:Tryz.f3.isInstance Tryz.pinned.checked.prog Rows.treeMergesUptoRow.origin Rows.treeMergesUptoRow.targs:=tc (by kernel_rfl)
theorem TreeMergesUptoHolds:Rows.TreeMergesUptoSaid :=
 OpenClaim.holds_of_cond 3 Tryz.f3 rfl rfl rfl rfl rfl rfl rfl ⟨rfl,rfl,rfl,rfl,rfl⟩ rfl rfl rfl rfl rfl namedTreeMerges Tryz.func3 closedTreeMerges
  instTreeMerges (by unfold Func.isWrapper;first | (rw [uz (by decide +kernel)];kernel_rfl) | (rw [uM (by decide +kernel)];exact ⟨rfl,rfl⟩))
  (λos started H enc _ F=>liftedTreeMerges os started H enc F)
end Go.Proofs.YtonoilllklmacaaGreat
