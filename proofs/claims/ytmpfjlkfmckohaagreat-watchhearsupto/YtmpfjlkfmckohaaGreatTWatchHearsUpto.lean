/- The law varve.varvelaw40.WatchHears holds: for every input it returns true, and each argument reads as it read. No condition. -/
import Derived.Test.YtmpfjlkfmckohaaGreatRows
import Derived.Test.YtmpfjlkfmckohaaGreatW5
import Derived.Test.YtmpfjlkfmckohaaGreatPlH0
import Derived.Test.YtmpfjlkfmckohaaGreatPlH1
import Derived.Test.YtmpfjlkfmckohaaGreatVvMl
import Derived.ProofKit
import Derived.HandedShaped
import Derived.OpenShut
namespace Go.Proofs.YtmpfjlkfmckohaaGreat
open Go Go.Vv Go.ChangeShapes Go.WideShapes Go.ChangeAt Go.RowKit
set_option maxRecDepth 100000
set_option linter.unusedVariables false
set_option linter.unusedSimpArgs false
theorem co70:Tryz.prog.cellsOf 70=3:=by kernel_rfl
theorem co33:Tryz.prog.cellsOf 33=1:=by kernel_rfl
theorem co68:Tryz.prog.cellsOf 68=1:=by kernel_rfl
theorem co5:Tryz.prog.cellsOf 5=1:=by kernel_rfl
theorem co41:Tryz.prog.cellsOf 41=1:=by kernel_rfl
theorem co43:Tryz.prog.cellsOf 43=2:=by kernel_rfl
theorem rdGActor {H:Type} {enc:TypeId×Value->H} {W:World} (n:Nat):RdN enc Tryz.prog W n 43 GL.row GL.wf GL.bk :=
 (rd_struct (l:=(match Tryz.prog.underlying 43 with | some (.struct fs)=>fs.toList | _=>[])) (fs:=(match Tryz.prog.underlying 43 with | some (.struct fs)=>fs | _=>#[])) (by kernel_rfl) (by kernel_rfl) co43 (λm _=>(xK rfl co5 rfl (rd_int Tryz.underlying5) (xK rfl co41 rfl (rd_int Tryz.underlying41) (rf_nil (by decide)))))).map (λp=>GL.mk p.1 p.2.1) (λ_=>rfl) (λa h=>by simpa [GL.wf,se] using h) (λ_=>rfl)
theorem co37:Tryz.prog.cellsOf 37=1:=by kernel_rfl
theorem co45:Tryz.prog.cellsOf 45=3:=by kernel_rfl
theorem rdGDot {H:Type} {enc:TypeId×Value->H} {W:World} (n:Nat):RdN enc Tryz.prog W n 45 GF.row GF.wf GF.bk :=
 (rd_struct (l:=(match Tryz.prog.underlying 45 with | some (.struct fs)=>fs.toList | _=>[])) (fs:=(match Tryz.prog.underlying 45 with | some (.struct fs)=>fs | _=>#[])) (by kernel_rfl) (by kernel_rfl) co45 (λm _=>(xK rfl co43 rfl (rdGActor _) (xK rfl co37 rfl (rd_int Tryz.underlying37) (rf_nil (by decide)))))).map (λp=>GF.mk p.1 p.2.1) (λ_=>rfl) (λa h=>by simpa [GF.wf,se] using h) (λ_=>rfl)
theorem co9:Tryz.prog.cellsOf 9=1:=by kernel_rfl
theorem co97:Tryz.prog.cellsOf 97=5:=by kernel_rfl
theorem rdGItem {H:Type} {enc:TypeId×Value->H} {W:World} (n:Nat):RdN enc Tryz.prog W n 97 GJ.row GJ.wf GJ.bk :=
 (rd_struct (l:=(match Tryz.prog.underlying 97 with | some (.struct fs)=>fs.toList | _=>[])) (fs:=(match Tryz.prog.underlying 97 with | some (.struct fs)=>fs | _=>#[])) (by kernel_rfl) (by kernel_rfl) co97 (λm _=>(xK rfl co37 rfl (rd_int Tryz.underlying37) (xK rfl co45 rfl (rdGDot _) (xK rfl co9 rfl (rd_str Tryz.underlying9) (rf_nil (by decide))))))).map (λp=>GJ.mk p.1 p.2.1 p.2.2.1) (λ_=>rfl) (λa h=>by simpa [GJ.wf,se] using h) (λ_=>rfl)
theorem rdt46 {H:Type} {enc:TypeId×Value->H} {W:World} (n:Nat):RdN enc Tryz.prog W n 46 (λL:(List GJ)=>[AV.sl 5 (L.map GJ.row)]) (λL=>L.length<=maxLen/\∀y ∈ L,GJ.wf y) (λL=>(L.map GJ.bk).sum+1) :=
 rd_slice Tryz.underlying46 co97 (by decide) (λ_=>rfl) (λ_=>rfl) (λm _=>(rdGItem _))
theorem rdt47 {H:Type} {enc:TypeId×Value->H} {W:World} (n:Nat):RdN enc Tryz.prog W n 47 (λL:(List GF)=>[AV.sl 3 (L.map GF.row)]) (λL=>L.length<=maxLen/\∀y ∈ L,GF.wf y) (λL=>(L.map GF.bk).sum+1) :=
 rd_slice Tryz.underlying47 co45 (by decide) (λ_=>rfl) (λ_=>rfl) (λm _=>(rdGDot _))
theorem co2:Tryz.prog.cellsOf 2=1:=by kernel_rfl
theorem co46:Tryz.prog.cellsOf 46=1:=by kernel_rfl
theorem co47:Tryz.prog.cellsOf 47=1:=by kernel_rfl
theorem co49:Tryz.prog.cellsOf 49=9:=by kernel_rfl
theorem rdGLeaf {H:Type} {enc:TypeId×Value->H} {W:World} (n:Nat):RdN enc Tryz.prog W n 49 GE.row GE.wf GE.bk :=
 (rd_struct (l:=(match Tryz.prog.underlying 49 with | some (.struct fs)=>fs.toList | _=>[])) (fs:=(match Tryz.prog.underlying 49 with | some (.struct fs)=>fs | _=>#[])) (by kernel_rfl) (by kernel_rfl) co49 (λm _=>(xK rfl co5 rfl (rd_int Tryz.underlying5) (xK rfl co2 rfl (rd_int Tryz.underlying2) (xK rfl co37 rfl (rd_int Tryz.underlying37) (xK rfl co45 rfl (rdGDot _) (xK rfl co9 rfl (rd_str Tryz.underlying9) (xK rfl co46 rfl (rdt46 _) (xK rfl co47 rfl (rdt47 _) (rf_nil (by decide))))))))))).map (λp=>GE.mk p.1 p.2.1 p.2.2.1 p.2.2.2.1 p.2.2.2.2.1 p.2.2.2.2.2.1 p.2.2.2.2.2.2.1) (λ_=>rfl) (λa h=>by simpa [GE.wf,se] using h) (λ_=>rfl)
theorem rdt68 {H:Type} {enc:TypeId×Value->H} {W:World} (n:Nat):RdN enc Tryz.prog W n 68 (λL:(List GE)=>[AV.sl 9 (L.map GE.row)]) (λL=>L.length<=maxLen/\∀y ∈ L,GE.wf y) (λL=>(L.map GE.bk).sum+1) :=
 rd_slice Tryz.underlying68 co49 (by decide) (λ_=>rfl) (λ_=>rfl) (λm _=>(rdGLeaf _))
theorem rdGNode {H:Type} {enc:TypeId×Value->H} {W:World} (n:Nat):RdN enc Tryz.prog W n 70 GA.row GA.wf GA.bk:=by
 induction n using Nat.strongRecOn with
 | _ n ih =>
  exact (rd_struct (l:=(match Tryz.prog.underlying 70 with | some (.struct fs)=>fs.toList | _=>[])) (fs:=(match Tryz.prog.underlying 70 with | some (.struct fs)=>fs | _=>#[])) (by kernel_rfl) (by kernel_rfl) co70 (λm hm=>(xK rfl co9 rfl (rd_str Tryz.underlying9) (xK rfl co68 rfl (rdt68 _) (xK rfl co33 rfl (rd_slice Tryz.underlying33 co70 (by decide) (λy=>by rw [GA.row_eq];rfl) (λy=>by rw [GA.row_eq];rfl) (λq hq=>ih q (by omega))) (rf_nil (by decide))))))).map (λp=>GA.mk p.1 p.2.1 p.2.2.1) (λ_=>GA.row_eq _) (λa h=>by simp only [GA.wf,GA.wfs_iff];simp only [se,tR] at h ⊢;first | exact h | simp_all) (λ_=>by simp only [GA.bk,GA.bks_eq])
theorem rdt33 {H:Type} {enc:TypeId×Value->H} {W:World} (n:Nat):RdN enc Tryz.prog W n 33 (λL:(List GA)=>[AV.sl 3 (L.map GA.row)]) (λL=>L.length<=maxLen/\∀y ∈ L,GA.wf y) (λL=>(L.map GA.bk).sum+1) :=
 rd_slice Tryz.underlying33 co70 (by decide) (λy=>by rw [GA.row_eq];rfl) (λy=>by rw [GA.row_eq];rfl) (λm _=>(rdGNode _))
theorem rdt22 {H:Type} {enc:TypeId×Value->H} {W:World} (n:Nat):RdN enc Tryz.prog W n 22 (λL:(List (List GA))=>[AV.sl 1 (L.map (λl=>[AV.sl 3 (l.map GA.row)]))]) (λL=>L.length<=maxLen/\∀y ∈ L,y.length<=maxLen/\∀z ∈ y,GA.wf z) (λL=>(L.map (λL=>(L.map GA.bk).sum+1)).sum+1) :=
 rd_slice Tryz.underlying22 co33 (by decide) (λ_=>rfl) (λ_=>rfl) (λm _=>(rdt33 _))
theorem rdt23 {H:Type} {enc:TypeId×Value->H} {W:World} (n:Nat):RdN enc Tryz.prog W n 23 (λL:(List UInt8)=>[AV.sl 1 (L.map vj)]) (λL=>L.length<=maxLen/\∀y ∈ L,True) (λL=>(L.map (λ_=>1)).sum+1) :=
 rd_slice Tryz.underlying23 co5 (by decide) (λ_=>rfl) (λ_=>rfl) (λm _=>(rd_byte Tryz.underlying5))
theorem ownWatchHears:ownKnob Tryz.prog.godebug=none:=by kernel_rfl
theorem laidWatchHears:laidOutB Tryz.prog=true:=by kernel_rfl
mutual
theorem ub {H:Type}:∀d:DataW H,Rows.uptoBulk d=wi d
 | .lit l=>by cases l <;> simp only [Rows.uptoBulk,wi]
 | .nil=>by simp only [Rows.uptoBulk,wi]
 | .ptr d=>by simp only [Rows.uptoBulk,wi,ub d]
 | .slice e s=>by simp only [Rows.uptoBulk,wi,ubAll e,ubAll s]
 | .agg p=>by simp only [Rows.uptoBulk,wi,ubAll p]
 | .iface _ d=>by simp only [Rows.uptoBulk,wi,ub d]
 | .map e=>by simp only [Rows.uptoBulk,wi,ubEs e]
 | .held _=>by simp only [Rows.uptoBulk,wi]
theorem ubAll {H:Type}:∀l:List (DataW H),Rows.uptoBulkAll l=wh l
 | []=>by simp only [Rows.uptoBulkAll,wh]
 | d::r=>by simp only [Rows.uptoBulkAll,wh,ub d,ubAll r]
theorem ubEs {H:Type}:∀l:List (Lit×DataW H),Rows.uptoBulkEntries l=vBulkEs l
 | []=>by simp only [Rows.uptoBulkEntries,vBulkEs]
 | x::r=>by simp only [Rows.uptoBulkEntries,vBulkEs,ubE x,ubEs r];omega
theorem ubE {H:Type}:∀x:Lit×DataW H,Rows.uptoBulkEntry x=vBulkE x
 | (l,d)=>by cases l <;> simp only [Rows.uptoBulkEntry,vBulkE,ub d]
end
theorem contractWatchHears (H:Type) (enc:TypeId×Value->H) (W:World) (base:Nat) (args:Array Value) (ds gs:List (DataW H)) (before:List MemPlace)
  (hval:∀(j:Nat) t v,Tryz.f3.params[j]?=some t->args[j]?=some v->Value.okWide Tryz.prog W .any base t v)
  (hW:DataW.Whole enc Tryz.prog Tryz.f3.params.toList Rows.watchHearsSpec.vars false W args.toList ds gs before) (hk:Rows.uptoSmall H (ds++gs)=true) (hsh:W.ShapedOpen Tryz.prog) :
  Calls Tryz.prog 3 args W λe W'=>∃v,e=.returned v/\Rows.watchHearsSpec.post enc Tryz.prog Tryz.f3 false true false false W args v W':=by
 haveI:GOk Tryz.prog W.heap.size W:=⟨hsh,ue _⟩
 have hW':=hW;obtain ⟨p,q,hA0,hV,rfl,hfz,hnd⟩:=hW;have hA:DataW.TrodAll enc Tryz.prog W 0 (λ_=>true) true Tryz.f3.params.toList args.toList ds p:=hA0;rw [Tryz.params3] at hA hval;obtain ⟨v0,vs0,d0,ds0,p0,q0,hargs,rfl,rfl,t0,r0⟩:=trodAll_cons hA;obtain ⟨v1,vs1,d1,ds1,p1,q1,rfl,rfl,rfl,t1,r1⟩:=trodAll_cons r0;obtain ⟨rfl,rfl,rfl⟩:=trodAll_nil r1;obtain rfl:args=#[v0,v1]:=by cases args;simp_all
 obtain ⟨rfl,rfl⟩:=trodVars_none hV;clear hA0;simp only [tu] at hW';obtain ⟨y0,hy0,wf0,bk0⟩:=rd_arg (λn=>(rdt22 _)) t0;have hv0:=V.of_one (by rintro cs rfl;have:=hval 0 22 _ rfl rfl;simp [Value.okWide,Tryz.underlying22,Cell.okWide,Cell.ok] at this) hy0;obtain ⟨y1,hy1,wf1,bk1⟩:=rd_arg (λn=>(rdt23 _)) t1;have hv1:=V.of_one (by rintro cs rfl;have:=hval 1 23 _ rfl rfl;simp [Value.okWide,Tryz.underlying23,Cell.okWide,Cell.ok] at this) hy1;have hlt:∀x ∈ (p0++p1),x.block < W.heap.size:=λx hx=>by simpa using hW'.lt x hx
 have hbk:((y0.map (λL=>(L.map GA.bk).sum+1)).sum+1)+((y1.map (λ_=>1)).sum+1)<=1048576:=by
  have h:=sM hk;simp only [tm,u7,tu,Rows.uptoBulkAll,ub] at h;omega
 refine ((ok3 (h:=h0) ((law40WatchHears_top) y0 y1 wf0 wf1 hbk)).2 W.heap.size W (g0 W) W _ (rel0 W) (VL.cons hv0 (VL.cons hv1 (by simp [VL])))).mono λe W' ⟨v,r,h',g',he,⟨hr,hh⟩,hg,hR,hv⟩=>?_;subst he hr;simp only [V] at hv;subst hv;exact ⟨_,rfl,post_of_below (pv:=[]) hW' hR.below (λ_ _ _=>(trodAll_cons_mk (shut_bool Tryz.underlying4 _) trodAll_mk0)) (λsp hsp=>(trodAll_cons_mk (WideElems.Trod_stays laidWatchHears (by kernel_rfl) (sM (by kernel_rfl)) t0 (λx hx=>hR.below.same (hlt x (by simp [hx]))) (λx hx=>hsp x (by simp [hx]))) (trodAll_cons_mk (WideElems.Trod_stays laidWatchHears (by kernel_rfl) (sM (by kernel_rfl)) t1 (λx hx=>hR.below.same (hlt x (by simp [hx]))) (λx hx=>hsp x (by simp [hx]))) trodAll_mk0))) (λ_ _=>rfl) (by simp) (ok_one (by kernel_rfl) rfl (okWide_bool_mk Tryz.underlying4 _))⟩
set_option maxRecDepth 100000 in
theorem liftedWatchHears (os:Os) (started:os.Started) (H:Type) (enc:TypeId×Value->H) (F:Stop.Interp) :
  ReturnsInHanded {} Tryz.checked os 3 .any ((Rows.OpenSpec.upto Rows.watchHearsSpec).pre6 enc Tryz.prog Tryz.f3 Rows.watchHearsUptoRow.domain false) (((Rows.OpenSpec.upto Rows.watchHearsSpec).at F).post enc Tryz.prog Tryz.f3 false true false false):=by
 refine returns_cond_shaped (C:=Tryz.checked) (s:=(Rows.OpenSpec.upto Rows.watchHearsSpec)) (k:=Rows.uptoSmall) rfl ownWatchHears started (by kernel_rfl) Tryz.func3
  (OpenSpec.witness (enc:=enc) (C:=Tryz.checked) (s:=(Rows.OpenSpec.upto Rows.watchHearsSpec)) (k:=Rows.uptoSmall) rfl false ⟨#[],#[.slice none 0 0,.slice none 0 0],[]⟩ 8 (by kernel_rfl) (by kernel_rfl) (by kernel_rfl)
   (x:=(([.nil,.nil],[],[]))) (by kernel_rfl) rfl (by kernel_rfl)) ?_
 intro W base args ds gs before hval hW hk hsh;exact contractWatchHears H enc W base args ds gs before hval hW hk hsh
set_option maxHeartbeats 4000000 in
theorem closedWatchHears:joinedFacts Tryz.pinned.checked.prog 3 Tryz.f3 (Rows.OpenSpec.upto Rows.watchHearsSpec).bare Rows.watchHearsUptoRow=true:=by
 unfold joinedFacts;simp only [ud]
 repeat' apply And.intro
 all_goals as_aux_lemma=>kernel_rfl
theorem namedWatchHears:Tryz.pinned.checked.prog.funcNamed Rows.watchHearsUptoRow.func=some 3:=by kernel_rfl
theorem instWatchHears:Tryz.f3.isInstance Tryz.pinned.checked.prog Rows.watchHearsUptoRow.origin Rows.watchHearsUptoRow.targs:=sM (by kernel_rfl)
theorem WatchHearsUptoHolds:Rows.WatchHearsUptoSaid :=
 OpenClaim.holds_of_cond 3 Tryz.f3 rfl rfl rfl rfl rfl rfl rfl ⟨rfl,rfl,rfl,rfl,rfl⟩ rfl rfl rfl rfl rfl namedWatchHears Tryz.func3 closedWatchHears
  instWatchHears (by unfold Func.isWrapper;first | (rw [uz (by decide +kernel)];kernel_rfl) | (rw [u6 (by decide +kernel)];exact ⟨rfl,rfl⟩))
  (λos started H enc _ F=>liftedWatchHears os started H enc F)
end Go.Proofs.YtmpfjlkfmckohaaGreat
