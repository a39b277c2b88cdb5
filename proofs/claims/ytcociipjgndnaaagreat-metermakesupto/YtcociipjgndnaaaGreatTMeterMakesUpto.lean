/- The law varve.varvelaw45.MeterMakes holds: for every input it returns true, and each argument reads as it read. No condition. -/
import Derived.Test.YtcociipjgndnaaaGreatRows
import Derived.Test.YtcociipjgndnaaaGreatW8
import Derived.Test.YtcociipjgndnaaaGreatPlX0
import Derived.Test.YtcociipjgndnaaaGreatPlS3
import Derived.Test.YtcociipjgndnaaaGreatVvRd
import Derived.ProofKit
import Derived.HandedShaped
import Derived.OpenShut
namespace Go.Proofs.YtcociipjgndnaaaGreat
open Go Go.Vv Go.ChangeShapes Go.WideShapes Go.ChangeAt Go.RowKit
set_option maxRecDepth 100000
set_option linter.unusedVariables false
set_option linter.unusedSimpArgs false
theorem co9:Tryz.prog.cellsOf 9=1:=by kernel_rfl
theorem co3:Tryz.prog.cellsOf 3=1:=by kernel_rfl
theorem co56:Tryz.prog.cellsOf 56=5:=by kernel_rfl
theorem rdGQuota {H:Type} {enc:TypeId×Value->H} {W:World} (n:Nat):RdN enc Tryz.prog W n 56 GI.row GI.wf GI.bk :=
 (qL (l:=(match Tryz.prog.underlying 56 with | some (.struct fs)=>fs.toList | _=>[])) (fs:=(match Tryz.prog.underlying 56 with | some (.struct fs)=>fs | _=>#[])) (by kernel_rfl) (by kernel_rfl) co56 (λm _=>(yX rfl co9 rfl (rd_str Tryz.underlying9) (yX rfl co3 rfl (qy Tryz.underlying3) (yX rfl co3 rfl (qy Tryz.underlying3) (yX rfl co3 rfl (qy Tryz.underlying3) (yX rfl co3 rfl (qy Tryz.underlying3) (rf_nil (by decide))))))))).map (λp=>GI.mk p.1 p.2.1 p.2.2.1 p.2.2.2.1 p.2.2.2.2.1) (λ_=>rfl) (λa h=>by simpa [GI.wf,sN] using h) (λ_=>rfl)
theorem rdt22 {H:Type} {enc:TypeId×Value->H} {W:World} (n:Nat):RdN enc Tryz.prog W n 22 (λL:(List GI)=>[AV.sl 5 (L.map GI.row)]) (λL=>L.length<=maxLen/\∀y ∈ L,GI.wf y) (λL=>(L.map GI.bk).sum+1) :=
 rd_slice Tryz.underlying22 co56 (by decide) (λ_=>rfl) (λ_=>rfl) (λm _=>(rdGQuota _))
theorem co66:Tryz.prog.cellsOf 66=3:=by kernel_rfl
theorem co24:Tryz.prog.cellsOf 24=1:=by kernel_rfl
theorem co64:Tryz.prog.cellsOf 64=1:=by kernel_rfl
theorem co5:Tryz.prog.cellsOf 5=1:=by kernel_rfl
theorem co25:Tryz.prog.cellsOf 25=1:=by kernel_rfl
theorem co27:Tryz.prog.cellsOf 27=2:=by kernel_rfl
theorem rdGActor {H:Type} {enc:TypeId×Value->H} {W:World} (n:Nat):RdN enc Tryz.prog W n 27 GK.row GK.wf GK.bk :=
 (qL (l:=(match Tryz.prog.underlying 27 with | some (.struct fs)=>fs.toList | _=>[])) (fs:=(match Tryz.prog.underlying 27 with | some (.struct fs)=>fs | _=>#[])) (by kernel_rfl) (by kernel_rfl) co27 (λm _=>(yX rfl co5 rfl (qy Tryz.underlying5) (yX rfl co25 rfl (qy Tryz.underlying25) (rf_nil (by decide)))))).map (λp=>GK.mk p.1 p.2.1) (λ_=>rfl) (λa h=>by simpa [GK.wf,sN] using h) (λ_=>rfl)
theorem co28:Tryz.prog.cellsOf 28=1:=by kernel_rfl
theorem co30:Tryz.prog.cellsOf 30=3:=by kernel_rfl
theorem rdGDot {H:Type} {enc:TypeId×Value->H} {W:World} (n:Nat):RdN enc Tryz.prog W n 30 GF.row GF.wf GF.bk :=
 (qL (l:=(match Tryz.prog.underlying 30 with | some (.struct fs)=>fs.toList | _=>[])) (fs:=(match Tryz.prog.underlying 30 with | some (.struct fs)=>fs | _=>#[])) (by kernel_rfl) (by kernel_rfl) co30 (λm _=>(yX rfl co27 rfl (rdGActor _) (yX rfl co28 rfl (qy Tryz.underlying28) (rf_nil (by decide)))))).map (λp=>GF.mk p.1 p.2.1) (λ_=>rfl) (λa h=>by simpa [GF.wf,sN] using h) (λ_=>rfl)
theorem co60:Tryz.prog.cellsOf 60=5:=by kernel_rfl
theorem rdGItem {H:Type} {enc:TypeId×Value->H} {W:World} (n:Nat):RdN enc Tryz.prog W n 60 GH.row GH.wf GH.bk :=
 (qL (l:=(match Tryz.prog.underlying 60 with | some (.struct fs)=>fs.toList | _=>[])) (fs:=(match Tryz.prog.underlying 60 with | some (.struct fs)=>fs | _=>#[])) (by kernel_rfl) (by kernel_rfl) co60 (λm _=>(yX rfl co28 rfl (qy Tryz.underlying28) (yX rfl co30 rfl (rdGDot _) (yX rfl co9 rfl (rd_str Tryz.underlying9) (rf_nil (by decide))))))).map (λp=>GH.mk p.1 p.2.1 p.2.2.1) (λ_=>rfl) (λa h=>by simpa [GH.wf,sN] using h) (λ_=>rfl)
theorem rdt61 {H:Type} {enc:TypeId×Value->H} {W:World} (n:Nat):RdN enc Tryz.prog W n 61 (λL:(List GH)=>[AV.sl 5 (L.map GH.row)]) (λL=>L.length<=maxLen/\∀y ∈ L,GH.wf y) (λL=>(L.map GH.bk).sum+1) :=
 rd_slice Tryz.underlying61 co60 (by decide) (λ_=>rfl) (λ_=>rfl) (λm _=>(rdGItem _))
theorem rdt32 {H:Type} {enc:TypeId×Value->H} {W:World} (n:Nat):RdN enc Tryz.prog W n 32 (λL:(List GF)=>[AV.sl 3 (L.map GF.row)]) (λL=>L.length<=maxLen/\∀y ∈ L,GF.wf y) (λL=>(L.map GF.bk).sum+1) :=
 rd_slice Tryz.underlying32 co30 (by decide) (λ_=>rfl) (λ_=>rfl) (λm _=>(rdGDot _))
theorem co2:Tryz.prog.cellsOf 2=1:=by kernel_rfl
theorem co61:Tryz.prog.cellsOf 61=1:=by kernel_rfl
theorem co32:Tryz.prog.cellsOf 32=1:=by kernel_rfl
theorem co63:Tryz.prog.cellsOf 63=9:=by kernel_rfl
theorem rdGLeaf {H:Type} {enc:TypeId×Value->H} {W:World} (n:Nat):RdN enc Tryz.prog W n 63 GC.row GC.wf GC.bk :=
 (qL (l:=(match Tryz.prog.underlying 63 with | some (.struct fs)=>fs.toList | _=>[])) (fs:=(match Tryz.prog.underlying 63 with | some (.struct fs)=>fs | _=>#[])) (by kernel_rfl) (by kernel_rfl) co63 (λm _=>(yX rfl co5 rfl (qy Tryz.underlying5) (yX rfl co2 rfl (qy Tryz.underlying2) (yX rfl co28 rfl (qy Tryz.underlying28) (yX rfl co30 rfl (rdGDot _) (yX rfl co9 rfl (rd_str Tryz.underlying9) (yX rfl co61 rfl (rdt61 _) (yX rfl co32 rfl (rdt32 _) (rf_nil (by decide))))))))))).map (λp=>GC.mk p.1 p.2.1 p.2.2.1 p.2.2.2.1 p.2.2.2.2.1 p.2.2.2.2.2.1 p.2.2.2.2.2.2.1) (λ_=>rfl) (λa h=>by simpa [GC.wf,sN] using h) (λ_=>rfl)
theorem rdt64 {H:Type} {enc:TypeId×Value->H} {W:World} (n:Nat):RdN enc Tryz.prog W n 64 (λL:(List GC)=>[AV.sl 9 (L.map GC.row)]) (λL=>L.length<=maxLen/\∀y ∈ L,GC.wf y) (λL=>(L.map GC.bk).sum+1) :=
 rd_slice Tryz.underlying64 co63 (by decide) (λ_=>rfl) (λ_=>rfl) (λm _=>(rdGLeaf _))
theorem rdGNode {H:Type} {enc:TypeId×Value->H} {W:World} (n:Nat):RdN enc Tryz.prog W n 66 GA.row GA.wf GA.bk:=by
 induction n using Nat.strongRecOn with
 | _ n ih =>
  exact (qL (l:=(match Tryz.prog.underlying 66 with | some (.struct fs)=>fs.toList | _=>[])) (fs:=(match Tryz.prog.underlying 66 with | some (.struct fs)=>fs | _=>#[])) (by kernel_rfl) (by kernel_rfl) co66 (λm hm=>(yX rfl co9 rfl (rd_str Tryz.underlying9) (yX rfl co64 rfl (rdt64 _) (yX rfl co24 rfl (rd_slice Tryz.underlying24 co66 (by decide) (λy=>by rw [GA.row_eq];rfl) (λy=>by rw [GA.row_eq];rfl) (λq hq=>ih q (by omega))) (rf_nil (by decide))))))).map (λp=>GA.mk p.1 p.2.1 p.2.2.1) (λ_=>GA.row_eq _) (λa h=>by simp only [GA.wf,GA.wfs_iff];simp only [sN,tK] at h ⊢;first | exact h | simp_all) (λ_=>by simp only [GA.bk,GA.bks_eq])
theorem rdt24 {H:Type} {enc:TypeId×Value->H} {W:World} (n:Nat):RdN enc Tryz.prog W n 24 (λL:(List GA)=>[AV.sl 3 (L.map GA.row)]) (λL=>L.length<=maxLen/\∀y ∈ L,GA.wf y) (λL=>(L.map GA.bk).sum+1) :=
 rd_slice Tryz.underlying24 co66 (by decide) (λy=>by rw [GA.row_eq];rfl) (λy=>by rw [GA.row_eq];rfl) (λm _=>(rdGNode _))
theorem rdt31 {H:Type} {enc:TypeId×Value->H} {W:World} (n:Nat):RdN enc Tryz.prog W n 31 (λL:(List zx)=>[AV.sl 1 (L.map yz)]) (λL=>L.length<=maxLen/\∀y ∈ L,y.length<=maxLen) (λL=>(L.map (λs=>s.length+1)).sum+1) :=
 rd_slice Tryz.underlying31 co9 (by decide) (λ_=>rfl) (λ_=>rfl) (λm _=>(rd_str Tryz.underlying9))
theorem co31:Tryz.prog.cellsOf 31=1:=by kernel_rfl
theorem co34:Tryz.prog.cellsOf 34=5:=by kernel_rfl
theorem rdGOp {H:Type} {enc:TypeId×Value->H} {W:World} (n:Nat):RdN enc Tryz.prog W n 34 GM.row GM.wf GM.bk :=
 (qL (l:=(match Tryz.prog.underlying 34 with | some (.struct fs)=>fs.toList | _=>[])) (fs:=(match Tryz.prog.underlying 34 with | some (.struct fs)=>fs | _=>#[])) (by kernel_rfl) (by kernel_rfl) co34 (λm _=>(yX rfl co5 rfl (qy Tryz.underlying5) (yX rfl co31 rfl (rdt31 _) (yX rfl co2 rfl (qy Tryz.underlying2) (yX rfl co9 rfl (rd_str Tryz.underlying9) (yX rfl co32 rfl (rdt32 _) (rf_nil (by decide))))))))).map (λp=>GM.mk p.1 p.2.1 p.2.2.1 p.2.2.2.1 p.2.2.2.2.1) (λ_=>rfl) (λa h=>by simpa [GM.wf,sN] using h) (λ_=>rfl)
theorem co36:Tryz.prog.cellsOf 36=9:=by kernel_rfl
theorem rdGEvent {H:Type} {enc:TypeId×Value->H} {W:World} (n:Nat):RdN enc Tryz.prog W n 36 GJ.row GJ.wf GJ.bk :=
 (qL (l:=(match Tryz.prog.underlying 36 with | some (.struct fs)=>fs.toList | _=>[])) (fs:=(match Tryz.prog.underlying 36 with | some (.struct fs)=>fs | _=>#[])) (by kernel_rfl) (by kernel_rfl) co36 (λm _=>(yX rfl co30 rfl (rdGDot _) (yX rfl co28 rfl (qy Tryz.underlying28) (yX rfl co34 rfl (rdGOp _) (rf_nil (by decide))))))).map (λp=>GJ.mk p.1 p.2.1 p.2.2.1) (λ_=>rfl) (λa h=>by simpa [GJ.wf,sN] using h) (λ_=>rfl)
theorem ownMeterMakes:ownKnob Tryz.prog.godebug=none:=by kernel_rfl
theorem laidMeterMakes:laidOutB Tryz.prog=true:=by kernel_rfl
mutual
theorem ub {H:Type}:∀d:DataW H,Rows.uptoBulk d=vm d
 | .lit l=>by cases l <;> simp only [Rows.uptoBulk,vm]
 | .nil=>by simp only [Rows.uptoBulk,vm]
 | .ptr d=>by simp only [Rows.uptoBulk,vm,ub d]
 | .slice e s=>by simp only [Rows.uptoBulk,vm,ubAll e,ubAll s]
 | .agg p=>by simp only [Rows.uptoBulk,vm,ubAll p]
 | .iface _ d=>by simp only [Rows.uptoBulk,vm,ub d]
 | .map e=>by simp only [Rows.uptoBulk,vm,ubEs e]
 | .held _=>by simp only [Rows.uptoBulk,vm]
theorem ubAll {H:Type}:∀l:List (DataW H),Rows.uptoBulkAll l=vl l
 | []=>by simp only [Rows.uptoBulkAll,vl]
 | d::r=>by simp only [Rows.uptoBulkAll,vl,ub d,ubAll r]
theorem ubEs {H:Type}:∀l:List (Lit×DataW H),Rows.uptoBulkEntries l=vBulkEs l
 | []=>by simp only [Rows.uptoBulkEntries,vBulkEs]
 | x::r=>by simp only [Rows.uptoBulkEntries,vBulkEs,ubE x,ubEs r];omega
theorem ubE {H:Type}:∀x:Lit×DataW H,Rows.uptoBulkEntry x=vBulkE x
 | (l,d)=>by cases l <;> simp only [Rows.uptoBulkEntry,vBulkE,ub d]
end
theorem contractMeterMakes (H:Type) (enc:TypeId×Value->H) (W:World) (base:Nat) (args:Array Value) (ds gs:List (DataW H)) (before:List MemPlace)
  (hval:∀(j:Nat) t v,Tryz.f3.params[j]?=some t->args[j]?=some v->Value.okWide Tryz.prog W .any base t v)
  (hW:DataW.Whole enc Tryz.prog Tryz.f3.params.toList Rows.meterMakesSpec.vars false W args.toList ds gs before) (hk:Rows.uptoSmall H (ds++gs)=true) (hsh:W.ShapedOpen Tryz.prog) :
  Calls Tryz.prog 3 args W λe W'=>∃v,e=.returned v/\Rows.meterMakesSpec.post enc Tryz.prog Tryz.f3 false true false false W args v W':=by
 haveI:GOk Tryz.prog W.heap.size W:=⟨hsh,ug _⟩
 have hW':=hW;obtain ⟨p,q,hA0,hV,rfl,hfz,hnd⟩:=hW;have hA:DataW.TrodAll enc Tryz.prog W 0 (λ_=>true) true Tryz.f3.params.toList args.toList ds p:=hA0;rw [Tryz.params3] at hA hval;obtain ⟨v0,vs0,d0,ds0,p0,q0,hargs,rfl,rfl,t0,r0⟩:=trodAll_cons hA;obtain ⟨v1,vs1,d1,ds1,p1,q1,rfl,rfl,rfl,t1,r1⟩:=trodAll_cons r0;obtain ⟨v2,vs2,d2,ds2,p2,q2,rfl,rfl,rfl,t2,r2⟩:=trodAll_cons r1;obtain ⟨v3,vs3,d3,ds3,p3,q3,rfl,rfl,rfl,t3,r3⟩:=trodAll_cons r2;obtain ⟨rfl,rfl,rfl⟩:=trodAll_nil r3;obtain rfl:args=#[v0,v1,v2,v3]:=by cases args;simp_all
 obtain ⟨rfl,rfl⟩:=trodVars_none hV;clear hA0;simp only [t6] at hW';obtain ⟨y0,hy0,wf0,bk0⟩:=rd_arg (λn=>(rdt22 _)) t0;have hv0:=V.of_one (by rintro cs rfl;have:=hval 0 22 _ rfl rfl;simp [Value.okWide,Tryz.underlying22,Cell.okWide,Cell.ok] at this) hy0;obtain ⟨y1,hy1,wf1,bk1⟩:=rd_arg (λn=>(rdt24 _)) t1;have hv1:=V.of_one (by rintro cs rfl;have:=hval 1 24 _ rfl rfl;simp [Value.okWide,Tryz.underlying24,Cell.okWide,Cell.ok] at this) hy1;obtain ⟨y2,hy2,wf2,bk2⟩:=rd_arg (λn=>(rdGEvent _)) t2;have hv2:=V.of_agg (by have:=hval 2 36 v2 rfl rfl;simp only [Value.okWide,Tryz.underlying36] at this;obtain ⟨us,h,_⟩:=this;exact ⟨us,h⟩) rfl hy2;obtain ⟨y3,hy3,wf3,bk3⟩:=rd_arg (λn=>(qy Tryz.underlying3)) t3;have hv3:=V.of_one (by rintro cs rfl;have:=hval 3 3 _ rfl rfl;simp [Value.okWide,Tryz.underlying3,Cell.okWide,Cell.ok] at this) hy3;have hlt:∀x ∈ (p0++(p1++(p2++p3))),x.block < W.heap.size:=λx hx=>by simpa using hW'.lt x hx
 have hbk:((y0.map GI.bk).sum+1)+((y1.map GA.bk).sum+1)+GJ.bk y2+1<=1048576:=by
  have h:=u6 hk;simp only [tD,uY,t6,Rows.uptoBulkAll,ub] at h;omega
 refine ((ok3 (h:=h0) ((law45MeterMakes_top) y0 y1 y2 y3 wf0 wf1 wf2 wf3 hbk)).2 W.heap.size W (g0 W) W _ (rel0 W) (VL.cons hv0 (VL.cons hv1 (VL.cons hv2 (VL.cons hv3 (by simp [VL])))))).mono λe W' ⟨v,r,h',g',he,⟨hr,hh⟩,hg,hR,hv⟩=>?_;subst he hr;simp only [V] at hv;subst hv;exact ⟨_,rfl,post_of_below (pv:=[]) hW' hR.below (λ_ _ _=>(trodAll_cons_mk (shut_bool Tryz.underlying4 _) trodAll_mk0)) (λsp hsp=>(trodAll_cons_mk (WideElems.Trod_stays laidMeterMakes (by kernel_rfl) (u6 (by kernel_rfl)) t0 (λx hx=>hR.below.same (hlt x (by simp [hx]))) (λx hx=>hsp x (by simp [hx]))) (trodAll_cons_mk (WideElems.Trod_stays laidMeterMakes (by kernel_rfl) (u6 (by kernel_rfl)) t1 (λx hx=>hR.below.same (hlt x (by simp [hx]))) (λx hx=>hsp x (by simp [hx]))) (trodAll_cons_mk (WideElems.Trod_stays laidMeterMakes (by kernel_rfl) (u6 (by kernel_rfl)) t2 (λx hx=>hR.below.same (hlt x (by simp [hx]))) (λx hx=>hsp x (by simp [hx]))) (trodAll_cons_mk (WideElems.Trod_stays laidMeterMakes (by kernel_rfl) (u6 (by kernel_rfl)) t3 (λx hx=>hR.below.same (hlt x (by simp [hx]))) (λx hx=>hsp x (by simp [hx]))) trodAll_mk0))))) (λ_ _=>rfl) (by simp) (ok_one (by kernel_rfl) rfl (okWide_bool_mk Tryz.underlying4 _))⟩
set_option maxRecDepth 100000 in
theorem liftedMeterMakes (os:Os) (started:os.Started) (H:Type) (enc:TypeId×Value->H) (F:Stop.Interp) :
  ReturnsInHanded {} Tryz.checked os 3 .any ((Rows.OpenSpec.upto Rows.meterMakesSpec).pre6 enc Tryz.prog Tryz.f3 Rows.meterMakesUptoRow.domain false) (((Rows.OpenSpec.upto Rows.meterMakesSpec).at F).post enc Tryz.prog Tryz.f3 false true false false):=by
 refine returns_cond_shaped (C:=Tryz.checked) (s:=(Rows.OpenSpec.upto Rows.meterMakesSpec)) (k:=Rows.uptoSmall) rfl ownMeterMakes started (by kernel_rfl) Tryz.func3
  (OpenSpec.witness (enc:=enc) (C:=Tryz.checked) (s:=(Rows.OpenSpec.upto Rows.meterMakesSpec)) (k:=Rows.uptoSmall) rfl false ⟨#[],#[.slice none 0 0,.slice none 0 0,.agg #[.int .u8 0,.int .u32 0,.int .u64 0,.int .u64 0,.int .u8 0,.slice none 0 0,.int .i64 0,.string ⟨#[]⟩,.slice none 0 0],.int .i64 0],[]⟩ 8 (by kernel_rfl) (by kernel_rfl) (by kernel_rfl)
   (x:=(([.nil,.nil,.agg [.agg [.agg [.lit (.int .u8 0),.lit (.int .u32 0)],.lit (.int .u64 0)],.lit (.int .u64 0),.agg [.lit (.int .u8 0),.nil,.lit (.int .i64 0),.lit (.string []),.nil]],.lit (.int .i64 0)],[],[]))) (by kernel_rfl) rfl (by kernel_rfl)) ?_
 intro W base args ds gs before hval hW hk hsh;exact contractMeterMakes H enc W base args ds gs before hval hW hk hsh
set_option maxHeartbeats 4000000 in
theorem closedMeterMakes:joinedFacts Tryz.pinned.checked.prog 3 Tryz.f3 (Rows.OpenSpec.upto Rows.meterMakesSpec).bare Rows.meterMakesUptoRow=true:=by
 unfold joinedFacts;simp only [ud]
 repeat' apply And.intro
 all_goals as_aux_lemma=>kernel_rfl
theorem namedMeterMakes:Tryz.pinned.checked.prog.funcNamed Rows.meterMakesUptoRow.func=some 3:=by kernel_rfl
theorem instMeterMakes:Tryz.f3.isInstance Tryz.pinned.checked.prog Rows.meterMakesUptoRow.origin Rows.meterMakesUptoRow.targs:=u6 (by kernel_rfl)
theorem MeterMakesUptoHolds:Rows.MeterMakesUptoSaid :=
 OpenClaim.holds_of_cond 3 Tryz.f3 rfl rfl rfl rfl rfl rfl rfl ⟨rfl,rfl,rfl,rfl,rfl⟩ rfl rfl rfl rfl rfl namedMeterMakes Tryz.func3 closedMeterMakes
  instMeterMakes (by unfold Func.isWrapper;first | (rw [ur (by decide +kernel)];kernel_rfl) | (rw [uu (by decide +kernel)];exact ⟨rfl,rfl⟩))
  (λos started H enc _ F=>liftedMeterMakes os started H enc F)
end Go.Proofs.YtcociipjgndnaaaGreat
