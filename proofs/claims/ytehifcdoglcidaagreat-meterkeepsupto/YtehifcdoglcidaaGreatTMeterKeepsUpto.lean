/- The law varve.varvelaw45.MeterKeeps holds: for every input it returns true, and each argument reads as it read. No condition. -/
import Derived.Test.YtehifcdoglcidaaGreatRows
import Derived.Test.YtehifcdoglcidaaGreatW6
import Derived.Test.YtehifcdoglcidaaGreatPlS0
import Derived.Test.YtehifcdoglcidaaGreatPlS3
import Derived.Test.YtehifcdoglcidaaGreatVvUp
import Derived.ProofKit
import Derived.HandedShaped
import Derived.OpenShut
namespace Go.Proofs.YtehifcdoglcidaaGreat
open Go Go.Vv Go.ChangeShapes Go.WideShapes Go.ChangeAt Go.RowKit
set_option maxRecDepth 100000
set_option linter.unusedVariables false
set_option linter.unusedSimpArgs false
theorem co9:Tryz.prog.cellsOf 9=1:=by kernel_rfl
theorem co3:Tryz.prog.cellsOf 3=1:=by kernel_rfl
theorem co51:Tryz.prog.cellsOf 51=5:=by kernel_rfl
theorem rdGQuota {H:Type} {enc:TypeId×Value->H} {W:World} (n:Nat):RdN enc Tryz.prog W n 51 GQuota.row GQuota.wf GQuota.bk :=
 (vO (l:=(match Tryz.prog.underlying 51 with | some (.struct fs)=>fs.toList | _=>[])) (fs:=(match Tryz.prog.underlying 51 with | some (.struct fs)=>fs | _=>#[])) (by kernel_rfl) (by kernel_rfl) co51 (λm _=>(yu rfl co9 rfl (rd_str Tryz.underlying9) (yu rfl co3 rfl (qb Tryz.underlying3) (yu rfl co3 rfl (qb Tryz.underlying3) (yu rfl co3 rfl (qb Tryz.underlying3) (yu rfl co3 rfl (qb Tryz.underlying3) (rf_nil (by decide))))))))).map (λp=>GQuota.mk p.1 p.2.1 p.2.2.1 p.2.2.2.1 p.2.2.2.2.1) (λ_=>rfl) (λa h=>by simpa [GQuota.wf,and_assoc] using h) (λ_=>rfl)
theorem rdt22 {H:Type} {enc:TypeId×Value->H} {W:World} (n:Nat):RdN enc Tryz.prog W n 22 (λL:(List GQuota)=>[AV.sl 5 (L.map GQuota.row)]) (λL=>L.length<=maxLen/\∀y ∈ L,GQuota.wf y) (λL=>(L.map GQuota.bk).sum+1) :=
 rd_slice Tryz.underlying22 co51 (by decide) (λ_=>rfl) (λ_=>rfl) (λm _=>(rdGQuota _))
theorem co65:Tryz.prog.cellsOf 65=3:=by kernel_rfl
theorem co24:Tryz.prog.cellsOf 24=1:=by kernel_rfl
theorem co63:Tryz.prog.cellsOf 63=1:=by kernel_rfl
theorem co5:Tryz.prog.cellsOf 5=1:=by kernel_rfl
theorem co25:Tryz.prog.cellsOf 25=1:=by kernel_rfl
theorem co27:Tryz.prog.cellsOf 27=2:=by kernel_rfl
theorem rdGActor {H:Type} {enc:TypeId×Value->H} {W:World} (n:Nat):RdN enc Tryz.prog W n 27 GActor.row GActor.wf GActor.bk :=
 (vO (l:=(match Tryz.prog.underlying 27 with | some (.struct fs)=>fs.toList | _=>[])) (fs:=(match Tryz.prog.underlying 27 with | some (.struct fs)=>fs | _=>#[])) (by kernel_rfl) (by kernel_rfl) co27 (λm _=>(yu rfl co5 rfl (qb Tryz.underlying5) (yu rfl co25 rfl (qb Tryz.underlying25) (rf_nil (by decide)))))).map (λp=>GActor.mk p.1 p.2.1) (λ_=>rfl) (λa h=>by simpa [GActor.wf,and_assoc] using h) (λ_=>rfl)
theorem co28:Tryz.prog.cellsOf 28=1:=by kernel_rfl
theorem co30:Tryz.prog.cellsOf 30=3:=by kernel_rfl
theorem rdGDot {H:Type} {enc:TypeId×Value->H} {W:World} (n:Nat):RdN enc Tryz.prog W n 30 GDot.row GDot.wf GDot.bk :=
 (vO (l:=(match Tryz.prog.underlying 30 with | some (.struct fs)=>fs.toList | _=>[])) (fs:=(match Tryz.prog.underlying 30 with | some (.struct fs)=>fs | _=>#[])) (by kernel_rfl) (by kernel_rfl) co30 (λm _=>(yu rfl co27 rfl (rdGActor _) (yu rfl co28 rfl (qb Tryz.underlying28) (rf_nil (by decide)))))).map (λp=>GDot.mk p.1 p.2.1) (λ_=>rfl) (λa h=>by simpa [GDot.wf,and_assoc] using h) (λ_=>rfl)
theorem co58:Tryz.prog.cellsOf 58=5:=by kernel_rfl
theorem rdGItem {H:Type} {enc:TypeId×Value->H} {W:World} (n:Nat):RdN enc Tryz.prog W n 58 GItem.row GItem.wf GItem.bk :=
 (vO (l:=(match Tryz.prog.underlying 58 with | some (.struct fs)=>fs.toList | _=>[])) (fs:=(match Tryz.prog.underlying 58 with | some (.struct fs)=>fs | _=>#[])) (by kernel_rfl) (by kernel_rfl) co58 (λm _=>(yu rfl co28 rfl (qb Tryz.underlying28) (yu rfl co30 rfl (rdGDot _) (yu rfl co9 rfl (rd_str Tryz.underlying9) (rf_nil (by decide))))))).map (λp=>GItem.mk p.1 p.2.1 p.2.2.1) (λ_=>rfl) (λa h=>by simpa [GItem.wf,and_assoc] using h) (λ_=>rfl)
theorem rdt59 {H:Type} {enc:TypeId×Value->H} {W:World} (n:Nat):RdN enc Tryz.prog W n 59 (λL:(List GItem)=>[AV.sl 5 (L.map GItem.row)]) (λL=>L.length<=maxLen/\∀y ∈ L,GItem.wf y) (λL=>(L.map GItem.bk).sum+1) :=
 rd_slice Tryz.underlying59 co58 (by decide) (λ_=>rfl) (λ_=>rfl) (λm _=>(rdGItem _))
theorem rdt32 {H:Type} {enc:TypeId×Value->H} {W:World} (n:Nat):RdN enc Tryz.prog W n 32 (λL:(List GDot)=>[AV.sl 3 (L.map GDot.row)]) (λL=>L.length<=maxLen/\∀y ∈ L,GDot.wf y) (λL=>(L.map GDot.bk).sum+1) :=
 rd_slice Tryz.underlying32 co30 (by decide) (λ_=>rfl) (λ_=>rfl) (λm _=>(rdGDot _))
theorem co2:Tryz.prog.cellsOf 2=1:=by kernel_rfl
theorem co59:Tryz.prog.cellsOf 59=1:=by kernel_rfl
theorem co32:Tryz.prog.cellsOf 32=1:=by kernel_rfl
theorem co61:Tryz.prog.cellsOf 61=9:=by kernel_rfl
theorem rdGLeaf {H:Type} {enc:TypeId×Value->H} {W:World} (n:Nat):RdN enc Tryz.prog W n 61 GLeaf.row GLeaf.wf GLeaf.bk :=
 (vO (l:=(match Tryz.prog.underlying 61 with | some (.struct fs)=>fs.toList | _=>[])) (fs:=(match Tryz.prog.underlying 61 with | some (.struct fs)=>fs | _=>#[])) (by kernel_rfl) (by kernel_rfl) co61 (λm _=>(yu rfl co5 rfl (qb Tryz.underlying5) (yu rfl co2 rfl (qb Tryz.underlying2) (yu rfl co28 rfl (qb Tryz.underlying28) (yu rfl co30 rfl (rdGDot _) (yu rfl co9 rfl (rd_str Tryz.underlying9) (yu rfl co59 rfl (rdt59 _) (yu rfl co32 rfl (rdt32 _) (rf_nil (by decide))))))))))).map (λp=>GLeaf.mk p.1 p.2.1 p.2.2.1 p.2.2.2.1 p.2.2.2.2.1 p.2.2.2.2.2.1 p.2.2.2.2.2.2.1) (λ_=>rfl) (λa h=>by simpa [GLeaf.wf,and_assoc] using h) (λ_=>rfl)
theorem rdt63 {H:Type} {enc:TypeId×Value->H} {W:World} (n:Nat):RdN enc Tryz.prog W n 63 (λL:(List GLeaf)=>[AV.sl 9 (L.map GLeaf.row)]) (λL=>L.length<=maxLen/\∀y ∈ L,GLeaf.wf y) (λL=>(L.map GLeaf.bk).sum+1) :=
 rd_slice Tryz.underlying63 co61 (by decide) (λ_=>rfl) (λ_=>rfl) (λm _=>(rdGLeaf _))
theorem rdGNode {H:Type} {enc:TypeId×Value->H} {W:World} (n:Nat):RdN enc Tryz.prog W n 65 GNode.row GNode.wf GNode.bk:=by
 induction n using Nat.strongRecOn with
 | _ n ih =>
  exact (vO (l:=(match Tryz.prog.underlying 65 with | some (.struct fs)=>fs.toList | _=>[])) (fs:=(match Tryz.prog.underlying 65 with | some (.struct fs)=>fs | _=>#[])) (by kernel_rfl) (by kernel_rfl) co65 (λm hm=>(yu rfl co9 rfl (rd_str Tryz.underlying9) (yu rfl co63 rfl (rdt63 _) (yu rfl co24 rfl (rd_slice Tryz.underlying24 co65 (by decide) (λy=>by rw [GNode.row_eq];rfl) (λy=>by rw [GNode.row_eq];rfl) (λq hq=>ih q (by omega))) (rf_nil (by decide))))))).map (λp=>GNode.mk p.1 p.2.1 p.2.2.1) (λ_=>GNode.row_eq _) (λa h=>by simp only [GNode.wf,GNode.wfs_iff];simp only [and_assoc,and_true] at h ⊢;first | exact h | simp_all) (λ_=>by simp only [GNode.bk,GNode.bks_eq])
theorem rdt24 {H:Type} {enc:TypeId×Value->H} {W:World} (n:Nat):RdN enc Tryz.prog W n 24 (λL:(List GNode)=>[AV.sl 3 (L.map GNode.row)]) (λL=>L.length<=maxLen/\∀y ∈ L,GNode.wf y) (λL=>(L.map GNode.bk).sum+1) :=
 rd_slice Tryz.underlying24 co65 (by decide) (λy=>by rw [GNode.row_eq];rfl) (λy=>by rw [GNode.row_eq];rfl) (λm _=>(rdGNode _))
theorem rdt31 {H:Type} {enc:TypeId×Value->H} {W:World} (n:Nat):RdN enc Tryz.prog W n 31 (λL:(List zn)=>[AV.sl 1 (L.map yG)]) (λL=>L.length<=maxLen/\∀y ∈ L,y.length<=maxLen) (λL=>(L.map (λs=>s.length+1)).sum+1) :=
 rd_slice Tryz.underlying31 co9 (by decide) (λ_=>rfl) (λ_=>rfl) (λm _=>(rd_str Tryz.underlying9))
theorem co31:Tryz.prog.cellsOf 31=1:=by kernel_rfl
theorem co34:Tryz.prog.cellsOf 34=5:=by kernel_rfl
theorem rdGOp {H:Type} {enc:TypeId×Value->H} {W:World} (n:Nat):RdN enc Tryz.prog W n 34 GOp.row GOp.wf GOp.bk :=
 (vO (l:=(match Tryz.prog.underlying 34 with | some (.struct fs)=>fs.toList | _=>[])) (fs:=(match Tryz.prog.underlying 34 with | some (.struct fs)=>fs | _=>#[])) (by kernel_rfl) (by kernel_rfl) co34 (λm _=>(yu rfl co5 rfl (qb Tryz.underlying5) (yu rfl co31 rfl (rdt31 _) (yu rfl co2 rfl (qb Tryz.underlying2) (yu rfl co9 rfl (rd_str Tryz.underlying9) (yu rfl co32 rfl (rdt32 _) (rf_nil (by decide))))))))).map (λp=>GOp.mk p.1 p.2.1 p.2.2.1 p.2.2.2.1 p.2.2.2.2.1) (λ_=>rfl) (λa h=>by simpa [GOp.wf,and_assoc] using h) (λ_=>rfl)
theorem co36:Tryz.prog.cellsOf 36=9:=by kernel_rfl
theorem rdGEvent {H:Type} {enc:TypeId×Value->H} {W:World} (n:Nat):RdN enc Tryz.prog W n 36 GEvent.row GEvent.wf GEvent.bk :=
 (vO (l:=(match Tryz.prog.underlying 36 with | some (.struct fs)=>fs.toList | _=>[])) (fs:=(match Tryz.prog.underlying 36 with | some (.struct fs)=>fs | _=>#[])) (by kernel_rfl) (by kernel_rfl) co36 (λm _=>(yu rfl co30 rfl (rdGDot _) (yu rfl co28 rfl (qb Tryz.underlying28) (yu rfl co34 rfl (rdGOp _) (rf_nil (by decide))))))).map (λp=>GEvent.mk p.1 p.2.1 p.2.2.1) (λ_=>rfl) (λa h=>by simpa [GEvent.wf,and_assoc] using h) (λ_=>rfl)
theorem ownMeterKeeps:ownKnob Tryz.prog.godebug=none:=by kernel_rfl
theorem laidMeterKeeps:laidOutB Tryz.prog=true:=by kernel_rfl
mutual
theorem ub {H:Type}:∀d:DataW H,Rows.uptoBulk d=wo d
 | .lit l=>by cases l <;> simp only [Rows.uptoBulk,wo]
 | .nil=>by simp only [Rows.uptoBulk,wo]
 | .ptr d=>by simp only [Rows.uptoBulk,wo,ub d]
 | .slice e s=>by simp only [Rows.uptoBulk,wo,ubAll e,ubAll s]
 | .agg p=>by simp only [Rows.uptoBulk,wo,ubAll p]
 | .iface _ d=>by simp only [Rows.uptoBulk,wo,ub d]
 | .map e=>by simp only [Rows.uptoBulk,wo,ubEs e]
 | .held _=>by simp only [Rows.uptoBulk,wo]
theorem ubAll {H:Type}:∀l:List (DataW H),Rows.uptoBulkAll l=wn l
 | []=>by simp only [Rows.uptoBulkAll,wn]
 | d::r=>by simp only [Rows.uptoBulkAll,wn,ub d,ubAll r]
theorem ubEs {H:Type}:∀l:List (Lit×DataW H),Rows.uptoBulkEntries l=vBulkEs l
 | []=>by simp only [Rows.uptoBulkEntries,vBulkEs]
 | x::r=>by simp only [Rows.uptoBulkEntries,vBulkEs,ubE x,ubEs r];omega
theorem ubE {H:Type}:∀x:Lit×DataW H,Rows.uptoBulkEntry x=vBulkE x
 | (l,d)=>by cases l <;> simp only [Rows.uptoBulkEntry,vBulkE,ub d]
end
theorem contractMeterKeeps (H:Type) (enc:TypeId×Value->H) (W:World) (base:Nat) (args:Array Value) (ds gs:List (DataW H)) (before:List MemPlace)
  (hval:∀(j:Nat) t v,Tryz.f3.params[j]?=some t->args[j]?=some v->Value.okWide Tryz.prog W .any base t v)
  (hW:DataW.Whole enc Tryz.prog Tryz.f3.params.toList Rows.meterKeepsSpec.vars false W args.toList ds gs before) (hk:Rows.uptoSmall H (ds++gs)=true) (hsh:W.ShapedOpen Tryz.prog) :
  Calls Tryz.prog 3 args W λe W'=>∃v,e=.returned v/\Rows.meterKeepsSpec.post enc Tryz.prog Tryz.f3 false true false false W args v W':=by
 haveI:GOk Tryz.prog W.heap.size W:=⟨hsh,Nat.le_refl _⟩
 have hW':=hW;obtain ⟨p,q,hA0,hV,rfl,hfz,hnd⟩:=hW;have hA:DataW.TrodAll enc Tryz.prog W 0 (λ_=>true) true Tryz.f3.params.toList args.toList ds p:=hA0;rw [Tryz.params3] at hA hval;obtain ⟨v0,vs0,d0,ds0,p0,q0,hargs,rfl,rfl,t0,r0⟩:=trodAll_cons hA;obtain ⟨v1,vs1,d1,ds1,p1,q1,rfl,rfl,rfl,t1,r1⟩:=trodAll_cons r0;obtain ⟨v2,vs2,d2,ds2,p2,q2,rfl,rfl,rfl,t2,r2⟩:=trodAll_cons r1;obtain ⟨rfl,rfl,rfl⟩:=trodAll_nil r2;obtain rfl:args=#[v0,v1,v2]:=by cases args;simp_all
 obtain ⟨rfl,rfl⟩:=trodVars_none hV;clear hA0;simp only [List.append_nil] at hW';obtain ⟨y0,hy0,wf0,bk0⟩:=rd_arg (λn=>(rdt22 _)) t0;have hv0:=V.of_one (by rintro cs rfl;have:=hval 0 22 _ rfl rfl;simp [Value.okWide,Tryz.underlying22,Cell.okWide,Cell.ok] at this) hy0;obtain ⟨y1,hy1,wf1,bk1⟩:=rd_arg (λn=>(rdt24 _)) t1;have hv1:=V.of_one (by rintro cs rfl;have:=hval 1 24 _ rfl rfl;simp [Value.okWide,Tryz.underlying24,Cell.okWide,Cell.ok] at this) hy1;obtain ⟨y2,hy2,wf2,bk2⟩:=rd_arg (λn=>(rdGEvent _)) t2;have hv2:=V.of_agg (by have:=hval 2 36 v2 rfl rfl;simp only [Value.okWide,Tryz.underlying36] at this;obtain ⟨us,h,_⟩:=this;exact ⟨us,h⟩) rfl hy2;have hlt:∀x ∈ (p0++(p1++p2)),x.block < W.heap.size:=λx hx=>by simpa using hW'.lt x hx
 have hbk:((y0.map GQuota.bk).sum+1)+((y1.map GNode.bk).sum+1)+GEvent.bk y2<=1048576:=by
  have h:=of_decide_eq_true hk;simp only [List.cons_append,List.nil_append,List.append_nil,Rows.uptoBulkAll,ub] at h;omega
 refine ((ok3 (h:=h0) ((law45MeterKeeps_top) y0 y1 y2 wf0 wf1 wf2 hbk)).2 W.heap.size W (g0 W) W _ (rel0 W) (VL.cons hv0 (VL.cons hv1 (VL.cons hv2 (by simp [VL]))))).mono λe W' ⟨v,r,h',g',he,⟨hr,hh⟩,hg,hR,hv⟩=>?_;subst he hr;simp only [V] at hv;subst hv;exact ⟨_,rfl,post_of_below (pv:=[]) hW' hR.below (λ_ _ _=>(trodAll_cons_mk (shut_bool Tryz.underlying4 _) trodAll_mk0)) (λsp hsp=>(trodAll_cons_mk (WideElems.Trod_stays laidMeterKeeps (by kernel_rfl) (of_decide_eq_true (by kernel_rfl)) t0 (λx hx=>hR.below.same (hlt x (by simp [hx]))) (λx hx=>hsp x (by simp [hx]))) (trodAll_cons_mk (WideElems.Trod_stays laidMeterKeeps (by kernel_rfl) (of_decide_eq_true (by kernel_rfl)) t1 (λx hx=>hR.below.same (hlt x (by simp [hx]))) (λx hx=>hsp x (by simp [hx]))) (trodAll_cons_mk (WideElems.Trod_stays laidMeterKeeps (by kernel_rfl) (of_decide_eq_true (by kernel_rfl)) t2 (λx hx=>hR.below.same (hlt x (by simp [hx]))) (λx hx=>hsp x (by simp [hx]))) trodAll_mk0)))) (λ_ _=>rfl) (by simp) (ok_one (by kernel_rfl) rfl (okWide_bool_mk Tryz.underlying4 _))⟩
set_option maxRecDepth 100000 in
theorem liftedMeterKeeps (os:Os) (started:os.Started) (H:Type) (enc:TypeId×Value->H) (F:Stop.Interp) :
  ReturnsInHanded {} Tryz.checked os 3 .any ((Rows.OpenSpec.upto Rows.meterKeepsSpec).pre6 enc Tryz.prog Tryz.f3 Rows.meterKeepsUptoRow.domain false) (((Rows.OpenSpec.upto Rows.meterKeepsSpec).at F).post enc Tryz.prog Tryz.f3 false true false false):=by
 refine returns_cond_shaped (C:=Tryz.checked) (s:=(Rows.OpenSpec.upto Rows.meterKeepsSpec)) (k:=Rows.uptoSmall) rfl ownMeterKeeps started (by kernel_rfl) Tryz.func3
  (OpenSpec.witness (enc:=enc) (C:=Tryz.checked) (s:=(Rows.OpenSpec.upto Rows.meterKeepsSpec)) (k:=Rows.uptoSmall) rfl false ⟨#[],#[.slice none 0 0,.slice none 0 0,.agg #[.int .u8 0,.int .u32 0,.int .u64 0,.int .u64 0,.int .u8 0,.slice none 0 0,.int .i64 0,.string ⟨#[]⟩,.slice none 0 0]],[]⟩ 8 (by kernel_rfl) (by kernel_rfl) (by kernel_rfl)
   (x:=(([.nil,.nil,.agg [.agg [.agg [.lit (.int .u8 0),.lit (.int .u32 0)],.lit (.int .u64 0)],.lit (.int .u64 0),.agg [.lit (.int .u8 0),.nil,.lit (.int .i64 0),.lit (.string []),.nil]]],[],[]))) (by kernel_rfl) rfl (by kernel_rfl)) ?_
 intro W base args ds gs before hval hW hk hsh;exact contractMeterKeeps H enc W base args ds gs before hval hW hk hsh
set_option maxHeartbeats 4000000 in
theorem closedMeterKeeps:joinedFacts Tryz.pinned.checked.prog 3 Tryz.f3 (Rows.OpenSpec.upto Rows.meterKeepsSpec).bare Rows.meterKeepsUptoRow=true:=by
 unfold joinedFacts;simp only [Bool.and_eq_true]
 repeat' apply And.intro
 all_goals as_aux_lemma=>kernel_rfl
theorem namedMeterKeeps:Tryz.pinned.checked.prog.funcNamed Rows.meterKeepsUptoRow.func=some 3:=by kernel_rfl
theorem instMeterKeeps:Tryz.f3.isInstance Tryz.pinned.checked.prog Rows.meterKeepsUptoRow.origin Rows.meterKeepsUptoRow.targs:=of_decide_eq_true (by kernel_rfl)
theorem MeterKeepsUptoHolds:Rows.MeterKeepsUptoSaid :=
 OpenClaim.holds_of_cond 3 Tryz.f3 rfl rfl rfl rfl rfl rfl rfl ⟨rfl,rfl,rfl,rfl,rfl⟩ rfl rfl rfl rfl rfl namedMeterKeeps Tryz.func3 closedMeterKeeps
  instMeterKeeps (by unfold Func.isWrapper;first | (rw [if_pos (by decide +kernel)];kernel_rfl) | (rw [if_neg (by decide +kernel)];exact ⟨rfl,rfl⟩))
  (λos started H enc _ F=>liftedMeterKeeps os started H enc F)
end Go.Proofs.YtehifcdoglcidaaGreat
