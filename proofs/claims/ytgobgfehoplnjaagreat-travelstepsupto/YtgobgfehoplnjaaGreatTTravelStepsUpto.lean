/- The law varve.varvelaw33.TravelSteps holds: for every input it returns true, and each argument reads as it read. No condition. -/
import Derived.Test.YtgobgfehoplnjaaGreatRows
import Derived.Test.YtgobgfehoplnjaaGreatW10
import Derived.Test.YtgobgfehoplnjaaGreatPlY0
import Derived.Test.YtgobgfehoplnjaaGreatPlY1
import Derived.Test.YtgobgfehoplnjaaGreatVvMr
import Derived.ProofKit
import Derived.HandedShaped
import Derived.OpenShut
namespace Go.Proofs.YtgobgfehoplnjaaGreat
open Go Go.Vv Go.ChangeShapes Go.WideShapes Go.ChangeAt Go.RowKit
set_option maxRecDepth 100000
set_option linter.unusedVariables false
set_option linter.unusedSimpArgs false
theorem co5:Tryz.prog.cellsOf 5=1:=by kernel_rfl
theorem zxJ:Tryz.prog.cellsOf 45=1:=by kernel_rfl
theorem zwz:Tryz.prog.cellsOf 47=2:=by kernel_rfl
theorem zm9 {H:Type} {enc:TypeId×Value->H} {W:World} (n:Nat):e8 enc Tryz.prog W n 47 GH.row GH.wf GH.bk :=
 (uV (l:=(match Tryz.prog.underlying 47 with | some (.struct fs)=>fs.toList | _=>[])) (fs:=(match Tryz.prog.underlying 47 with | some (.struct fs)=>fs | _=>#[])) (by kernel_rfl) (by kernel_rfl) zwz (λm _=>(yB rfl co5 rfl (ru Tryz.underlying5) (yB rfl zxJ rfl (ru Tryz.underlying45) (mu (by decide)))))).map (λp=>GH.mk p.1 p.2.1) (λ_=>rfl) (λa h=>by simpa [GH.wf,jK] using h) (λ_=>rfl)
theorem zqT:Tryz.prog.cellsOf 22=1:=by kernel_rfl
theorem zqS:Tryz.prog.cellsOf 49=3:=by kernel_rfl
theorem zfW {H:Type} {enc:TypeId×Value->H} {W:World} (n:Nat):e8 enc Tryz.prog W n 49 GA.row GA.wf GA.bk :=
 (uV (l:=(match Tryz.prog.underlying 49 with | some (.struct fs)=>fs.toList | _=>[])) (fs:=(match Tryz.prog.underlying 49 with | some (.struct fs)=>fs | _=>#[])) (by kernel_rfl) (by kernel_rfl) zqS (λm _=>(yB rfl zwz rfl (zm9 _) (yB rfl zqT rfl (ru Tryz.underlying22) (mu (by decide)))))).map (λp=>GA.mk p.1 p.2.1) (λ_=>rfl) (λa h=>by simpa [GA.wf,jK] using h) (λ_=>rfl)
theorem zrb {H:Type} {enc:TypeId×Value->H} {W:World} (n:Nat):e8 enc Tryz.prog W n 24 (λL:(List GA)=>[AV.sl 3 (L.map GA.row)]) (λL=>L.length<=maxLen/\∀y ∈ L,GA.wf y) (λL=>(L.map GA.bk).sum+1) :=
 sW Tryz.underlying24 zqS (by decide) (λ_=>rfl) (λ_=>rfl) (λm _=>(zfW _))
theorem zm8 {H:Type} {enc:TypeId×Value->H} {W:World} (n:Nat):e8 enc Tryz.prog W n 23 (λL:(List GA)=>[AV.sl 3 (L.map GA.row)]) (λL=>L.length<=maxLen/\∀y ∈ L,GA.wf y) (λL=>(L.map GA.bk).sum+1) :=
 sW Tryz.underlying23 zqS (by decide) (λ_=>rfl) (λ_=>rfl) (λm _=>(zfW _))
theorem zvh:Tryz.prog.cellsOf 95=3:=by kernel_rfl
theorem zwA:Tryz.prog.cellsOf 26=1:=by kernel_rfl
theorem zxG:Tryz.prog.cellsOf 93=1:=by kernel_rfl
theorem co9:Tryz.prog.cellsOf 9=1:=by kernel_rfl
theorem zsH:Tryz.prog.cellsOf 133=5:=by kernel_rfl
theorem zpm {H:Type} {enc:TypeId×Value->H} {W:World} (n:Nat):e8 enc Tryz.prog W n 133 GF.row GF.wf GF.bk :=
 (uV (l:=(match Tryz.prog.underlying 133 with | some (.struct fs)=>fs.toList | _=>[])) (fs:=(match Tryz.prog.underlying 133 with | some (.struct fs)=>fs | _=>#[])) (by kernel_rfl) (by kernel_rfl) zsH (λm _=>(yB rfl zqT rfl (ru Tryz.underlying22) (yB rfl zqS rfl (zfW _) (yB rfl co9 rfl (zfV Tryz.underlying9) (mu (by decide))))))).map (λp=>GF.mk p.1 p.2.1 p.2.2.1) (λ_=>rfl) (λa h=>by simpa [GF.wf,jK] using h) (λ_=>rfl)
theorem ztw {H:Type} {enc:TypeId×Value->H} {W:World} (n:Nat):e8 enc Tryz.prog W n 68 (λL:(List GF)=>[AV.sl 5 (L.map GF.row)]) (λL=>L.length<=maxLen/\∀y ∈ L,GF.wf y) (λL=>(L.map GF.bk).sum+1) :=
 sW Tryz.underlying68 zsH (by decide) (λ_=>rfl) (λ_=>rfl) (λm _=>(zpm _))
theorem co2:Tryz.prog.cellsOf 2=1:=by kernel_rfl
theorem zxH:Tryz.prog.cellsOf 68=1:=by kernel_rfl
theorem zta:Tryz.prog.cellsOf 23=1:=by kernel_rfl
theorem zww:Tryz.prog.cellsOf 70=9:=by kernel_rfl
theorem zpl {H:Type} {enc:TypeId×Value->H} {W:World} (n:Nat):e8 enc Tryz.prog W n 70 GE.row GE.wf GE.bk :=
 (uV (l:=(match Tryz.prog.underlying 70 with | some (.struct fs)=>fs.toList | _=>[])) (fs:=(match Tryz.prog.underlying 70 with | some (.struct fs)=>fs | _=>#[])) (by kernel_rfl) (by kernel_rfl) zww (λm _=>(yB rfl co5 rfl (ru Tryz.underlying5) (yB rfl co2 rfl (ru Tryz.underlying2) (yB rfl zqT rfl (ru Tryz.underlying22) (yB rfl zqS rfl (zfW _) (yB rfl co9 rfl (zfV Tryz.underlying9) (yB rfl zxH rfl (ztw _) (yB rfl zta rfl (zm8 _) (mu (by decide))))))))))).map (λp=>GE.mk p.1 p.2.1 p.2.2.1 p.2.2.2.1 p.2.2.2.2.1 p.2.2.2.2.2.1 p.2.2.2.2.2.2.1) (λ_=>rfl) (λa h=>by simpa [GE.wf,jK] using h) (λ_=>rfl)
theorem ztv {H:Type} {enc:TypeId×Value->H} {W:World} (n:Nat):e8 enc Tryz.prog W n 93 (λL:(List GE)=>[AV.sl 9 (L.map GE.row)]) (λL=>L.length<=maxLen/\∀y ∈ L,GE.wf y) (λL=>(L.map GE.bk).sum+1) :=
 sW Tryz.underlying93 zww (by decide) (λ_=>rfl) (λ_=>rfl) (λm _=>(zpl _))
theorem zpk {H:Type} {enc:TypeId×Value->H} {W:World} (n:Nat):e8 enc Tryz.prog W n 95 GC.row GC.wf GC.bk:=by
 induction n using Nat.strongRecOn with
 | _ n ih =>
  exact (uV (l:=(match Tryz.prog.underlying 95 with | some (.struct fs)=>fs.toList | _=>[])) (fs:=(match Tryz.prog.underlying 95 with | some (.struct fs)=>fs | _=>#[])) (by kernel_rfl) (by kernel_rfl) zvh (λm hm=>(yB rfl co9 rfl (zfV Tryz.underlying9) (yB rfl zxG rfl (ztv _) (yB rfl zwA rfl (sW Tryz.underlying26 zvh (by decide) (λy=>by rw [GC.q8];rfl) (λy=>by rw [GC.q8];rfl) (λq hq=>ih q (by omega))) (mu (by decide))))))).map (λp=>GC.mk p.1 p.2.1 p.2.2.1) (λ_=>GC.q8 _) (λa h=>by simp only [GC.wf,GC.eH];simp only [jK,kJ] at h ⊢;first | exact h | simp_all) (λ_=>by simp only [GC.bk,GC.dQ])
theorem ztz {H:Type} {enc:TypeId×Value->H} {W:World} (n:Nat):e8 enc Tryz.prog W n 26 (λL:(List GC)=>[AV.sl 3 (L.map GC.row)]) (λL=>L.length<=maxLen/\∀y ∈ L,GC.wf y) (λL=>(L.map GC.bk).sum+1) :=
 sW Tryz.underlying26 zvh (by decide) (λy=>by rw [GC.q8];rfl) (λy=>by rw [GC.q8];rfl) (λm _=>(zpk _))
theorem zwB:Tryz.prog.cellsOf 24=1:=by kernel_rfl
theorem zxK:Tryz.prog.cellsOf 28=5:=by kernel_rfl
theorem zpn {H:Type} {enc:TypeId×Value->H} {W:World} (n:Nat):e8 enc Tryz.prog W n 28 GL.row GL.wf GL.bk :=
 (uV (l:=(match Tryz.prog.underlying 28 with | some (.struct fs)=>fs.toList | _=>[])) (fs:=(match Tryz.prog.underlying 28 with | some (.struct fs)=>fs | _=>#[])) (by kernel_rfl) (by kernel_rfl) zxK (λm _=>(yB rfl zqT rfl (ru Tryz.underlying22) (yB rfl zwB rfl (zrb _) (yB rfl zta rfl (zm8 _) (yB rfl zqT rfl (ru Tryz.underlying22) (yB rfl zwA rfl (ztz _) (mu (by decide))))))))).map (λp=>GL.mk p.1 p.2.1 p.2.2.1 p.2.2.2.1 p.2.2.2.2.1) (λ_=>rfl) (λa h=>by simpa [GL.wf,jK] using h) (λ_=>rfl)
theorem ztx {H:Type} {enc:TypeId×Value->H} {W:World} (n:Nat):e8 enc Tryz.prog W n 50 (λL:(List zq)=>[AV.sl 1 (L.map yp)]) (λL=>L.length<=maxLen/\∀y ∈ L,y.length<=maxLen) (λL=>(L.map (λs=>s.length+1)).sum+1) :=
 sW Tryz.underlying50 co9 (by decide) (λ_=>rfl) (λ_=>rfl) (λm _=>(zfV Tryz.underlying9))
theorem zxI:Tryz.prog.cellsOf 50=1:=by kernel_rfl
theorem zwy:Tryz.prog.cellsOf 52=5:=by kernel_rfl
theorem ztA {H:Type} {enc:TypeId×Value->H} {W:World} (n:Nat):e8 enc Tryz.prog W n 52 GM.row GM.wf GM.bk :=
 (uV (l:=(match Tryz.prog.underlying 52 with | some (.struct fs)=>fs.toList | _=>[])) (fs:=(match Tryz.prog.underlying 52 with | some (.struct fs)=>fs | _=>#[])) (by kernel_rfl) (by kernel_rfl) zwy (λm _=>(yB rfl co5 rfl (ru Tryz.underlying5) (yB rfl zxI rfl (ztx _) (yB rfl co2 rfl (ru Tryz.underlying2) (yB rfl co9 rfl (zfV Tryz.underlying9) (yB rfl zta rfl (zm8 _) (mu (by decide))))))))).map (λp=>GM.mk p.1 p.2.1 p.2.2.1 p.2.2.2.1 p.2.2.2.2.1) (λ_=>rfl) (λa h=>by simpa [GM.wf,jK] using h) (λ_=>rfl)
theorem zwx:Tryz.prog.cellsOf 57=11:=by kernel_rfl
theorem zk2 {H:Type} {enc:TypeId×Value->H} {W:World} (n:Nat):e8 enc Tryz.prog W n 57 GI.row GI.wf GI.bk :=
 (uV (l:=(match Tryz.prog.underlying 57 with | some (.struct fs)=>fs.toList | _=>[])) (fs:=(match Tryz.prog.underlying 57 with | some (.struct fs)=>fs | _=>#[])) (by kernel_rfl) (by kernel_rfl) zwx (λm _=>(yB rfl zqS rfl (zfW _) (yB rfl zta rfl (zm8 _) (yB rfl zwB rfl (zrb _) (yB rfl zqT rfl (ru Tryz.underlying22) (yB rfl zwy rfl (ztA _) (mu (by decide))))))))).map (λp=>GI.mk p.1 p.2.1 p.2.2.1 p.2.2.2.1 p.2.2.2.2.1) (λ_=>rfl) (λa h=>by simpa [GI.wf,jK] using h) (λ_=>rfl)
theorem zty {H:Type} {enc:TypeId×Value->H} {W:World} (n:Nat):e8 enc Tryz.prog W n 29 (λL:(List GI)=>[AV.sl 11 (L.map GI.row)]) (λL=>L.length<=maxLen/\∀y ∈ L,GI.wf y) (λL=>(L.map GI.bk).sum+1) :=
 sW Tryz.underlying29 zwx (by decide) (λ_=>rfl) (λ_=>rfl) (λm _=>(zk2 _))
theorem zdg:ownKnob Tryz.prog.godebug=none:=by kernel_rfl
theorem nT:laidOutB Tryz.prog=true:=by kernel_rfl
mutual
theorem ub {H:Type}:∀d:DataW H,Rows.uptoBulk d=qg d
 | .lit l=>by cases l <;> simp only [Rows.uptoBulk,qg]
 | .nil=>by simp only [Rows.uptoBulk,qg]
 | .ptr d=>by simp only [Rows.uptoBulk,qg,ub d]
 | .slice e s=>by simp only [Rows.uptoBulk,qg,zmP e,zmP s]
 | .agg p=>by simp only [Rows.uptoBulk,qg,zmP p]
 | .iface _ d=>by simp only [Rows.uptoBulk,qg,ub d]
 | .map e=>by simp only [Rows.uptoBulk,qg,zvu e]
 | .held _=>by simp only [Rows.uptoBulk,qg]
theorem zmP {H:Type}:∀l:List (DataW H),Rows.uptoBulkAll l=qf l
 | []=>by simp only [Rows.uptoBulkAll,qf]
 | d::r=>by simp only [Rows.uptoBulkAll,qf,ub d,zmP r]
theorem zvu {H:Type}:∀l:List (Lit×DataW H),Rows.uptoBulkEntries l=zbT l
 | []=>by simp only [Rows.uptoBulkEntries,zbT]
 | x::r=>by simp only [Rows.uptoBulkEntries,zbT,ubE x,zvu r];omega
theorem ubE {H:Type}:∀x:Lit×DataW H,Rows.uptoBulkEntry x=zkA x
 | (l,d)=>by cases l <;> simp only [Rows.uptoBulkEntry,zkA,ub d]
end
theorem zac (H:Type) (enc:TypeId×Value->H) (W:World) (base:Nat) (args:Array Value) (ds gs:List (DataW H)) (before:List MemPlace)
  (hval:∀(j:Nat) t v,Tryz.f3.params[j]?=some t->args[j]?=some v->Value.okWide Tryz.prog W .any base t v)
  (hW:DataW.Whole enc Tryz.prog Tryz.f3.params.toList Rows.travelStepsSpec.vars false W args.toList ds gs before) (hk:Rows.uptoSmall H (ds++gs)=true) (hsh:W.ShapedOpen Tryz.prog) :
  Calls Tryz.prog 3 args W λe W'=>∃v,e=.returned v/\Rows.travelStepsSpec.post enc Tryz.prog Tryz.f3 false true false false W args v W':=by
 haveI:ax Tryz.prog W.heap.size W:=⟨hsh,oA _,trivial⟩
 have hW':=hW;obtain ⟨p,q,hA0,hV,rfl,hfz,hnd⟩:=hW;have hA:DataW.TrodAll enc Tryz.prog W 0 (λ_=>true) true Tryz.f3.params.toList args.toList ds p:=hA0;rw [Tryz.params3] at hA hval;obtain ⟨v0,vs0,d0,ds0,p0,q0,hargs,rfl,rfl,t0,r0⟩:=trodAll_cons hA;obtain ⟨v1,vs1,d1,ds1,p1,q1,rfl,rfl,rfl,t1,r1⟩:=trodAll_cons r0;obtain ⟨rfl,rfl,rfl⟩:=trodAll_nil r1;obtain rfl:args=#[v0,v1]:=by cases args;simp_all
 obtain ⟨rfl,rfl⟩:=trodVars_none hV;clear hA0;simp only [ko] at hW';obtain ⟨y0,hy0,wf0,bk0⟩:=zoz (λn=>(zpn _)) t0;have hv0:=V.zxS (by have:=hval 0 28 v0 rfl rfl;simp only [Value.okWide,Tryz.underlying28] at this;obtain ⟨us,h,_⟩:=this;exact ⟨us,h⟩) rfl hy0;obtain ⟨y1,hy1,wf1,bk1⟩:=zoz (λn=>(zty _)) t1;have hv1:=V.zxR (by rintro cs rfl;have:=hval 1 29 _ rfl rfl;simp [Value.okWide,Tryz.underlying29,Cell.okWide,Cell.ok] at this) hy1;have hlt:∀x ∈ (p0++p1),x.block < W.heap.size:=λx hx=>by simpa using hW'.lt x hx
 have hbk:GL.bk y0+((y1.map GI.bk).sum+1)<=1048576:=by
  have h:=ke hk;simp only [kg,lC,ko,Rows.uptoBulkAll,ub] at h;omega
 refine ((ok3 (h:=h0) ((mO) y0 y1 wf0 wf1 hbk)).2 W.heap.size W (g0 W) W _ (zvB W) (VL.cons hv0 (VL.cons hv1 (by simp [VL])))).mono λe W' ⟨v,r,h',g',he,⟨hr,hh⟩,hg,hR,hv⟩=>?_;subst he hr;simp only [V] at hv;subst hv;exact ⟨_,rfl,zeH (pv:=[]) hW' hR.below (λ_ _ _=>(trodAll_cons_mk (shut_bool Tryz.underlying4 _) trodAll_mk0)) (λsp hsp=>(trodAll_cons_mk (WideElems.Trod_stays nT (by kernel_rfl) (ke (by kernel_rfl)) t0 (λx hx=>hR.below.same (hlt x (by simp [hx]))) (λx hx=>hsp x (by simp [hx]))) (trodAll_cons_mk (WideElems.Trod_stays nT (by kernel_rfl) (ke (by kernel_rfl)) t1 (λx hx=>hR.below.same (hlt x (by simp [hx]))) (λx hx=>hsp x (by simp [hx]))) trodAll_mk0))) (λ_ _=>rfl) (by simp) (ok_one (by kernel_rfl) rfl (okWide_bool_mk Tryz.underlying4 _))⟩
set_option maxRecDepth 100000 in
theorem zaQ (os:Os) (started:os.Started) (H:Type) (enc:TypeId×Value->H) (F:Stop.Interp) :
  ReturnsInHanded {} Tryz.checked os 3 .any ((Rows.OpenSpec.upto Rows.travelStepsSpec).pre6 enc Tryz.prog Tryz.f3 Rows.travelStepsUptoRow.domain false) (((Rows.OpenSpec.upto Rows.travelStepsSpec).at F).post enc Tryz.prog Tryz.f3 false true false false):=by
 refine zaa (C:=Tryz.checked) (s:=(Rows.OpenSpec.upto Rows.travelStepsSpec)) (k:=Rows.uptoSmall) rfl zdg started (by kernel_rfl) Tryz.func3
  (OpenSpec.witness (enc:=enc) (C:=Tryz.checked) (s:=(Rows.OpenSpec.upto Rows.travelStepsSpec)) (k:=Rows.uptoSmall) rfl false ⟨#[],#[.agg #[.int .u64 0,.slice none 0 0,.slice none 0 0,.int .u64 0,.slice none 0 0],.slice none 0 0],[]⟩ 8 (by kernel_rfl) (by kernel_rfl) (by kernel_rfl)
   (x:=(([.agg [.lit (.int .u64 0),.nil,.nil,.lit (.int .u64 0),.nil],.nil],[],[]))) (by kernel_rfl) rfl (by kernel_rfl)) ?_
 intro W base args ds gs before hval hW hk hsh;exact zac H enc W base args ds gs before hval hW hk hsh
set_option maxHeartbeats 4000000 in
theorem zaZ:joinedFacts Tryz.pinned.checked.prog 3 Tryz.f3 (Rows.OpenSpec.upto Rows.travelStepsSpec).bare Rows.travelStepsUptoRow=true:=by
 unfold joinedFacts;simp only [tr]
 repeat' apply And.intro
 all_goals as_aux_lemma=>kernel_rfl
theorem zbn:Tryz.pinned.checked.prog.funcNamed Rows.travelStepsUptoRow.func=some 3:=by kernel_rfl
theorem zcw:Tryz.f3.isInstance Tryz.pinned.checked.prog Rows.travelStepsUptoRow.origin Rows.travelStepsUptoRow.targs:=ke (by kernel_rfl)
theorem TravelStepsUptoHolds:Rows.TravelStepsUptoSaid :=
 OpenClaim.holds_of_cond 3 Tryz.f3 rfl rfl rfl rfl rfl rfl rfl ⟨rfl,rfl,rfl,rfl,rfl⟩ rfl rfl rfl rfl rfl zbn Tryz.func3 zaZ
  zcw (by unfold Func.isWrapper;first | (rw [lc (by decide +kernel)];kernel_rfl) | (rw [lq (by decide +kernel)];exact ⟨rfl,rfl⟩))
  (λos started H enc _ F=>zaQ os started H enc F)
end Go.Proofs.YtgobgfehoplnjaaGreat
