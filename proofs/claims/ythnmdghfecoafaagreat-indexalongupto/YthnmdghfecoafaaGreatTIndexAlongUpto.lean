/- The law varve.varvelaw41.IndexAlong holds: for every input it returns true, and each argument reads as it read. No condition. -/
import Derived.Test.YthnmdghfecoafaaGreatRows
import Derived.Test.YthnmdghfecoafaaGreatW5
import Derived.Test.YthnmdghfecoafaaGreatPlI0
import Derived.Test.YthnmdghfecoafaaGreatPlI1
import Derived.Test.YthnmdghfecoafaaGreatVvMr
import Derived.ProofKit
import Derived.HandedShaped
import Derived.OpenShut
namespace Go.Proofs.YthnmdghfecoafaaGreat
open Go Go.Vv Go.ChangeShapes Go.WideShapes Go.ChangeAt Go.RowKit
set_option maxRecDepth 100000
set_option linter.unusedVariables false
set_option linter.unusedSimpArgs false
theorem co97:Tryz.prog.cellsOf 97=3:=by kernel_rfl
theorem co23:Tryz.prog.cellsOf 23=1:=by kernel_rfl
theorem co95:Tryz.prog.cellsOf 95=1:=by kernel_rfl
theorem co5:Tryz.prog.cellsOf 5=1:=by kernel_rfl
theorem co64:Tryz.prog.cellsOf 64=1:=by kernel_rfl
theorem co66:Tryz.prog.cellsOf 66=2:=by kernel_rfl
theorem rdGActor {H:Type} {enc:TypeId×Value->H} {W:World} (n:Nat):RdN enc Tryz.prog W n 66 GK.row GK.wf GK.bk :=
 (rd_struct (l:=(match Tryz.prog.underlying 66 with | some (.struct fs)=>fs.toList | _=>[])) (fs:=(match Tryz.prog.underlying 66 with | some (.struct fs)=>fs | _=>#[])) (by kernel_rfl) (by kernel_rfl) co66 (λm _=>(wh rfl co5 rfl (rd_int Tryz.underlying5) (wh rfl co64 rfl (rd_int Tryz.underlying64) (rf_nil (by decide)))))).map (λp=>GK.mk p.1 p.2.1) (λ_=>rfl) (λa h=>by simpa [GK.wf,sg] using h) (λ_=>rfl)
theorem co63:Tryz.prog.cellsOf 63=1:=by kernel_rfl
theorem co68:Tryz.prog.cellsOf 68=3:=by kernel_rfl
theorem rdGDot {H:Type} {enc:TypeId×Value->H} {W:World} (n:Nat):RdN enc Tryz.prog W n 68 GF.row GF.wf GF.bk :=
 (rd_struct (l:=(match Tryz.prog.underlying 68 with | some (.struct fs)=>fs.toList | _=>[])) (fs:=(match Tryz.prog.underlying 68 with | some (.struct fs)=>fs | _=>#[])) (by kernel_rfl) (by kernel_rfl) co68 (λm _=>(wh rfl co66 rfl (rdGActor _) (wh rfl co63 rfl (rd_int Tryz.underlying63) (rf_nil (by decide)))))).map (λp=>GF.mk p.1 p.2.1) (λ_=>rfl) (λa h=>by simpa [GF.wf,sg] using h) (λ_=>rfl)
theorem co9:Tryz.prog.cellsOf 9=1:=by kernel_rfl
theorem co99:Tryz.prog.cellsOf 99=5:=by kernel_rfl
theorem rdGItem {H:Type} {enc:TypeId×Value->H} {W:World} (n:Nat):RdN enc Tryz.prog W n 99 GI.row GI.wf GI.bk :=
 (rd_struct (l:=(match Tryz.prog.underlying 99 with | some (.struct fs)=>fs.toList | _=>[])) (fs:=(match Tryz.prog.underlying 99 with | some (.struct fs)=>fs | _=>#[])) (by kernel_rfl) (by kernel_rfl) co99 (λm _=>(wh rfl co63 rfl (rd_int Tryz.underlying63) (wh rfl co68 rfl (rdGDot _) (wh rfl co9 rfl (rd_str Tryz.underlying9) (rf_nil (by decide))))))).map (λp=>GI.mk p.1 p.2.1 p.2.2.1) (λ_=>rfl) (λa h=>by simpa [GI.wf,sg] using h) (λ_=>rfl)
theorem rdt69 {H:Type} {enc:TypeId×Value->H} {W:World} (n:Nat):RdN enc Tryz.prog W n 69 (λL:(List GI)=>[AV.sl 5 (L.map GI.row)]) (λL=>L.length<=maxLen/\∀y ∈ L,GI.wf y) (λL=>(L.map GI.bk).sum+1) :=
 rd_slice Tryz.underlying69 co99 (by decide) (λ_=>rfl) (λ_=>rfl) (λm _=>(rdGItem _))
theorem rdt70 {H:Type} {enc:TypeId×Value->H} {W:World} (n:Nat):RdN enc Tryz.prog W n 70 (λL:(List GF)=>[AV.sl 3 (L.map GF.row)]) (λL=>L.length<=maxLen/\∀y ∈ L,GF.wf y) (λL=>(L.map GF.bk).sum+1) :=
 rd_slice Tryz.underlying70 co68 (by decide) (λ_=>rfl) (λ_=>rfl) (λm _=>(rdGDot _))
theorem co2:Tryz.prog.cellsOf 2=1:=by kernel_rfl
theorem co69:Tryz.prog.cellsOf 69=1:=by kernel_rfl
theorem co70:Tryz.prog.cellsOf 70=1:=by kernel_rfl
theorem co72:Tryz.prog.cellsOf 72=9:=by kernel_rfl
theorem rdGLeaf {H:Type} {enc:TypeId×Value->H} {W:World} (n:Nat):RdN enc Tryz.prog W n 72 GE.row GE.wf GE.bk :=
 (rd_struct (l:=(match Tryz.prog.underlying 72 with | some (.struct fs)=>fs.toList | _=>[])) (fs:=(match Tryz.prog.underlying 72 with | some (.struct fs)=>fs | _=>#[])) (by kernel_rfl) (by kernel_rfl) co72 (λm _=>(wh rfl co5 rfl (rd_int Tryz.underlying5) (wh rfl co2 rfl (rd_int Tryz.underlying2) (wh rfl co63 rfl (rd_int Tryz.underlying63) (wh rfl co68 rfl (rdGDot _) (wh rfl co9 rfl (rd_str Tryz.underlying9) (wh rfl co69 rfl (rdt69 _) (wh rfl co70 rfl (rdt70 _) (rf_nil (by decide))))))))))).map (λp=>GE.mk p.1 p.2.1 p.2.2.1 p.2.2.2.1 p.2.2.2.2.1 p.2.2.2.2.2.1 p.2.2.2.2.2.2.1) (λ_=>rfl) (λa h=>by simpa [GE.wf,sg] using h) (λ_=>rfl)
theorem rdt95 {H:Type} {enc:TypeId×Value->H} {W:World} (n:Nat):RdN enc Tryz.prog W n 95 (λL:(List GE)=>[AV.sl 9 (L.map GE.row)]) (λL=>L.length<=maxLen/\∀y ∈ L,GE.wf y) (λL=>(L.map GE.bk).sum+1) :=
 rd_slice Tryz.underlying95 co72 (by decide) (λ_=>rfl) (λ_=>rfl) (λm _=>(rdGLeaf _))
theorem rdGNode {H:Type} {enc:TypeId×Value->H} {W:World} (n:Nat):RdN enc Tryz.prog W n 97 GA.row GA.wf GA.bk:=by
 induction n using Nat.strongRecOn with
 | _ n ih =>
  exact (rd_struct (l:=(match Tryz.prog.underlying 97 with | some (.struct fs)=>fs.toList | _=>[])) (fs:=(match Tryz.prog.underlying 97 with | some (.struct fs)=>fs | _=>#[])) (by kernel_rfl) (by kernel_rfl) co97 (λm hm=>(wh rfl co9 rfl (rd_str Tryz.underlying9) (wh rfl co95 rfl (rdt95 _) (wh rfl co23 rfl (rd_slice Tryz.underlying23 co97 (by decide) (λy=>by rw [GA.row_eq];rfl) (λy=>by rw [GA.row_eq];rfl) (λq hq=>ih q (by omega))) (rf_nil (by decide))))))).map (λp=>GA.mk p.1 p.2.1 p.2.2.1) (λ_=>GA.row_eq _) (λa h=>by simp only [GA.wf,GA.wfs_iff];simp only [sg,tT] at h ⊢;first | exact h | simp_all) (λ_=>by simp only [GA.bk,GA.bks_eq])
theorem rdt23 {H:Type} {enc:TypeId×Value->H} {W:World} (n:Nat):RdN enc Tryz.prog W n 23 (λL:(List GA)=>[AV.sl 3 (L.map GA.row)]) (λL=>L.length<=maxLen/\∀y ∈ L,GA.wf y) (λL=>(L.map GA.bk).sum+1) :=
 rd_slice Tryz.underlying23 co97 (by decide) (λy=>by rw [GA.row_eq];rfl) (λy=>by rw [GA.row_eq];rfl) (λm _=>(rdGNode _))
theorem ownIndexAlong:ownKnob Tryz.prog.godebug=none:=by kernel_rfl
theorem laidIndexAlong:laidOutB Tryz.prog=true:=by kernel_rfl
mutual
theorem ub {H:Type}:∀d:DataW H,Rows.uptoBulk d=wV d
 | .lit l=>by cases l <;> simp only [Rows.uptoBulk,wV]
 | .nil=>by simp only [Rows.uptoBulk,wV]
 | .ptr d=>by simp only [Rows.uptoBulk,wV,ub d]
 | .slice e s=>by simp only [Rows.uptoBulk,wV,ubAll e,ubAll s]
 | .agg p=>by simp only [Rows.uptoBulk,wV,ubAll p]
 | .iface _ d=>by simp only [Rows.uptoBulk,wV,ub d]
 | .map e=>by simp only [Rows.uptoBulk,wV,ubEs e]
 | .held _=>by simp only [Rows.uptoBulk,wV]
theorem ubAll {H:Type}:∀l:List (DataW H),Rows.uptoBulkAll l=wU l
 | []=>by simp only [Rows.uptoBulkAll,wU]
 | d::r=>by simp only [Rows.uptoBulkAll,wU,ub d,ubAll r]
theorem ubEs {H:Type}:∀l:List (Lit×DataW H),Rows.uptoBulkEntries l=vBulkEs l
 | []=>by simp only [Rows.uptoBulkEntries,vBulkEs]
 | x::r=>by simp only [Rows.uptoBulkEntries,vBulkEs,ubE x,ubEs r];omega
theorem ubE {H:Type}:∀x:Lit×DataW H,Rows.uptoBulkEntry x=vBulkE x
 | (l,d)=>by cases l <;> simp only [Rows.uptoBulkEntry,vBulkE,ub d]
end
theorem contractIndexAlong (H:Type) (enc:TypeId×Value->H) (W:World) (base:Nat) (args:Array Value) (ds gs:List (DataW H)) (before:List MemPlace)
  (hval:∀(j:Nat) t v,Tryz.f4.params[j]?=some t->args[j]?=some v->Value.okWide Tryz.prog W .any base t v)
  (hW:DataW.Whole enc Tryz.prog Tryz.f4.params.toList Rows.indexAlongSpec.vars false W args.toList ds gs before) (hk:Rows.uptoSmall H (ds++gs)=true) (hsh:W.ShapedOpen Tryz.prog) :
  Calls Tryz.prog 4 args W λe W'=>∃v,e=.returned v/\Rows.indexAlongSpec.post enc Tryz.prog Tryz.f4 false true false false W args v W':=by
 haveI:GOk Tryz.prog W.heap.size W:=⟨hsh,ue _,trivial⟩
 have hW':=hW;obtain ⟨p,q,hA0,hV,rfl,hfz,hnd⟩:=hW;have hA:DataW.TrodAll enc Tryz.prog W 0 (λ_=>true) true Tryz.f4.params.toList args.toList ds p:=hA0;rw [Tryz.params4] at hA hval;obtain ⟨v0,vs0,d0,ds0,p0,q0,hargs,rfl,rfl,t0,r0⟩:=trodAll_cons hA;obtain ⟨v1,vs1,d1,ds1,p1,q1,rfl,rfl,rfl,t1,r1⟩:=trodAll_cons r0;obtain ⟨v2,vs2,d2,ds2,p2,q2,rfl,rfl,rfl,t2,r2⟩:=trodAll_cons r1;obtain ⟨rfl,rfl,rfl⟩:=trodAll_nil r2;obtain rfl:args=#[v0,v1,v2]:=by cases args;simp_all
 obtain ⟨rfl,rfl⟩:=trodVars_none hV;clear hA0;simp only [tC] at hW';obtain ⟨y0,hy0,wf0,bk0⟩:=rd_arg (λn=>(rdt23 _)) t0;have hv0:=V.of_one (by rintro cs rfl;have:=hval 0 23 _ rfl rfl;simp [Value.okWide,Tryz.underlying23,Cell.okWide,Cell.ok] at this) hy0;obtain ⟨y1,hy1,wf1,bk1⟩:=rd_arg (λn=>(rdt23 _)) t1;have hv1:=V.of_one (by rintro cs rfl;have:=hval 1 23 _ rfl rfl;simp [Value.okWide,Tryz.underlying23,Cell.okWide,Cell.ok] at this) hy1;obtain ⟨y2,hy2,wf2,bk2⟩:=rd_arg (λn=>(rd_str Tryz.underlying9)) t2;have hv2:=V.of_one (by rintro cs rfl;have:=hval 2 9 _ rfl rfl;simp [Value.okWide,Tryz.underlying9,Cell.okWide,Cell.ok] at this) hy2;have hlt:∀x ∈ (p0++(p1++p2)),x.block < W.heap.size:=λx hx=>by simpa using hW'.lt x hx
 have hbk:((y0.map GA.bk).sum+1)+((y1.map GA.bk).sum+1)+(y2.length+1)<=1048576:=by
  have h:=tm hk;simp only [tj,uV,tC,Rows.uptoBulkAll,ub] at h;omega
 refine ((ok4 (h:=h0) ((law41IndexAlong_top) y0 y1 y2 wf0 wf1 wf2 hbk)).2 W.heap.size W (g0 W) W _ (rel0 W) (VL.cons hv0 (VL.cons hv1 (VL.cons hv2 (by simp [VL]))))).mono λe W' ⟨v,r,h',g',he,⟨hr,hh⟩,hg,hR,hv⟩=>?_;subst he hr;simp only [V] at hv;subst hv;exact ⟨_,rfl,post_of_below (pv:=[]) hW' hR.below (λ_ _ _=>(trodAll_cons_mk (shut_bool Tryz.underlying4 _) trodAll_mk0)) (λsp hsp=>(trodAll_cons_mk (WideElems.Trod_stays laidIndexAlong (by kernel_rfl) (tm (by kernel_rfl)) t0 (λx hx=>hR.below.same (hlt x (by simp [hx]))) (λx hx=>hsp x (by simp [hx]))) (trodAll_cons_mk (WideElems.Trod_stays laidIndexAlong (by kernel_rfl) (tm (by kernel_rfl)) t1 (λx hx=>hR.below.same (hlt x (by simp [hx]))) (λx hx=>hsp x (by simp [hx]))) (trodAll_cons_mk (WideElems.Trod_stays laidIndexAlong (by kernel_rfl) (tm (by kernel_rfl)) t2 (λx hx=>hR.below.same (hlt x (by simp [hx]))) (λx hx=>hsp x (by simp [hx]))) trodAll_mk0)))) (λ_ _=>rfl) (by simp) (ok_one (by kernel_rfl) rfl (okWide_bool_mk Tryz.underlying4 _))⟩
set_option maxRecDepth 100000 in
theorem liftedIndexAlong (os:Os) (started:os.Started) (H:Type) (enc:TypeId×Value->H) (F:Stop.Interp) :
  ReturnsInHanded {} Tryz.checked os 4 .any ((Rows.OpenSpec.upto Rows.indexAlongSpec).pre6 enc Tryz.prog Tryz.f4 Rows.indexAlongUptoRow.domain false) (((Rows.OpenSpec.upto Rows.indexAlongSpec).at F).post enc Tryz.prog Tryz.f4 false true false false):=by
 refine returns_cond_shaped (C:=Tryz.checked) (s:=(Rows.OpenSpec.upto Rows.indexAlongSpec)) (k:=Rows.uptoSmall) rfl ownIndexAlong started (by kernel_rfl) Tryz.func4
  (OpenSpec.witness (enc:=enc) (C:=Tryz.checked) (s:=(Rows.OpenSpec.upto Rows.indexAlongSpec)) (k:=Rows.uptoSmall) rfl false ⟨#[],#[.slice none 0 0,.slice none 0 0,.string ⟨#[]⟩],[]⟩ 8 (by kernel_rfl) (by kernel_rfl) (by kernel_rfl)
   (x:=(([.nil,.nil,.lit (.string [])],[],[]))) (by kernel_rfl) rfl (by kernel_rfl)) ?_
 intro W base args ds gs before hval hW hk hsh;exact contractIndexAlong H enc W base args ds gs before hval hW hk hsh
set_option maxHeartbeats 4000000 in
theorem closedIndexAlong:joinedFacts Tryz.pinned.checked.prog 4 Tryz.f4 (Rows.OpenSpec.upto Rows.indexAlongSpec).bare Rows.indexAlongUptoRow=true:=by
 unfold joinedFacts;simp only [ud]
 repeat' apply And.intro
 all_goals as_aux_lemma=>kernel_rfl
theorem namedIndexAlong:Tryz.pinned.checked.prog.funcNamed Rows.indexAlongUptoRow.func=some 4:=by kernel_rfl
theorem instIndexAlong:Tryz.f4.isInstance Tryz.pinned.checked.prog Rows.indexAlongUptoRow.origin Rows.indexAlongUptoRow.targs:=tm (by kernel_rfl)
theorem IndexAlongUptoHolds:Rows.IndexAlongUptoSaid :=
 OpenClaim.holds_of_cond 4 Tryz.f4 rfl rfl rfl rfl rfl rfl rfl ⟨rfl,rfl,rfl,rfl,rfl⟩ rfl rfl rfl rfl rfl namedIndexAlong Tryz.func4 closedIndexAlong
  instIndexAlong (by unfold Func.isWrapper;first | (rw [uG (by decide +kernel)];kernel_rfl) | (rw [te (by decide +kernel)];exact ⟨rfl,rfl⟩))
  (λos started H enc _ F=>liftedIndexAlong os started H enc F)
end Go.Proofs.YthnmdghfecoafaaGreat
