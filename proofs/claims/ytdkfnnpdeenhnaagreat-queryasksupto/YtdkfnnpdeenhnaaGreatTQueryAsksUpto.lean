/- The law varve.varvelaw08.QueryAsks holds: for every input it returns true, and each argument reads as it read. No condition. -/
import Derived.Test.YtdkfnnpdeenhnaaGreatRows
import Derived.Test.YtdkfnnpdeenhnaaGreatW4
import Derived.Test.YtdkfnnpdeenhnaaGreatPlS0
import Derived.Test.YtdkfnnpdeenhnaaGreatPlS3
import Derived.Test.YtdkfnnpdeenhnaaGreatVvUp
import Derived.ProofKit
import Derived.HandedShaped
import Derived.OpenShut
namespace Go.Proofs.YtdkfnnpdeenhnaaGreat
open Go Go.Vv Go.ChangeShapes Go.WideShapes Go.ChangeAt Go.RowKit
set_option maxRecDepth 100000
set_option linter.unusedVariables false
set_option linter.unusedSimpArgs false
theorem co56:Tryz.prog.cellsOf 56=3:=by kernel_rfl
theorem co23:Tryz.prog.cellsOf 23=1:=by kernel_rfl
theorem co54:Tryz.prog.cellsOf 54=1:=by kernel_rfl
theorem co5:Tryz.prog.cellsOf 5=1:=by kernel_rfl
theorem co42:Tryz.prog.cellsOf 42=1:=by kernel_rfl
theorem co44:Tryz.prog.cellsOf 44=2:=by kernel_rfl
theorem rdGActor {H:Type} {enc:TypeId×Value->H} {W:World} (n:Nat):RdN enc Tryz.prog W n 44 GActor.row GActor.wf GActor.bk :=
 (qb (l:=(match Tryz.prog.underlying 44 with | some (.struct fs)=>fs.toList | _=>[])) (fs:=(match Tryz.prog.underlying 44 with | some (.struct fs)=>fs | _=>#[])) (by kernel_rfl) (by kernel_rfl) co44 (λm _=>(yM rfl co5 rfl (rd_int Tryz.underlying5) (yM rfl co42 rfl (rd_int Tryz.underlying42) (rf_nil (by decide)))))).map (λp=>GActor.mk p.1 p.2.1) (λ_=>rfl) (λa h=>by simpa [GActor.wf,and_assoc] using h) (λ_=>rfl)
theorem co41:Tryz.prog.cellsOf 41=1:=by kernel_rfl
theorem co46:Tryz.prog.cellsOf 46=3:=by kernel_rfl
theorem rdGDot {H:Type} {enc:TypeId×Value->H} {W:World} (n:Nat):RdN enc Tryz.prog W n 46 GDot.row GDot.wf GDot.bk :=
 (qb (l:=(match Tryz.prog.underlying 46 with | some (.struct fs)=>fs.toList | _=>[])) (fs:=(match Tryz.prog.underlying 46 with | some (.struct fs)=>fs | _=>#[])) (by kernel_rfl) (by kernel_rfl) co46 (λm _=>(yM rfl co44 rfl (rdGActor _) (yM rfl co41 rfl (rd_int Tryz.underlying41) (rf_nil (by decide)))))).map (λp=>GDot.mk p.1 p.2.1) (λ_=>rfl) (λa h=>by simpa [GDot.wf,and_assoc] using h) (λ_=>rfl)
theorem co9:Tryz.prog.cellsOf 9=1:=by kernel_rfl
theorem co49:Tryz.prog.cellsOf 49=5:=by kernel_rfl
theorem rdGItem {H:Type} {enc:TypeId×Value->H} {W:World} (n:Nat):RdN enc Tryz.prog W n 49 GItem.row GItem.wf GItem.bk :=
 (qb (l:=(match Tryz.prog.underlying 49 with | some (.struct fs)=>fs.toList | _=>[])) (fs:=(match Tryz.prog.underlying 49 with | some (.struct fs)=>fs | _=>#[])) (by kernel_rfl) (by kernel_rfl) co49 (λm _=>(yM rfl co41 rfl (rd_int Tryz.underlying41) (yM rfl co46 rfl (rdGDot _) (yM rfl co9 rfl (rd_str Tryz.underlying9) (rf_nil (by decide))))))).map (λp=>GItem.mk p.1 p.2.1 p.2.2.1) (λ_=>rfl) (λa h=>by simpa [GItem.wf,and_assoc] using h) (λ_=>rfl)
theorem rdt50 {H:Type} {enc:TypeId×Value->H} {W:World} (n:Nat):RdN enc Tryz.prog W n 50 (λL:(List GItem)=>[AV.sl 5 (L.map GItem.row)]) (λL=>L.length<=maxLen/\∀y ∈ L,GItem.wf y) (λL=>(L.map GItem.bk).sum+1) :=
 rd_slice Tryz.underlying50 co49 (by decide) (λ_=>rfl) (λ_=>rfl) (λm _=>(rdGItem _))
theorem rdt51 {H:Type} {enc:TypeId×Value->H} {W:World} (n:Nat):RdN enc Tryz.prog W n 51 (λL:(List GDot)=>[AV.sl 3 (L.map GDot.row)]) (λL=>L.length<=maxLen/\∀y ∈ L,GDot.wf y) (λL=>(L.map GDot.bk).sum+1) :=
 rd_slice Tryz.underlying51 co46 (by decide) (λ_=>rfl) (λ_=>rfl) (λm _=>(rdGDot _))
theorem co2:Tryz.prog.cellsOf 2=1:=by kernel_rfl
theorem co50:Tryz.prog.cellsOf 50=1:=by kernel_rfl
theorem co51:Tryz.prog.cellsOf 51=1:=by kernel_rfl
theorem co53:Tryz.prog.cellsOf 53=9:=by kernel_rfl
theorem rdGLeaf {H:Type} {enc:TypeId×Value->H} {W:World} (n:Nat):RdN enc Tryz.prog W n 53 GLeaf.row GLeaf.wf GLeaf.bk :=
 (qb (l:=(match Tryz.prog.underlying 53 with | some (.struct fs)=>fs.toList | _=>[])) (fs:=(match Tryz.prog.underlying 53 with | some (.struct fs)=>fs | _=>#[])) (by kernel_rfl) (by kernel_rfl) co53 (λm _=>(yM rfl co5 rfl (rd_int Tryz.underlying5) (yM rfl co2 rfl (rd_int Tryz.underlying2) (yM rfl co41 rfl (rd_int Tryz.underlying41) (yM rfl co46 rfl (rdGDot _) (yM rfl co9 rfl (rd_str Tryz.underlying9) (yM rfl co50 rfl (rdt50 _) (yM rfl co51 rfl (rdt51 _) (rf_nil (by decide))))))))))).map (λp=>GLeaf.mk p.1 p.2.1 p.2.2.1 p.2.2.2.1 p.2.2.2.2.1 p.2.2.2.2.2.1 p.2.2.2.2.2.2.1) (λ_=>rfl) (λa h=>by simpa [GLeaf.wf,and_assoc] using h) (λ_=>rfl)
theorem rdt54 {H:Type} {enc:TypeId×Value->H} {W:World} (n:Nat):RdN enc Tryz.prog W n 54 (λL:(List GLeaf)=>[AV.sl 9 (L.map GLeaf.row)]) (λL=>L.length<=maxLen/\∀y ∈ L,GLeaf.wf y) (λL=>(L.map GLeaf.bk).sum+1) :=
 rd_slice Tryz.underlying54 co53 (by decide) (λ_=>rfl) (λ_=>rfl) (λm _=>(rdGLeaf _))
theorem rdGNode {H:Type} {enc:TypeId×Value->H} {W:World} (n:Nat):RdN enc Tryz.prog W n 56 GNode.row GNode.wf GNode.bk:=by
 induction n using Nat.strongRecOn with
 | _ n ih =>
  exact (qb (l:=(match Tryz.prog.underlying 56 with | some (.struct fs)=>fs.toList | _=>[])) (fs:=(match Tryz.prog.underlying 56 with | some (.struct fs)=>fs | _=>#[])) (by kernel_rfl) (by kernel_rfl) co56 (λm hm=>(yM rfl co9 rfl (rd_str Tryz.underlying9) (yM rfl co54 rfl (rdt54 _) (yM rfl co23 rfl (rd_slice Tryz.underlying23 co56 (by decide) (λy=>by rw [GNode.row_eq];rfl) (λy=>by rw [GNode.row_eq];rfl) (λq hq=>ih q (by omega))) (rf_nil (by decide))))))).map (λp=>GNode.mk p.1 p.2.1 p.2.2.1) (λ_=>GNode.row_eq _) (λa h=>by simp only [GNode.wf,GNode.wfs_iff];simp only [and_assoc,and_true] at h ⊢;first | exact h | simp_all) (λ_=>by simp only [GNode.bk,GNode.bks_eq])
theorem rdt23 {H:Type} {enc:TypeId×Value->H} {W:World} (n:Nat):RdN enc Tryz.prog W n 23 (λL:(List GNode)=>[AV.sl 3 (L.map GNode.row)]) (λL=>L.length<=maxLen/\∀y ∈ L,GNode.wf y) (λL=>(L.map GNode.bk).sum+1) :=
 rd_slice Tryz.underlying23 co56 (by decide) (λy=>by rw [GNode.row_eq];rfl) (λy=>by rw [GNode.row_eq];rfl) (λm _=>(rdGNode _))
theorem rdt24 {H:Type} {enc:TypeId×Value->H} {W:World} (n:Nat):RdN enc Tryz.prog W n 24 (λL:(List ze)=>[AV.sl 1 (L.map zd)]) (λL=>L.length<=maxLen/\∀y ∈ L,y.length<=maxLen) (λL=>(L.map (λs=>s.length+1)).sum+1) :=
 rd_slice Tryz.underlying24 co9 (by decide) (λ_=>rfl) (λ_=>rfl) (λm _=>(rd_str Tryz.underlying9))
theorem co24:Tryz.prog.cellsOf 24=1:=by kernel_rfl
theorem co26:Tryz.prog.cellsOf 26=2:=by kernel_rfl
theorem rdGQuery {H:Type} {enc:TypeId×Value->H} {W:World} (n:Nat):RdN enc Tryz.prog W n 26 GQuery.row GQuery.wf GQuery.bk :=
 (qb (l:=(match Tryz.prog.underlying 26 with | some (.struct fs)=>fs.toList | _=>[])) (fs:=(match Tryz.prog.underlying 26 with | some (.struct fs)=>fs | _=>#[])) (by kernel_rfl) (by kernel_rfl) co26 (λm _=>(yM rfl co5 rfl (rd_int Tryz.underlying5) (yM rfl co24 rfl (rdt24 _) (rf_nil (by decide)))))).map (λp=>GQuery.mk p.1 p.2.1) (λ_=>rfl) (λa h=>by simpa [GQuery.wf,and_assoc] using h) (λ_=>rfl)
theorem ownQueryAsks:ownKnob Tryz.prog.godebug=none:=by kernel_rfl
theorem laidQueryAsks:laidOutB Tryz.prog=true:=by kernel_rfl
mutual
theorem ub {H:Type}:∀d:DataW H,Rows.uptoBulk d=xH d
 | .lit l=>by cases l <;> simp only [Rows.uptoBulk,xH]
 | .nil=>by simp only [Rows.uptoBulk,xH]
 | .ptr d=>by simp only [Rows.uptoBulk,xH,ub d]
 | .slice e s=>by simp only [Rows.uptoBulk,xH,ubAll e,ubAll s]
 | .agg p=>by simp only [Rows.uptoBulk,xH,ubAll p]
 | .iface _ d=>by simp only [Rows.uptoBulk,xH,ub d]
 | .map e=>by simp only [Rows.uptoBulk,xH,ubEs e]
 | .held _=>by simp only [Rows.uptoBulk,xH]
theorem ubAll {H:Type}:∀l:List (DataW H),Rows.uptoBulkAll l=xG l
 | []=>by simp only [Rows.uptoBulkAll,xG]
 | d::r=>by simp only [Rows.uptoBulkAll,xG,ub d,ubAll r]
theorem ubEs {H:Type}:∀l:List (Lit×DataW H),Rows.uptoBulkEntries l=vBulkEs l
 | []=>by simp only [Rows.uptoBulkEntries,vBulkEs]
 | x::r=>by simp only [Rows.uptoBulkEntries,vBulkEs,ubE x,ubEs r];omega
theorem ubE {H:Type}:∀x:Lit×DataW H,Rows.uptoBulkEntry x=vBulkE x
 | (l,d)=>by cases l <;> simp only [Rows.uptoBulkEntry,vBulkE,ub d]
end
theorem contractQueryAsks (H:Type) (enc:TypeId×Value->H) (W:World) (base:Nat) (args:Array Value) (ds gs:List (DataW H)) (before:List MemPlace)
  (hval:∀(j:Nat) t v,Tryz.f3.params[j]?=some t->args[j]?=some v->Value.okWide Tryz.prog W .any base t v)
  (hW:DataW.Whole enc Tryz.prog Tryz.f3.params.toList Rows.queryAsksSpec.vars false W args.toList ds gs before) (hk:Rows.uptoSmall H (ds++gs)=true) (hsh:W.ShapedOpen Tryz.prog) :
  Calls Tryz.prog 3 args W λe W'=>∃v,e=.returned v/\Rows.queryAsksSpec.post enc Tryz.prog Tryz.f3 false true false false W args v W':=by
 haveI:GOk Tryz.prog W.heap.size W:=⟨hsh,Nat.le_refl _⟩
 have hW':=hW;obtain ⟨p,q,hA0,hV,rfl,hfz,hnd⟩:=hW;have hA:DataW.TrodAll enc Tryz.prog W 0 (λ_=>true) true Tryz.f3.params.toList args.toList ds p:=hA0;rw [Tryz.params3] at hA hval;obtain ⟨v0,vs0,d0,ds0,p0,q0,hargs,rfl,rfl,t0,r0⟩:=trodAll_cons hA;obtain ⟨v1,vs1,d1,ds1,p1,q1,rfl,rfl,rfl,t1,r1⟩:=trodAll_cons r0;obtain ⟨v2,vs2,d2,ds2,p2,q2,rfl,rfl,rfl,t2,r2⟩:=trodAll_cons r1;obtain ⟨rfl,rfl,rfl⟩:=trodAll_nil r2;obtain rfl:args=#[v0,v1,v2]:=by cases args;simp_all
 obtain ⟨rfl,rfl⟩:=trodVars_none hV;clear hA0;simp only [List.append_nil] at hW';obtain ⟨y0,hy0,wf0,bk0⟩:=rd_arg (λn=>(rdt23 _)) t0;have hv0:=V.of_one (by rintro cs rfl;have:=hval 0 23 _ rfl rfl;simp [Value.okWide,Tryz.underlying23,Cell.okWide,Cell.ok] at this) hy0;obtain ⟨y1,hy1,wf1,bk1⟩:=rd_arg (λn=>(rdGQuery _)) t1;have hv1:=V.of_agg (by have:=hval 1 26 v1 rfl rfl;simp only [Value.okWide,Tryz.underlying26] at this;obtain ⟨us,h,_⟩:=this;exact ⟨us,h⟩) rfl hy1;obtain ⟨y2,hy2,wf2,bk2⟩:=rd_arg (λn=>(rdGQuery _)) t2;have hv2:=V.of_agg (by have:=hval 2 26 v2 rfl rfl;simp only [Value.okWide,Tryz.underlying26] at this;obtain ⟨us,h,_⟩:=this;exact ⟨us,h⟩) rfl hy2;have hlt:∀x ∈ (p0++(p1++p2)),x.block < W.heap.size:=λx hx=>by simpa using hW'.lt x hx
 have hbk:((y0.map GNode.bk).sum+1)+GQuery.bk y1+GQuery.bk y2<=1048576:=by
  have h:=of_decide_eq_true hk;simp only [List.cons_append,List.nil_append,List.append_nil,Rows.uptoBulkAll,ub] at h;omega
 refine ((ok3 (h:=h0) ((law08QueryAsks_top) y0 y1 y2 wf0 wf1 wf2 hbk)).2 W.heap.size W (g0 W) W _ (rel0 W) (VL.cons hv0 (VL.cons hv1 (VL.cons hv2 (by simp [VL]))))).mono λe W' ⟨v,r,h',g',he,⟨hr,hh⟩,hg,hR,hv⟩=>?_;subst he hr;simp only [V] at hv;subst hv;exact ⟨_,rfl,post_of_below (pv:=[]) hW' hR.below (λ_ _ _=>(trodAll_cons_mk (shut_bool Tryz.underlying4 _) trodAll_mk0)) (λsp hsp=>(trodAll_cons_mk (WideElems.Trod_stays laidQueryAsks (by kernel_rfl) (of_decide_eq_true (by kernel_rfl)) t0 (λx hx=>hR.below.same (hlt x (by simp [hx]))) (λx hx=>hsp x (by simp [hx]))) (trodAll_cons_mk (WideElems.Trod_stays laidQueryAsks (by kernel_rfl) (of_decide_eq_true (by kernel_rfl)) t1 (λx hx=>hR.below.same (hlt x (by simp [hx]))) (λx hx=>hsp x (by simp [hx]))) (trodAll_cons_mk (WideElems.Trod_stays laidQueryAsks (by kernel_rfl) (of_decide_eq_true (by kernel_rfl)) t2 (λx hx=>hR.below.same (hlt x (by simp [hx]))) (λx hx=>hsp x (by simp [hx]))) trodAll_mk0)))) (λ_ _=>rfl) (by simp) (ok_one (by kernel_rfl) rfl (okWide_bool_mk Tryz.underlying4 _))⟩
set_option maxRecDepth 100000 in
theorem liftedQueryAsks (os:Os) (started:os.Started) (H:Type) (enc:TypeId×Value->H) (F:Stop.Interp) :
  ReturnsInHanded {} Tryz.checked os 3 .any ((Rows.OpenSpec.upto Rows.queryAsksSpec).pre6 enc Tryz.prog Tryz.f3 Rows.queryAsksUptoRow.domain false) (((Rows.OpenSpec.upto Rows.queryAsksSpec).at F).post enc Tryz.prog Tryz.f3 false true false false):=by
 refine returns_cond_shaped (C:=Tryz.checked) (s:=(Rows.OpenSpec.upto Rows.queryAsksSpec)) (k:=Rows.uptoSmall) rfl ownQueryAsks started (by kernel_rfl) Tryz.func3
  (OpenSpec.witness (enc:=enc) (C:=Tryz.checked) (s:=(Rows.OpenSpec.upto Rows.queryAsksSpec)) (k:=Rows.uptoSmall) rfl false ⟨#[],#[.slice none 0 0,.agg #[.int .u8 0,.slice none 0 0],.agg #[.int .u8 0,.slice none 0 0]],[]⟩ 8 (by kernel_rfl) (by kernel_rfl) (by kernel_rfl)
   (x:=(([.nil,.agg [.lit (.int .u8 0),.nil],.agg [.lit (.int .u8 0),.nil]],[],[]))) (by kernel_rfl) rfl (by kernel_rfl)) ?_
 intro W base args ds gs before hval hW hk hsh;exact contractQueryAsks H enc W base args ds gs before hval hW hk hsh
set_option maxHeartbeats 4000000 in
theorem closedQueryAsks:joinedFacts Tryz.pinned.checked.prog 3 Tryz.f3 (Rows.OpenSpec.upto Rows.queryAsksSpec).bare Rows.queryAsksUptoRow=true:=by
 unfold joinedFacts;simp only [Bool.and_eq_true]
 repeat' apply And.intro
 all_goals as_aux_lemma=>kernel_rfl
theorem namedQueryAsks:Tryz.pinned.checked.prog.funcNamed Rows.queryAsksUptoRow.func=some 3:=by kernel_rfl
theorem instQueryAsks:Tryz.f3.isInstance Tryz.pinned.checked.prog Rows.queryAsksUptoRow.origin Rows.queryAsksUptoRow.targs:=of_decide_eq_true (by kernel_rfl)
theorem QueryAsksUptoHolds:Rows.QueryAsksUptoSaid :=
 OpenClaim.holds_of_cond 3 Tryz.f3 rfl rfl rfl rfl rfl rfl rfl ⟨rfl,rfl,rfl,rfl,rfl⟩ rfl rfl rfl rfl rfl namedQueryAsks Tryz.func3 closedQueryAsks
  instQueryAsks (by unfold Func.isWrapper;first | (rw [if_pos (by decide +kernel)];kernel_rfl) | (rw [if_neg (by decide +kernel)];exact ⟨rfl,rfl⟩))
  (λos started H enc _ F=>liftedQueryAsks os started H enc F)
end Go.Proofs.YtdkfnnpdeenhnaaGreat
