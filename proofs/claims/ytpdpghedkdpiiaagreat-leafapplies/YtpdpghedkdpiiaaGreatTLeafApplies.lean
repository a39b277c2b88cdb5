/- The law varve.varvelaw05.LeafApplies holds: for every input it returns true, and each argument reads as it read. No condition. -/
import Derived.Test.YtpdpghedkdpiiaaGreatRows
import Derived.Test.YtpdpghedkdpiiaaGreatW5
import Derived.Test.YtpdpghedkdpiiaaGreatPlL0
import Derived.Test.YtpdpghedkdpiiaaGreatPlL1
import Derived.Test.YtpdpghedkdpiiaaGreatPlL2
import Derived.Test.YtpdpghedkdpiiaaGreatVvUp
import Derived.ProofKit
import Derived.HandedShaped
import Derived.OpenShut
namespace Go.Proofs.YtpdpghedkdpiiaaGreat
open Go Go.Vv Go.ChangeShapes Go.WideShapes Go.ChangeAt Go.RowKit
set_option maxRecDepth 100000
set_option linter.unusedVariables false
set_option linter.unusedSimpArgs false
theorem co5:Tryz.prog.cellsOf 5=1:=by kernel_rfl
theorem co23:Tryz.prog.cellsOf 23=1:=by kernel_rfl
theorem co25:Tryz.prog.cellsOf 25=2:=by kernel_rfl
theorem rdGActor {H:Type} {enc:TypeId×Value→H} {W:World} (n:Nat):RdN enc Tryz.prog W n 25 GActor.row GActor.wf GActor.bk :=
 (rd_struct (l:=(match Tryz.prog.underlying 25 with | some (.struct fs)=>fs.toList | _=>[])) (fs:=(match Tryz.prog.underlying 25 with | some (.struct fs)=>fs | _=>#[])) (by kernel_rfl) (by kernel_rfl) co25 (fun m _=>(x6 rfl co5 rfl (rd_int Tryz.underlying5) (x6 rfl co23 rfl (rd_int Tryz.underlying23) (rf_nil (by decide)))))).map (fun p=>GActor.mk p.1 p.2.1) (fun _=>rfl) (fun a h=>by simpa [GActor.wf,and_assoc] using h) (fun _=>rfl)
theorem co22:Tryz.prog.cellsOf 22=1:=by kernel_rfl
theorem co27:Tryz.prog.cellsOf 27=3:=by kernel_rfl
theorem rdGDot {H:Type} {enc:TypeId×Value→H} {W:World} (n:Nat):RdN enc Tryz.prog W n 27 GDot.row GDot.wf GDot.bk :=
 (rd_struct (l:=(match Tryz.prog.underlying 27 with | some (.struct fs)=>fs.toList | _=>[])) (fs:=(match Tryz.prog.underlying 27 with | some (.struct fs)=>fs | _=>#[])) (by kernel_rfl) (by kernel_rfl) co27 (fun m _=>(x6 rfl co25 rfl (rdGActor _) (x6 rfl co22 rfl (rd_int Tryz.underlying22) (rf_nil (by decide)))))).map (fun p=>GDot.mk p.1 p.2.1) (fun _=>rfl) (fun a h=>by simpa [GDot.wf,and_assoc] using h) (fun _=>rfl)
theorem co9:Tryz.prog.cellsOf 9=1:=by kernel_rfl
theorem co47:Tryz.prog.cellsOf 47=5:=by kernel_rfl
theorem rdGItem {H:Type} {enc:TypeId×Value→H} {W:World} (n:Nat):RdN enc Tryz.prog W n 47 GItem.row GItem.wf GItem.bk :=
 (rd_struct (l:=(match Tryz.prog.underlying 47 with | some (.struct fs)=>fs.toList | _=>[])) (fs:=(match Tryz.prog.underlying 47 with | some (.struct fs)=>fs | _=>#[])) (by kernel_rfl) (by kernel_rfl) co47 (fun m _=>(x6 rfl co22 rfl (rd_int Tryz.underlying22) (x6 rfl co27 rfl (rdGDot _) (x6 rfl co9 rfl (rd_str Tryz.underlying9) (rf_nil (by decide))))))).map (fun p=>GItem.mk p.1 p.2.1 p.2.2.1) (fun _=>rfl) (fun a h=>by simpa [GItem.wf,and_assoc] using h) (fun _=>rfl)
theorem rdt28 {H:Type} {enc:TypeId×Value→H} {W:World} (n:Nat):RdN enc Tryz.prog W n 28 (fun L:(List GItem)=>[AV.sl 5 (L.map GItem.row)]) (fun L=>L.length≤maxLen∧∀ y ∈ L,GItem.wf y) (fun L=>(L.map GItem.bk).sum+1) :=
 rd_slice Tryz.underlying28 co47 (by decide) (fun _=>rfl) (fun _=>rfl) (fun m _=>(rdGItem _))
theorem rdt29 {H:Type} {enc:TypeId×Value→H} {W:World} (n:Nat):RdN enc Tryz.prog W n 29 (fun L:(List GDot)=>[AV.sl 3 (L.map GDot.row)]) (fun L=>L.length≤maxLen∧∀ y ∈ L,GDot.wf y) (fun L=>(L.map GDot.bk).sum+1) :=
 rd_slice Tryz.underlying29 co27 (by decide) (fun _=>rfl) (fun _=>rfl) (fun m _=>(rdGDot _))
theorem co2:Tryz.prog.cellsOf 2=1:=by kernel_rfl
theorem co28:Tryz.prog.cellsOf 28=1:=by kernel_rfl
theorem co29:Tryz.prog.cellsOf 29=1:=by kernel_rfl
theorem co31:Tryz.prog.cellsOf 31=9:=by kernel_rfl
theorem rdGLeaf {H:Type} {enc:TypeId×Value→H} {W:World} (n:Nat):RdN enc Tryz.prog W n 31 GLeaf.row GLeaf.wf GLeaf.bk :=
 (rd_struct (l:=(match Tryz.prog.underlying 31 with | some (.struct fs)=>fs.toList | _=>[])) (fs:=(match Tryz.prog.underlying 31 with | some (.struct fs)=>fs | _=>#[])) (by kernel_rfl) (by kernel_rfl) co31 (fun m _=>(x6 rfl co5 rfl (rd_int Tryz.underlying5) (x6 rfl co2 rfl (rd_int Tryz.underlying2) (x6 rfl co22 rfl (rd_int Tryz.underlying22) (x6 rfl co27 rfl (rdGDot _) (x6 rfl co9 rfl (rd_str Tryz.underlying9) (x6 rfl co28 rfl (rdt28 _) (x6 rfl co29 rfl (rdt29 _) (rf_nil (by decide))))))))))).map (fun p=>GLeaf.mk p.1 p.2.1 p.2.2.1 p.2.2.2.1 p.2.2.2.2.1 p.2.2.2.2.2.1 p.2.2.2.2.2.2.1) (fun _=>rfl) (fun a h=>by simpa [GLeaf.wf,and_assoc] using h) (fun _=>rfl)
theorem rdt32 {H:Type} {enc:TypeId×Value→H} {W:World} (n:Nat):RdN enc Tryz.prog W n 32 (fun L:(List yn)=>[AV.sl 1 (L.map zG)]) (fun L=>L.length≤maxLen∧∀ y ∈ L,y.length≤maxLen) (fun L=>(L.map (fun s=>s.length+1)).sum+1) :=
 rd_slice Tryz.underlying32 co9 (by decide) (fun _=>rfl) (fun _=>rfl) (fun m _=>(rd_str Tryz.underlying9))
theorem co32:Tryz.prog.cellsOf 32=1:=by kernel_rfl
theorem co34:Tryz.prog.cellsOf 34=5:=by kernel_rfl
theorem rdGOp {H:Type} {enc:TypeId×Value→H} {W:World} (n:Nat):RdN enc Tryz.prog W n 34 GOp.row GOp.wf GOp.bk :=
 (rd_struct (l:=(match Tryz.prog.underlying 34 with | some (.struct fs)=>fs.toList | _=>[])) (fs:=(match Tryz.prog.underlying 34 with | some (.struct fs)=>fs | _=>#[])) (by kernel_rfl) (by kernel_rfl) co34 (fun m _=>(x6 rfl co5 rfl (rd_int Tryz.underlying5) (x6 rfl co32 rfl (rdt32 _) (x6 rfl co2 rfl (rd_int Tryz.underlying2) (x6 rfl co9 rfl (rd_str Tryz.underlying9) (x6 rfl co29 rfl (rdt29 _) (rf_nil (by decide))))))))).map (fun p=>GOp.mk p.1 p.2.1 p.2.2.1 p.2.2.2.1 p.2.2.2.2.1) (fun _=>rfl) (fun a h=>by simpa [GOp.wf,and_assoc] using h) (fun _=>rfl)
theorem co36:Tryz.prog.cellsOf 36=9:=by kernel_rfl
theorem rdGEvent {H:Type} {enc:TypeId×Value→H} {W:World} (n:Nat):RdN enc Tryz.prog W n 36 GEvent.row GEvent.wf GEvent.bk :=
 (rd_struct (l:=(match Tryz.prog.underlying 36 with | some (.struct fs)=>fs.toList | _=>[])) (fs:=(match Tryz.prog.underlying 36 with | some (.struct fs)=>fs | _=>#[])) (by kernel_rfl) (by kernel_rfl) co36 (fun m _=>(x6 rfl co27 rfl (rdGDot _) (x6 rfl co22 rfl (rd_int Tryz.underlying22) (x6 rfl co34 rfl (rdGOp _) (rf_nil (by decide))))))).map (fun p=>GEvent.mk p.1 p.2.1 p.2.2.1) (fun _=>rfl) (fun a h=>by simpa [GEvent.wf,and_assoc] using h) (fun _=>rfl)
theorem ownLeafApplies:ownKnob Tryz.prog.godebug=none:=by kernel_rfl
theorem laidLeafApplies:laidOutB Tryz.prog=true:=by kernel_rfl
theorem contractLeafApplies (H:Type) (enc:TypeId×Value→H) (W:World) (base:Nat) (args:Array Value) (ds gs:List (DataW H)) (before:List MemPlace)
  (hval:∀ (j:Nat) t v,Tryz.f3.params[j]?=some t→args[j]?=some v→Value.okWide Tryz.prog W .any base t v)
  (hW:DataW.Whole enc Tryz.prog Tryz.f3.params.toList Rows.leafAppliesSpec.vars false W args.toList ds gs before) (hsh:W.ShapedOpen Tryz.prog) :
  Calls Tryz.prog 3 args W fun e W'=>∃ v,e=.returned v∧Rows.leafAppliesSpec.post enc Tryz.prog Tryz.f3 false true false false W args v W':=by
 haveI:GOk Tryz.prog W.heap.size W:=⟨hsh,Nat.le_refl _⟩
 have hW':=hW
 obtain ⟨p,q,hA0,hV,rfl,hfz,hnd⟩:=hW
 have hA:DataW.TrodAll enc Tryz.prog W 0 (fun _=>true) true Tryz.f3.params.toList args.toList ds p:=hA0
 rw [Tryz.params3] at hA hval
 obtain ⟨v0,vs0,d0,ds0,p0,q0,hargs,rfl,rfl,t0,r0⟩:=trodAll_cons hA
 obtain ⟨v1,vs1,d1,ds1,p1,q1,rfl,rfl,rfl,t1,r1⟩:=trodAll_cons r0
 obtain ⟨v2,vs2,d2,ds2,p2,q2,rfl,rfl,rfl,t2,r2⟩:=trodAll_cons r1
 obtain ⟨rfl,rfl,rfl⟩:=trodAll_nil r2
 obtain rfl:args=#[v0,v1,v2]:=by cases args;simp_all
 obtain ⟨rfl,rfl⟩:=trodVars_none hV
 clear hA0
 simp only [List.append_nil] at hW'
 obtain ⟨y0,hy0,wf0,bk0⟩:=rd_arg (fun n=>(rdGLeaf _)) t0
 have hv0:=V.of_agg (by have:=hval 0 31 v0 rfl rfl;simp only [Value.okWide,Tryz.underlying31] at this;obtain ⟨us,h,_⟩:=this;exact ⟨us,h⟩) rfl hy0
 obtain ⟨y1,hy1,wf1,bk1⟩:=rd_arg (fun n=>(rdGLeaf _)) t1
 have hv1:=V.of_agg (by have:=hval 1 31 v1 rfl rfl;simp only [Value.okWide,Tryz.underlying31] at this;obtain ⟨us,h,_⟩:=this;exact ⟨us,h⟩) rfl hy1
 obtain ⟨y2,hy2,wf2,bk2⟩:=rd_arg (fun n=>(rdGEvent _)) t2
 have hv2:=V.of_agg (by have:=hval 2 36 v2 rfl rfl;simp only [Value.okWide,Tryz.underlying36] at this;obtain ⟨us,h,_⟩:=this;exact ⟨us,h⟩) rfl hy2
 have hlt:∀ x ∈ (p0++(p1++p2)),x.block < W.heap.size:=fun x hx=>by simpa using hW'.lt x hx
 refine ((ok3 (h:=h0) ((law05LeafApplies_top) y0 y1 y2 wf0 wf1 wf2)).2 W.heap.size W (g0 W) W _ (rel0 W) (VL.cons hv0 (VL.cons hv1 (VL.cons hv2 (by simp [VL]))))).mono fun e W' ⟨v,r,h',g',he,⟨hr,hh⟩,hg,hR,hv⟩=>?_
 subst he hr
 simp only [V] at hv
 subst hv
 exact ⟨_,rfl,post_of_below (pv:=[]) hW' hR.below (fun _ _ _=>(trodAll_cons_mk (shut_bool Tryz.underlying4 _) trodAll_mk0)) (fun sp hsp=>(trodAll_cons_mk (WideElems.Trod_stays laidLeafApplies (by kernel_rfl) (of_decide_eq_true (by kernel_rfl)) t0 (fun x hx=>hR.below.same (hlt x (by simp [hx]))) (fun x hx=>hsp x (by simp [hx]))) (trodAll_cons_mk (WideElems.Trod_stays laidLeafApplies (by kernel_rfl) (of_decide_eq_true (by kernel_rfl)) t1 (fun x hx=>hR.below.same (hlt x (by simp [hx]))) (fun x hx=>hsp x (by simp [hx]))) (trodAll_cons_mk (WideElems.Trod_stays laidLeafApplies (by kernel_rfl) (of_decide_eq_true (by kernel_rfl)) t2 (fun x hx=>hR.below.same (hlt x (by simp [hx]))) (fun x hx=>hsp x (by simp [hx]))) trodAll_mk0)))) (fun _ _=>rfl) (by simp) (ok_one (by kernel_rfl) rfl (okWide_bool_mk Tryz.underlying4 _))⟩
set_option maxRecDepth 100000 in
theorem liftedLeafApplies (os:Os) (started:os.Started) (H:Type) (enc:TypeId×Value→H) :
  ReturnsInHanded {} Tryz.checked os 3 .any (Rows.leafAppliesSpec.pre6 enc Tryz.prog Tryz.f3 Rows.leafAppliesRow.domain false) (Rows.leafAppliesSpec.post enc Tryz.prog Tryz.f3 false true false false):=by
 refine returnsInHanded_of_change_shaped (C:=Tryz.checked) ownLeafApplies started (by kernel_rfl) Tryz.func3
  (ChangeSpec.witness6 (enc:=enc) (C:=Tryz.checked) false ⟨#[],#[.agg #[.int .u8 0,.int .i64 0,.int .u64 0,.int .u8 0,.int .u32 0,.int .u64 0,.string ⟨#[]⟩,.slice none 0 0,.slice none 0 0],.agg #[.int .u8 0,.int .i64 0,.int .u64 0,.int .u8 0,.int .u32 0,.int .u64 0,.string ⟨#[]⟩,.slice none 0 0,.slice none 0 0],.agg #[.int .u8 0,.int .u32 0,.int .u64 0,.int .u64 0,.int .u8 0,.slice none 0 0,.int .i64 0,.string ⟨#[]⟩,.slice none 0 0]],[]⟩ 8 (by kernel_rfl) (by kernel_rfl) (by kernel_rfl) (by kernel_rfl)) ?_
 intro W base args ds gs before hval hW _ _ hsh _
 exact contractLeafApplies H enc W base args ds gs before hval hW hsh
set_option maxHeartbeats 4000000 in
theorem closedLeafApplies:joinedFacts Tryz.pinned.checked.prog 3 Tryz.f3 Rows.leafAppliesSpec Rows.leafAppliesRow=true:=by
 unfold joinedFacts
 simp only [Bool.and_eq_true]
 repeat' apply And.intro
 all_goals as_aux_lemma=>kernel_rfl
theorem namedLeafApplies:Tryz.pinned.checked.prog.funcNamed Rows.leafAppliesRow.func=some 3:=by kernel_rfl
theorem instLeafApplies:Tryz.f3.isInstance Tryz.pinned.checked.prog Rows.leafAppliesRow.origin Rows.leafAppliesRow.targs:=of_decide_eq_true (by kernel_rfl)
theorem LeafAppliesHolds:Rows.LeafAppliesSaid :=
 OpenClaim.holds_of_wide 3 Tryz.f3 rfl rfl rfl rfl rfl rfl rfl ⟨rfl,rfl,rfl,rfl,rfl⟩ rfl rfl rfl rfl rfl namedLeafApplies Tryz.func3 closedLeafApplies
  instLeafApplies (by unfold Func.isWrapper;first | (rw [if_pos (by decide +kernel)];kernel_rfl) | (rw [if_neg (by decide +kernel)];exact ⟨rfl,rfl⟩))
  (fun os started H enc _=>liftedLeafApplies os started H enc)
end Go.Proofs.YtpdpghedkdpiiaaGreat
