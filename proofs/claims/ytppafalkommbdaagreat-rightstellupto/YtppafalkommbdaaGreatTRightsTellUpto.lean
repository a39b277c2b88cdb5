/- The law varve.varvelaw42.RightsTell holds: for every input it returns true, and each argument reads as it read. No condition. -/
import Derived.Test.YtppafalkommbdaaGreatRows
import Derived.Test.YtppafalkommbdaaGreatW5
import Derived.Test.YtppafalkommbdaaGreatPlV0
import Derived.Test.YtppafalkommbdaaGreatPlV1
import Derived.Test.YtppafalkommbdaaGreatPlV2
import Derived.Test.YtppafalkommbdaaGreatPlV3
import Derived.Test.YtppafalkommbdaaGreatPlV4
import Derived.Test.YtppafalkommbdaaGreatPlV5
import Derived.Test.YtppafalkommbdaaGreatPlV6
import Derived.Test.YtppafalkommbdaaGreatPlV7
import Derived.Test.YtppafalkommbdaaGreatPlT0
import Derived.Test.YtppafalkommbdaaGreatPlV8
import Derived.Test.YtppafalkommbdaaGreatPlV9
import Derived.Test.YtppafalkommbdaaGreatVvUp
import Derived.ProofKit
import Derived.HandedShaped
import Derived.OpenShut
namespace Go.Proofs.YtppafalkommbdaaGreat
open Go Go.Vv Go.ChangeShapes Go.WideShapes Go.ChangeAt Go.RowKit
set_option maxRecDepth 100000
set_option linter.unusedVariables false
set_option linter.unusedSimpArgs false
theorem co9:Tryz.prog.cellsOf 9=1:=by kernel_rfl
theorem rdt23 {H:Type} {enc:TypeId×Value→H} {W:World} (n:Nat):RdN enc Tryz.prog W n 23 (fun L:(List zR)=>[AV.sl 1 (L.map zK)]) (fun L=>L.length≤maxLen∧∀ y ∈ L,y.length≤maxLen) (fun L=>(L.map (fun s=>s.length+1)).sum+1) :=
 rd_slice Tryz.underlying23 co9 (by decide) (fun _=>rfl) (fun _=>rfl) (fun m _=>(rd_str Tryz.underlying9))
theorem co5:Tryz.prog.cellsOf 5=1:=by kernel_rfl
theorem co23:Tryz.prog.cellsOf 23=1:=by kernel_rfl
theorem co4:Tryz.prog.cellsOf 4=1:=by kernel_rfl
theorem co39:Tryz.prog.cellsOf 39=5:=by kernel_rfl
theorem rdGRule {H:Type} {enc:TypeId×Value→H} {W:World} (n:Nat):RdN enc Tryz.prog W n 39 GRule.row GRule.wf GRule.bk :=
 (rd_struct (l:=(match Tryz.prog.underlying 39 with | some (.struct fs)=>fs.toList | _=>[])) (fs:=(match Tryz.prog.underlying 39 with | some (.struct fs)=>fs | _=>#[])) (by kernel_rfl) (by kernel_rfl) co39 (fun m _=>(we rfl co5 rfl (rd_int Tryz.underlying5) (we rfl co23 rfl (rdt23 _) (we rfl co5 rfl (rd_int Tryz.underlying5) (we rfl co4 rfl (rd_bool Tryz.underlying4) (we rfl co4 rfl (rd_bool Tryz.underlying4) (rf_nil (by decide))))))))).map (fun p=>GRule.mk p.1 p.2.1 p.2.2.1 p.2.2.2.1 p.2.2.2.2.1) (fun _=>rfl) (fun a h=>by simpa [GRule.wf,and_assoc] using h) (fun _=>rfl)
theorem rdt22 {H:Type} {enc:TypeId×Value→H} {W:World} (n:Nat):RdN enc Tryz.prog W n 22 (fun L:(List GRule)=>[AV.sl 5 (L.map GRule.row)]) (fun L=>L.length≤maxLen∧∀ y ∈ L,GRule.wf y) (fun L=>(L.map GRule.bk).sum+1) :=
 rd_slice Tryz.underlying22 co39 (by decide) (fun _=>rfl) (fun _=>rfl) (fun m _=>(rdGRule _))
theorem co51:Tryz.prog.cellsOf 51=1:=by kernel_rfl
theorem co53:Tryz.prog.cellsOf 53=2:=by kernel_rfl
theorem rdGActor {H:Type} {enc:TypeId×Value→H} {W:World} (n:Nat):RdN enc Tryz.prog W n 53 GActor.row GActor.wf GActor.bk :=
 (rd_struct (l:=(match Tryz.prog.underlying 53 with | some (.struct fs)=>fs.toList | _=>[])) (fs:=(match Tryz.prog.underlying 53 with | some (.struct fs)=>fs | _=>#[])) (by kernel_rfl) (by kernel_rfl) co53 (fun m _=>(we rfl co5 rfl (rd_int Tryz.underlying5) (we rfl co51 rfl (rd_int Tryz.underlying51) (rf_nil (by decide)))))).map (fun p=>GActor.mk p.1 p.2.1) (fun _=>rfl) (fun a h=>by simpa [GActor.wf,and_assoc] using h) (fun _=>rfl)
theorem co50:Tryz.prog.cellsOf 50=1:=by kernel_rfl
theorem co55:Tryz.prog.cellsOf 55=3:=by kernel_rfl
theorem rdGDot {H:Type} {enc:TypeId×Value→H} {W:World} (n:Nat):RdN enc Tryz.prog W n 55 GDot.row GDot.wf GDot.bk :=
 (rd_struct (l:=(match Tryz.prog.underlying 55 with | some (.struct fs)=>fs.toList | _=>[])) (fs:=(match Tryz.prog.underlying 55 with | some (.struct fs)=>fs | _=>#[])) (by kernel_rfl) (by kernel_rfl) co55 (fun m _=>(we rfl co53 rfl (rdGActor _) (we rfl co50 rfl (rd_int Tryz.underlying50) (rf_nil (by decide)))))).map (fun p=>GDot.mk p.1 p.2.1) (fun _=>rfl) (fun a h=>by simpa [GDot.wf,and_assoc] using h) (fun _=>rfl)
theorem rdt24 {H:Type} {enc:TypeId×Value→H} {W:World} (n:Nat):RdN enc Tryz.prog W n 24 (fun L:(List GDot)=>[AV.sl 3 (L.map GDot.row)]) (fun L=>L.length≤maxLen∧∀ y ∈ L,GDot.wf y) (fun L=>(L.map GDot.bk).sum+1) :=
 rd_slice Tryz.underlying24 co55 (by decide) (fun _=>rfl) (fun _=>rfl) (fun m _=>(rdGDot _))
theorem co2:Tryz.prog.cellsOf 2=1:=by kernel_rfl
theorem co24:Tryz.prog.cellsOf 24=1:=by kernel_rfl
theorem co26:Tryz.prog.cellsOf 26=5:=by kernel_rfl
theorem rdGOp {H:Type} {enc:TypeId×Value→H} {W:World} (n:Nat):RdN enc Tryz.prog W n 26 GOp.row GOp.wf GOp.bk :=
 (rd_struct (l:=(match Tryz.prog.underlying 26 with | some (.struct fs)=>fs.toList | _=>[])) (fs:=(match Tryz.prog.underlying 26 with | some (.struct fs)=>fs | _=>#[])) (by kernel_rfl) (by kernel_rfl) co26 (fun m _=>(we rfl co5 rfl (rd_int Tryz.underlying5) (we rfl co23 rfl (rdt23 _) (we rfl co2 rfl (rd_int Tryz.underlying2) (we rfl co9 rfl (rd_str Tryz.underlying9) (we rfl co24 rfl (rdt24 _) (rf_nil (by decide))))))))).map (fun p=>GOp.mk p.1 p.2.1 p.2.2.1 p.2.2.2.1 p.2.2.2.2.1) (fun _=>rfl) (fun a h=>by simpa [GOp.wf,and_assoc] using h) (fun _=>rfl)
theorem co74:Tryz.prog.cellsOf 74=3:=by kernel_rfl
theorem co28:Tryz.prog.cellsOf 28=1:=by kernel_rfl
theorem co72:Tryz.prog.cellsOf 72=1:=by kernel_rfl
theorem co77:Tryz.prog.cellsOf 77=5:=by kernel_rfl
theorem rdGItem {H:Type} {enc:TypeId×Value→H} {W:World} (n:Nat):RdN enc Tryz.prog W n 77 GItem.row GItem.wf GItem.bk :=
 (rd_struct (l:=(match Tryz.prog.underlying 77 with | some (.struct fs)=>fs.toList | _=>[])) (fs:=(match Tryz.prog.underlying 77 with | some (.struct fs)=>fs | _=>#[])) (by kernel_rfl) (by kernel_rfl) co77 (fun m _=>(we rfl co50 rfl (rd_int Tryz.underlying50) (we rfl co55 rfl (rdGDot _) (we rfl co9 rfl (rd_str Tryz.underlying9) (rf_nil (by decide))))))).map (fun p=>GItem.mk p.1 p.2.1 p.2.2.1) (fun _=>rfl) (fun a h=>by simpa [GItem.wf,and_assoc] using h) (fun _=>rfl)
theorem rdt56 {H:Type} {enc:TypeId×Value→H} {W:World} (n:Nat):RdN enc Tryz.prog W n 56 (fun L:(List GItem)=>[AV.sl 5 (L.map GItem.row)]) (fun L=>L.length≤maxLen∧∀ y ∈ L,GItem.wf y) (fun L=>(L.map GItem.bk).sum+1) :=
 rd_slice Tryz.underlying56 co77 (by decide) (fun _=>rfl) (fun _=>rfl) (fun m _=>(rdGItem _))
theorem co56:Tryz.prog.cellsOf 56=1:=by kernel_rfl
theorem co58:Tryz.prog.cellsOf 58=9:=by kernel_rfl
theorem rdGLeaf {H:Type} {enc:TypeId×Value→H} {W:World} (n:Nat):RdN enc Tryz.prog W n 58 GLeaf.row GLeaf.wf GLeaf.bk :=
 (rd_struct (l:=(match Tryz.prog.underlying 58 with | some (.struct fs)=>fs.toList | _=>[])) (fs:=(match Tryz.prog.underlying 58 with | some (.struct fs)=>fs | _=>#[])) (by kernel_rfl) (by kernel_rfl) co58 (fun m _=>(we rfl co5 rfl (rd_int Tryz.underlying5) (we rfl co2 rfl (rd_int Tryz.underlying2) (we rfl co50 rfl (rd_int Tryz.underlying50) (we rfl co55 rfl (rdGDot _) (we rfl co9 rfl (rd_str Tryz.underlying9) (we rfl co56 rfl (rdt56 _) (we rfl co24 rfl (rdt24 _) (rf_nil (by decide))))))))))).map (fun p=>GLeaf.mk p.1 p.2.1 p.2.2.1 p.2.2.2.1 p.2.2.2.2.1 p.2.2.2.2.2.1 p.2.2.2.2.2.2.1) (fun _=>rfl) (fun a h=>by simpa [GLeaf.wf,and_assoc] using h) (fun _=>rfl)
theorem rdt72 {H:Type} {enc:TypeId×Value→H} {W:World} (n:Nat):RdN enc Tryz.prog W n 72 (fun L:(List GLeaf)=>[AV.sl 9 (L.map GLeaf.row)]) (fun L=>L.length≤maxLen∧∀ y ∈ L,GLeaf.wf y) (fun L=>(L.map GLeaf.bk).sum+1) :=
 rd_slice Tryz.underlying72 co58 (by decide) (fun _=>rfl) (fun _=>rfl) (fun m _=>(rdGLeaf _))
theorem rdGNode {H:Type} {enc:TypeId×Value→H} {W:World} (n:Nat):RdN enc Tryz.prog W n 74 GNode.row GNode.wf GNode.bk:=by
 induction n using Nat.strongRecOn with
 | _ n ih =>
  exact (rd_struct (l:=(match Tryz.prog.underlying 74 with | some (.struct fs)=>fs.toList | _=>[])) (fs:=(match Tryz.prog.underlying 74 with | some (.struct fs)=>fs | _=>#[])) (by kernel_rfl) (by kernel_rfl) co74 (fun m hm=>(we rfl co9 rfl (rd_str Tryz.underlying9) (we rfl co72 rfl (rdt72 _) (we rfl co28 rfl (rd_slice Tryz.underlying28 co74 (by decide) (fun y=>by rw [GNode.row_eq];rfl) (fun y=>by rw [GNode.row_eq];rfl) (fun q hq=>ih q (by omega))) (rf_nil (by decide))))))).map (fun p=>GNode.mk p.1 p.2.1 p.2.2.1) (fun _=>GNode.row_eq _) (fun a h=>by simp only [GNode.wf,GNode.wfs_iff];simp only [and_assoc,and_true] at h ⊢;first | exact h | simp_all) (fun _=>by simp only [GNode.bk,GNode.bks_eq])
theorem rdt28 {H:Type} {enc:TypeId×Value→H} {W:World} (n:Nat):RdN enc Tryz.prog W n 28 (fun L:(List GNode)=>[AV.sl 3 (L.map GNode.row)]) (fun L=>L.length≤maxLen∧∀ y ∈ L,GNode.wf y) (fun L=>(L.map GNode.bk).sum+1) :=
 rd_slice Tryz.underlying28 co74 (by decide) (fun y=>by rw [GNode.row_eq];rfl) (fun y=>by rw [GNode.row_eq];rfl) (fun m _=>(rdGNode _))
theorem ownRightsTell:ownKnob Tryz.prog.godebug=none:=by kernel_rfl
theorem qZ:laidOutB Tryz.prog=true:=by kernel_rfl
mutual
theorem ub {H:Type}:∀ d:DataW H,Rows.uptoBulk d=qi d
 | .lit l=>by cases l <;> simp only [Rows.uptoBulk,qi]
 | .nil=>by simp only [Rows.uptoBulk,qi]
 | .ptr d=>by simp only [Rows.uptoBulk,qi,ub d]
 | .slice e s=>by simp only [Rows.uptoBulk,qi,ubAll e,ubAll s]
 | .agg p=>by simp only [Rows.uptoBulk,qi,ubAll p]
 | .iface _ d=>by simp only [Rows.uptoBulk,qi,ub d]
 | .map e=>by simp only [Rows.uptoBulk,qi,ubEs e]
 | .held _=>by simp only [Rows.uptoBulk,qi]
theorem ubAll {H:Type}:∀ l:List (DataW H),Rows.uptoBulkAll l=qx l
 | []=>by simp only [Rows.uptoBulkAll,qx]
 | d::r=>by simp only [Rows.uptoBulkAll,qx,ub d,ubAll r]
theorem ubEs {H:Type}:∀ l:List (Lit×DataW H),Rows.uptoBulkEntries l=vBulkEs l
 | []=>by simp only [Rows.uptoBulkEntries,vBulkEs]
 | x::r=>by simp only [Rows.uptoBulkEntries,vBulkEs,ubE x,ubEs r];omega
theorem ubE {H:Type}:∀ x:Lit×DataW H,Rows.uptoBulkEntry x=vBulkE x
 | (l,d)=>by cases l <;> simp only [Rows.uptoBulkEntry,vBulkE,ub d]
end
theorem contractRightsTell (H:Type) (enc:TypeId×Value→H) (W:World) (base:Nat) (args:Array Value) (ds gs:List (DataW H)) (before:List MemPlace)
  (hval:∀ (j:Nat) t v,Tryz.f3.params[j]?=some t→args[j]?=some v→Value.okWide Tryz.prog W .any base t v)
  (hW:DataW.Whole enc Tryz.prog Tryz.f3.params.toList Rows.rightsTellSpec.vars false W args.toList ds gs before) (hk:Rows.uptoSmall H (ds++gs)=true) (hsh:W.ShapedOpen Tryz.prog) :
  Calls Tryz.prog 3 args W fun e W'=>∃ v,e=.returned v∧Rows.rightsTellSpec.post enc Tryz.prog Tryz.f3 false true false false W args v W':=by
 haveI:GOk Tryz.prog W.heap.size W:=⟨hsh,Nat.le_refl _⟩
 have hW':=hW
 obtain ⟨p,q,hA0,hV,rfl,hfz,hnd⟩:=hW
 have hA:DataW.TrodAll enc Tryz.prog W 0 (fun _=>true) true Tryz.f3.params.toList args.toList ds p:=hA0
 rw [Tryz.params3] at hA hval
 obtain ⟨v0,vs0,d0,ds0,p0,q0,hargs,rfl,rfl,t0,r0⟩:=trodAll_cons hA
 obtain ⟨v1,vs1,d1,ds1,p1,q1,rfl,rfl,rfl,t1,r1⟩:=trodAll_cons r0
 obtain ⟨v2,vs2,d2,ds2,p2,q2,rfl,rfl,rfl,t2,r2⟩:=trodAll_cons r1
 obtain ⟨v3,vs3,d3,ds3,p3,q3,rfl,rfl,rfl,t3,r3⟩:=trodAll_cons r2
 obtain ⟨v4,vs4,d4,ds4,p4,q4,rfl,rfl,rfl,t4,r4⟩:=trodAll_cons r3
 obtain ⟨rfl,rfl,rfl⟩:=trodAll_nil r4
 obtain rfl:args=#[v0,v1,v2,v3,v4]:=by cases args;simp_all
 obtain ⟨rfl,rfl⟩:=trodVars_none hV
 clear hA0
 simp only [List.append_nil] at hW'
 obtain ⟨y0,hy0,wf0,bk0⟩:=rd_arg (fun n=>(rdt22 _)) t0
 have hv0:=V.of_one (by rintro cs rfl;have:=hval 0 22 _ rfl rfl;simp [Value.okWide,Tryz.underlying22,Cell.okWide,Cell.ok] at this) hy0
 obtain ⟨y1,hy1,wf1,bk1⟩:=rd_arg (fun n=>(rd_int Tryz.underlying5)) t1
 have hv1:=V.of_one (by rintro cs rfl;have:=hval 1 5 _ rfl rfl;simp [Value.okWide,Tryz.underlying5,Cell.okWide,Cell.ok] at this) hy1
 obtain ⟨y2,hy2,wf2,bk2⟩:=rd_arg (fun n=>(rdGOp _)) t2
 have hv2:=V.of_agg (by have:=hval 2 26 v2 rfl rfl;simp only [Value.okWide,Tryz.underlying26] at this;obtain ⟨us,h,_⟩:=this;exact ⟨us,h⟩) rfl hy2
 obtain ⟨y3,hy3,wf3,bk3⟩:=rd_arg (fun n=>(rdt23 _)) t3
 have hv3:=V.of_one (by rintro cs rfl;have:=hval 3 23 _ rfl rfl;simp [Value.okWide,Tryz.underlying23,Cell.okWide,Cell.ok] at this) hy3
 obtain ⟨y4,hy4,wf4,bk4⟩:=rd_arg (fun n=>(rdt28 _)) t4
 have hv4:=V.of_one (by rintro cs rfl;have:=hval 4 28 _ rfl rfl;simp [Value.okWide,Tryz.underlying28,Cell.okWide,Cell.ok] at this) hy4
 have hlt:∀ x ∈ (p0++(p1++(p2++(p3++p4)))),x.block < W.heap.size:=fun x hx=>by simpa using hW'.lt x hx
 have hbk:((y0.map GRule.bk).sum+1)+1+GOp.bk y2+((y3.map (fun s=>s.length+1)).sum+1)+((y4.map GNode.bk).sum+1)≤1048576:=by
  have h:=of_decide_eq_true hk
  simp only [List.cons_append,List.nil_append,List.append_nil,Rows.uptoBulkAll,ub] at h
  omega
 refine ((ok3 (h:=h0) ((law42RightsTell_top) y0 y1 y2 y3 y4 wf0 wf1 wf2 wf3 wf4 hbk)).2 W.heap.size W (g0 W) W _ (rel0 W) (VL.cons hv0 (VL.cons hv1 (VL.cons hv2 (VL.cons hv3 (VL.cons hv4 (by simp [VL]))))))).mono fun e W' ⟨v,r,h',g',he,⟨hr,hh⟩,hg,hR,hv⟩=>?_
 subst he hr
 simp only [V] at hv
 subst hv
 exact ⟨_,rfl,post_of_below (pv:=[]) hW' hR.below (fun _ _ _=>(trodAll_cons_mk (shut_bool Tryz.underlying4 _) trodAll_mk0)) (fun sp hsp=>(trodAll_cons_mk (WideElems.Trod_stays qZ (by kernel_rfl) (of_decide_eq_true (by kernel_rfl)) t0 (fun x hx=>hR.below.same (hlt x (by simp [hx]))) (fun x hx=>hsp x (by simp [hx]))) (trodAll_cons_mk (WideElems.Trod_stays qZ (by kernel_rfl) (of_decide_eq_true (by kernel_rfl)) t1 (fun x hx=>hR.below.same (hlt x (by simp [hx]))) (fun x hx=>hsp x (by simp [hx]))) (trodAll_cons_mk (WideElems.Trod_stays qZ (by kernel_rfl) (of_decide_eq_true (by kernel_rfl)) t2 (fun x hx=>hR.below.same (hlt x (by simp [hx]))) (fun x hx=>hsp x (by simp [hx]))) (trodAll_cons_mk (WideElems.Trod_stays qZ (by kernel_rfl) (of_decide_eq_true (by kernel_rfl)) t3 (fun x hx=>hR.below.same (hlt x (by simp [hx]))) (fun x hx=>hsp x (by simp [hx]))) (trodAll_cons_mk (WideElems.Trod_stays qZ (by kernel_rfl) (of_decide_eq_true (by kernel_rfl)) t4 (fun x hx=>hR.below.same (hlt x (by simp [hx]))) (fun x hx=>hsp x (by simp [hx]))) trodAll_mk0)))))) (fun _ _=>rfl) (by simp) (ok_one (by kernel_rfl) rfl (okWide_bool_mk Tryz.underlying4 _))⟩
set_option maxRecDepth 100000 in
theorem liftedRightsTell (os:Os) (started:os.Started) (H:Type) (enc:TypeId×Value→H) (F:Stop.Interp) :
  ReturnsInHanded {} Tryz.checked os 3 .any ((Rows.OpenSpec.upto Rows.rightsTellSpec).pre6 enc Tryz.prog Tryz.f3 Rows.rightsTellUptoRow.domain false) (((Rows.OpenSpec.upto Rows.rightsTellSpec).at F).post enc Tryz.prog Tryz.f3 false true false false):=by
 refine returns_cond_shaped (C:=Tryz.checked) (s:=(Rows.OpenSpec.upto Rows.rightsTellSpec)) (k:=Rows.uptoSmall) rfl ownRightsTell started (by kernel_rfl) Tryz.func3
  (OpenSpec.witness (enc:=enc) (C:=Tryz.checked) (s:=(Rows.OpenSpec.upto Rows.rightsTellSpec)) (k:=Rows.uptoSmall) rfl false ⟨#[],#[.slice none 0 0,.int .u8 0,.agg #[.int .u8 0,.slice none 0 0,.int .i64 0,.string ⟨#[]⟩,.slice none 0 0],.slice none 0 0,.slice none 0 0],[]⟩ 8 (by kernel_rfl) (by kernel_rfl) (by kernel_rfl)
   (x:=(([.nil,.lit (.int .u8 0),.agg [.lit (.int .u8 0),.nil,.lit (.int .i64 0),.lit (.string []),.nil],.nil,.nil],[],[]))) (by kernel_rfl) rfl (by kernel_rfl)) ?_
 intro W base args ds gs before hval hW hk hsh
 exact contractRightsTell H enc W base args ds gs before hval hW hk hsh
set_option maxHeartbeats 4000000 in
theorem closedRightsTell:joinedFacts Tryz.pinned.checked.prog 3 Tryz.f3 (Rows.OpenSpec.upto Rows.rightsTellSpec).bare Rows.rightsTellUptoRow=true:=by
 unfold joinedFacts
 simp only [Bool.and_eq_true]
 repeat' apply And.intro
 all_goals as_aux_lemma=>kernel_rfl
theorem namedRightsTell:Tryz.pinned.checked.prog.funcNamed Rows.rightsTellUptoRow.func=some 3:=by kernel_rfl
theorem instRightsTell:Tryz.f3.isInstance Tryz.pinned.checked.prog Rows.rightsTellUptoRow.origin Rows.rightsTellUptoRow.targs:=of_decide_eq_true (by kernel_rfl)
theorem RightsTellUptoHolds:Rows.RightsTellUptoSaid :=
 OpenClaim.holds_of_cond 3 Tryz.f3 rfl rfl rfl rfl rfl rfl rfl ⟨rfl,rfl,rfl,rfl,rfl⟩ rfl rfl rfl rfl rfl namedRightsTell Tryz.func3 closedRightsTell
  instRightsTell (by unfold Func.isWrapper;first | (rw [if_pos (by decide +kernel)];kernel_rfl) | (rw [if_neg (by decide +kernel)];exact ⟨rfl,rfl⟩))
  (fun os started H enc _ F=>liftedRightsTell os started H enc F)
end Go.Proofs.YtppafalkommbdaaGreat
