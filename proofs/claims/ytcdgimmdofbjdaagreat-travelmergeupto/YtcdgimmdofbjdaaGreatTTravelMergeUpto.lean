/- The law varve.varvelaw33.TravelMerge holds: for every input it returns true, and each argument reads as it read. No condition. -/
import Derived.Test.YtcdgimmdofbjdaaGreatRows
import Derived.Test.YtcdgimmdofbjdaaGreatW11
import Derived.Test.YtcdgimmdofbjdaaGreatPlR0
import Derived.Test.YtcdgimmdofbjdaaGreatPlR1
import Derived.Test.YtcdgimmdofbjdaaGreatPlZ1
import Derived.Test.YtcdgimmdofbjdaaGreatVvMr
import Derived.ProofKit
import Derived.HandedShaped
import Derived.OpenShut
namespace Go.Proofs.YtcdgimmdofbjdaaGreat
open Go Go.Vv Go.ChangeShapes Go.WideShapes Go.ChangeAt Go.RowKit
set_option maxRecDepth 100000
set_option linter.unusedVariables false
set_option linter.unusedSimpArgs false
theorem co5:Tryz.prog.cellsOf 5=1:=by kernel_rfl
theorem zzl:Tryz.prog.cellsOf 30=1:=by kernel_rfl
theorem zyi:Tryz.prog.cellsOf 32=2:=by kernel_rfl
theorem zoq {H:Type} {enc:TypeId×Value->H} {W:World} (n:Nat):dg enc Tryz.prog W n 32 GH.row GH.wf GH.bk :=
 (tM (l:=(match Tryz.prog.underlying 32 with | some (.struct fs)=>fs.toList | _=>[])) (fs:=(match Tryz.prog.underlying 32 with | some (.struct fs)=>fs | _=>#[])) (by kernel_rfl) (by kernel_rfl) zyi (λm _=>(yI rfl co5 rfl (sg Tryz.underlying5) (yI rfl zzl rfl (sg Tryz.underlying30) (zbP (by decide)))))).map (λp=>GH.mk p.1 p.2.1) (λ_=>rfl) (λa h=>by simpa [GH.wf,jN] using h) (λ_=>rfl)
theorem zsp:Tryz.prog.cellsOf 22=1:=by kernel_rfl
theorem zso:Tryz.prog.cellsOf 34=3:=by kernel_rfl
theorem zgQ {H:Type} {enc:TypeId×Value->H} {W:World} (n:Nat):dg enc Tryz.prog W n 34 GA.row GA.wf GA.bk :=
 (tM (l:=(match Tryz.prog.underlying 34 with | some (.struct fs)=>fs.toList | _=>[])) (fs:=(match Tryz.prog.underlying 34 with | some (.struct fs)=>fs | _=>#[])) (by kernel_rfl) (by kernel_rfl) zso (λm _=>(yI rfl zyi rfl (zoq _) (yI rfl zsp rfl (sg Tryz.underlying22) (zbP (by decide)))))).map (λp=>GA.mk p.1 p.2.1) (λ_=>rfl) (λa h=>by simpa [GA.wf,jN] using h) (λ_=>rfl)
theorem zsH {H:Type} {enc:TypeId×Value->H} {W:World} (n:Nat):dg enc Tryz.prog W n 24 (λL:(List GA)=>[AV.sl 3 (L.map GA.row)]) (λL=>L.length<=maxLen/\∀y ∈ L,GA.wf y) (λL=>(L.map GA.bk).sum+1) :=
 rM Tryz.underlying24 zso (by decide) (λ_=>rfl) (λ_=>rfl) (λm _=>(zgQ _))
theorem zop {H:Type} {enc:TypeId×Value->H} {W:World} (n:Nat):dg enc Tryz.prog W n 23 (λL:(List GA)=>[AV.sl 3 (L.map GA.row)]) (λL=>L.length<=maxLen/\∀y ∈ L,GA.wf y) (λL=>(L.map GA.bk).sum+1) :=
 rM Tryz.underlying23 zso (by decide) (λ_=>rfl) (λ_=>rfl) (λm _=>(zgQ _))
theorem zr3:Tryz.prog.cellsOf 105=3:=by kernel_rfl
theorem zyj:Tryz.prog.cellsOf 26=1:=by kernel_rfl
theorem zxc:Tryz.prog.cellsOf 103=1:=by kernel_rfl
theorem co9:Tryz.prog.cellsOf 9=1:=by kernel_rfl
theorem zuh:Tryz.prog.cellsOf 167=5:=by kernel_rfl
theorem zqP {H:Type} {enc:TypeId×Value->H} {W:World} (n:Nat):dg enc Tryz.prog W n 167 GF.row GF.wf GF.bk :=
 (tM (l:=(match Tryz.prog.underlying 167 with | some (.struct fs)=>fs.toList | _=>[])) (fs:=(match Tryz.prog.underlying 167 with | some (.struct fs)=>fs | _=>#[])) (by kernel_rfl) (by kernel_rfl) zuh (λm _=>(yI rfl zsp rfl (sg Tryz.underlying22) (yI rfl zso rfl (zgQ _) (yI rfl co9 rfl (zgP Tryz.underlying9) (zbP (by decide))))))).map (λp=>GF.mk p.1 p.2.1 p.2.2.1) (λ_=>rfl) (λa h=>by simpa [GF.wf,jN] using h) (λ_=>rfl)
theorem zvc {H:Type} {enc:TypeId×Value->H} {W:World} (n:Nat):dg enc Tryz.prog W n 82 (λL:(List GF)=>[AV.sl 5 (L.map GF.row)]) (λL=>L.length<=maxLen/\∀y ∈ L,GF.wf y) (λL=>(L.map GF.bk).sum+1) :=
 rM Tryz.underlying82 zuh (by decide) (λ_=>rfl) (λ_=>rfl) (λm _=>(zqP _))
theorem co2:Tryz.prog.cellsOf 2=1:=by kernel_rfl
theorem zzj:Tryz.prog.cellsOf 82=1:=by kernel_rfl
theorem zuK:Tryz.prog.cellsOf 23=1:=by kernel_rfl
theorem zyf:Tryz.prog.cellsOf 84=9:=by kernel_rfl
theorem zqO {H:Type} {enc:TypeId×Value->H} {W:World} (n:Nat):dg enc Tryz.prog W n 84 GE.row GE.wf GE.bk :=
 (tM (l:=(match Tryz.prog.underlying 84 with | some (.struct fs)=>fs.toList | _=>[])) (fs:=(match Tryz.prog.underlying 84 with | some (.struct fs)=>fs | _=>#[])) (by kernel_rfl) (by kernel_rfl) zyf (λm _=>(yI rfl co5 rfl (sg Tryz.underlying5) (yI rfl co2 rfl (sg Tryz.underlying2) (yI rfl zsp rfl (sg Tryz.underlying22) (yI rfl zso rfl (zgQ _) (yI rfl co9 rfl (zgP Tryz.underlying9) (yI rfl zzj rfl (zvc _) (yI rfl zuK rfl (zop _) (zbP (by decide))))))))))).map (λp=>GE.mk p.1 p.2.1 p.2.2.1 p.2.2.2.1 p.2.2.2.2.1 p.2.2.2.2.2.1 p.2.2.2.2.2.2.1) (λ_=>rfl) (λa h=>by simpa [GE.wf,jN] using h) (λ_=>rfl)
theorem zsI {H:Type} {enc:TypeId×Value->H} {W:World} (n:Nat):dg enc Tryz.prog W n 103 (λL:(List GE)=>[AV.sl 9 (L.map GE.row)]) (λL=>L.length<=maxLen/\∀y ∈ L,GE.wf y) (λL=>(L.map GE.bk).sum+1) :=
 rM Tryz.underlying103 zyf (by decide) (λ_=>rfl) (λ_=>rfl) (λm _=>(zqO _))
theorem zqN {H:Type} {enc:TypeId×Value->H} {W:World} (n:Nat):dg enc Tryz.prog W n 105 GC.row GC.wf GC.bk:=by
 induction n using Nat.strongRecOn with
 | _ n ih =>
  exact (tM (l:=(match Tryz.prog.underlying 105 with | some (.struct fs)=>fs.toList | _=>[])) (fs:=(match Tryz.prog.underlying 105 with | some (.struct fs)=>fs | _=>#[])) (by kernel_rfl) (by kernel_rfl) zr3 (λm hm=>(yI rfl co9 rfl (zgP Tryz.underlying9) (yI rfl zxc rfl (zsI _) (yI rfl zyj rfl (rM Tryz.underlying26 zr3 (by decide) (λy=>by rw [GC.q8];rfl) (λy=>by rw [GC.q8];rfl) (λq hq=>ih q (by omega))) (zbP (by decide))))))).map (λp=>GC.mk p.1 p.2.1 p.2.2.1) (λ_=>GC.q8 _) (λa h=>by simp only [GC.wf,GC.eM];simp only [jN,kA] at h ⊢;first | exact h | simp_all) (λ_=>by simp only [GC.bk,GC.d9])
theorem zvf {H:Type} {enc:TypeId×Value->H} {W:World} (n:Nat):dg enc Tryz.prog W n 26 (λL:(List GC)=>[AV.sl 3 (L.map GC.row)]) (λL=>L.length<=maxLen/\∀y ∈ L,GC.wf y) (λL=>(L.map GC.bk).sum+1) :=
 rM Tryz.underlying26 zr3 (by decide) (λy=>by rw [GC.q8];rfl) (λy=>by rw [GC.q8];rfl) (λm _=>(zqN _))
theorem zyk:Tryz.prog.cellsOf 24=1:=by kernel_rfl
theorem zzm:Tryz.prog.cellsOf 28=5:=by kernel_rfl
theorem zqQ {H:Type} {enc:TypeId×Value->H} {W:World} (n:Nat):dg enc Tryz.prog W n 28 GL.row GL.wf GL.bk :=
 (tM (l:=(match Tryz.prog.underlying 28 with | some (.struct fs)=>fs.toList | _=>[])) (fs:=(match Tryz.prog.underlying 28 with | some (.struct fs)=>fs | _=>#[])) (by kernel_rfl) (by kernel_rfl) zzm (λm _=>(yI rfl zsp rfl (sg Tryz.underlying22) (yI rfl zyk rfl (zsH _) (yI rfl zuK rfl (zop _) (yI rfl zsp rfl (sg Tryz.underlying22) (yI rfl zyj rfl (zvf _) (zbP (by decide))))))))).map (λp=>GL.mk p.1 p.2.1 p.2.2.1 p.2.2.2.1 p.2.2.2.2.1) (λ_=>rfl) (λa h=>by simpa [GL.wf,jN] using h) (λ_=>rfl)
theorem zvd {H:Type} {enc:TypeId×Value->H} {W:World} (n:Nat):dg enc Tryz.prog W n 66 (λL:(List zp)=>[AV.sl 1 (L.map yl)]) (λL=>L.length<=maxLen/\∀y ∈ L,y.length<=maxLen) (λL=>(L.map (λs=>s.length+1)).sum+1) :=
 rM Tryz.underlying66 co9 (by decide) (λ_=>rfl) (λ_=>rfl) (λm _=>(zgP Tryz.underlying9))
theorem zzk:Tryz.prog.cellsOf 66=1:=by kernel_rfl
theorem zyh:Tryz.prog.cellsOf 68=5:=by kernel_rfl
theorem zvg {H:Type} {enc:TypeId×Value->H} {W:World} (n:Nat):dg enc Tryz.prog W n 68 GN.row GN.wf GN.bk :=
 (tM (l:=(match Tryz.prog.underlying 68 with | some (.struct fs)=>fs.toList | _=>[])) (fs:=(match Tryz.prog.underlying 68 with | some (.struct fs)=>fs | _=>#[])) (by kernel_rfl) (by kernel_rfl) zyh (λm _=>(yI rfl co5 rfl (sg Tryz.underlying5) (yI rfl zzk rfl (zvd _) (yI rfl co2 rfl (sg Tryz.underlying2) (yI rfl co9 rfl (zgP Tryz.underlying9) (yI rfl zuK rfl (zop _) (zbP (by decide))))))))).map (λp=>GN.mk p.1 p.2.1 p.2.2.1 p.2.2.2.1 p.2.2.2.2.1) (λ_=>rfl) (λa h=>by simpa [GN.wf,jN] using h) (λ_=>rfl)
theorem zyg:Tryz.prog.cellsOf 70=11:=by kernel_rfl
theorem zl9 {H:Type} {enc:TypeId×Value->H} {W:World} (n:Nat):dg enc Tryz.prog W n 70 GI.row GI.wf GI.bk :=
 (tM (l:=(match Tryz.prog.underlying 70 with | some (.struct fs)=>fs.toList | _=>[])) (fs:=(match Tryz.prog.underlying 70 with | some (.struct fs)=>fs | _=>#[])) (by kernel_rfl) (by kernel_rfl) zyg (λm _=>(yI rfl zso rfl (zgQ _) (yI rfl zuK rfl (zop _) (yI rfl zyk rfl (zsH _) (yI rfl zsp rfl (sg Tryz.underlying22) (yI rfl zyh rfl (zvg _) (zbP (by decide))))))))).map (λp=>GI.mk p.1 p.2.1 p.2.2.1 p.2.2.2.1 p.2.2.2.2.1) (λ_=>rfl) (λa h=>by simpa [GI.wf,jN] using h) (λ_=>rfl)
theorem zve {H:Type} {enc:TypeId×Value->H} {W:World} (n:Nat):dg enc Tryz.prog W n 29 (λL:(List GI)=>[AV.sl 11 (L.map GI.row)]) (λL=>L.length<=maxLen/\∀y ∈ L,GI.wf y) (λL=>(L.map GI.bk).sum+1) :=
 rM Tryz.underlying29 zyg (by decide) (λ_=>rfl) (λ_=>rfl) (λm _=>(zl9 _))
theorem zd2:ownKnob Tryz.prog.godebug=none:=by kernel_rfl
theorem u9:laidOutB Tryz.prog=true:=by kernel_rfl
mutual
theorem ub {H:Type}:∀d:DataW H,Rows.uptoBulk d=qx d
 | .lit l=>by cases l <;> simp only [Rows.uptoBulk,qx]
 | .nil=>by simp only [Rows.uptoBulk,qx]
 | .ptr d=>by simp only [Rows.uptoBulk,qx,ub d]
 | .slice e s=>by simp only [Rows.uptoBulk,qx,zn4 e,zn4 s]
 | .agg p=>by simp only [Rows.uptoBulk,qx,zn4 p]
 | .iface _ d=>by simp only [Rows.uptoBulk,qx,ub d]
 | .map e=>by simp only [Rows.uptoBulk,qx,zxn e]
 | .held _=>by simp only [Rows.uptoBulk,qx]
theorem zn4 {H:Type}:∀l:List (DataW H),Rows.uptoBulkAll l=qw l
 | []=>by simp only [Rows.uptoBulkAll,qw]
 | d::r=>by simp only [Rows.uptoBulkAll,qw,ub d,zn4 r]
theorem zxn {H:Type}:∀l:List (Lit×DataW H),Rows.uptoBulkEntries l=zcB l
 | []=>by simp only [Rows.uptoBulkEntries,zcB]
 | x::r=>by simp only [Rows.uptoBulkEntries,zcB,ubE x,zxn r];omega
theorem ubE {H:Type}:∀x:Lit×DataW H,Rows.uptoBulkEntry x=zlF x
 | (l,d)=>by cases l <;> simp only [Rows.uptoBulkEntry,zlF,ub d]
end
theorem zaA (H:Type) (enc:TypeId×Value->H) (W:World) (base:Nat) (args:Array Value) (ds gs:List (DataW H)) (before:List MemPlace)
  (hval:∀(j:Nat) t v,Tryz.f4.params[j]?=some t->args[j]?=some v->Value.okWide Tryz.prog W .any base t v)
  (hW:DataW.Whole enc Tryz.prog Tryz.f4.params.toList Rows.travelMergeSpec.vars false W args.toList ds gs before) (hk:Rows.uptoSmall H (ds++gs)=true) (hsh:W.ShapedOpen Tryz.prog) :
  Calls Tryz.prog 4 args W λe W'=>∃v,e=.returned v/\Rows.travelMergeSpec.post enc Tryz.prog Tryz.f4 false true false false W args v W':=by
 haveI:GOk Tryz.prog W.heap.size W:=⟨hsh,ob _,trivial⟩
 have hW':=hW;obtain ⟨p,q,hA0,hV,rfl,hfz,hnd⟩:=hW;have hA:DataW.TrodAll enc Tryz.prog W 0 (λ_=>true) true Tryz.f4.params.toList args.toList ds p:=hA0;rw [Tryz.params4] at hA hval;obtain ⟨v0,vs0,d0,ds0,p0,q0,hargs,rfl,rfl,t0,r0⟩:=trodAll_cons hA;obtain ⟨v1,vs1,d1,ds1,p1,q1,rfl,rfl,rfl,t1,r1⟩:=trodAll_cons r0;obtain ⟨v2,vs2,d2,ds2,p2,q2,rfl,rfl,rfl,t2,r2⟩:=trodAll_cons r1;obtain ⟨v3,vs3,d3,ds3,p3,q3,rfl,rfl,rfl,t3,r3⟩:=trodAll_cons r2;obtain ⟨rfl,rfl,rfl⟩:=trodAll_nil r3;obtain rfl:args=#[v0,v1,v2,v3]:=by cases args;simp_all
 obtain ⟨rfl,rfl⟩:=trodVars_none hV;clear hA0;simp only [ko] at hW';obtain ⟨y0,hy0,wf0,bk0⟩:=zjC (λn=>(zqQ _)) t0;have hv0:=V.zzx (by have:=hval 0 28 v0 rfl rfl;simp only [Value.okWide,Tryz.underlying28] at this;obtain ⟨us,h,_⟩:=this;exact ⟨us,h⟩) rfl hy0;obtain ⟨y1,hy1,wf1,bk1⟩:=zjC (λn=>(zve _)) t1;have hv1:=V.bu (by rintro cs rfl;have:=hval 1 29 _ rfl rfl;simp [Value.okWide,Tryz.underlying29,Cell.okWide,Cell.ok] at this) hy1;obtain ⟨y2,hy2,wf2,bk2⟩:=zjC (λn=>(sg Tryz.underlying5)) t2;have hv2:=V.bu (by rintro cs rfl;have:=hval 2 5 _ rfl rfl;simp [Value.okWide,Tryz.underlying5,Cell.okWide,Cell.ok] at this) hy2;obtain ⟨y3,hy3,wf3,bk3⟩:=zjC (λn=>(sg Tryz.underlying5)) t3;have hv3:=V.bu (by rintro cs rfl;have:=hval 3 5 _ rfl rfl;simp [Value.okWide,Tryz.underlying5,Cell.okWide,Cell.ok] at this) hy3;have hlt:∀x ∈ (p0++(p1++(p2++p3))),x.block < W.heap.size:=λx hx=>by simpa using hW'.lt x hx
 have hbk:GL.bk y0+((y1.map GI.bk).sum+1)+1+1<=1048576:=by
  have h:=lX hk;simp only [kc,ll,ko,Rows.uptoBulkAll,ub] at h;omega
 refine ((ok4 (h:=h0) ((zab) y0 y1 y2 y3 wf0 wf1 wf2 wf3 hbk)).2 W.heap.size W (g0 W) W _ (zxs W) (VL.cons hv0 (VL.cons hv1 (VL.cons hv2 (VL.cons hv3 (by simp [VL])))))).mono λe W' ⟨v,r,h',g',he,⟨hr,hh⟩,hg,hR,hv⟩=>?_;subst he hr;simp only [V] at hv;subst hv;exact ⟨_,rfl,zfx (pv:=[]) hW' hR.below (λ_ _ _=>(trodAll_cons_mk (shut_bool Tryz.underlying4 _) trodAll_mk0)) (λsp hsp=>(trodAll_cons_mk (WideElems.Trod_stays u9 (by kernel_rfl) (lX (by kernel_rfl)) t0 (λx hx=>hR.below.same (hlt x (by simp [hx]))) (λx hx=>hsp x (by simp [hx]))) (trodAll_cons_mk (WideElems.Trod_stays u9 (by kernel_rfl) (lX (by kernel_rfl)) t1 (λx hx=>hR.below.same (hlt x (by simp [hx]))) (λx hx=>hsp x (by simp [hx]))) (trodAll_cons_mk (WideElems.Trod_stays u9 (by kernel_rfl) (lX (by kernel_rfl)) t2 (λx hx=>hR.below.same (hlt x (by simp [hx]))) (λx hx=>hsp x (by simp [hx]))) (trodAll_cons_mk (WideElems.Trod_stays u9 (by kernel_rfl) (lX (by kernel_rfl)) t3 (λx hx=>hR.below.same (hlt x (by simp [hx]))) (λx hx=>hsp x (by simp [hx]))) trodAll_mk0))))) (λ_ _=>rfl) (by simp) (ok_one (by kernel_rfl) rfl (okWide_bool_mk Tryz.underlying4 _))⟩
set_option maxRecDepth 100000 in
theorem zbs (os:Os) (started:os.Started) (H:Type) (enc:TypeId×Value->H) (F:Stop.Interp) :
  ReturnsInHanded {} Tryz.checked os 4 .any ((Rows.OpenSpec.upto Rows.travelMergeSpec).pre6 enc Tryz.prog Tryz.f4 Rows.travelMergeUptoRow.domain false) (((Rows.OpenSpec.upto Rows.travelMergeSpec).at F).post enc Tryz.prog Tryz.f4 false true false false):=by
 refine zar (C:=Tryz.checked) (s:=(Rows.OpenSpec.upto Rows.travelMergeSpec)) (k:=Rows.uptoSmall) rfl zd2 started (by kernel_rfl) Tryz.func4
  (OpenSpec.witness (enc:=enc) (C:=Tryz.checked) (s:=(Rows.OpenSpec.upto Rows.travelMergeSpec)) (k:=Rows.uptoSmall) rfl false ⟨#[],#[.agg #[.int .u64 0,.slice none 0 0,.slice none 0 0,.int .u64 0,.slice none 0 0],.slice none 0 0,.int .u8 0,.int .u8 0],[]⟩ 8 (by kernel_rfl) (by kernel_rfl) (by kernel_rfl)
   (x:=(([.agg [.lit (.int .u64 0),.nil,.nil,.lit (.int .u64 0),.nil],.nil,.lit (.int .u8 0),.lit (.int .u8 0)],[],[]))) (by kernel_rfl) rfl (by kernel_rfl)) ?_
 intro W base args ds gs before hval hW hk hsh;exact zaA H enc W base args ds gs before hval hW hk hsh
set_option maxHeartbeats 4000000 in
theorem zbz:joinedFacts Tryz.pinned.checked.prog 4 Tryz.f4 (Rows.OpenSpec.upto Rows.travelMergeSpec).bare Rows.travelMergeUptoRow=true:=by
 unfold joinedFacts;simp only [tx]
 repeat' apply And.intro
 all_goals as_aux_lemma=>kernel_rfl
theorem zb5:Tryz.pinned.checked.prog.funcNamed Rows.travelMergeUptoRow.func=some 4:=by kernel_rfl
theorem zdf:Tryz.f4.isInstance Tryz.pinned.checked.prog Rows.travelMergeUptoRow.origin Rows.travelMergeUptoRow.targs:=lX (by kernel_rfl)
theorem TravelMergeUptoHolds:Rows.TravelMergeUptoSaid :=
 OpenClaim.holds_of_cond 4 Tryz.f4 rfl rfl rfl rfl rfl rfl rfl ⟨rfl,rfl,rfl,rfl,rfl⟩ rfl rfl rfl rfl rfl zb5 Tryz.func4 zbz
  zdf (by unfold Func.isWrapper;first | (rw [nK (by decide +kernel)];kernel_rfl) | (rw [n4 (by decide +kernel)];exact ⟨rfl,rfl⟩))
  (λos started H enc _ F=>zbs os started H enc F)
end Go.Proofs.YtcdgimmdofbjdaaGreat
