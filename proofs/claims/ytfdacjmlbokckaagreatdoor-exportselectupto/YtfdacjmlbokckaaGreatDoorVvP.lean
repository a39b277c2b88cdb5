/- The weakest preconditions over abstract states are sound: code, and functions. -/
import Derived.Test.YtfdacjmlbokckaaGreatDoorVvM
set_option linter.all false
namespace Go.Vv
open Go Go.RowKit Go.Lib

theorem min_exists {p:Nat→Prop} (h:∃ n,p n):∃ m,p m∧∀ k,p k→m≤k:=by
 obtain ⟨n,hn⟩:=h
 induction n using Nat.strongRecOn with
 | _ n ih =>
  grind
open Classical in
noncomputable def least (p:Nat→Prop):Nat:=if h:∃ n,p n then Classical.choose (min_exists h) else 0
theorem least_spec {p:Nat→Prop} (h:∃ n,p n):p (least p):=by
 unfold least;rw [dif_pos h];exact (Classical.choose_spec (min_exists h)).1
theorem least_le {p:Nat→Prop} {n:Nat} (h:p n):least p≤n:=by
 unfold least;rw [dif_pos ⟨n,h⟩];exact (Classical.choose_spec (min_exists ⟨n,h⟩)).2 n h

section
variable {P:Program} {B:Nat} {w0:World} {ro:Option Nat} {n:Nat} [GOk P B w0]

def Marks (gb g:Gh) (D:List Deferred):Prop:=∃ cs:List Nat,D.map (·.target)=cs.map Target.collected∧cs.Nodup∧∀ c ∈ cs,c ∈ g.δ∧c ∉ gb.δ
theorem Marks.mono {gb g g':Gh} {D:List Deferred} (h:Marks gb g D) (k:∀ c,c ∈ g.δ→c ∈ g'.δ):Marks gb g' D:=by
 obtain ⟨cs,h1,h2,h3⟩:=h
 exact ⟨cs,h1,h2,fun c hc=>⟨k c (h3 c hc).1,(h3 c hc).2⟩⟩
theorem Marks.nil (gb g:Gh):Marks gb g []:=⟨[],rfl,List.nodup_nil,fun _ h=>by cases h⟩
def StM (B:Nat) (w0:World) (gb g0:Gh) (env:List AV) (h:AH) (a:Act) (w:World):Prop:=∃ g,g0.le g∧Rel B w0 g h w∧VL g env a.tmps.toList∧Marks gb g a.defers∧gb.le g

def Gh.addD (g:Gh) (c:Nat):Gh:={ g with δ:=c::g.δ }
theorem Gh.le_addD (g:Gh) (c:Nat):g.le (g.addD c):=⟨fun _ _ _ e=>e,fun _ _ e=>e,fun _ t e=>⟨t,e,Nat.le_refl _,fun _=>rfl,rfl⟩,fun _ h=>List.mem_cons_of_mem _ h,fun _ _ h=>h,fun _ h=>h⟩
theorem Rel.addD {g:Gh} {h:AH} {w:World} (r:Rel B w0 g h w) {c:Nat} (hB:B≤c) (hc:w.heap[c]?=some (.deferred (some []))) (hs:∀ i:Nat,g.σ[i]? ≠ some c) (hnb:g.N c=none) (hno:¬ g.O c):Rel B w0 (g.addD c) h w :=
 ⟨r.below,r.bsz,r.phi,r.slen,fun i x k hx hk=>by obtain ⟨h1,h2,h3,h4⟩:=r.blk i x k hx hk;exact ⟨h1,h2,h3.mono (g.le_addD c) rfl,h4⟩,r.tlen,r.tok,r.sinj,r.tinj,r.sep,fun x hx=>by
  rcases List.mem_cons.1 hx with rfl | hx
  ·exact ⟨hB,hc,hs⟩
  ·exact r.dfr x hx,fun i k hi hk=>(r.row i k hi hk).mono (g.le_addD c) (fun _ _ h _=>h) (fun _ _ _ _ _ _ _=>⟨rfl,fun _=>rfl⟩),r.rinj,fun b x hb=>(r.nb b x hb).mono fun _ _ ha=>⟨rfl,⟨ha.1,fun hm=>(List.mem_cons.1 hm).elim (fun e=>by subst e;have hb:g.N b=some x:=hb;rw [hnb] at hb;cases hb) ha.2.1,ha.2.2⟩,fun h=>h⟩,r.ob,fun b hb=>⟨(r.oa b hb).1,fun hm=>(List.mem_cons.1 hm).elim (fun e=>hno (e ▸ hb)) (r.oa b hb).2.1,(r.oa b hb).2.2⟩⟩

theorem rangeFunc_sound {gop:Operand} {ps:Array Tmp} {assign body:Code} {gb g0:Gh} {QA:Exit→List AV→AH→Prop} {env:List AV} {h:AH} {a:Act} {w:World} (hro:ro=none)
  (hw:qQ P (.rangeFunc gop ps assign body) QA env h) (hs:StM B w0 gb g0 env h a w) {Q:Exit→Act→World→Prop} (hQ:∀ x env' h' a' w',QA x env' h'→StM B w0 gb g0 env' h' a' w'→Q x a' w') :
  (Code.rangeFunc gop ps assign body).wpIn (WF ro) n P Q a w:=by
 subst hro
 obtain ⟨g,hg,r,he,hm,hgb⟩:=hs
 obtain ⟨hok,_,_,env2,h2,hwk,hw⟩:=hw
 obtain ⟨g2,hg2,r2,he2,hd2⟩:=hwk B w0 w w g g _ r (Gh.le.refl g) r he
 replace hg:=hg.trans hg2
 replace hm:=hm.mono hd2
 replace hgb:=hgb.trans hg2
 clear hwk hd2 r he hg2
 revert hw hg hm hgb r2 he2
 generalize env2=env,h2=h,g2=g
 intro hw r he hg hm hgb
 have hV:=V.ev he hok
 split at hw
 ·rename_i f first caps hx
  rw [hx] at hV
  simp only [V] at hV
  obtain ⟨fs,cs,hev,h1,h2⟩:=hV
  refine wpIn_rangeFunc fun fn hfn=>?_
  have hro:(WF none).round=none:=rfl
  rw [hro]
  obtain ⟨rec,hrec⟩:∃ rec:LoopState→Option Code→Loop,rec=fun st pe=>{ state:=st,pending:=pe,fn,tmps:=a.tmps,params:=ps,assign,body,defers:=w.heap.size }:=⟨_,rfl⟩
  have r1:=r.alloc0 (.deferred (some []))
  have hc1:(w.alloc (.deferred (some []))).heap[w.heap.size]?=some (.deferred (some [])):=World.alloc_heap_new w _
  have hns:∀ i:Nat,g.σ[i]? ≠ some w.heap.size:=fun i hi=>by
   have hl:i < h.blks.length:=by rw [← r.slen];exact (List.getElem?_eq_some_iff.1 hi).1
   have:=(r.blk i _ _ hi (List.getElem?_eq_getElem hl)).2.1
   omega
  have r2:=r1.addD (c:=w.heap.size) r.bsz hc1 hns (r.nnew (Nat.le_refl _)) (r.nold (Nat.le_refl _))
  have r3:=r2.newBlk (.loop (rec .ready none)) (.loop .ready none env ps assign body) ⟨fn,a.tmps,w.heap.size,by rw [hrec];exact World.alloc_heap_new _ _,he.mono ((g.le_addD _).trans (Gh.le_addS _ _))⟩
  have hsz:(w.alloc (.deferred (some []))).heap.size=w.heap.size+1:=World.size_alloc ..
  have hσ:((g.addD w.heap.size).addS (w.alloc (.deferred (some []))).heap.size).σ[h.blks.length]?=some (w.heap.size+1):=by
   rw [← r.slen,hsz];simp [Gh.addS,Gh.addD]
  refine ⟨w.heap.size+1,[{ target:=.collected w.heap.size,args:=#[] }],(w.alloc (.deferred (some []))).alloc (.loop (rec .ready none)),{ target:=.fn (.func f) cs,args:=fs++#[.func (.yield (w.heap.size+1)) #[] #[]] },(w.alloc (.deferred (some []))).alloc (.loop (rec .ready none)),f,
   fs++#[.func (.yield (w.heap.size+1)) #[] #[]]++cs,(w.alloc (.deferred (some []))).alloc (.loop (rec .ready none)),?_,?_,fun _ _=>trivial,?_,fun h=>by simp [WF,Fence.wide] at h,?_⟩
  ·rw [hrec];exact run_enterLoop_outer _ _ _ _ _
  ·simp only [resolve,hev]
   simp [Deferred.ofValue,go_sem]
  ·simpa [invoke] using hw.1 _ _
  ·have hvl:VL ((g.addD w.heap.size).addS (w.alloc (.deferred (some []))).heap.size) (first++[.yld h.blks.length]++caps) (fs++#[Value.func (.yield (w.heap.size+1)) #[] #[]]++cs).toList:=by
    have hle:=(g.le_addD w.heap.size).trans (Gh.le_addS _ (w.alloc (.deferred (some []))).heap.size)
    simp only [Array.toList_append]
    refine VL.append (VL.append (h1.mono hle) (VL.cons ?_ (by simp [VL]))) (h2.mono hle)
    simp only [V]
    simp_all
   refine callsIn_of ((hw.2 B w0 _ _ _ r3 hvl).mono ?_)
   rintro e w3 ⟨v,x,h',g',rfl,⟨st,pe,env',ps',as',bd',hb,hst,hj⟩,hle,r',_⟩
   obtain ⟨_,hlt,⟨fn',tmps',d',hl,_⟩,_⟩:=r'.blk _ _ _ (hle.sig _ _ hσ) hb
   have hend:=run_endLoop (P:=P) hl hst
   have r4:Rel B w0 g' (h'.put h.blks.length .dead) (w3.putObj (w.heap.size+1) (.loop { state:=.exhausted,pending:=pe,fn:=fn',tmps:=tmps',params:=ps',assign:=as',body:=bd',defers:=d' })) :=
    r'.putObj (hle.sig _ _ hσ) hb (by simp) rfl rfl rfl World.putObj_size (fun b hb'=>World.putObj_heap_other hb') trivial
   have hle':g.le g':=((g.le_addD _).trans (Gh.le_addS _ _)).trans hle
   have hmk:Marks gb g' ({ target:=.collected w.heap.size,args:=#[] }::a.defers):=by
    obtain ⟨cs,k1,k2,k3⟩:=hm
    refine ⟨w.heap.size::cs,by simp [k1],List.nodup_cons.2 ⟨fun hc=>Nat.lt_irrefl _ (r.dfr_lt (k3 _ hc).1),k2⟩,fun c hc=>?_⟩
    rcases List.mem_cons.1 hc with rfl | hc
    ·exact ⟨hle.del _ (by simp [Gh.addS,Gh.addD]),fun hc=>Nat.lt_irrefl _ (r.dfr_lt (hgb.del _ hc))⟩
    ·exact ⟨hle'.del _ (k3 c hc).1,(k3 c hc).2⟩
   have hst':StM B w0 gb g0 env (h'.put h.blks.length .dead) { a with defers:={ target:=.collected w.heap.size,args:=#[] }::a.defers } (w3.putObj (w.heap.size+1) (.loop { state:=.exhausted,pending:=pe,fn:=fn',tmps:=tmps',params:=ps',assign:=as',body:=bd',defers:=d' })) :=
    ⟨g',hg.trans hle',r4,he.mono hle',hmk,hgb.trans hle'⟩
   refine ⟨pe,_,hend,?_⟩
   cases pe with
   | none=>exact hQ _ _ _ _ _ hj hst'
   | some c =>
    cases c with
    | ret=>exact wpIn_ret (hQ _ _ _ _ _ hj hst')
    | exit i=>exact wpIn_exit (hQ _ _ _ _ _ hj hst')
    | _=>exact hj.elim
 ·simp_all

theorem vf:∀ (c:Code) {gb g0:Gh} {QA:Exit→List AV→AH→Prop} {env:List AV} {h:AH} {a:Act} {w:World},(ro=none ∨ noRF c=true)→qQ P c QA env h→StM B w0 gb g0 env h a w→∀ {Q:Exit→Act→World→Prop},
  (∀ x env' h' a' w',QA x env' h'→StM B w0 gb g0 env' h' a' w'→Q x a' w')→c.wpIn (WF ro) n P Q a w
 | .skip,_,_,_,_,_,_,_,_,hw,hs,_,hQ=>wpIn_skip (hQ _ _ _ _ _ hw hs)
 | .label _,_,_,_,_,_,_,_,_,hw,hs,_,hQ=>wpIn_label (hQ _ _ _ _ _ hw hs)
 | .exit _,_,_,_,_,_,_,_,_,hw,hs,_,hQ=>wpIn_exit (hQ _ _ _ _ _ hw hs)
 | .ret,_,_,_,_,_,_,_,_,hw,hs,_,hQ=>wpIn_ret (hQ _ _ _ _ _ hw hs)
 | .region id ops draw,gb,g0,QA,env,h,a,w,_,hw,hs,Q,hQ=>by
  obtain ⟨g,hg,r,he,hm,hgb⟩:=hs
  have hback:∀ env' h' a' w',St B w0 g a.defers env' h' a' w'→StM B w0 gb g0 env' h' a' w':=fun env' h' a' w' ⟨g',k1,k2,k3,k4⟩=>⟨g',hg.trans k1,k2,k3,by rw [k4];exact hm.mono k1.del,hgb.trans k1⟩
  have hs:St B w0 g a.defers env h a w:=⟨g,Gh.le.refl g,r,he,rfl⟩
  cases draw with
  | false =>
   have h1:=ops_sound (ro:=ro) (n:=n) (Q:=Q) (fun env h a w hq hst=>hQ .normal env h a w hq (hback _ _ _ _ hst)) ops.toList 0 env h a w rfl hw hs
   refine wpIn_region ?_
   rw [List.range_eq_range']
   omega
  | true =>
   obtain ⟨Ns,F,⟨hm,hok⟩,hFh,hw⟩ | ⟨hm,hw⟩:=hw
   rotate_left
   ·obtain ⟨g,k1,k2,k3,k4⟩:=hs
    exact wpIn_region_any hm (any_sound (fun env h a w hq hst=>hQ .normal env h a w hq (hback _ _ _ _ hst)) _ _ _ _ _ _ hw ⟨g,k1,k2.drew,k3,k4⟩)
   obtain ⟨vs,hs',h0,h1,h2⟩:=draw_seq ops.toList 0 env h rfl (Nat.zero_le _) hw
   have hT:(fun w:Nat=>decide (0≤w))=fun _=>true:=by rfl
   rw [hT] at h1 h2
   refine wpIn_region_any hm (draw_sound (D:=a.defers) (g0:=g) hok (vs:=vs) (hs:=hs') (env:=env) (by simp_all) (fun i o ho=>h1 i o (Nat.zero_le _) ho) (fun a w hst=>hQ .normal _ _ _ _ h2 (hback _ _ _ _ hst)) ops.size _ a _ (by simp) ?_ (fun i j hi=>?_) ?_)
   ·exact Nat.le_trans List.countP_le_length (by simp)
   ·exfalso
    rw [Array.getD_eq_getD_getElem?] at hi
    grind
   ·have hF:∀ w,(Array.replicate ops.size false).getD w false=false:=fun w=>by
     rw [Array.getD_eq_getD_getElem?]
     grind
    rw [fE_none _ fun w _=>hF w]
    have hH:fH ops Ns hs' (fun i=>(Array.replicate ops.size false).getD i false) ops.size=h:=by
     have:∀ k,fH ops Ns hs' (fun i=>(Array.replicate ops.size false).getD i false) k=h:=fun k=>by
      induction k with
      | zero=>exact h0
      | succ k ih=>rw [fH,hF,Bool.false_and];exact ih
     simp_all
    rw [hH]
    obtain ⟨g,k1,k2,k3,k4⟩:=hs
    exact ⟨g,k1,k2.drew,k3,k4⟩
 | .seq x y,gb,g0,QA,env,h,a,w,hr,hw,hs,Q,hQ=>by
  have hrx:ro=none ∨ noRF x=true:=hr.imp id fun h=>by simp only [noRF,Bool.and_eq_true] at h;exact h.1
  have hry:ro=none ∨ noRF y=true:=hr.imp id fun h=>by simp only [noRF,Bool.and_eq_true] at h;exact h.2
  obtain ⟨g,hg,r,he,hm,hgb⟩:=hs
  refine wpIn_seq (vf (gb:=gb) (g0:=g) x hrx hw ⟨g,Gh.le.refl g,r,he,hm,hgb⟩ fun e env' h' a' w' hq hs'=>?_)
  obtain ⟨g1,hg1,r1,he1,hm1,hgb1⟩:=hs'
  cases e with
  | normal =>
   obtain ⟨env2,h2,hk,hq⟩:=hq
   obtain ⟨g2,hg2,r2,he2,hd2⟩:=hk B w0 w' w g g1 _ r hg1 r1 he1
   exact vf (gb:=gb) (g0:=g0) y hry hq ⟨g2,hg.trans hg2,r2,he2,hm1.mono hd2,hgb.trans hg2⟩ hQ
  | _=>exact hQ _ _ _ _ _ hq ⟨g1,hg.trans hg1,r1,he1,hm1,hgb1⟩
 | .cond c x y,gb,g0,QA,env,h,a,w,hr,hw,hs,Q,hQ=>by
  have hrx:ro=none ∨ noRF x=true:=hr.imp id fun h=>by simp only [noRF,Bool.and_eq_true] at h;exact h.1
  have hry:ro=none ∨ noRF y=true:=hr.imp id fun h=>by simp only [noRF,Bool.and_eq_true] at h;exact h.2
  obtain ⟨hc,hw⟩:=hw
  have hs':=hs
  obtain ⟨g,hg,r,he,hm,hgb⟩:=hs'
  have hV:=V.ev he hc
  split at hw
  ·rename_i b hb
   rw [hb] at hV
   simp only [V] at hV
   refine wpIn_cond hV ?_
   cases b with
   | true=>exact vf x hrx hw hs hQ
   | false=>exact vf y hry hw hs hQ
  ·simp_all
 | .block id body,gb,g0,QA,env,h,a,w,hr,hw,hs,Q,hQ=>by
  refine wpIn_block (vf body (hr.imp (fun h=>h) fun h=>h) hw hs fun e env' h' a' w' hq hs'=>?_)
  cases e with
  | exit id' =>
   simp only [Exit.inBlock]
   grind
  | _=>exact hQ _ _ _ _ _ hq hs'
 | .loop body,gb,g0,QA,env,h,a,w,hr,hw,hs,Q,hQ=>by
  have hrb:ro=none ∨ noRF body=true:=hr.imp id fun h=>h
  obtain ⟨I,⟨m0,env0,h0,hk0,hI⟩,hround⟩:=hw
  obtain ⟨ge,hge,re,he,hm,hgb⟩:=hs
  have hgb0:=hgb
  let p:Act→World→Nat→Prop:=fun a w m=>∃ env h,I m env h∧StM B w0 gb ge env h a w
  obtain ⟨g2,hg2,r2,he2,hd2⟩:=hk0 B w0 w w ge ge _ re (Gh.le.refl ge) re he
  refine wpIn_loop (fun a w=>∃ m,p a w m) (fun a w=>least (p a w)) ⟨_,env0,h0,hI,g2,hg2,r2,he2,hm.mono hd2,hgb.trans hg2⟩ fun a w1 hI'=>?_
  obtain ⟨env',h',hI2,hs2⟩:=least_spec hI'
  obtain ⟨g,hg,r,he,hm,hgb⟩:=hs2
  refine vf (gb:=gb) (g0:=g) body hrb (hround _ env' h' hI2) ⟨g,Gh.le.refl g,r,he,hm,hgb⟩ fun e env2 h2 a2 w2 hq hs3=>?_
  obtain ⟨g1,hg1,r1,he1,hm1,hgb1⟩:=hs3
  cases e with
  | normal =>
   obtain ⟨m,env3,h3,hlt,hk,hI3⟩:=hq
   have hp:p a2 w2 m:=by
    rcases hk with hk | hk
    ·obtain ⟨g2,hg2,r2,he2,hd2⟩:=hk B w0 w2 w1 g g1 _ r hg1 r1 he1
     exact ⟨env3,h3,hI3,g2,hg.trans hg2,r2,he2,hm1.mono hd2,hgb.trans hg2⟩
    ·obtain ⟨g2,hg2,r2,he2,hd2⟩:=hk B w0 w2 w ge g1 _ re (hg.trans hg1) r1 he1
     exact ⟨env3,h3,hI3,g2,hg2,r2,he2,hm1.mono hd2,hgb0.trans hg2⟩
   exact ⟨⟨_,hp⟩,Nat.lt_of_le_of_lt (least_le hp) hlt⟩
  | _=>exact hQ _ _ _ _ _ hq ⟨g1,hge.trans (hg.trans hg1),r1,he1,hm1,hgb1⟩
 | .rangeFunc f ps assign body,gb,g0,QA,env,h,a,w,hr,hw,hs,Q,hQ=>rangeFunc_sound (hr.elim id fun h=>by cases h) hw hs hQ
 | .scope _,_,_,_,_,_,_,_,_,hw,_,_,_=>hw.elim
 | .goto _,_,_,_,_,_,_,_,_,hw,_,_,_=>hw.elim
 | .refuse _,_,_,_,_,_,_,_,_,hw,_,_,_=>hw.elim
end

mutual
def AV.pl:AV→Bool
 | .sl _ es=>plE es
 | .bsl _ _ | .nsl _ _ | .gsl _ _=>false
 | _=>true
def plL:List AV→Bool
 | []=>true
 | a::r=>a.pl&&plL r
def plE:List (List AV)→Bool
 | []=>true
 | e::r=>plL e&&plE r
end
theorem plE_map {α:Type} {row:α→List AV} (h:∀ x,plL (row x)=true):∀ L:List α,plE (L.map row)=true
 | []=>rfl
 | x::r=>by simp [plE,h x,plE_map h r]
mutual
theorem V.plain {g g':Gh} (hφ:∀ b j v,g.Φ b j=some v→g'.Φ b j=some v):∀ (a:AV) (v:Value),a.pure=true→a.pl=true→V g a v→V g' a v
 | .bool _,_,_,_,hv=>by simpa only [V] using hv
 | .int _ _,_,_,_,hv=>by simpa only [V] using hv
 | .str _,_,_,_,hv=>by simpa only [V] using hv
 | .nilp,_,_,_,hv=>by simpa only [V] using hv
 | .nilm,_,_,_,hv=>by simpa only [V] using hv
 | .nilf,_,_,_,hv=>by simpa only [V] using hv
 | .nili,_,_,_,hv=>by simpa only [V] using hv
 | .sl k es,_,_,hl,hv=>by
  simp only [V] at hv ⊢
  simp only [AV.pl] at hl
  obtain ⟨a,c,e,h1,h2,h3⟩:=hv
  exact ⟨a,c,e,h1,h2,h3.imp id fun ⟨b,o,e,hh⟩=>⟨b,o,e,VE.plain hφ b k o es hl hh⟩⟩
 | .fn f [] [],_,_,_,hv=>by
  simp only [V,VL] at hv ⊢;exact hv
theorem VC.plain {g g':Gh} (hφ:∀ b j v,g.Φ b j=some v→g'.Φ b j=some v) (b:Nat):∀ (o:Nat) (a5:List AV),plL a5=true→VC g b o a5→VC g' b o a5
 | _,[],_,_=>by simp only [VC]
 | o,a::r,hl,hv=>by
  simp only [VC] at hv ⊢
  simp only [plL,Bool.and_eq_true] at hl
  obtain ⟨⟨v,h0,h1,h2⟩,h3⟩:=hv
  exact ⟨⟨v,hφ _ _ _ h0,h1,V.plain hφ a v h1 hl.1 h2⟩,VC.plain hφ b (o+1) r hl.2 h3⟩
theorem VE.plain {g g':Gh} (hφ:∀ b j v,g.Φ b j=some v→g'.Φ b j=some v) (b k:Nat):∀ (o:Nat) (a5:List (List AV)),plE a5=true→VE g b k o a5→VE g' b k o a5
 | _,[],_,_=>by simp only [VE]
 | o,e::r,hl,hv=>by
  simp only [VE] at hv ⊢
  simp only [plE,Bool.and_eq_true] at hl
  obtain ⟨⟨h0,h1⟩,h2⟩:=hv
  exact ⟨⟨h0,VC.plain hφ b o e hl.1 h1⟩,VE.plain hφ b k (o+k) r hl.2 h2⟩
end
theorem VA.pl {g g':Gh} (hφ:∀ b j v,g.Φ b j=some v→g'.Φ b j=some v):∀ {a5:List AV} {vs:List Value},a5.all AV.pure=true→plL a5=true→VA g a5 vs→VA g' a5 vs
 | [],_,_,_,hv=>by simpa only [VA] using hv
 | a::r,_,hp,hl,hv=>by
  simp only [VA] at hv ⊢
  simp only [plL,Bool.and_eq_true] at hl
  simp only [List.all_cons,Bool.and_eq_true] at hp
  obtain ⟨v,s,e,⟨h0,h1⟩,h2⟩:=hv
  exact ⟨v,s,e,⟨h0,V.plain hφ a v hp.1 hl.1 h1⟩,VA.pl hφ hp.2 hl.2 h2⟩

def qb (P:Program) (env:List AV) (h:AH):List ResultVar→Option (List AV)
 | []=>some []
 | .tmp t::r=>match qb P env h r with
  | some vs=>some (env.getD t za::vs)
  | none=>none
 | .cell a t::r=>match P.underlying t,P.info? t with
  | some d,some i=>match aLoad h (yq d) i.size (env.getD a za),qb P env h r with
   | some v,some vs=>some (tyfix P t v::vs)
   | _,_=>none
  | _,_=>none
def aRes (P:Program) (fn:Func) (env:List AV) (h:AH):Option AV :=
 match qb P env h fn.results.toList with
 | some [v]=>some v
 | some vs=>some (.tup vs)
 | none=>none

def leV (a b:AV):Prop:=∀ g v,V g a v→V g b v
theorem leV.refl (a:AV):leV a a:=fun _ _ h=>h
def finK (h0:AH) (K:AV→AH→Prop) (r0:AV) (h:AH):Prop:=∃ r h',wk h0 [r0] h [r] h'∧K r h'
def bodyQ (P:Program) (fn:Func) (h0:AH) (K:AV→AH→Prop) (x:Exit) (env:List AV) (h:AH):Prop :=
 match x with
 | .normal | .ret=>match aRes P fn env h with
  | some r=>finK h0 K r h
  | none=>False
 | _=>False

section
variable {P:Program}
def resF (tmps:Array Value):ResultVar→Sem Value
 | .tmp t=>pure (tmps.getD t undef)
 | .cell a t=>do loadVar t (← asAddr (tmps.getD a undef))
theorem results_eq (fn:Func) (tmps:Array Value):results fn tmps=(do let vs ← fn.results.mapM (resF tmps);pure (if h:vs.size=1 then vs[0] else .tuple vs)):=by
 rfl
theorem resL_sound {B:Nat} {w0 w:World} {g:Gh} {h:AH} (r:Rel B w0 g h w) {env:List AV} {tmps:Array Value} (he:VL g env tmps.toList):∀ {rs:List ResultVar} {vs:List AV},qb P env h rs=some vs →
  ∃ us,(rs.mapM (resF tmps)).run P w=.ok us w∧VL g vs us
 | [],vs,h=>by simp only [qb,Option.some.injEq] at h;subst h;exact ⟨[],by simp,by simp [VL]⟩
 | .tmp t::rs,vs,h=>by
  simp only [qb] at h
  split at h
  ·rename_i vs' hr
   cases h
   obtain ⟨us,h1,h2⟩:=resL_sound r he hr
   refine ⟨tmps.getD t undef::us,by simp only [List.mapM_cons,Sem.run_bind,resF,Sem.run_pure,Result.andThen_ok,h1],VL.cons ?_ h2⟩
   exact V.ev (a:={ tmps:=tmps,defers:=[] }) he (x:=.tmp t) rfl
  ·cases h
 | .cell ad t::rs,vs,h=>by
  simp only [qb] at h
  split at h
  ·rename_i d i hd hi
   split at h
   ·rename_i v vs' hl hr
    cases h
    obtain ⟨us,h1,h2⟩:=resL_sound r he hr
    have hp:=V.ev (a:={ tmps:=tmps,defers:=[] }) he (x:=.tmp ad) rfl
    obtain ⟨u,h3,h4⟩:=load_sound r hd hi hp hl
    refine ⟨u::us,?_,VL.cons h4.tyfix h2⟩
    have h5:(do loadVar t (← asAddr (tmps.getD ad undef)):Sem Value).run P w=.ok u w:=by
     have h6:Act.eval { tmps:=tmps,defers:=[] } (.tmp ad)=tmps.getD ad undef:=rfl
     rw [h6] at h3
     generalize tmps.getD ad undef=pv at h3 ⊢
     cases pv with
     | pointer x =>
      cases x with
      | none=>simp [Instr.loadAt,Instr.sureAddr] at h3
      | some x=>simpa [Instr.loadAt,Instr.sureAddr,asAddr] using h3
     | _=>simp [Instr.loadAt,Instr.sureAddr] at h3
    have h7:(resF tmps (.cell ad t)).run P w=.ok u w:=h5
    simp_all
   ·cases h
  ·cases h

theorem res_sound {B:Nat} {w0 w:World} {g:Gh} {h:AH} (r:Rel B w0 g h w) {env:List AV} {tmps:Array Value} (he:VL g env tmps.toList) {fn:Func} {v:AV} (hv:aRes P fn env h=some v) :
  ∃ u,(results fn tmps).run P w=.ok u w∧V g v u:=by
 unfold aRes at hv
 have key:∀ vs,qb P env h fn.results.toList=some vs→∃ us:List Value,(results fn tmps).run P w=.ok (if h:us.length=1 then us[0] else .tuple us.toArray) w∧VL g vs us:=by
  intro vs hvs
  obtain ⟨us,h1,h2⟩:=resL_sound r he hvs
  refine ⟨us,?_,h2⟩
  rw [results_eq,Array.mapM_eq_mapM_toList]
  simp_all
 split at hv
 ·rename_i v' hvs
  cases hv
  obtain ⟨us,h1,h2⟩:=key _ hvs
  simp only [VL] at h2
  grind
 ·rename_i vs hne hvs
  cases hv
  obtain ⟨us,h1,h2⟩:=key _ hvs
  have hl:us.length ≠ 1:=by
   intro hl
   rw [← h2.length] at hl
   rcases vs with _ | ⟨x,_ | ⟨y,r⟩⟩ <;> simp at hl
   simp_all
  refine ⟨.tuple us.toArray,by simp_all,?_⟩
  simp only [V];exact ⟨_,rfl,h2⟩
 ·cases hv

theorem VL.undefs {g:Gh}:∀ k,VL g (List.replicate k za) (List.replicate k undef)
 | 0=>by simp [VL]
 | k+1=>by simp only [List.replicate_succ];exact VL.cons V.ofUndef (VL.undefs k)

theorem Rel.shut {B:Nat} {w0 w:World} {g:Gh} {h:AH} (r:Rel B w0 g h w) {c:Nat} (hc:c ∈ g.δ):Rel B w0 { g with δ:=g.δ.filter (· != c) } h (w.putObj c (.deferred none)):=by
 have hd:=r.dfr c hc
 have hoth:∀ b,b ≠ c→(w.putObj c (.deferred none)).heap[b]?=w.heap[b]?:=fun b hb=>World.putObj_heap_other hb
 have hle:g.le { g with δ:=g.δ }:=Gh.le.refl g
 refine ⟨⟨r.below.os,r.below.tape,r.below.output,by simpa using r.below.size,fun b hb=>(hoth b (by omega)).trans (r.below.block b hb)⟩,by simpa using r.bsz,fun b j v e=>?_,r.slen,fun i x k hx hk=>?_,r.tlen,fun i t ht=>?_,r.sinj,r.tinj,r.sep,fun x hx=>?_,fun i k hi hk=>?_,r.rinj,
  fun b x hb=>(r.nb b x hb).mono fun _ _ ha=>⟨hoth b (by rintro rfl;exact ha.2.1 hc),⟨ha.1,fun hm=>ha.2.1 (List.mem_filter.1 hm).1,ha.2.2⟩,fun h=>h⟩,fun b hb=>⟨by simpa using (r.ob b hb).1,(r.ob b hb).2⟩,fun b hb=>⟨(r.oa b hb).1,fun hm=>(r.oa b hb).2.1 (List.mem_filter.1 hm).1,(r.oa b hb).2.2⟩⟩
 ·have hne:b ≠ c:=by
   rintro rfl
   have:=r.phi b j v e
   unfold World.cell? at this
   simp_all
  exact (World.cell?_of_block (w:=w) (a:=⟨b,j,none⟩) (hoth b hne)).trans (r.phi b j v e)
 ·obtain ⟨h1,h2,h3,h4⟩:=r.blk i x k hx hk
  refine ⟨h1,by simp_all,?_,h4⟩
  have hne:x ≠ c:=by grind
  have hw:=hoth x hne
  cases k with
  | cells cs=>obtain ⟨vs,t,k1,k2⟩:=h3;exact ⟨vs,t,hw.trans k1,VA.dd k2⟩
  | bld T x=>obtain ⟨a,v,k1,k2,k3,k4⟩:=h3;exact ⟨a,v,hw.trans k1,k2,k3,V.monoV (g.lv_dd _) _ _ k4⟩
  | siter s pos=>exact hw.trans h3
  | mapo es clock=>obtain ⟨ents,n,k1,k2,k3⟩:=h3;exact ⟨ents,n,hw.trans k1,ME.dd k2,k3⟩
  | loop st pe env ps assign body=>obtain ⟨fn,tmps,d,k1,k2⟩:=h3;exact ⟨fn,tmps,d,hw.trans k1,VL.dd k2⟩
  | row _ _ _=>exact h3
  | miter id n seen=>obtain ⟨m,k1,k2⟩:=h3;exact ⟨m,k1,hw.trans k2⟩
  | miter0=>exact hw.trans h3
  | other=>trivial
  | dead=>trivial
 ·obtain ⟨h1,h2⟩:=r.tok i t ht
  refine ⟨h1,fun b l e hl=>?_⟩
  have lo:=h2 b l e hl
  refine lo.mono (by simp) (hoth b ?_) fun _ _=>rfl
  rintro rfl
  obtain ⟨cs,ty,hcs,_⟩:=lo.cells
  simp_all
 ·simp only [List.mem_filter,bne_iff_ne,ne_eq] at hx
  have hx':=r.dfr x hx.1
  simp_all
 ·have hr:=r.row i k hi hk
  cases k with
  | row i2 k2 e2 =>
   obtain ⟨t,h1,h2,h3,h4,h5,h6⟩:=hr
   refine ⟨t,h1,h2,h3,h4,h5,h6.imp (fun h=>h) ?_⟩
   rintro ⟨b,o,e,cs,ty,k1,k2,k3,k4,k5⟩
   have hne:b ≠ c:=by grind
   exact ⟨b,o,e,cs,ty,k1,(hoth b hne).trans k2,VA.dd k3,k4,k5⟩
  | dead=>trivial
  | _=>exact hr.elim

theorem leaves_marks {B:Nat} {w0:World} {g0:Gh} {h:AH} {env:List AV} {fn:Func} {tmps:Array Value} {R:Ending→World→Prop}:∀ (D:List Deferred) (cs:List Nat) (w:World) {g:Gh},D.map (·.target)=cs.map Target.collected→cs.Nodup →
  (∀ (w'':World) (g'':Gh),g0.le g''→Rel B w0 g'' h w''→VL g'' env tmps.toList→∃ v,(results fn tmps).run P w''=.ok v w''∧R (.returned v) w'') →
  g0.le g→Rel B w0 g h w→VL g env tmps.toList→(∀ c ∈ cs,c ∈ g.δ)→(∀ c ∈ cs,c ∉ g0.δ)→LeavesInM (WF none) 0 P fn tmps R D .returning w
 | [],cs,w,g,hD,_,hfin,hg,r,he,_,_=>hfin w g hg r he
 | d::D,cs,w,g,hD,hnd,hfin,hg,r,he,h1,h2=>by
  cases cs with
  | nil=>simp at hD
  | cons c cs =>
   simp only [List.map_cons,List.cons.injEq] at hD
   obtain ⟨hd,hD⟩:=hD
   have hc:=h1 c (by simp)
   refine ⟨by simp,.inl ⟨c,_,hd,run_takeDeferred (r.dfr c hc).2.1,?_⟩⟩
   refine leaves_marks D cs _ (g:={ g with δ:=g.δ.filter (· != c) }) hD (List.nodup_cons.1 hnd).2 hfin ⟨hg.phi,hg.sig,hg.tau,fun x hx=>?_,hg.new,hg.old⟩ (r.shut hc) (VL.dd he) (fun x hx=>?_) fun x hx=>h2 x (by simp [hx])
   ·simp only [List.mem_filter,bne_iff_ne,ne_eq]
    exact ⟨hg.del x hx,by grind⟩
   ·grind

theorem spec_of_body {f : FuncId} {fn : Func} {c : Code} (hf : P.funcs[f]? = some fn) (hb : fn.body = some c) (hname : (fn.name == "runtime.NumGoroutine") = false) {args : List AV} {h : AH} {K : AV → AH → Prop}
  (hw:qQ P c (bodyQ P fn h K) (args++List.replicate (fn.ntmps - args.length) za) h):Spec P f args h K:=by
 have hn : ¬ fn.name = "runtime.NumGoroutine" := by simp_all
 refine ⟨fun vs w=>by simp [callFunc,hf,hb,hn],fun B w0 _ g w vs r hv=>?_⟩
 refine callsIn_wide.1 (callsIn_of_wp_marks (F:=WF none) (n:=0) hf hb trivial ?_ rfl)
 have hlen:args.length=vs.size:=by rw [hv.length];rfl
 refine vf (B:=B) (w0:=w0) (gb:=g) (g0:=g) c (.inl rfl) hw ⟨g,Gh.le.refl g,r,?_,Marks.nil _ _,Gh.le.refl g⟩ fun x env' h' a' w' hq hs=>?_
 ·simp only [Array.toList_append,Array.toList_replicate,hlen]
  exact VL.append hv (VL.undefs _)
 ·obtain ⟨g',hg,r',he,hm,_⟩:=hs
  have fin:(match aRes P fn env' h' with | some r=>finK h K r h' | none=>False) →
    LeavesInM (WF none) 0 P fn a'.tmps (fun e w''=>∃ v' r h2 g2,e=.returned v'∧K r h2∧g.le g2∧Rel B w0 g2 h2 w''∧V g2 r v') a'.defers .returning w':=by
   intro hfin
   split at hfin
   ·rename_i rv hr
    obtain ⟨cs,hD,hnd,hcs⟩:=hm
    refine leaves_marks a'.defers cs w' hD hnd ?_ hg r' he (fun c hc=>(hcs c hc).1) (fun c hc=>(hcs c hc).2)
    intro w'' g'' hg'' r'' he''
    obtain ⟨u,h1,h2⟩:=res_sound r'' he'' hr
    refine ⟨u,h1,u,?_⟩
    obtain ⟨rv,h2',hwk,hK⟩:=hfin
    obtain ⟨g2,k1,k2,k3,_⟩:=hwk B w0 w'' w g g'' [u] r hg'' r'' (VL.cons h2 (by simp [VL]))
    simp only [VL] at k3
    grind
   ·simp_all
  cases x with
  | normal=>exact fin hq
  | ret=>exact fin hq
  | _=>exact hq.elim
end
end Go.Vv
namespace Go.Vv
open Go

def leL (a5 bs:List AV):Prop:=∀ g vs,VL g a5 vs→VL g bs vs
theorem leV.any (a:AV):leV a .any:=fun _ _ _=>by simp only [V]
theorem leV.nil (k:Nat):leV .nilsl (.sl k []):=fun _ v h=>by
 simp only [V] at h ⊢
 grind
theorem leV.osl (o:Option Nat) (k:Nat) (es:List (List AV)):leV (.osl o k es) (.sl k es):=fun _ v h=>by
 simp only [V] at h ⊢
 grind
theorem leL.nil:leL [] []:=fun _ _ h=>h
theorem leL.refl (a5:List AV):leL a5 a5:=fun _ _ h=>h
theorem leL.cons {a b:AV} {r s:List AV} (h:leV a b) (k:leL r s):leL (a::r) (b::s):=fun g vs hv=>by
 simp only [VL] at hv ⊢
 obtain ⟨v,t,e,h1,h2⟩:=hv
 exact ⟨v,t,e,h _ _ h1,k _ _ h2⟩
theorem leL.eq {a:AV} {r s:List AV} (k:leL r s):leL (a::r) (a::s):=leL.cons (leV.refl a) k
theorem leL.drop {a:AV} {r s:List AV} (k:leL r s):leL (a::r) (.any::s):=leL.cons (leV.any a) k
theorem leL.d4 {a b c d:AV} {r s:List AV} (k:leL r s):leL (a::b::c::d::r) (.any::.any::.any::.any::s):=.drop (.drop (.drop (.drop k)))
theorem leL.d16 {a b c d e f g h i j l m n o p q:AV} {r s:List AV} (k:leL r s):leL (a::b::c::d::e::f::g::h::i::j::l::m::n::o::p::q::r) (.any::.any::.any::.any::.any::.any::.any::.any::.any::.any::.any::.any::.any::.any::.any::.any::s):=.d4 (.d4 (.d4 (.d4 k)))

theorem wk.refl (hd:AH) (env:List AV) (h:AH):wk hd env h env h:=fun _ _ _ _ _ g _ _ hg r hv=>⟨g,hg,r,hv,fun _ h=>h⟩
theorem wk.le {hd:AH} {env env':List AV} {h:AH} (k:leL env env'):wk hd env h env' h:=fun _ _ _ _ _ g _ _ hg r hv=>⟨g,hg,r,k _ _ hv,fun _ h=>h⟩
theorem wk.cut {hd:AH} {env:List AV} {h:AH} (he:yf hd.blks.length hd.toks.length env=true)
  (hb:∀ (i:Nat) (k:Blk),i < hd.blks.length→h.blks[i]?=some k→hd.blks[i]?=some k ∨ k.low hd.blks.length hd.toks.length=true) :
  wk hd env h env (h.cut hd.blks.length hd.toks.length):=fun _ _ _ _ g1 g _ r1 hg r hv=>⟨g.cut hd.blks.length hd.toks.length,by rw [← r1.slen,← r1.tlen];exact Gh.le_cut hg,
   r.cut _ _ (fun i k hi hk=>by
    rcases hb i k hi hk with h3 | h3
    ·have hi':i < g1.σ.length:=by rw [r1.slen];exact hi
     have:=r1.isLow h3
     rw [r1.slen,r1.tlen] at this;exact this
    ·exact h3),VL.cut _ _ he hv,fun _ h=>h⟩
theorem wk.trans {hd:AH} {env env' env2:List AV} {h h' h2:AH} (a:wk hd env h env' h') (b:wk hd env' h' env2 h2):wk hd env h env2 h2:=fun B w0 w w1 g1 g vs r1 hg r hv=>by
 obtain ⟨g',k1,k2,k3,k4⟩:=a B w0 w w1 g1 g vs r1 hg r hv
 obtain ⟨g2,j1,j2,j3,j4⟩:=b B w0 w w1 g1 g' vs r1 k1 k2 k3
 grind

def cvo:Value→Option AV
 | .bool b=>some (.bool b)
 | .int k n=>some (.int k n)
 | .string s=>if s.size≤maxLen then some (.str s.data.toList) else none
 | .pointer none=>some .nilp
 | .slice none 0 0=>some .nilsl
 | .map none=>some .nilm
 | .nilFunc=>some .nilf
 | .nilIface=>some .nili
 | _=>none
def yC (env:List AV):Operand→Option AV
 | .tmp t=>env[t]?
 | .const (.agg cs)=>if okc (.agg cs) then some (cv (.agg cs)) else none
 | .const v=>cvo v
 | .global g=>some (.glob g)
 | .func f=>some (.fn (.func f) [] [])
theorem yk {env:List AV} {x:Operand} {v:AV} (h:yC env x=some v):yo x=true∧ev env x=v:=by
 cases x with
 | tmp t =>
  simp only [yC] at h
  refine ⟨rfl,?_⟩
  simp only [ev]
  simp_all
 | const c =>
  cases c with
  | agg cs =>
   simp only [yC] at h
   split at h
   ·rename_i hc;cases h;exact ⟨hc,rfl⟩
   ·cases h
  | string s =>
   simp only [yC,cvo] at h
   split at h
   ·rename_i hc;cases h;exact ⟨by simpa [yo,okc,okc1] using hc,rfl⟩
   ·cases h
  | slice a b c =>
   simp only [yC] at h
   unfold cvo at h
   split at h <;> first | cases h | skip
   all_goals first | (cases h;exact ⟨rfl,rfl⟩) | skip
   all_goals simp_all [yo,okc,okc1,ev,cv,cv1]
  | pointer a =>
   cases a with
   | none=>simp only [yC,cvo] at h;cases h;exact ⟨rfl,rfl⟩
   | some a=>simp only [yC,cvo] at h;cases h
  | map a =>
   cases a with
   | none=>simp only [yC,cvo] at h;cases h;exact ⟨rfl,rfl⟩
   | some a=>simp only [yC,cvo] at h;cases h
  | _=>simp only [yC,cvo] at h;first | (cases h;exact ⟨rfl,rfl⟩) | cases h
 | global g=>simp only [yC] at h;cases h;exact ⟨rfl,rfl⟩
 | func f=>simp only [yC] at h;cases h;exact ⟨rfl,rfl⟩

@[irreducible] def gv (b:Bool) (v:AV):AV:=if b then v else za
theorem gv_true (v:AV):gv true v=v:=by simp [gv]
theorem gv_false (v:AV):gv false v=za:=by simp [gv]

def wF (d:Option Tmp) (env:List AV) (v:AV):Option (List AV) :=
 match d with
 | some d=>some (env.set d v)
 | none=>some env
theorem xF {d:Option Tmp} {env env':List AV} {v:AV} (h:wF d env v=some env'):setd env d v=env':=by
 cases d <;> simp only [wF,Option.some.injEq] at h <;> exact h

section
variable {P:Program} {ops:Array Oper} {Q:List AV→AH→Prop} {o:Oper} {rest:List Oper} {env env':List AV} {h:AH}

theorem ze (hk:Q env h):yn P ops Q [] env h:=hk
theorem zc {v:AV} {h':AH} (hg:aG ops o env=some true) (ha:zK P o env h=.ok v h') (hd:wF o.dst env v=some env') (hk:yn P ops Q rest env' h'):yn P ops Q (o::rest) env h:=by
 refine wZ ?_
 simp only [hg,gwp,ha,rwp,xF hd];exact hk
theorem yc {n:Nat} {v:AV} {h':AH} (hg:aG ops o env=some true) (ha:zK P o env h=.len n v h') (hd:wF o.dst env v=some env') (hk:n≤maxLen→yn P ops Q rest env' h'):yn P ops Q (o::rest) env h:=by
 refine wZ ?_
 simp only [hg,gwp,ha,rwp,xF hd];exact hk
theorem ops_call {f:FuncId} {args:List AV} {K:AV→AH→Prop} (hg:aG ops o env=some true) (ha:zK P o env h=.call f args) (hs:Spec P f args h K)
  (hk:∀ v h',K v h'→yn P ops Q rest (setd env o.dst v) h'):yn P ops Q (o::rest) env h:=by
 refine wZ ?_
 simp only [hg,gwp,ha,rwp];exact hs.mono hk
theorem ops_skip (hg:aG ops o env=some false) (hd:wF o.dst env za=some env') (hk:yn P ops Q rest env' h):yn P ops Q (o::rest) env h:=by
 refine wZ ?_
 simp only [hg,gwp,xF hd];exact hk
theorem zq {b:Bool} {v:AV} (hg:aG ops o env=some b) (ha:b=true→zK P o env h=.ok v h) (hd:wF o.dst env (gv b v)=some env') (hk:yn P ops Q rest env' h):yn P ops Q (o::rest) env h:=by
 cases b with
 | true=>rw [gv_true] at hd;exact zc hg (ha rfl) hd hk
 | false=>rw [gv_false] at hd;exact ops_skip hg hd hk
theorem wd {b:Bool} {n:Nat} {v:AV} (hg:aG ops o env=some b) (ha:b=true→zK P o env h=.len n v h) (hd:wF o.dst env (gv b v)=some env') (hk:(b=true→n≤maxLen)→yn P ops Q rest env' h):yn P ops Q (o::rest) env h:=by
 cases b with
 | true=>rw [gv_true] at hd;exact yc hg (ha rfl) hd fun hn=>hk fun _=>hn
 | false=>rw [gv_false] at hd;exact ops_skip hg hd (hk fun hb=>by cases hb)
theorem yA {b:Bool} {f:FuncId} {args:List AV} {v:AV} (hg:aG ops o env=some b) (ha:b=true→zK P o env h=.call f args) (hs:b=true→Spec P f args h fun r h'=>r=v∧h'=h)
  (hd:wF o.dst env (gv b v)=some env') (hk:yn P ops Q rest env' h):yn P ops Q (o::rest) env h:=by
 cases b with
 | true=>exact ops_call hg (ha rfl) (hs rfl) fun r h' ⟨e1,e2⟩=>by subst e1;subst e2;rw [gv_true] at hd;rw [xF hd];exact hk
 | false=>rw [gv_false] at hd;exact ops_skip hg hd hk
end
theorem zN {P:Program} {ops:Array Oper} {Q:List AV→AH→Prop} {o:Oper} {rest:List Oper} {env env':List AV} {h:AH} {f:FuncId} {args:List AV} {v:AV} (hg:aG ops o env=some true) (ha:zK P o env h=.call f args) (hs:Spec P f args h fun r h'=>r=v∧h'=h)
  (hd:wF o.dst env v=some env') (hk:yn P ops Q rest env' h):yn P ops Q (o::rest) env h :=
 ops_call hg ha hs fun r h' ⟨e1,e2⟩=>by subst e1;subst e2;rw [xF hd];exact hk
end Go.Vv
namespace Go.Vv
open Go

class Ty (P:Program) (t:TypeId) (d:outParam TypeDesc) (k:outParam Nat):Prop where
 u:P.underlying t=some d
 i:∃ i,P.info? t=some i∧i.size=k
class Fo (P:Program) (t:TypeId) (f:Nat) (off:outParam Nat) (u:outParam TypeId) (k:outParam Nat):Prop where
 o:qJ P t f=some (off,u)
 i:∃ i,P.info? u=some i∧i.size=k
class El (P:Program) (t:TypeId) (e:outParam TypeId) (k:outParam Nat):Prop where
 u:P.underlying t=some (.slice e)
 i:∃ i,P.info? e=some i∧i.size=k∧i.bytes≤65536∧0 < k∧(i.zero.map (·.cells.size))=some k

def tyo:AV→Option AV
 | .nilsl=>none
 | .bool b=>some (.bool b)
 | .int k n=>some (.int k n)
 | .str s=>some (.str s)
 | .ptr i o=>some (.ptr i o)
 | .fptr c=>some (.fptr c)
 | .sl k e=>some (.sl k e)
 | .osl q k e=>some (.osl q k e)
 | .msl a b c d=>some (.msl a b c d)
 | .rsl a b c d=>some (.rsl a b c d)
 | .rptr a b c d e=>some (.rptr a b c d e)
 | .rsuf a b c d e=>some (.rsuf a b c d e)
 | .map i=>some (.map i)
 | .fn f a b=>some (.fn f a b)
 | .iface t v=>some (.iface t v)
 | .agg c=>some (.agg c)
 | .tup v=>some (.tup v)
 | .glob g=>some (.glob g)
 | .yld i=>some (.yld i)
 | .bsl k e=>some (.bsl k e)
 | .nsl k e=>some (.nsl k e)
 | .gsl k n=>some (.gsl k n)
 | .gptr m=>some (.gptr m)
 | .any=>some .any
 | .opq=>some .opq
 | .nilp=>some .nilp
 | .nilm=>some .nilm
 | .nilf=>some .nilf
 | .nili=>some .nili
theorem zb {P:Program} {t:TypeId} {v v':AV} (h:tyo v=some v'):tyfix P t v=v':=by
 cases v <;> simp only [tyo] at h <;> first | (cases h;rfl) | cases h
theorem xZ {P:Program} {t e:TypeId} {k:Nat} (h:El P t e k):tyfix P t .nilsl=.osl none k []:=by
 obtain ⟨i,h1,h2,_⟩:=h.i
 simp only [tyfix,h.u,Program.cellsOf,h1]
 congr 1
section
variable {P:Program} {o:Oper} {env:List AV} {h:AH}

theorem zg {x:Operand} {v v':AV} (ho:o.op=.move x) (hx:yC env x=some v) (ht:tyfix P o.type v=v'):zK P o env h=.ok v' h:=by
 obtain ⟨h1,h2⟩:=yk hx
 simp only [zK,ho,h1,if_true,h2,ht]
theorem zi {x:Operand} {v v':AV} (ho:o.op=.assign x) (hx:yC env x=some v) (ht:tyfix P o.type v=v'):zK P o env h=.ok v' h:=by
 obtain ⟨h1,h2⟩:=yk hx
 simp only [zK,ho,h1,if_true,h2,ht]
theorem zL {c a b:Operand} {t:Bool} {x y v:AV} (ho:o.op=.pick c a b) (hc:yC env c=some (.bool t)) (ha:yC env a=some x) (hb:yC env b=some y) (hv:(if t then x else y)=v):zK P o env h=.ok v h:=by
 obtain ⟨h1,h2⟩:=yk hc
 obtain ⟨h3,h4⟩:=yk ha
 obtain ⟨h5,h6⟩:=yk hb
 simp only [zK,ho,h1,h3,h5,Bool.and_self,if_true,h2,h4,h6,hv]
theorem zy {op:BinOp} {t u:TypeId} {x y:Operand} {a b v:AV} (ho:o.op=.binOp op t x y u) (hx:yC env x=some a) (hy:yC env y=some b) (hv:aBin P op t a b=some v):zK P o env h=.ok v h:=by
 obtain ⟨h1,h2⟩:=yk hx
 obtain ⟨h3,h4⟩:=yk hy
 simp only [zK,ho,h1,h3,Bool.and_self,if_true,h2,h4,aNilq_none hv,hv,oo]
theorem wo {op:UnOp} {t:TypeId} {x:Operand} {a v:AV} (ho:o.op=.unOp op t x) (hx:yC env x=some a) (hv:aUn op a=some v):zK P o env h=.ok v h:=by
 obtain ⟨h1,h2⟩:=yk hx
 simp only [zK,ho,h1,if_true,h2,hv,oo]
theorem s_convert {s t:TypeId} {x:Operand} {a v:AV} {d d':TypeDesc} {k k':Nat} (ho:o.op=.convert s t x) (hs:Ty P s d k) (ht:Ty P t d' k') (hx:yC env x=some a) (hv:aConvert d' a=some v):zK P o env h=.ok v h:=by
 obtain ⟨h1,h2⟩:=yk hx
 simp only [zK,ho,h1,if_true,h2,hs.u,ht.u,hv,oo]
theorem s_load {t:TypeId} {d:TypeDesc} {k:Nat} {x:Operand} {a v v':AV} (ho:o.op=.load t x) (ht:Ty P t d k) (hx:yC env x=some a) (hv:aLoad h (yq d) k a=some v) (hf:tyfix P t v=v'):zK P o env h=.ok v' h:=by
 obtain ⟨h1,h2⟩:=yk hx
 obtain ⟨i,h3,h4⟩:=ht.i
 simp only [zK,ho,ht.u,h3,h4,h2,hv,Option.map_some,hf,oo]
theorem s_store {t:TypeId} {d:TypeDesc} {k:Nat} {x y:Operand} {a b b':AV} {h':AH} (ho:o.op=.store t x y) (ht:Ty P t d k) (hx:yC env x=some a) (hy:yC env y=some b) (hf:tyfix P t b=b') (hv:aStore h k a b'=some h') :
  zK P o env h=.ok za h':=by
 obtain ⟨h1,h2⟩:=yk hx
 obtain ⟨h3,h4⟩:=yk hy
 obtain ⟨i,h5,h6⟩:=ht.i
 simp only [zK,ho,h3,if_true,h5,h6,h2,h4,hf,hv,oh]
theorem s_alloc {t:TypeId} {cs:List AV} (ho:o.op=.alloc t) (hz:xO P t=some cs):zK P o env h=.ok (.ptr h.blks.length 0) (h.new (.cells cs)):=by
 simp only [zK,ho,hz]
theorem s_box {t:TypeId} {x:Operand} {a a':AV} {cs:List AV} (ho:o.op=.box t x) (hx:yC env x=some a) (hf:tyfix P t a=a') (hc:a'.cells?=some cs):zK P o env h=.ok (.ptr h.blks.length 0) (h.new (.cells cs)):=by
 obtain ⟨h1,h2⟩:=yk hx
 simp only [zK,ho,h1,if_true,h2,hf,hc]
theorem zf {t u:TypeId} {x:Operand} {f off k:Nat} {a v:AV} (ho:o.op=.fieldAddr t x f) (hf:Fo P t f off u (k+1)) (hx:yC env x=some a) (hv:aFieldAddr off a=some v):zK P o env h=.ok v h:=by
 obtain ⟨h1,h2⟩:=yk hx
 obtain ⟨i,h3,h4⟩:=hf.i
 simp only [zK,ho,hf.o,h3,h4,h1,h2,hv,oo]
 simp
theorem s_indexAddr {t e:TypeId} {k:Nat} {x i:Operand} {a b v:AV} (ho:o.op=.indexAddr t x i) (ht:El P t e k) (hx:yC env x=some a) (hi:yC env i=some b) (hv:aIndexAddr k a b=some v):zK P o env h=.ok v h:=by
 obtain ⟨h1,h2⟩:=yk hx
 obtain ⟨h3,h4⟩:=yk hi
 obtain ⟨j,h5,h6,_⟩:=ht.i
 simp only [zK,ho,h1,h3,Bool.and_self,if_true,h2,h4,ht.u,h5,h6,hv,oo]
theorem s_indexStr {t:TypeId} {k:Nat} {x i:Operand} {a b v:AV} (ho:o.op=.index t x i) (ht:Ty P t .string k) (hx:yC env x=some a) (hi:yC env i=some b) (hv:aIndexStr a b=some v):zK P o env h=.ok v h:=by
 obtain ⟨h1,h2⟩:=yk hx
 obtain ⟨h3,h4⟩:=yk hi
 simp only [zK,ho,h1,h3,Bool.and_self,if_true,h2,h4,ht.u,hv,oo]
theorem s_indexAgg {t e:TypeId} {n k k':Nat} {d:TypeDesc} {x i:Operand} {a b v v':AV} (ho:o.op=.index t x i) (ht:Ty P t (.array n e) k) (he:Ty P e d k') (hx:yC env x=some a) (hi:yC env i=some b)
  (hv:aIndexAgg (yq d) n k' a b=some v) (hf:tyfix P e v=v'):zK P o env h=.ok v' h:=by
 obtain ⟨h1,h2⟩:=yk hx
 obtain ⟨h3,h4⟩:=yk hi
 obtain ⟨j,h5,h6⟩:=he.i
 simp only [zK,ho,h1,h3,Bool.and_self,if_true,h2,h4,ht.u,he.u,h5,h6,hv,Option.map_some,hf,oo]
theorem wb {t:Operand} {i:Nat} {vs:List AV} {v v':AV} (ho:o.op=.extract t i) (hx:yC env t=some (.tup vs)) (hv:vs[i]?=some v) (hf:tyfix P o.type v=v'):zK P o env h=.ok v' h:=by
 obtain ⟨h1,h2⟩:=yk hx
 simp only [zK,ho,h1,if_true,h2,hv,Option.map_some,hf,oo]
theorem s_makeFunc {f:Fn} {a b:Array Operand} {a5 bs:List AV} (ho:o.op=.makeFunc f a b) (ha:a.toList.mapM (yC env)=some a5) (hb:b.toList.mapM (yC env)=some bs):zK P o env h=.ok (.fn f a5 bs) h:=by
 have key:∀ (l:List Operand) (a5:List AV),l.mapM (yC env)=some a5→l.all yo=true∧l.map (ev env)=a5:=by
  intro l
  induction l with
  | nil=>intro a5 h;simp at h;subst h;exact ⟨rfl,rfl⟩
  | cons x r ih =>
   intro a5 h
   simp only [List.mapM_cons,Option.bind_eq_bind,Option.bind_eq_some_iff,Option.pure_def,Option.some.injEq] at h
   obtain ⟨v,hv,vs,hvs,rfl⟩:=h
   obtain ⟨h1,h2⟩:=yk hv
   simp_all
 obtain ⟨h1,h2⟩:=key _ _ ha
 obtain ⟨h3,h4⟩:=key _ _ hb
 have h1':a.all yo=true:=by simp_all
 have h3':b.all yo=true:=by simp_all
 simp only [zK,ho,h1',h3',Bool.and_self,if_true,h2,h4]
def argo (env:List AV):List Operand→List TypeId→Option (List (TypeId×AV))
 | [],[]=>some []
 | x::r,t::ts=>match yC env x,argo env r ts with
  | some v,some vs=>some ((t,v)::vs)
  | _,_=>none
 | _,_=>none
def fixL (P:Program):List (TypeId×AV)→List AV
 | []=>[]
 | (t,v)::r=>tyfix P t v::fixL P r
theorem argo_ok:∀ {xs:List Operand} {ts:List TypeId} {l:List (TypeId×AV)},argo env xs ts=some l→xs.all yo=true∧xs.length=ts.length∧(xs.zip ts).map (fun p=>tyfix P p.2 (ev env p.1))=fixL P l
 | [],[],l,h=>by simp only [argo,Option.some.injEq] at h;subst h;exact ⟨rfl,rfl,rfl⟩
 | x::r,t::ts,l,h=>by
  simp only [argo] at h
  split at h
  ·rename_i v vs hv hvs
   cases h
   obtain ⟨h1,h2⟩:=yk hv
   obtain ⟨h3,h4,h5⟩:=argo_ok hvs
   refine ⟨by simp_all,by simp [h4],?_⟩
   simp only [List.zip_cons_cons,List.map_cons,h5,h2,fixL]
  ·cases h
 | [],_::_,_,h=>by simp [argo] at h
 | _::_,[],_,h=>by simp [argo] at h
theorem s_call {c:Call} {f:Operand} {g:FuncId} {l:List (TypeId×AV)} {first caps args:List AV} (ho:o.op=.call c) (hc:c.callee=.value f) (hf:yC env f=some (.fn (.func g) first caps)) (hl:argo env c.args.toList c.argTypes.toList=some l)
  (ha:first++fixL P l++caps=args):zK P o env h=.call g args:=by
 obtain ⟨h1,h2⟩:=yk hf
 obtain ⟨h3,h4,h5⟩:=argo_ok (P:=P) hl
 have h3':c.args.all yo=true:=by grind
 have h4':(c.args.size==c.argTypes.size)=true:=by simp_all
 simp only [zK,ho,h3',h4',Bool.and_self,if_true,hc,h1,h2,h5,ha]
 simp
theorem wQ {c:Call} {x:Operand} {t:TypeId} {k:Nat} {s:List UInt8} (ho:o.op=.call c) (hc:c.callee=.builtin .len) (hs:c.args=#[x]) (ht:c.argTypes=#[t]) (hu:Ty P t .string k) (hx:yC env x=some (.str s)) :
  zK P o env h=.len s.length (.int .i64 s.length) h:=by
 obtain ⟨h1,h2⟩:=yk hx
 simp [zK,ho,hs,ht,hc,h1,qP,hu.u,h2]
theorem zY {c:Call} {x:Operand} {t e:TypeId} {k n:Nat} {a:AV} (ho:o.op=.call c) (hc:c.callee=.builtin .len) (hs:c.args=#[x]) (ht:c.argTypes=#[t]) (hu:El P t e k) (hx:yC env x=some a) (hn:aLen a=some n) :
  zK P o env h=.len n (.int .i64 n) h:=by
 obtain ⟨h1,h2⟩:=yk hx
 simp [zK,ho,hs,ht,hc,h1,qP,hu.u,h2,hn]
theorem s_append {c:Call} {x y:Operand} {t u e e':TypeId} {k k':Nat} {a b a' b' v:AV} {ys:List (List AV)} {h':AH} (ho:o.op=.call c) (hc:c.callee=.builtin .append) (hs:c.args=#[x,y]) (ht:c.argTypes=#[t,u]) (hu:El P t e k)
  (hu':El P u e' k') (hx:yC env x=some a) (hy:yC env y=some b) (ha:tyfix P t a=a') (hb:tyfix P u b=b') (hn:q7 k b'=some ys) (hv:aAppend h k a' ys=some (v,h')):zK P o env h=.ok v h':=by
 obtain ⟨h1,h2⟩:=yk hx
 obtain ⟨h3,h4⟩:=yk hy
 obtain ⟨i,h5,h6,h7,h8,h9⟩:=hu.i
 subst h6
 simp [zK,ho,hs,ht,hc,h1,h3,qP,hu.u,hu'.u,h2,h4,h5,h7,h8,h9,ha,hb,hn,hv,ovh]
end
end Go.Vv
namespace Go.Vv
open Go

def seqQ (P:Program) (h0:AH) (b:Code) (Q:Exit→List AV→AH→Prop):Exit→List AV→AH→Prop:=fun x env' h'=>match x with
 | .normal=>∃ env2 h2,wk h0 env' h' env2 h2∧qQ P b Q env2 h2
 | x=>Q x env' h'
def blockQ (id:Nat) (Q:Exit→List AV→AH→Prop):Exit→List AV→AH→Prop:=fun x env h=>match x with
 | .exit id'=>if id'=id then Q .normal env h else Q (.exit id') env h
 | x=>Q x env h
def loopQ (N:List AV→AH→Prop) (Q:Exit→List AV→AH→Prop):Exit→List AV→AH→Prop:=fun x env' h'=>match x with
 | .normal=>N env' h'
 | x=>Q x env' h'

def upd (env:List AV):List (Nat×AV)→List AV
 | []=>env
 | (i,v)::r=>upd (env.set i v) r
def yS:List Nat→List (Nat×AV)→List (Nat×AV)
 | [],m=>m
 | i::l,m=>(i,.any)::yS l m
section
variable {P:Program} {Q:Exit→List AV→AH→Prop} {env:List AV} {h:AH}
theorem zO (hk:Q .normal env h):qQ P .skip Q env h:=hk
theorem zJ (hk:Q .ret env h):qQ P .ret Q env h:=hk
theorem yX {id:Nat} (hk:Q (.exit id) env h):qQ P (.exit id) Q env h:=hk
theorem zd {id:Nat} {l:List Oper} (hk:yn P ⟨l⟩ (Q .normal) l env h):qQ P (.region id ⟨l⟩ false) Q env h:=hk
theorem zk {a b:Code} (hk:qQ P a (seqQ P h b Q) env h):qQ P (.seq a b) Q env h:=hk
theorem zS {id:Nat} {a:Code} (hk:qQ P a (blockQ id Q) env h):qQ P (.block id a) Q env h:=hk
theorem r_cond {c:Operand} {t e:Code} {b:Bool} (hc:yC env c=some (.bool b)) (ht:b=true→qQ P t Q env h) (he:b=false→qQ P e Q env h):qQ P (.cond c t e) Q env h:=by
 obtain ⟨h1,h2⟩:=yk hc
 refine ⟨h1,?_⟩
 simp_all
theorem zj {h0:AH} {b:Code} (hk:qQ P b Q env h):seqQ P h0 b Q .normal env h:=⟨env,h,wk.refl _ _ _,hk⟩
theorem z7 {h0:AH} {b:Code} {id:Nat} (hk:Q (.exit id) env h):seqQ P h0 b Q (.exit id) env h:=hk
theorem zB {h0:AH} {b:Code} (hk:Q .ret env h):seqQ P h0 b Q .ret env h:=hk
theorem yi {id:Nat} (hk:Q .normal env h):blockQ id Q .normal env h:=hk
theorem zG {id:Nat} (hk:Q .ret env h):blockQ id Q .ret env h:=hk
theorem zX {id:Nat} (hk:Q .normal env h):blockQ id Q (.exit id) env h:=by simp only [blockQ,if_true];exact hk
theorem yK {N:List AV→AH→Prop} (hk:N env h):loopQ N Q .normal env h:=hk
theorem zW {N:List AV→AH→Prop} {id:Nat} (hk:Q (.exit id) env h):loopQ N Q (.exit id) env h:=hk
theorem yj {N:List AV→AH→Prop} (hk:Q .ret env h):loopQ N Q .ret env h:=hk
theorem r_loop2 {body:Code} {σ:Type} (E:σ→List AV) (H:σ→AH) (inv:σ→Prop) (μ:σ→Nat) (s0:σ) (h0:wk h env h (E s0) (H s0)) (hi:inv s0)
  (hs:∀ s,inv s→qQ P body (loopQ (fun env' h'=>∃ s',inv s'∧μ s' < μ s∧(wk (H s) env' h' (E s') (H s') ∨ wk h env' h' (E s') (H s'))) Q) (E s) (H s)):qQ P (.loop body) Q env h:=by
 refine ⟨fun n env h=>∃ s,μ s=n∧inv s∧env=E s∧h=H s,⟨_,_,_,h0,s0,rfl,hi,rfl,rfl⟩,?_⟩
 rintro n _ _ ⟨s,hn,hi,rfl,rfl⟩
 subst hn
 have:=hs s hi
 have e:(loopQ (fun env' h'=>∃ s',inv s'∧μ s' < μ s∧(wk (H s) env' h' (E s') (H s') ∨ wk h env' h' (E s') (H s'))) Q) =
   (loopQ (fun env' h'=>∃ m env2 h2,m < μ s∧(wk (H s) env' h' env2 h2 ∨ wk h env' h' env2 h2)∧(∃ s',μ s'=m∧inv s'∧env2=E s'∧h2=H s')) Q):=by
  grind
 rw [e] at this
 exact this
theorem fin_cut {h0:AH} {K:AV→AH→Prop} {v v':AV} (hv:leV v v') (hl:v'.low h0.blks.length h0.toks.length=true)
  (hb:∀ (i:Nat) (k:Blk),i < h0.blks.length→h.blks[i]?=some k→h0.blks[i]?=some k ∨ k.low h0.blks.length h0.toks.length=true) (hk:K v' (h.cut h0.blks.length h0.toks.length)):finK h0 K v h :=
 ⟨v',_,(wk.le (leL.cons hv leL.nil)).trans (wk.cut (by simp [yf,hl]) hb),hk⟩
theorem fin_wk {h0 h':AH} {K:AV→AH→Prop} {v v':AV} (hw:wk h0 [v] h [v'] h') (hk:K v' h'):finK h0 K v h:=⟨v',h',hw,hk⟩
theorem q_end {fn:Func} {K:AV→AH→Prop} {h0:AH} (hk:bodyQ P fn h0 K .ret env h):bodyQ P fn h0 K .normal env h:=hk
end
theorem leV.of_eq {a b:AV} (h:a=b):leV a b:=h ▸ leV.refl a
theorem rwp_mono {P:Program} {h:AH} {r:Res} {K K':AV→AH→Prop} (hk:∀ v h',K v h'→K' v h') (hr:rwp P h r K):rwp P h r K':=by
 cases r with
 | ok v h'=>exact hk _ _ hr
 | len n v h'=>exact fun hn=>hk _ _ (hr hn)
 | call f args=>exact Spec.mono hr hk
 | round id args=>exact SpecY.mono hr hk
 | any S=>exact fun v h' hS=>hk _ _ (hr v h' hS)
 | fail=>exact hr
theorem awpOps_mono {P:Program} {ops:Array Oper} {Q Q':List AV→AH→Prop} (hq:∀ e h,Q e h→Q' e h):∀ (rest:List Oper) (env:List AV) (h:AH),yn P ops Q rest env h→yn P ops Q' rest env h
 | [],_,_,hk=>hq _ _ hk
 | o::rest,_,_,⟨env,h,hs,hk⟩=>by
  refine ⟨env,h,hs,?_⟩
  cases hb:aG ops o env with
  | none=>rw [hb] at hk;exact hk
  | some b =>
   rw [hb] at hk
   cases b with
   | true=>exact hk.imp (rwp_mono fun v h'=>awpOps_mono hq rest _ _) (bwp_mono fun v h'=>awpOps_mono hq rest _ _)
   | false=>exact awpOps_mono hq rest _ _ hk
theorem awpDraw_mono {P:Program} {ops:Array Oper} {Ns:List Nat} {F:Nat→AH→Prop} {Q Q':List AV→AH→Prop} (hq:∀ e h,Q e h→Q' e h):∀ (rest:List Oper) (i:Nat) (env:List AV) (h:AH),yy P ops Ns F Q i rest env h→yy P ops Ns F Q' i rest env h
 | [],_,_,_,hk=>hq _ _ hk
 | _::rest,i,_,_,⟨v,h',h1,h2,h4,h3⟩=>⟨v,h',h1,h2,h4,awpDraw_mono hq rest (i+1) _ _ h3⟩
theorem awpAny_mono {P:Program} {ops:Array Oper} {Q Q':List AV→AH→Prop} (hq:∀ e h,Q e h→Q' e h):∀ (m:Nat) (listed:Array Bool) (env:List AV) (h:AH),awpAny P ops Q m listed env h→awpAny P ops Q' m listed env h
 | 0,_,_,_,hk=>⟨hk.1,hq _ _ hk.2⟩
 | m+1,listed,env,h,hk=>by
  refine ⟨fun e=>hq _ _ (hk.1 e),fun i hi o ho=>?_⟩
  have hk:=hk.2 i hi o ho
  cases hb:aG ops o env with
  | none=>rw [hb] at hk;exact hk
  | some b =>
   rw [hb] at hk
   cases b with
   | true=>exact hk.imp (rwp_mono fun v h'=>awpAny_mono hq m _ _ _) (bwp_mono fun v h'=>awpAny_mono hq m _ _ _)
   | false=>exact awpAny_mono hq m _ _ _ hk
theorem vz {P:Program}:∀ {Q Q':Exit→List AV→AH→Prop} (_:∀ x e h,Q x e h→Q' x e h) (c:Code) (env:List AV) (h:AH),qQ P c Q env h→qQ P c Q' env h
 | _,_,hq,.skip,_,_,hk=>hq _ _ _ hk
 | _,_,hq,.label _,_,_,hk=>hq _ _ _ hk
 | _,_,hq,.exit _,_,_,hk=>hq _ _ _ hk
 | _,_,hq,.ret,_,_,hk=>hq _ _ _ hk
 | _,_,hq,.region _ _ true,_,_,.inl ⟨Ns,F,h1,h3,h2⟩=>.inl ⟨Ns,F,h1,h3,awpDraw_mono (hq .normal) _ _ _ _ h2⟩
 | _,_,hq,.region _ _ true,_,_,.inr ⟨h1,h2⟩=>.inr ⟨h1,awpAny_mono (hq .normal) _ _ _ _ h2⟩
 | _,_,hq,.region _ _ false,_,_,hk=>awpOps_mono (hq .normal) _ _ _ hk
 | _,_,hq,.seq a b,_,_,hk=>vz (fun x env' h' h1=>by
   cases x with
   | normal=>obtain ⟨e2,h2,h3,h4⟩:=h1;exact ⟨e2,h2,h3,vz hq b _ _ h4⟩
   | _=>exact hq _ _ _ h1) a _ _ hk
 | _,_,hq,.cond c t e,env,_,⟨h1,h2⟩=>by
  refine ⟨h1,?_⟩
  cases hc:ev env c with
  | bool b =>
   rw [hc] at h2
   cases b with
   | true=>exact vz hq t _ _ h2
   | false=>exact vz hq e _ _ h2
  | _=>rw [hc] at h2;exact h2
 | _,_,hq,.block id body,_,_,hk=>vz (fun x env' h' h1=>by
   cases x with
   | exit id' =>
    grind
   | _=>exact hq _ _ _ h1) body _ _ hk
 | _,_,hq,.loop body,_,_,⟨I,h1,h2⟩=>⟨I,h1,fun n env h hI=>vz (fun x env' h' h3=>by
   cases x with
   | normal=>exact h3
   | _=>exact hq _ _ _ h3) body _ _ (h2 n env h hI)⟩
 | _,_,hq,.rangeFunc f ps assign body,env,h,⟨h1,h2,h3,env2,h5,hwk,h4⟩=>by
  refine ⟨h1,h2,h3,env2,h5,hwk,?_⟩
  split at h4
  ·rename_i g first caps hx
   refine h4.mono fun r h' ⟨st,pe,env',q1,q2,q3,k1,k2,k3⟩=>⟨st,pe,env',q1,q2,q3,k1,k2,?_⟩
   split at k3
   ·simp_all
   ·simp_all
   ·simp_all
   ·exact k3
  ·exact h4
 | _,_,_,.scope _,_,_,hk=>hk.elim
 | _,_,_,.goto _,_,_,hk=>hk.elim
 | _,_,_,.refuse _,_,_,hk=>hk.elim
theorem r_loop {P:Program} {Q:Exit→List AV→AH→Prop} {env:List AV} {h:AH} {body:Code} {σ:Type} (E:σ→List AV) (H:σ→AH) (inv:σ→Prop) (μ:σ→Nat) (s0:σ) (h0:wk h env h (E s0) (H s0)) (hi:inv s0)
  (hs:∀ s,inv s→qQ P body (loopQ (fun env' h'=>∃ s',inv s'∧μ s' < μ s∧wk (H s) env' h' (E s') (H s')) Q) (E s) (H s)):qQ P (.loop body) Q env h :=
 r_loop2 E H inv μ s0 h0 hi fun s hi=>vz (fun x env' h' hq=>by
  cases x with
  | normal=>obtain ⟨s',h1,h2,h3⟩:=hq;exact ⟨s',h1,h2,.inl h3⟩
  | _=>exact hq) _ _ _ (hs s hi)
end Go.Vv
namespace Go.Vv
open Go

theorem zQ {ops:Array Oper} {o:Oper} {env:List AV} {j d:Nat} {want b c:Bool} (hg:o.guard=some (j,want)) (hd:(ops[j]?).bind (·.dst)=some d) (he:env[d]?=some (gv b (.bool c))):aG ops o env=some (b&&(c==want)):=by
 simp only [aG,hg,hd,he]
 cases b <;> simp [gv,za]
theorem zn {env:List AV} {x:Operand} {b:Bool} {v:AV} (hx:yC env x=some (gv b v)) (hb:b=true):yC env x=some v:=by subst hb;rw [gv_true] at hx;exact hx
theorem gT {t:Bool} (h:t=true):(t==true)=true:=by rw [h];rfl
theorem gF {t:Bool} (h:t=false):(t==false)=true:=by rw [h];rfl
theorem gT2 {b t:Bool} (hb:b=true) (h:t=true):(b&&(t==true))=true:=by simp_all
theorem gF2 {b t:Bool} (hb:b=true) (h:t=false):(b&&(t==false))=true:=by simp_all
theorem zT {t q b:Bool} (hg:t=true→b=true):(if t then gv b (.bool q) else .bool false)=AV.bool (t&&q):=by cases t <;> simp [gv] ; simp [hg rfl]
theorem yb {t q b:Bool} (hg:t=false→b=true):(if t then .bool true else gv b (.bool q))=AV.bool (t || q):=by cases t <;> simp [gv] ; simp [hg rfl]
section
variable {P:Program} {ops:Array Oper} {Q:List AV→AH→Prop} {o:Oper} {rest:List Oper} {env env':List AV} {h:AH}
variable {i:Nat} {Ns:List Nat} {F:Nat→AH→Prop}
theorem ym (hk:Q env h):yy P ops Ns F Q i [] env h:=hk
theorem zp (hN:Ns.contains i=false) {v:AV} (hg:aG ops o env=some true) (ha:zK P o env h=.ok v h) (hd:wF o.dst env v=some env') (hk:yy P ops Ns F Q (i+1) rest env' h):yy P ops Ns F Q i (o::rest) env h :=
 ⟨v,h,.inl ⟨hN,by simp only [AR,hg,ha,and_self]⟩,.inr rfl,.inl rfl,by rw [xF hd];exact hk⟩
theorem xX (hN:Ns.contains i=false) {v:AV} {h':AH} (hF:FOk ((Region.before ops).getD i 0) Ns F h') (hc:anch ops Ns i=true) (hg:aG ops o env=some true) (ha:zK P o env h=.ok v h') (hd:wF o.dst env v=some env') (hk:yy P ops Ns F Q (i+1) rest env' h'):yy P ops Ns F Q i (o::rest) env h :=
 ⟨v,h',.inl ⟨hN,by simp only [AR,hg,ha,and_self]⟩,.inl hc,.inr hF,by rw [xF hd];exact hk⟩
theorem draw_len (hN:Ns.contains i=false) {n:Nat} {v:AV} (hg:aG ops o env=some true) (ha:zK P o env h=.len n v h) (hd:wF o.dst env v=some env') (hk:yy P ops Ns F Q (i+1) rest env' h):yy P ops Ns F Q i (o::rest) env h :=
 ⟨v,h,.inl ⟨hN,by simp only [AR,hg,ha,and_self]⟩,.inr rfl,.inl rfl,by rw [xF hd];exact hk⟩
theorem draw_call (hN:Ns.contains i=false) {f:FuncId} {args:List AV} {v:AV} (hg:aG ops o env=some true) (ha:zK P o env h=.call f args) (hs:Spec P f args h fun r h'=>r=v∧h'=h) (hd:wF o.dst env v=some env') (hk:yy P ops Ns F Q (i+1) rest env' h) :
  yy P ops Ns F Q i (o::rest) env h:=⟨v,h,.inl ⟨hN,by simp only [AR,hg,ha];exact hs⟩,.inr rfl,.inl rfl,by rw [xF hd];exact hk⟩
theorem zZ (hN:Ns.contains i=true) {f:FuncId} {args:List AV} {v:AV} (hg:aG ops o env=some true) (ha:∀ h2,zK P o env h2=.call f args) (hs:∀ h2,F i h2→Spec P f args h2 fun r hh=>r=v∧hh=h2) (hd:wF o.dst env v=some env') (hk:yy P ops Ns F Q (i+1) rest env' h) :
  yy P ops Ns F Q i (o::rest) env h:=⟨v,h,.inr (.inl ⟨hN,hg,rfl,.inl ⟨f,args,ha,hs⟩⟩),.inr rfl,.inl rfl,by rw [xF hd];exact hk⟩
theorem draw_okN (hN:Ns.contains i=true) {v:AV} (hg:aG ops o env=some true) (ha:∀ h2,F i h2→zK P o env h2=.ok v h2) (hd:wF o.dst env v=some env') (hk:yy P ops Ns F Q (i+1) rest env' h) :
  yy P ops Ns F Q i (o::rest) env h:=⟨v,h,.inr (.inl ⟨hN,hg,rfl,.inr ha⟩),.inr rfl,.inl rfl,by rw [xF hd];exact hk⟩
theorem zx (hN:Ns.contains i=false) {b:Bool} {v:AV} (hg:aG ops o env=some b) (ha:b=true→zK P o env h=.ok v h) (hd:wF o.dst env (gv b v)=some env') (hk:yy P ops Ns F Q (i+1) rest env' h):yy P ops Ns F Q i (o::rest) env h:=by
 cases b with
 | true=>rw [gv_true] at hd;exact zp hN hg (ha rfl) hd hk
 | false=>exact ⟨za,h,.inl ⟨hN,by simp [AR,hg]⟩,.inr rfl,.inl rfl,by rw [gv_false] at hd;rw [xF hd];exact hk⟩
theorem draw_glen (hN:Ns.contains i=false) {b:Bool} {n:Nat} {v:AV} (hg:aG ops o env=some b) (ha:b=true→zK P o env h=.len n v h) (hd:wF o.dst env (gv b v)=some env') (hk:yy P ops Ns F Q (i+1) rest env' h):yy P ops Ns F Q i (o::rest) env h:=by
 cases b with
 | true=>rw [gv_true] at hd;exact draw_len hN hg (ha rfl) hd hk
 | false=>exact ⟨za,h,.inl ⟨hN,by simp [AR,hg]⟩,.inr rfl,.inl rfl,by rw [gv_false] at hd;rw [xF hd];exact hk⟩
theorem wW (hN:Ns.contains i=false) {b:Bool} {f:FuncId} {args:List AV} {v:AV} (hg:aG ops o env=some b) (ha:b=true→zK P o env h=.call f args) (hs:b=true→Spec P f args h fun r h'=>r=v∧h'=h)
  (hd:wF o.dst env (gv b v)=some env') (hk:yy P ops Ns F Q (i+1) rest env' h):yy P ops Ns F Q i (o::rest) env h:=by
 cases b with
 | true=>rw [gv_true] at hd;exact draw_call hN hg (ha rfl) (hs rfl) hd hk
 | false=>exact ⟨za,h,.inl ⟨hN,by simp [AR,hg]⟩,.inr rfl,.inl rfl,by rw [gv_false] at hd;rw [xF hd];exact hk⟩
variable {i0:Nat}
end

inductive Fx (P:Program):List (TypeId×AV)→List AV→Prop
 | nil:Fx P [] []
 | cons {t:TypeId} {v v':AV} {r:List (TypeId×AV)} {s:List AV}:tyfix P t v=v'→Fx P r s→Fx P ((t,v)::r) (v'::s)
theorem Fx.eq {P:Program} {l:List (TypeId×AV)} {s:List AV} (h:Fx P l s):fixL P l=s:=by
 induction h with
 | nil=>rfl
 | cons h _ ih=>simp only [fixL,h,ih]
theorem zC {P:Program} {o:Oper} {env:List AV} {h:AH} {c:Call} {f:Operand} {g:FuncId} {l:List (TypeId×AV)} {args:List AV} (ho:o.op=.call c) (hc:c.callee=.value f) (hf:yC env f=some (.fn (.func g) [] []))
  (hl:argo env c.args.toList c.argTypes.toList=some l) (ha:Fx P l args):zK P o env h=.call g args :=
 s_call ho hc hf hl (by simp [ha.eq])
theorem s_callC {P:Program} {o:Oper} {env:List AV} {h:AH} {c:Call} {f:Operand} {g:FuncId} {l:List (TypeId×AV)} {args first caps all:List AV} (ho:o.op=.call c) (hc:c.callee=.value f) (hf:yC env f=some (.fn (.func g) first caps))
  (hl:argo env c.args.toList c.argTypes.toList=some l) (ha:Fx P l args) (hall:first++args++caps=all):zK P o env h=.call g all :=
 s_call ho hc hf hl (by rw [ha.eq,hall])
theorem r_loopU {P:Program} {Q:Exit→List AV→AH→Prop} {env:List AV} {h:AH} {body:Code} {σ:Type} (U:σ→List (Nat×AV)) (inv:σ→Prop) (μ:σ→Nat) (s0:σ) {E:σ→List AV} (_hE:∀ s,upd env (U s)=E s) (h0:leL env (E s0)) (hi:inv s0)
  (hs:∀ s,inv s→qQ P body (loopQ (fun env' h'=>∃ s',inv s'∧μ s' < μ s∧wk h env' h' (E s') h) Q) (E s) h):qQ P (.loop body) Q env h :=
 r_loop E (fun _=>h) inv μ s0 (wk.le h0) hi hs
end Go.Vv
