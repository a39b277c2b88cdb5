/- The weakest preconditions over abstract states are sound: code, and functions. -/
import Derived.Test.YtbaclapbinkedaaVvO
namespace Go.Vv
open Go Go.RowKit Go.Lib

theorem min_exists {p:Nat→Prop} (h:∃ n,p n):∃ m,p m∧∀ k,p k→m≤k:=by
 obtain ⟨n,hn⟩:=h
 induction n using Nat.strongRecOn with
 | _ n ih =>
  by_cases hk:∃ k,k < n∧p k
  ·obtain ⟨k,h1,h2⟩:=hk;exact ih k h1 h2
  ·exact ⟨n,hn,fun k hp=>by
    rcases Nat.lt_or_ge k n with h1 | h1
    ·exact absurd ⟨k,h1,hp⟩ hk
    ·exact h1⟩
open Classical in
noncomputable def least (p:Nat→Prop):Nat:=if h:∃ n,p n then Classical.choose (min_exists h) else 0
theorem least_spec {p:Nat→Prop} (h:∃ n,p n):p (least p):=by
 unfold least;rw [dif_pos h];exact (Classical.choose_spec (min_exists h)).1
theorem least_le {p:Nat→Prop} {n:Nat} (h:p n):least p≤n:=by
 unfold least;rw [dif_pos ⟨n,h⟩];exact (Classical.choose_spec (min_exists ⟨n,h⟩)).2 n h

section
variable {P:Program} {B:Nat} {w0:World} {ro:Option Nat} {n:Nat} [GOk P B w0]

def Marks (gb g:Gh) (D:List Deferred):Prop:=∃ cs:List Nat,D.map (·.target)=cs.map Target.collected∧cs.Nodup∧∀ c ∈ cs,c ∈ g.δ∧c ∉ gb.δ
theorem Marks.mono {gb g g':Gh} {D:List Deferred} (h:Marks gb g D) (k:∀ c,c ∈ g.δ→c ∈ g'.δ):Marks gb g' D:=by
 obtain ⟨cs,h1,h2,h3⟩:=h
 exact ⟨cs,h1,h2,fun c hc=>⟨k c (h3 c hc).1,(h3 c hc).2⟩⟩
theorem Marks.nil (gb g:Gh):Marks gb g []:=⟨[],rfl,List.nodup_nil,fun _ h=>by cases h⟩
def StM (B:Nat) (w0:World) (gb g0:Gh) (env:List AV) (h:AH) (a:Act) (w:World):Prop:=∃ g,g0.le g∧Rel B w0 g h w∧VL g env a.tmps.toList∧Marks gb g a.defers∧gb.le g

def Gh.addD (g:Gh) (c:Nat):Gh:={ g with δ:=c::g.δ }
theorem Gh.le_addD (g:Gh) (c:Nat):g.le (g.addD c):=⟨fun _ _ _ e=>e,fun _ _ e=>e,fun _ t e=>⟨t,e,Nat.le_refl _,fun _=>rfl,rfl⟩,fun _ h=>List.mem_cons_of_mem _ h,fun _ _ h=>h,fun _ h=>h⟩
theorem Rel.addD {g:Gh} {h:AH} {w:World} (r:Rel B w0 g h w) {c:Nat} (hB:B≤c) (hc:w.heap[c]?=some (.deferred (some []))) (hs:∀ i:Nat,g.σ[i]? ≠ some c) (hnb:g.N c=none):Rel B w0 (g.addD c) h w :=
 ⟨r.below,r.bsz,r.phi,r.slen,fun i x k hx hk=>by obtain ⟨h1,h2,h3,h4⟩:=r.blk i x k hx hk;exact ⟨h1,h2,h3.mono (g.le_addD c) rfl,h4⟩,r.tlen,r.tok,r.sinj,r.tinj,r.sep,fun x hx=>by
  rcases List.mem_cons.1 hx with rfl | hx
  ·exact ⟨hB,hc,hs⟩
  ·exact r.dfr x hx,fun i k hi hk=>(r.row i k hi hk).mono (g.le_addD c) (fun _ _ h _=>h) (fun _ _ _ _ _ _ _=>⟨rfl,fun _=>rfl⟩),r.rinj,fun b x hb=>(r.nb b x hb).mono fun _ _ ha=>⟨rfl,⟨ha.1,fun hm=>(List.mem_cons.1 hm).elim (fun e=>by subst e;have hb:g.N b=some x:=hb;rw [hnb] at hb;cases hb) ha.2.1,ha.2.2⟩,fun h=>h⟩,r.ob⟩

theorem rangeFunc_sound {gop:Operand} {ps:Array Tmp} {assign body:Code} {gb g0:Gh} {QA:Exit→List AV→AH→Prop} {env:List AV} {h:AH} {a:Act} {w:World} (hro:ro=none)
  (hw:qU P (.rangeFunc gop ps assign body) QA env h) (hs:StM B w0 gb g0 env h a w) {Q:Exit→Act→World→Prop} (hQ:∀ x env' h' a' w',QA x env' h'→StM B w0 gb g0 env' h' a' w'→Q x a' w') :
  (Code.rangeFunc gop ps assign body).wpIn (WF ro) n P Q a w:=by
 subst hro
 obtain ⟨g,hg,r,he,hm,hgb⟩:=hs
 obtain ⟨hok,_,_,env2,h2,hwk,hw⟩:=hw
 obtain ⟨g2,hg2,r2,he2,hd2⟩:=hwk B w0 w w g g _ r (Gh.le.refl g) r he
 replace hg:=hg.trans hg2
 replace hm:=hm.mono hd2
 replace hgb:=hgb.trans hg2
 clear hwk hd2 r he hg2
 revert hw hg hm hgb r2 he2
 generalize env2=env,h2=h,g2=g
 intro hw r he hg hm hgb
 have hV:=V.ev he hok
 split at hw
 ·rename_i f first caps hx
  rw [hx] at hV
  simp only [V] at hV
  obtain ⟨fs,cs,hev,h1,h2⟩:=hV
  refine wpIn_rangeFunc fun fn hfn=>?_
  have hro:(WF none).round=none:=rfl
  rw [hro]
  obtain ⟨rec,hrec⟩:∃ rec:LoopState→Option Code→Loop,rec=fun st pe=>{ state:=st,pending:=pe,fn,tmps:=a.tmps,params:=ps,assign,body,defers:=w.heap.size }:=⟨_,rfl⟩
  have r1:=r.alloc0 (.deferred (some []))
  have hc1:(w.alloc (.deferred (some []))).heap[w.heap.size]?=some (.deferred (some [])):=World.alloc_heap_new w _
  have hns:∀ i:Nat,g.σ[i]? ≠ some w.heap.size:=fun i hi=>by
   have hl:i < h.blks.length:=by rw [← r.slen];exact (List.getElem?_eq_some_iff.1 hi).1
   have:=(r.blk i _ _ hi (List.getElem?_eq_getElem hl)).2.1
   omega
  have r2:=r1.addD (c:=w.heap.size) r.bsz hc1 hns (r.nnew (Nat.le_refl _))
  have r3:=r2.newBlk (.loop (rec .ready none)) (.loop .ready none env ps assign body) ⟨fn,a.tmps,w.heap.size,by rw [hrec];exact World.alloc_heap_new _ _,he.mono ((g.le_addD _).trans (Gh.le_addS _ _))⟩
  have hsz:(w.alloc (.deferred (some []))).heap.size=w.heap.size+1:=World.size_alloc ..
  have hσ:((g.addD w.heap.size).addS (w.alloc (.deferred (some []))).heap.size).σ[h.blks.length]?=some (w.heap.size+1):=by
   rw [← r.slen,hsz];simp [Gh.addS,Gh.addD]
  refine ⟨w.heap.size+1,[{ target:=.collected w.heap.size,args:=#[] }],(w.alloc (.deferred (some []))).alloc (.loop (rec .ready none)),{ target:=.fn (.func f) cs,args:=fs++#[.func (.yield (w.heap.size+1)) #[] #[]] },(w.alloc (.deferred (some []))).alloc (.loop (rec .ready none)),f,
   fs++#[.func (.yield (w.heap.size+1)) #[] #[]]++cs,(w.alloc (.deferred (some []))).alloc (.loop (rec .ready none)),?_,?_,fun _ _=>trivial,?_,fun h=>by simp [WF,Fence.wide] at h,?_⟩
  ·rw [hrec];exact run_enterLoop_outer _ _ _ _ _
  ·simp only [resolve,hev]
   simp [Deferred.ofValue,go_sem]
  ·simpa [invoke] using hw.1 _ _
  ·have hvl:VL ((g.addD w.heap.size).addS (w.alloc (.deferred (some []))).heap.size) (first++[.yld h.blks.length]++caps) (fs++#[Value.func (.yield (w.heap.size+1)) #[] #[]]++cs).toList:=by
    have hle:=(g.le_addD w.heap.size).trans (Gh.le_addS _ (w.alloc (.deferred (some []))).heap.size)
    simp only [Array.toList_append]
    refine VL.append (VL.append (h1.mono hle) (VL.cons ?_ (by simp [VL]))) (h2.mono hle)
    simp only [V]
    exact ⟨_,hσ,rfl⟩
   refine callsIn_of ((hw.2 B w0 _ _ _ r3 hvl).mono ?_)
   rintro e w3 ⟨v,x,h',g',rfl,⟨st,pe,env',ps',as',bd',hb,hst,hj⟩,hle,r',_⟩
   obtain ⟨_,hlt,⟨fn',tmps',d',hl,_⟩,_⟩:=r'.blk _ _ _ (hle.sig _ _ hσ) hb
   have hend:=run_endLoop (P:=P) hl hst
   have r4:Rel B w0 g' (h'.put h.blks.length .dead) (w3.putObj (w.heap.size+1) (.loop { state:=.exhausted,pending:=pe,fn:=fn',tmps:=tmps',params:=ps',assign:=as',body:=bd',defers:=d' })) :=
    r'.putObj (hle.sig _ _ hσ) hb (by simp) rfl rfl rfl World.putObj_size (fun b hb'=>World.putObj_heap_other hb') trivial
   have hle':g.le g':=((g.le_addD _).trans (Gh.le_addS _ _)).trans hle
   have hmk:Marks gb g' ({ target:=.collected w.heap.size,args:=#[] }::a.defers):=by
    obtain ⟨cs,k1,k2,k3⟩:=hm
    refine ⟨w.heap.size::cs,by simp [k1],List.nodup_cons.2 ⟨fun hc=>Nat.lt_irrefl _ (r.dfr_lt (k3 _ hc).1),k2⟩,fun c hc=>?_⟩
    rcases List.mem_cons.1 hc with rfl | hc
    ·exact ⟨hle.del _ (by simp [Gh.addS,Gh.addD]),fun hc=>Nat.lt_irrefl _ (r.dfr_lt (hgb.del _ hc))⟩
    ·exact ⟨hle'.del _ (k3 c hc).1,(k3 c hc).2⟩
   have hst':StM B w0 gb g0 env (h'.put h.blks.length .dead) { a with defers:={ target:=.collected w.heap.size,args:=#[] }::a.defers } (w3.putObj (w.heap.size+1) (.loop { state:=.exhausted,pending:=pe,fn:=fn',tmps:=tmps',params:=ps',assign:=as',body:=bd',defers:=d' })) :=
    ⟨g',hg.trans hle',r4,he.mono hle',hmk,hgb.trans hle'⟩
   refine ⟨pe,_,hend,?_⟩
   cases pe with
   | none=>exact hQ _ _ _ _ _ hj hst'
   | some c =>
    cases c with
    | ret=>exact wpIn_ret (hQ _ _ _ _ _ hj hst')
    | exit i=>exact wpIn_exit (hQ _ _ _ _ _ hj hst')
    | _=>exact hj.elim
 ·exact hw.elim

theorem vj:∀ (c:Code) {gb g0:Gh} {QA:Exit→List AV→AH→Prop} {env:List AV} {h:AH} {a:Act} {w:World},(ro=none ∨ noRF c=true)→qU P c QA env h→StM B w0 gb g0 env h a w→∀ {Q:Exit→Act→World→Prop},
  (∀ x env' h' a' w',QA x env' h'→StM B w0 gb g0 env' h' a' w'→Q x a' w')→c.wpIn (WF ro) n P Q a w
 | .skip,_,_,_,_,_,_,_,_,hw,hs,_,hQ=>wpIn_skip (hQ _ _ _ _ _ hw hs)
 | .label _,_,_,_,_,_,_,_,_,hw,hs,_,hQ=>wpIn_label (hQ _ _ _ _ _ hw hs)
 | .exit _,_,_,_,_,_,_,_,_,hw,hs,_,hQ=>wpIn_exit (hQ _ _ _ _ _ hw hs)
 | .ret,_,_,_,_,_,_,_,_,hw,hs,_,hQ=>wpIn_ret (hQ _ _ _ _ _ hw hs)
 | .region id ops draw,gb,g0,QA,env,h,a,w,_,hw,hs,Q,hQ=>by
  obtain ⟨g,hg,r,he,hm,hgb⟩:=hs
  have hback:∀ env' h' a' w',St B w0 g a.defers env' h' a' w'→StM B w0 gb g0 env' h' a' w':=fun env' h' a' w' ⟨g',k1,k2,k3,k4⟩=>⟨g',hg.trans k1,k2,k3,by rw [k4];exact hm.mono k1.del,hgb.trans k1⟩
  have hs:St B w0 g a.defers env h a w:=⟨g,Gh.le.refl g,r,he,rfl⟩
  cases draw with
  | false =>
   have h1:=ops_sound (ro:=ro) (n:=n) (Q:=Q) (fun env h a w hq hst=>hQ .normal env h a w hq (hback _ _ _ _ hst)) ops.toList 0 env h a w rfl hw hs
   refine wpIn_region ?_
   rw [List.range_eq_range']
   simpa using h1
  | true =>
   obtain ⟨Ns,F,⟨hm,hok⟩,hFh,hw⟩ | ⟨hm,hw⟩:=hw
   rotate_left
   ·obtain ⟨g,k1,k2,k3,k4⟩:=hs
    exact wpIn_region_any hm (any_sound (fun env h a w hq hst=>hQ .normal env h a w hq (hback _ _ _ _ hst)) _ _ _ _ _ _ hw ⟨g,k1,k2.drew,k3,k4⟩)
   obtain ⟨vs,hs',h0,h1,h2⟩:=draw_seq ops.toList 0 env h rfl (Nat.zero_le _) hw
   have hT:(fun w:Nat=>decide (0≤w))=fun _=>true:=by funext w;simp
   rw [hT] at h1 h2
   refine wpIn_region_any hm (draw_sound (D:=a.defers) (g0:=g) hok (vs:=vs) (hs:=hs') (env:=env) (by rw [h0];exact hFh) (fun i o ho=>h1 i o (Nat.zero_le _) ho) (fun a w hst=>hQ .normal _ _ _ _ h2 (hback _ _ _ _ hst)) ops.size _ a _ (by simp) ?_ (fun i j hi=>?_) ?_)
   ·exact Nat.le_trans List.countP_le_length (by simp)
   ·exfalso
    rw [Array.getD_eq_getD_getElem?] at hi
    rcases Nat.lt_or_ge i ops.size with hl | hl
    ·simp [hl] at hi
    ·rw [Array.getElem?_eq_none (by simpa using hl)] at hi;simp at hi
   ·have hF:∀ w,(Array.replicate ops.size false).getD w false=false:=fun w=>by
     rw [Array.getD_eq_getD_getElem?]
     rcases Nat.lt_or_ge w ops.size with hl | hl
     ·simp [hl]
     ·rw [Array.getElem?_eq_none (by simpa using hl)];rfl
    rw [fE_none _ fun w _=>hF w]
    have hH:fH ops Ns hs' (fun i=>(Array.replicate ops.size false).getD i false) ops.size=h:=by
     have:∀ k,fH ops Ns hs' (fun i=>(Array.replicate ops.size false).getD i false) k=h:=fun k=>by
      induction k with
      | zero=>exact h0
      | succ k ih=>rw [fH,hF,Bool.false_and];exact ih
     exact this _
    rw [hH]
    obtain ⟨g,k1,k2,k3,k4⟩:=hs
    exact ⟨g,k1,k2.drew,k3,k4⟩
 | .seq x y,gb,g0,QA,env,h,a,w,hr,hw,hs,Q,hQ=>by
  have hrx:ro=none ∨ noRF x=true:=hr.imp id fun h=>by simp only [noRF,Bool.and_eq_true] at h;exact h.1
  have hry:ro=none ∨ noRF y=true:=hr.imp id fun h=>by simp only [noRF,Bool.and_eq_true] at h;exact h.2
  obtain ⟨g,hg,r,he,hm,hgb⟩:=hs
  refine wpIn_seq (vj (gb:=gb) (g0:=g) x hrx hw ⟨g,Gh.le.refl g,r,he,hm,hgb⟩ fun e env' h' a' w' hq hs'=>?_)
  obtain ⟨g1,hg1,r1,he1,hm1,hgb1⟩:=hs'
  cases e with
  | normal =>
   obtain ⟨env2,h2,hk,hq⟩:=hq
   obtain ⟨g2,hg2,r2,he2,hd2⟩:=hk B w0 w' w g g1 _ r hg1 r1 he1
   exact vj (gb:=gb) (g0:=g0) y hry hq ⟨g2,hg.trans hg2,r2,he2,hm1.mono hd2,hgb.trans hg2⟩ hQ
  | _=>exact hQ _ _ _ _ _ hq ⟨g1,hg.trans hg1,r1,he1,hm1,hgb1⟩
 | .cond c x y,gb,g0,QA,env,h,a,w,hr,hw,hs,Q,hQ=>by
  have hrx:ro=none ∨ noRF x=true:=hr.imp id fun h=>by simp only [noRF,Bool.and_eq_true] at h;exact h.1
  have hry:ro=none ∨ noRF y=true:=hr.imp id fun h=>by simp only [noRF,Bool.and_eq_true] at h;exact h.2
  obtain ⟨hc,hw⟩:=hw
  have hs':=hs
  obtain ⟨g,hg,r,he,hm,hgb⟩:=hs'
  have hV:=V.ev he hc
  split at hw
  ·rename_i b hb
   rw [hb] at hV
   simp only [V] at hV
   refine wpIn_cond hV ?_
   cases b with
   | true=>exact vj x hrx hw hs hQ
   | false=>exact vj y hry hw hs hQ
  ·exact hw.elim
 | .block id body,gb,g0,QA,env,h,a,w,hr,hw,hs,Q,hQ=>by
  refine wpIn_block (vj body (hr.imp (fun h=>h) fun h=>h) hw hs fun e env' h' a' w' hq hs'=>?_)
  cases e with
  | exit id' =>
   simp only [Exit.inBlock]
   by_cases hid:id'=id
   ·simp only [hid,if_true] at hq ⊢;exact hQ _ _ _ _ _ hq hs'
   ·simp only [hid,if_false] at hq ⊢;exact hQ _ _ _ _ _ hq hs'
  | _=>exact hQ _ _ _ _ _ hq hs'
 | .loop body,gb,g0,QA,env,h,a,w,hr,hw,hs,Q,hQ=>by
  have hrb:ro=none ∨ noRF body=true:=hr.imp id fun h=>h
  obtain ⟨I,⟨m0,env0,h0,hk0,hI⟩,hround⟩:=hw
  let p:Act→World→Nat→Prop:=fun a w m=>∃ env h,I m env h∧StM B w0 gb g0 env h a w
  obtain ⟨g,hg,r,he,hm,hgb⟩:=hs
  obtain ⟨g2,hg2,r2,he2,hd2⟩:=hk0 B w0 w w g g _ r (Gh.le.refl g) r he
  refine wpIn_loop (fun a w=>∃ m,p a w m) (fun a w=>least (p a w)) ⟨_,env0,h0,hI,g2,hg.trans hg2,r2,he2,hm.mono hd2,hgb.trans hg2⟩ fun a w hI'=>?_
  obtain ⟨env',h',hI2,hs2⟩:=least_spec hI'
  obtain ⟨g,hg,r,he,hm,hgb⟩:=hs2
  refine vj (gb:=gb) (g0:=g) body hrb (hround _ env' h' hI2) ⟨g,Gh.le.refl g,r,he,hm,hgb⟩ fun e env2 h2 a2 w2 hq hs3=>?_
  obtain ⟨g1,hg1,r1,he1,hm1,hgb1⟩:=hs3
  cases e with
  | normal =>
   obtain ⟨m,env3,h3,hlt,hk,hI3⟩:=hq
   obtain ⟨g2,hg2,r2,he2,hd2⟩:=hk B w0 w2 w g g1 _ r hg1 r1 he1
   have hp:p a2 w2 m:=⟨env3,h3,hI3,g2,hg.trans hg2,r2,he2,hm1.mono hd2,hgb.trans hg2⟩
   exact ⟨⟨_,hp⟩,Nat.lt_of_le_of_lt (least_le hp) hlt⟩
  | _=>exact hQ _ _ _ _ _ hq ⟨g1,hg.trans hg1,r1,he1,hm1,hgb1⟩
 | .rangeFunc f ps assign body,gb,g0,QA,env,h,a,w,hr,hw,hs,Q,hQ=>rangeFunc_sound (hr.elim id fun h=>by cases h) hw hs hQ
 | .scope _,_,_,_,_,_,_,_,_,hw,_,_,_=>hw.elim
 | .goto _,_,_,_,_,_,_,_,_,hw,_,_,_=>hw.elim
 | .refuse _,_,_,_,_,_,_,_,_,hw,_,_,_=>hw.elim
end

mutual
def AV.pl:AV→Bool
 | .sl _ es=>plE es
 | .bsl _ _ | .nsl _ _ | .gsl _ _=>false
 | _=>true
def plL:List AV→Bool
 | []=>true
 | a::r=>a.pl&&plL r
def plE:List (List AV)→Bool
 | []=>true
 | e::r=>plL e&&plE r
end
mutual
theorem V.plain {g g':Gh} (hφ:∀ b j v,g.Φ b j=some v→g'.Φ b j=some v):∀ (a:AV) (v:Value),a.pure=true→a.pl=true→V g a v→V g' a v
 | .bool _,_,_,_,hv=>by simpa only [V] using hv
 | .int _ _,_,_,_,hv=>by simpa only [V] using hv
 | .str _,_,_,_,hv=>by simpa only [V] using hv
 | .nilp,_,_,_,hv=>by simpa only [V] using hv
 | .nilm,_,_,_,hv=>by simpa only [V] using hv
 | .nilf,_,_,_,hv=>by simpa only [V] using hv
 | .nili,_,_,_,hv=>by simpa only [V] using hv
 | .sl k es,_,_,hl,hv=>by
  simp only [V] at hv ⊢
  simp only [AV.pl] at hl
  obtain ⟨a,c,e,h1,h2,h3⟩:=hv
  exact ⟨a,c,e,h1,h2,h3.imp id fun ⟨b,o,e,hh⟩=>⟨b,o,e,VE.plain hφ b k o es hl hh⟩⟩
 | .fn f [] [],_,_,_,hv=>by
  simp only [V,VL] at hv ⊢;exact hv
theorem VC.plain {g g':Gh} (hφ:∀ b j v,g.Φ b j=some v→g'.Φ b j=some v) (b:Nat):∀ (o:Nat) (as:List AV),plL as=true→VC g b o as→VC g' b o as
 | _,[],_,_=>by simp only [VC]
 | o,a::r,hl,hv=>by
  simp only [VC] at hv ⊢
  simp only [plL,Bool.and_eq_true] at hl
  obtain ⟨⟨v,h0,h1,h2⟩,h3⟩:=hv
  exact ⟨⟨v,hφ _ _ _ h0,h1,V.plain hφ a v h1 hl.1 h2⟩,VC.plain hφ b (o+1) r hl.2 h3⟩
theorem VE.plain {g g':Gh} (hφ:∀ b j v,g.Φ b j=some v→g'.Φ b j=some v) (b k:Nat):∀ (o:Nat) (as:List (List AV)),plE as=true→VE g b k o as→VE g' b k o as
 | _,[],_,_=>by simp only [VE]
 | o,e::r,hl,hv=>by
  simp only [VE] at hv ⊢
  simp only [plE,Bool.and_eq_true] at hl
  obtain ⟨⟨h0,h1⟩,h2⟩:=hv
  exact ⟨⟨h0,VC.plain hφ b o e hl.1 h1⟩,VE.plain hφ b k (o+k) r hl.2 h2⟩
end
theorem VA.pl {g g':Gh} (hφ:∀ b j v,g.Φ b j=some v→g'.Φ b j=some v):∀ {as:List AV} {vs:List Value},as.all AV.pure=true→plL as=true→VA g as vs→VA g' as vs
 | [],_,_,_,hv=>by simpa only [VA] using hv
 | a::r,_,hp,hl,hv=>by
  simp only [VA] at hv ⊢
  simp only [plL,Bool.and_eq_true] at hl
  simp only [List.all_cons,Bool.and_eq_true] at hp
  obtain ⟨v,s,e,⟨h0,h1⟩,h2⟩:=hv
  exact ⟨v,s,e,⟨h0,V.plain hφ a v hp.1 hl.1 h1⟩,VA.pl hφ hp.2 hl.2 h2⟩

def qY (P:Program) (env:List AV) (h:AH):List ResultVar→Option (List AV)
 | []=>some []
 | .tmp t::r=>match qY P env h r with
  | some vs=>some (env.getD t za::vs)
  | none=>none
 | .cell a t::r=>match P.underlying t,P.info? t with
  | some d,some i=>match aLoad h (yI d) i.size (env.getD a za),qY P env h r with
   | some v,some vs=>some (tyfix P t v::vs)
   | _,_=>none
  | _,_=>none
def aRes (P:Program) (fn:Func) (env:List AV) (h:AH):Option AV :=
 match qY P env h fn.results.toList with
 | some [v]=>some v
 | some vs=>some (.tup vs)
 | none=>none

def leV (a b:AV):Prop:=∀ g v,V g a v→V g b v
theorem leV.refl (a:AV):leV a a:=fun _ _ h=>h
def finK (h0:AH) (K:AV→AH→Prop) (r0:AV) (h:AH):Prop:=∃ r h',wk h0 [r0] h [r] h'∧K r h'
def bodyQ (P:Program) (fn:Func) (h0:AH) (K:AV→AH→Prop) (x:Exit) (env:List AV) (h:AH):Prop :=
 match x with
 | .normal | .ret=>match aRes P fn env h with
  | some r=>finK h0 K r h
  | none=>False
 | _=>False

section
variable {P:Program}
def resF (tmps:Array Value):ResultVar→Sem Value
 | .tmp t=>pure (tmps.getD t undef)
 | .cell a t=>do loadVar t (← asAddr (tmps.getD a undef))
theorem results_eq (fn:Func) (tmps:Array Value):results fn tmps=(do let vs ← fn.results.mapM (resF tmps);pure (if h:vs.size=1 then vs[0] else .tuple vs)):=by
 unfold results resF
 rfl
theorem resL_sound {B:Nat} {w0 w:World} {g:Gh} {h:AH} (r:Rel B w0 g h w) {env:List AV} {tmps:Array Value} (he:VL g env tmps.toList):∀ {rs:List ResultVar} {vs:List AV},qY P env h rs=some vs →
  ∃ us,(rs.mapM (resF tmps)).run P w=.ok us w∧VL g vs us
 | [],vs,h=>by simp only [qY,Option.some.injEq] at h;subst h;exact ⟨[],by simp,by simp [VL]⟩
 | .tmp t::rs,vs,h=>by
  simp only [qY] at h
  split at h
  ·rename_i vs' hr
   cases h
   obtain ⟨us,h1,h2⟩:=resL_sound r he hr
   refine ⟨tmps.getD t undef::us,by simp only [List.mapM_cons,Sem.run_bind,resF,Sem.run_pure,Result.andThen_ok,h1],VL.cons ?_ h2⟩
   exact V.ev (a:={ tmps:=tmps,defers:=[] }) he (x:=.tmp t) rfl
  ·cases h
 | .cell ad t::rs,vs,h=>by
  simp only [qY] at h
  split at h
  ·rename_i d i hd hi
   split at h
   ·rename_i v vs' hl hr
    cases h
    obtain ⟨us,h1,h2⟩:=resL_sound r he hr
    have hp:=V.ev (a:={ tmps:=tmps,defers:=[] }) he (x:=.tmp ad) rfl
    obtain ⟨u,h3,h4⟩:=load_sound r hd hi hp hl
    refine ⟨u::us,?_,VL.cons h4.tyfix h2⟩
    have h5:(do loadVar t (← asAddr (tmps.getD ad undef)):Sem Value).run P w=.ok u w:=by
     have h6:Act.eval { tmps:=tmps,defers:=[] } (.tmp ad)=tmps.getD ad undef:=rfl
     rw [h6] at h3
     generalize tmps.getD ad undef=pv at h3 ⊢
     cases pv with
     | pointer x =>
      cases x with
      | none=>simp [Instr.loadAt,Instr.sureAddr] at h3
      | some x=>simpa [Instr.loadAt,Instr.sureAddr,asAddr] using h3
     | _=>simp [Instr.loadAt,Instr.sureAddr] at h3
    have h7:(resF tmps (.cell ad t)).run P w=.ok u w:=h5
    simp only [List.mapM_cons,Sem.run_bind,h7,Result.andThen_ok,h1,Sem.run_pure]
   ·cases h
  ·cases h

theorem res_sound {B:Nat} {w0 w:World} {g:Gh} {h:AH} (r:Rel B w0 g h w) {env:List AV} {tmps:Array Value} (he:VL g env tmps.toList) {fn:Func} {v:AV} (hv:aRes P fn env h=some v) :
  ∃ u,(results fn tmps).run P w=.ok u w∧V g v u:=by
 unfold aRes at hv
 have key:∀ vs,qY P env h fn.results.toList=some vs→∃ us:List Value,(results fn tmps).run P w=.ok (if h:us.length=1 then us[0] else .tuple us.toArray) w∧VL g vs us:=by
  intro vs hvs
  obtain ⟨us,h1,h2⟩:=resL_sound r he hvs
  refine ⟨us,?_,h2⟩
  rw [results_eq,Array.mapM_eq_mapM_toList]
  simp only [Sem.run_bind,Sem.run_map,h1,Result.andThen_ok,Sem.run_pure]
  congr 1
 split at hv
 ·rename_i v' hvs
  cases hv
  obtain ⟨us,h1,h2⟩:=key _ hvs
  simp only [VL] at h2
  obtain ⟨u,s,rfl,h3,rfl⟩:=h2
  exact ⟨u,by simpa using h1,h3⟩
 ·rename_i vs hne hvs
  cases hv
  obtain ⟨us,h1,h2⟩:=key _ hvs
  have hl:us.length ≠ 1:=by
   intro hl
   rw [← h2.length] at hl
   rcases vs with _ | ⟨x,_ | ⟨y,r⟩⟩ <;> simp at hl
   exact hne x rfl
  refine ⟨.tuple us.toArray,by rw [h1,dif_neg hl],?_⟩
  simp only [V];exact ⟨_,rfl,h2⟩
 ·cases hv

theorem VL.undefs {g:Gh}:∀ k,VL g (List.replicate k za) (List.replicate k undef)
 | 0=>by simp [VL]
 | k+1=>by simp only [List.replicate_succ];exact VL.cons V.ofUndef (VL.undefs k)

theorem Rel.shut {B:Nat} {w0 w:World} {g:Gh} {h:AH} (r:Rel B w0 g h w) {c:Nat} (hc:c ∈ g.δ):Rel B w0 { g with δ:=g.δ.filter (· != c) } h (w.putObj c (.deferred none)):=by
 have hd:=r.dfr c hc
 have hoth:∀ b,b ≠ c→(w.putObj c (.deferred none)).heap[b]?=w.heap[b]?:=fun b hb=>World.putObj_heap_other hb
 have hle:g.le { g with δ:=g.δ }:=Gh.le.refl g
 refine ⟨⟨r.below.os,r.below.tape,r.below.output,by simpa using r.below.size,fun b hb=>(hoth b (by omega)).trans (r.below.block b hb)⟩,by simpa using r.bsz,fun b j v e=>?_,r.slen,fun i x k hx hk=>?_,r.tlen,fun i t ht=>?_,r.sinj,r.tinj,r.sep,fun x hx=>?_,fun i k hi hk=>?_,r.rinj,
  fun b x hb=>(r.nb b x hb).mono fun _ _ ha=>⟨hoth b (by rintro rfl;exact ha.2.1 hc),⟨ha.1,fun hm=>ha.2.1 (List.mem_filter.1 hm).1,ha.2.2⟩,fun h=>h⟩,fun b hb=>⟨by simpa using (r.ob b hb).1,(r.ob b hb).2⟩⟩
 ·have hne:b ≠ c:=by
   rintro rfl
   have:=r.phi b j v e
   unfold World.cell? at this
   simp [hd.2.1] at this
  exact (World.cell?_of_block (w:=w) (a:=⟨b,j,none⟩) (hoth b hne)).trans (r.phi b j v e)
 ·obtain ⟨h1,h2,h3,h4⟩:=r.blk i x k hx hk
  refine ⟨h1,by simpa using h2,?_,h4⟩
  have hne:x ≠ c:=by rintro rfl;exact hd.2.2 i hx
  have hw:=hoth x hne
  cases k with
  | cells cs=>obtain ⟨vs,t,k1,k2⟩:=h3;exact ⟨vs,t,hw.trans k1,VA.dd k2⟩
  | siter s pos=>exact hw.trans h3
  | mapo es clock=>obtain ⟨ents,n,k1,k2,k3⟩:=h3;exact ⟨ents,n,hw.trans k1,ME.dd k2,k3⟩
  | loop st pe env ps assign body=>obtain ⟨fn,tmps,d,k1,k2⟩:=h3;exact ⟨fn,tmps,d,hw.trans k1,VL.dd k2⟩
  | row _ _ _=>exact h3
  | miter id n seen=>obtain ⟨m,k1,k2⟩:=h3;exact ⟨m,k1,hw.trans k2⟩
  | miter0=>exact hw.trans h3
  | other=>trivial
  | dead=>trivial
 ·obtain ⟨h1,h2⟩:=r.tok i t ht
  refine ⟨h1,fun b l e hl=>?_⟩
  have lo:=h2 b l e hl
  refine lo.mono (by simp) (hoth b ?_) fun _ _=>rfl
  rintro rfl
  obtain ⟨cs,ty,hcs,_⟩:=lo.cells
  rw [hd.2.1] at hcs;cases hcs
 ·simp only [List.mem_filter,bne_iff_ne,ne_eq] at hx
  have hx':=r.dfr x hx.1
  exact ⟨hx'.1,(hoth x hx.2).trans hx'.2.1,hx'.2.2⟩
 ·have hr:=r.row i k hi hk
  cases k with
  | row i2 k2 e2 =>
   obtain ⟨t,h1,h2,h3,h4,h5,h6⟩:=hr
   refine ⟨t,h1,h2,h3,h4,h5,h6.imp (fun h=>h) ?_⟩
   rintro ⟨b,o,e,cs,ty,k1,k2,k3,k4,k5⟩
   have hne:b ≠ c:=by rintro rfl;rw [hd.2.1] at k2;cases k2
   exact ⟨b,o,e,cs,ty,k1,(hoth b hne).trans k2,VA.dd k3,k4,k5⟩
  | dead=>trivial
  | _=>exact hr.elim

theorem leaves_marks {B:Nat} {w0:World} {g0:Gh} {h:AH} {env:List AV} {fn:Func} {tmps:Array Value} {R:Ending→World→Prop}:∀ (D:List Deferred) (cs:List Nat) (w:World) {g:Gh},D.map (·.target)=cs.map Target.collected→cs.Nodup →
  (∀ (w'':World) (g'':Gh),g0.le g''→Rel B w0 g'' h w''→VL g'' env tmps.toList→∃ v,(results fn tmps).run P w''=.ok v w''∧R (.returned v) w'') →
  g0.le g→Rel B w0 g h w→VL g env tmps.toList→(∀ c ∈ cs,c ∈ g.δ)→(∀ c ∈ cs,c ∉ g0.δ)→LeavesInM (WF none) 0 P fn tmps R D .returning w
 | [],cs,w,g,hD,_,hfin,hg,r,he,_,_=>hfin w g hg r he
 | d::D,cs,w,g,hD,hnd,hfin,hg,r,he,h1,h2=>by
  cases cs with
  | nil=>simp at hD
  | cons c cs =>
   simp only [List.map_cons,List.cons.injEq] at hD
   obtain ⟨hd,hD⟩:=hD
   have hc:=h1 c (by simp)
   refine ⟨by simp,.inl ⟨c,_,hd,run_takeDeferred (r.dfr c hc).2.1,?_⟩⟩
   refine leaves_marks D cs _ (g:={ g with δ:=g.δ.filter (· != c) }) hD (List.nodup_cons.1 hnd).2 hfin ⟨hg.phi,hg.sig,hg.tau,fun x hx=>?_,hg.new,hg.old⟩ (r.shut hc) (VL.dd he) (fun x hx=>?_) fun x hx=>h2 x (by simp [hx])
   ·simp only [List.mem_filter,bne_iff_ne,ne_eq]
    exact ⟨hg.del x hx,by rintro rfl;exact h2 x (by simp) hx⟩
   ·simp only [List.mem_filter,bne_iff_ne,ne_eq]
    exact ⟨h1 x (by simp [hx]),by rintro rfl;exact (List.nodup_cons.1 hnd).1 hx⟩

theorem spec_of_body {f : FuncId} {fn : Func} {c : Code} (hf : P.funcs[f]? = some fn) (hb : fn.body = some c) (hname : (fn.name == "runtime.NumGoroutine") = false) {args : List AV} {h : AH} {K : AV → AH → Prop}
  (hw:qU P c (bodyQ P fn h K) (args++List.replicate (fn.ntmps - args.length) za) h):Spec P f args h K:=by
 have hn : ¬ fn.name = "runtime.NumGoroutine" := by simpa using hname
 refine ⟨fun vs w=>by simp [callFunc,hf,hb,hn],fun B w0 _ g w vs r hv=>?_⟩
 refine callsIn_wide.1 (callsIn_of_wp_marks (F:=WF none) (n:=0) hf hb trivial ?_ rfl)
 have hlen:args.length=vs.size:=by rw [hv.length];rfl
 refine vj (B:=B) (w0:=w0) (gb:=g) (g0:=g) c (.inl rfl) hw ⟨g,Gh.le.refl g,r,?_,Marks.nil _ _,Gh.le.refl g⟩ fun x env' h' a' w' hq hs=>?_
 ·simp only [Array.toList_append,Array.toList_replicate,hlen]
  exact VL.append hv (VL.undefs _)
 ·obtain ⟨g',hg,r',he,hm,_⟩:=hs
  have fin:(match aRes P fn env' h' with | some r=>finK h K r h' | none=>False) →
    LeavesInM (WF none) 0 P fn a'.tmps (fun e w''=>∃ v' r h2 g2,e=.returned v'∧K r h2∧g.le g2∧Rel B w0 g2 h2 w''∧V g2 r v') a'.defers .returning w':=by
   intro hfin
   split at hfin
   ·rename_i rv hr
    obtain ⟨cs,hD,hnd,hcs⟩:=hm
    refine leaves_marks a'.defers cs w' hD hnd ?_ hg r' he (fun c hc=>(hcs c hc).1) (fun c hc=>(hcs c hc).2)
    intro w'' g'' hg'' r'' he''
    obtain ⟨u,h1,h2⟩:=res_sound r'' he'' hr
    refine ⟨u,h1,u,?_⟩
    obtain ⟨rv,h2',hwk,hK⟩:=hfin
    obtain ⟨g2,k1,k2,k3,_⟩:=hwk B w0 w'' w g g'' [u] r hg'' r'' (VL.cons h2 (by simp [VL]))
    simp only [VL] at k3
    obtain ⟨v,s,e,k4,_⟩:=k3
    injection e with e1 e2
    subst e1
    exact ⟨rv,h2',g2,rfl,hK,k1,k2,k4⟩
   ·exact hfin.elim
  cases x with
  | normal=>exact fin hq
  | ret=>exact fin hq
  | _=>exact hq.elim
end
end Go.Vv
