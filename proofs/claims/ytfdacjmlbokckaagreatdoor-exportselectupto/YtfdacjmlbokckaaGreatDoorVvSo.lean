/- Rows are sorted: slices.SortFunc, by the shelf's contract. -/
import Derived.Test.YtfdacjmlbokckaaGreatDoorVvRd
import Derived.Test.YtfdacjmlbokckaaGreatDoorVvDr
import Derived.ChangeAgain
import Derived.Shelf.SlSortCmp.WholeK
import Derived.Shelf.SlSortCmp.NoneTotal
set_option linter.all false
namespace Go.Vv
open Go Go.RowKit Go.Lib Go.Sort Go.Shelf
section
variable {α:Type} {row:α→List AV} {k:Nat}
theorem flat_getElem {β:Type} {enc:α→List β} (hk:∀ x,(enc x).length=k):∀ (L:List α) (t:Nat),t < L.length * k→(L.map enc).flatten[t]?=(L[t / k]?).bind fun x=>(enc x)[t % k]?
 | [],t,h=>by simp at h
 | x::r,t,h=>by
  have hk0:0 < k:=by
   grind
  simp only [List.map_cons,List.flatten_cons]
  by_cases ht:t < k
  ·rw [List.getElem?_append_left (by simp_all),Nat.div_eq_of_lt ht,Nat.mod_eq_of_lt ht];rfl
  ·have ht:k≤t:=by omega
   rw [List.getElem?_append_right (by simp_all),hk x]
   simp only [List.length_cons,Nat.succ_mul] at h
   rw [flat_getElem hk r (t - k) (by omega)]
   obtain ⟨s,rfl⟩:∃ s,t=s+k:=⟨t - k,by omega⟩
   simp_all
theorem flatten_len' {β:Type} {enc:α→List β} (hk:∀ x,(enc x).length=k):∀ L:List α,(L.map enc).flatten.length=L.length * k
 | []=>by simp
 | x::r=>by simp only [List.map_cons,List.flatten_cons,List.length_append,List.length_cons,flatten_len' hk r,hk x,Nat.succ_mul];omega
theorem flatK_list [Inhabited α] {enc:α→List Value} (hk:∀ x,(enc x).length=k) (d:Array α):(flatK enc k d).toList=(d.toList.map enc).flatten:=by
 apply List.ext_getElem?
 intro t
 by_cases ht:t < d.size * k
 ·have hk0:0 < k:=by
   grind
  have hd:t / k < d.size:=by rw [Nat.div_lt_iff_lt_mul hk0];exact ht
  rw [flat_getElem hk d.toList t (by omega),Array.getElem?_toList,Array.getElem?_toList,Array.getElem?_eq_getElem (by simp_all),Array.getElem?_eq_getElem hd]
  have hm:t % k < (enc d[t / k]).length:=by rw [hk];exact Nat.mod_lt _ hk0
  rw [Option.bind_some,List.getElem?_eq_getElem hm]
  have:=get_flatK enc k d t ht
  grind
 ·rw [List.getElem?_eq_none (by simp;omega),List.getElem?_eq_none (by rw [flatten_len' hk];simp;omega)]
theorem mapBlock_setRow {w:World} {b:Nat} {cur:Array Value} {ty:TypeId} {fr:Nat×Nat} (f:Array Value→Array Value) (hc:w.heap[b]?=some (.cells cur ty fr)):mapBlock w b f=w.setRow b (f cur):=by
 unfold mapBlock World.setRow
 congr 1
 apply Array.ext_getElem?
 intro i
 simp only [Array.getElem?_modify]
 by_cases hi:b=i
 ·subst hi;simp [hc,onCells]
 ·simp [hi]
theorem VA.parts {g:Gh} (hk:∀ x,(row x).length=k):∀ (L:List α) (vs:List Value),VA g (L.map row).flatten vs→∃ ds:List (α×List Value),ds.map (·.1)=L∧(ds.map (·.2)).flatten=vs∧∀ p ∈ ds,VA g (row p.1) p.2
 | [],vs,h=>by simp only [List.map_nil,List.flatten_nil,VA] at h;subst h;exact ⟨[],rfl,rfl,by simp⟩
 | x::r,vs,h=>by
  simp only [List.map_cons,List.flatten_cons] at h
  have h1:=VA.take (row x).length h
  have h2:=VA.drop (row x).length h
  rw [List.take_left] at h1
  rw [List.drop_left] at h2
  obtain ⟨ds,e1,e2,e3⟩:=VA.parts hk r _ h2
  refine ⟨(x,vs.take (row x).length)::ds,by simp [e1],by simp [e2],fun p hp=>?_⟩
  grind
theorem VA.join {g:Gh}:∀ (ds:List (α×List Value)),(∀ p ∈ ds,VA g (row p.1) p.2)→VA g ((ds.map (·.1)).map row).flatten (ds.map (·.2)).flatten
 | [],_=>by simp [VA]
 | p::r,h=>by
  simp only [List.map_cons,List.flatten_cons]
  exact (h p (by simp)).append (VA.join r fun q hq=>h q (by simp [hq]))
end
section
variable {B:Nat} {w0 w:World} {g:Gh} {h:AH}
theorem Rel.ahead (r:Rel B w0 g h w):∀ n,Rel B w0 g h (Go.Sort.ahead w n)
 | 0=>r
 | n+1=>by rw [← ahead_drew];exact (Rel.ahead r n).drew
theorem below_grow (w:World) (os:Array Obj):Go.RowKit.Below w.heap.size w (grow w os) :=
 ⟨rfl,rfl,rfl,by simp [grow],fun k hk=>by simp only [grow];rw [Array.getElem?_append_left hk]⟩
end
structure SwoOn {α:Type} (L:List α) (cf:α→α→Int):Prop where
 irrefl:∀ x,x ∈ L→¬ cf x x < 0
 trans:∀ x y z,x ∈ L→y ∈ L→z ∈ L→cf x y < 0→cf y z < 0→cf x z < 0
 ntrans:∀ x y z,x ∈ L→y ∈ L→z ∈ L→¬ cf x y < 0→¬ cf y z < 0→¬ cf x z < 0
def CmpOk {α:Type} (P:Program) (gf:Nat) (row:α→List AV) (L:List α) (cf:α→α→Int):Prop :=
 ∀ (gz:Gh) (W:World) (x y:α) (vx vy:List Value),GOk P W.heap.size W→gz.σ=[]→gz.τ=[]→x ∈ L→y ∈ L→(∀ b j v,gz.Φ b j=some v→W.cell? ⟨b,j,none⟩=some v)→VA gz (row x) vx→VA gz (row y) vy →
  Calls P gf #[.agg vx.toArray,.agg vy.toArray] W fun e w'=>e=.returned (.int .i64 (cf x y))∧∃ q os',w'=grow (W.drewN q) os'

theorem grow_of_below {w w':World} (h:Below w.heap.size w w') (hd:w.drawn≤w'.drawn):∃ q os',w'=grow (w.drewN q) os':=by
 refine ⟨w'.drawn - w.drawn,w'.heap.extract w.heap.size w'.heap.size,?_⟩
 obtain ⟨heap',tape',drawn',os',output'⟩:=w'
 have e1:os'=w.os:=h.os
 have e2:tape'=w.tape:=h.tape
 have e3:output'=w.output:=h.output
 have hs:w.heap.size≤heap'.size:=h.size
 have hb:∀ k,k < w.heap.size→heap'[k]?=w.heap[k]?:=h.block
 have hd:w.drawn≤drawn':=hd
 subst e1 e2 e3
 have eh:heap'=w.heap++heap'.extract w.heap.size heap'.size:=by
  grind
 simp only [grow,World.drewN]
 rw [← eh]
 congr 1
 omega
theorem CmpOk.of_spec {α:Type} {P:Program} {gf:Nat} {row:α→List AV} {L:List α} {cf:α→α→Int} (hl:∀ x,(row x).all AV.pure=true) (hng:∀ x,plL (row x)=true)
  (hS:∀ x y,x ∈ L→y ∈ L→Spec P gf [.agg (row x),.agg (row y)] h0 (fun r h=>r=.int .i64 (cf x y)∧h=h0)):CmpOk P gf row L cf:=by
 intro gz W x y vx vy hW hσ hτ hx hy hphi hvx hvy
 haveI:=hW
 obtain ⟨Φ,σ,τ,δ,N,O⟩:=gz
 simp only at hσ hτ hphi
 subst hσ hτ
 have r:Rel W.heap.size W ⟨Φ,[],[],[],fun _=>none,fun _=>False⟩ h0 W:=⟨Below.refl _ _,Nat.le_refl _,hphi,rfl,fun i c k h _=>by simp at h,rfl,fun i t h=>by simp at h,fun i j c h _=>by simp at h,fun i j t t' b x y h _=>by simp at h,fun i c j t b x h _=>by simp at h,
  fun c h=>by simp at h,fun i k h=>by simp at h,fun i j t k k' e1 e2 h=>by simp [h0] at h,fun b x h=>(by cases h),fun b (h:False)=>h.elim,fun b (h:False)=>h.elim⟩
 have v1:VA (⟨Φ,[],[],[],fun _=>none,fun _=>False⟩:Gh) (row x) vx:=VA.pl (g:=⟨Φ,[],[],δ,N,O⟩) (g':=⟨Φ,[],[],[],fun _=>none,fun _=>False⟩) (fun _ _ _ h=>h) (hl x) (hng x) hvx
 have v2:VA (⟨Φ,[],[],[],fun _=>none,fun _=>False⟩:Gh) (row y) vy:=VA.pl (g:=⟨Φ,[],[],δ,N,O⟩) (g':=⟨Φ,[],[],[],fun _=>none,fun _=>False⟩) (fun _ _ _ h=>h) (hl y) (hng y) hvy
 have hc:=(hS x y hx hy).2 W.heap.size W ⟨Φ,[],[],[],fun _=>none,fun _=>False⟩ W #[.agg vx.toArray,.agg vy.toArray] r (by
  simp only [VL,V]
  exact ⟨_,_,rfl,⟨_,rfl,v1⟩,_,_,rfl,⟨_,rfl,v2⟩,rfl⟩)
 refine (calls_drawn hc fun e w' ⟨v,_,_,_,h,_⟩=>⟨v,h⟩).mono ?_
 rintro e w' ⟨⟨v,rr,h',g',rfl,⟨rfl,rfl⟩,_,r',hv⟩,hd⟩
 simp only [V] at hv
 subst hv
 exact ⟨rfl,grow_of_below r'.below hd⟩
theorem spec_sort {P:Program} {ρ:Ren} (L:Go.Proofs.SlLaysF0.n6 P ρ) {k:Nat} (aE:∀ w,(isAgg (ρ.t 24)).run P w=.ok true w) (zE:∀ w,(Go.sizeOf (ρ.t 24)).run P w=.ok k w)
  {α:Type} {row:α→List AV} (hk:∀ x,(row x).length=k) {Lx:List α} {cf:α→α→Int} {gf:Nat} (eg:∀ args w,(callFunc gf args).run P w=.ok (.enter gf args) w) (hO:SwoOn Lx cf) (hc:CmpOk P gf row Lx cf)
  {id q:Nat} {h:AH} (hb:h.blk id=some (.row q k (Lx.map row))) (hlim:Lx.length≤vQ) :
  Spec P (ρ.f 6) [.rsl id q k Lx.length,.fn (.func gf) [] []] h (fun rr hh=>rr=.tup []∧∃ L':List α,L'.Perm Lx∧L'.Pairwise (fun a b=>¬ cf b a < 0)∧hh=h.put id (.row q k (L'.map row))):=by
 refine ⟨fun vs w=>L.f6.enters rfl vs w,fun B w0 _ g w vs r hv=>?_⟩
 obtain ⟨us,rfl⟩:∃ us:List Value,vs=us.toArray:=⟨vs.toList,by simp⟩
 simp only [VL,V] at hv
 obtain ⟨v1,s1,e1,⟨a,c,rfl,hcap,hm,t2,ht2,_,_,hloc⟩,v2,s2,rfl,⟨fs,cs,rfl,hfs,hcs⟩,rfl⟩:=hv
 have hfs:fs=#[]:=by cases fs;simp_all
 have hcs:cs=#[]:=by cases cs;simp_all
 subst hfs hcs
 subst e1
 have hput:h.put id (.row q k (Lx.map row))=h:=by
  cases h with
  | mk BL T =>
   simp only [AH.put,AH.mk.injEq,and_true]
   refine List.ext_getElem? fun j=>?_
   by_cases hj:j=id
   ·subst hj;rw [List.getElem?_set_self (List.getElem?_eq_some_iff.1 hb).1];exact hb.symm
   ·rw [List.getElem?_set_ne (fun e=>hj e.symm)]
 by_cases hLx:Lx=[]
 ·subst hLx
  refine (Go.Proofs.AnyF.slices_SortFunc_none L a c _ w).mono ?_
  rintro e w' ⟨rfl,rfl⟩
  exact ⟨_,_,h,g,rfl,⟨rfl,[],.nil,.nil,hput.symm⟩,Gh.le.refl g,r,by simp only [V];exact ⟨#[],rfl,by simp [VL]⟩⟩
 ·obtain ⟨_,ti,hti,htr,htn,hlen,hpe,hrow⟩:=r.rowAt hb
  obtain rfl:ti=t2:=by rw [hti] at ht2;injection ht2
  simp only [List.length_map] at htn
  obtain ⟨b',o',rfl,hloc2⟩:=hloc.resolve_left (fun hh=>hLx (List.eq_nil_of_length_eq_zero hh.1))
  have hloc3:=hloc2 htn.symm
  obtain ⟨b,o,e,cells,ty,k1,k2,k3,k4,k5⟩:=hrow.resolve_left (by simpa using hLx)
  simp only [List.length_map] at k1 k3 k4
  rw [k1] at hloc3;injection hloc3 with hloc3;injection hloc3 with e1 hloc3;injection hloc3 with e2 _
  obtain rfl:o=o':=by omega
  subst e1
  have hbw:b < w.heap.size:=(Array.getElem?_eq_some_iff.1 k2).1
  have k3z:VA (g.cut 0 0) (Lx.map row).flatten ((cells.toList.drop o).take (Lx.length * k)):=VA.cut _ _ (lowL_of_pure hpe) k3
  obtain ⟨ds,d1,d2,d3⟩:=VA.parts hk Lx _ k3z
  let A:Type:={ p:α×List Value // p.1 ∈ Lx∧VA (g.cut 0 0) (row p.1) p.2 }
  have hmem:∀ p ∈ ds,p.1 ∈ Lx∧VA (g.cut 0 0) (row p.1) p.2:=fun p hp=>⟨by rw [← d1];exact List.mem_map.2 ⟨p,hp,rfl⟩,d3 p hp⟩
  let da:List A:=ds.attach.map fun p=>⟨p.1,hmem p.1 p.2⟩
  have da1:da.map (fun x:A=>x.1)=ds:=by
   simp only [da,List.map_map,Function.comp_def]
   exact List.attach_map_subtype_val ds
  have hdal:da.length=Lx.length:=by rw [← d1];simp [da]
  haveI:Inhabited A:=⟨da[0]'(by rw [hdal];exact List.length_pos_iff.2 hLx)⟩
  let enc:A→List Value:=fun x=>x.1.2
  have henc:∀ x:A,(enc x).length=k:=fun x=>by rw [← x.2.2.length,hk]
  let d:Array A:=da.toArray
  have hdsz:d.size=Lx.length:=by simp [d,hdal]
  have hflat:(flatK enc k d).toList=(cells.toList.drop o).take (Lx.length * k):=by
   rw [flatK_list henc,← d2,← da1];simp [d,enc,Function.comp_def]
  have hH:HoldsK enc k w b o d:=fun j hj=>by
   refine ⟨?_,frozen_of_row w b (o+j) cells ty k2⟩
   rw [cell_of_row w b (o+j) cells ty (0,0) k2]
   have h1:(flatK enc k d).toList[j]?=some ((flatK enc k d)[j]!):=by rw [Array.getElem?_toList,Array.getElem?_eq_getElem hj,getElem!_pos _ j hj]
   rw [hflat,List.getElem?_take] at h1
   split at h1
   ·simp_all
   ·cases h1
  let cf':A→A→Int:=fun x y=>cf x.1.1 y.1.1
  have hO':SWO (Go.Proofs.ltOf cf'):=⟨fun x=>by simpa [Go.Proofs.ltOf] using hO.irrefl _ x.2.1,fun x y z h1 h2=>by
   simp only [Go.Proofs.ltOf,decide_eq_true_eq] at h1 h2 ⊢;exact hO.trans _ _ _ x.2.1 y.2.1 z.2.1 h1 h2,fun x y z h1 h2=>by
   simp only [Go.Proofs.ltOf,decide_eq_false_iff_not] at h1 h2 ⊢;exact hO.ntrans _ _ _ x.2.1 y.2.1 z.2.1 h1 h2⟩
  have hcmp:Go.Proofs.CmpLays P gf #[] enc k cf' b o d.size w:=fun m os dk hs x y=>by
   have:=hc (g.cut 0 0) (Go.Proofs.sortWorldK enc k w b o m dk os) x.1.1 y.1.1 _ _ (gok_now (B:=B) (w0:=w0) (r.below.trans ?_)) (by simp [Gh.cut]) (by simp [Gh.cut]) x.2.1 y.2.1 (fun b2 j v hv=>?_) x.2.2 y.2.2
   ·simpa using this
   ·have hBb:B≤b:=((r.tok _ _ hti).2 _ _ _ k1).lo
    refine ⟨rfl,rfl,rfl,by simp [Go.Proofs.sortWorldK,grow,Go.Sort.putRowK,Go.Sort.putRow,mapBlock,Go.Sort.ahead],fun i hi=>?_⟩
    have hne:b ≠ i:=by omega
    have hil:i < w.heap.size:=Nat.lt_of_lt_of_le hi r.bsz
    simp only [Go.Proofs.sortWorldK,grow,Go.Sort.putRowK,Go.Sort.putRow,mapBlock,Go.Sort.ahead]
    rw [Array.getElem?_append_left (by simpa using hil),Array.getElem?_modify,if_neg hne]
   ·have hv:g.Φ b2 j=some v:=hv
    have hcell:=r.phi b2 j v hv
    have hb2:=r.phi_lt hv
    by_cases hbb:b2=b
    ·subst hbb
     have hj:j < o:=by
      rcases Nat.lt_or_ge j o with hj | hj
      ·exact hj
      ·rw [k5 j hj] at hv;cases hv
     have hbp:b2 < (Go.Sort.putRow _root_.id (Go.Sort.ahead w m) b2 o (flatK enc k dk)).heap.size:=by simpa [Go.Sort.putRow,mapBlock,Go.Sort.ahead] using hb2
     have e1:(Go.Proofs.sortWorldK enc k w b2 o m dk os).cell? ⟨b2,j,none⟩=(Go.Sort.putRow _root_.id (Go.Sort.ahead w m) b2 o (flatK enc k dk)).cell? ⟨b2,j,none⟩:=(below_grow _ os).cell (p:=⟨b2,j,none⟩) hbp
     rw [e1,cell?_putRow_other _root_.id _ _ _ _ _ (.inr (.inl hj))]
     exact hcell
    ·rw [Go.Proofs.cell?_sortWorldK_other enc k w b o m dk os ⟨b2,j,none⟩ hbb hb2];exact hcell
  have hcall:=Go.Proofs.AnyQ.slices_SortFunc L k aE zE enc henc (fun x v hv=>x.2.2.one' v hv) cf' hO' gf #[] b o c d w eg hcmp hH hbw (by rw [hdsz];unfold vQ at hlim;omega)
  rw [hdsz] at hcall
  refine Calls.mono hcall ?_
  rintro e w' ⟨rfl,d',m,os,hperm,hsort,rfl⟩
  have hd':d'.size=Lx.length:=hperm.1.trans hdsz
  let new:=putCells _root_.id o (flatK enc k d') cells
  have hFs:(flatK enc k d').size=Lx.length * k:=by rw [size_flatK,hd']
  have hw:Go.Proofs.sortWorldK enc k w b o m d' os=grow ((Go.Sort.ahead w m).setRow b new) os:=by
   unfold Go.Proofs.sortWorldK putRowK putRow
   rw [mapBlock_setRow (w:=Go.Sort.ahead w m) (b:=b) _ k2]
  have hnsz:new.size=cells.size:=by simp [new,putCells]
  have hget:∀ j,new[j]?=(cells[j]?).map fun x=>if o≤j∧j < o+Lx.length * k then (flatK enc k d')[j - o]! else x:=fun j=>by
   simp only [new,putCells,Array.getElem?_mapIdx,hFs];rfl
  have hcont:(new.toList.drop o).take (Lx.length * k)=(flatK enc k d').toList:=by
   apply List.ext_getElem?
   intro j
   rw [List.getElem?_take]
   grind
  have hva:VA g ((d'.toList.map (fun x:A=>x.1.1)).map row).flatten (flatK enc k d').toList:=by
   rw [flatK_list henc]
   have hlv:(g.cut 0 0).lv g:=⟨fun _ _ _ e=>e,fun i c e=>by simp [Gh.cut] at e,fun i t e=>by simp [Gh.cut] at e,fun _ _ e=>e,fun _ e=>e⟩
   have:=VA.join (g:=g) (row:=row) (d'.toList.map (fun x:A=>x.1)) (fun p hp=>by
    obtain ⟨x,_,rfl⟩:=List.mem_map.1 hp
    exact VA.monoV hlv _ _ x.2.2)
   simpa [Function.comp_def,enc] using this
  have hrowk:∀ e ∈ (d'.toList.map (fun x:A=>x.1.1)).map row,e.length=k:=fun e he=>by
   obtain ⟨x,_,rfl⟩:=List.mem_map.1 he;exact hk x
  have hpu:(((d'.toList.map (fun x:A=>x.1.1)).map row).flatten).all AV.pure=true:=by
   rw [List.all_eq_true] at hpe ⊢
   intro a ha
   grind
  have r2:=(r.ahead m).storeRow (es':=(d'.toList.map (fun x:A=>x.1.1)).map row) (new:=new) (o:=o) hb hti (by simpa using k1) k2 hnsz (fun j hj=>by
    have hno:¬ (o≤j∧j < o+Lx.length * k):=by omega
    rw [hget];simp only [if_neg hno];cases cells[j]? <;> rfl) (by simp [hd']) hrowk hpu
   (by rw [List.length_map,hcont];exact hva) (by simpa using hLx)
  have r3:=r2.beyond (below_grow _ os)
  rw [hw]
  have hpm:(d'.toList.map (fun x:A=>x.1.1)).Perm Lx:=by
   have h1:=hperm.2.2
   have x1:d'.extract 0 Lx.length=d':=by rw [← hd'];simp
   have x2:d.extract 0 Lx.length=d:=by rw [← hdsz];simp
   rw [x1,x2] at h1
   have:=h1.map (fun x:A=>x.1.1)
   have e2:d.toList.map (fun x:A=>x.1.1)=Lx:=by
    have e3:d.toList.map (fun x:A=>x.1.1)=(da.map (fun x:A=>x.1)).map (·.1):=by simp [d,Function.comp_def]
    exact e3.trans ((congrArg (List.map (·.1)) da1).trans d1)
   rwa [e2] at this
  refine ⟨_,_,_,g,rfl,⟨rfl,_,hpm,?_,rfl⟩,Gh.le.refl g,r3,by simp only [V];exact ⟨#[],rfl,by simp [VL]⟩⟩
  rw [List.pairwise_iff_getElem]
  intro i j hi hj hij
  simp only [List.length_map,Array.length_toList] at hi hj
  have:=hsort i j (Nat.zero_le _) hij (by omega)
  rw [getElem!_pos d' j hj,getElem!_pos d' i hi] at this
  simpa [Go.Proofs.ltOf,cf'] using this
def SortedOf {α:Type} (cf:α→α→Int) (L L':List α):Prop:=L'.Perm L∧L'.Pairwise fun a b=>¬ cf b a < 0
open Classical in
noncomputable def sortF {α:Type} (cf:α→α→Int) (L:List α):Option (List α) :=
 if h:SwoOn L cf∧L.length≤vQ∧∃ L',SortedOf cf L L'∧∀ M,SortedOf cf L M→M=L' then some (Classical.choose h.2.2) else none
theorem sortF_is {α:Type} {cf:α→α→Int} {L R:List α} (h:sortF cf L=some R):SwoOn L cf∧L.length≤vQ∧SortedOf cf L R∧∀ M,SortedOf cf L M→M=R:=by
 unfold sortF at h
 split at h
 ·grind
 ·cases h
theorem spec_sortF {P:Program} {ρ:Ren} (L:Go.Proofs.SlLaysF0.n6 P ρ) {k:Nat} (aE:∀ w,(isAgg (ρ.t 24)).run P w=.ok true w) (zE:∀ w,(Go.sizeOf (ρ.t 24)).run P w=.ok k w)
  {α:Type} {row:α→List AV} (hk:∀ x,(row x).length=k) {Lx R:List α} {cf:α→α→Int} {gf:Nat} (eg:∀ args w,(callFunc gf args).run P w=.ok (.enter gf args) w) (hc:CmpOk P gf row Lx cf) (hF:sortF cf Lx=some R)
  {q:Nat} {h:AH} {B B':List Blk} {T:List Nat} {i:Nat} (hb:B[i]?=some (.row q k (Lx.map row))) (hB:B.set i (.row q k (R.map row))=B') :
  Spec P (ρ.f 6) [.rsl (h.blks.length+i) q k Lx.length,.fn (.func gf) [] []] (h.ext B T) (fun rr hh=>rr=.tup []∧hh=h.ext B' T):=by
 obtain ⟨h1,h2,_,h4⟩:=sortF_is hF
 refine (spec_sort L aE zE hk eg h1 hc (id:=h.blks.length+i) (by rw [xI];exact hb) h2).mono ?_
 rintro rr hh ⟨rfl,L',e1,e2,rfl⟩
 obtain rfl:=h4 L' ⟨e1,e2⟩
 exact ⟨rfl,by rw [ext_put,hB]⟩
open Classical in
noncomputable def sortO {α:Type} (c:α→α→Option Int) (L:List α):Option (List α):=if ∀ x ∈ L,∀ y ∈ L,(c x y).isSome=true then sortF (fun x y=>(c x y).getD 0) L else none
theorem sortO_is {α:Type} {c:α→α→Option Int} {L R:List α} (h:sortO c L=some R):(∀ x ∈ L,∀ y ∈ L,(c x y).isSome=true)∧sortF (fun x y=>(c x y).getD 0) L=some R:=by
 unfold sortO at h
 simp_all
theorem spec_sortO {P:Program} {ρ:Ren} (L:Go.Proofs.SlLaysF0.n6 P ρ) {k:Nat} (aE:∀ w,(isAgg (ρ.t 24)).run P w=.ok true w) (zE:∀ w,(Go.sizeOf (ρ.t 24)).run P w=.ok k w)
  {α:Type} {row:α→List AV} (hk:∀ x,(row x).length=k) (hp:∀ x,(row x).all AV.pure=true) (hng:∀ x,plL (row x)=true) {Lx R:List α} {c:α→α→Option Int} {gf:Nat} (eg:∀ args w,(callFunc gf args).run P w=.ok (.enter gf args) w)
  (hS:∀ x y v,c x y=some v→Spec P gf [.agg (row x),.agg (row y)] h0 (fun r h=>r=.int .i64 v∧h=h0)) (hF:sortO c Lx=some R)
  {q:Nat} {h:AH} {B B':List Blk} {T:List Nat} {i:Nat} (hb:B[i]?=some (.row q k (Lx.map row))) (hB:B.set i (.row q k (R.map row))=B') :
  Spec P (ρ.f 6) [.rsl (h.blks.length+i) q k Lx.length,.fn (.func gf) [] []] (h.ext B T) (fun rr hh=>rr=.tup []∧hh=h.ext B' T):=by
 obtain ⟨h1,h2⟩:=sortO_is hF
 refine spec_sortF L aE zE hk eg (CmpOk.of_spec hp hng fun x y hx hy=>?_) h2 hb hB
 obtain ⟨v,hv⟩:=Option.isSome_iff_exists.1 (h1 x hx y hy)
 simp_all
end Go.Vv
