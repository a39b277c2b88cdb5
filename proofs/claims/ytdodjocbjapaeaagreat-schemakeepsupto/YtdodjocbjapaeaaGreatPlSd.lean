/- Schemas: breaches of leaves and of trees. -/
import Derived.Test.YtdodjocbjapaeaaGreatPlSc
namespace Go.Vv
set_option linter.unusedVariables false
set_option linter.unusedSimpArgs false
open Go
set_option linter.unusedSimpArgs false
set_option linter.unusedVariables false
theorem idxField_is {q:GField→Bool} {del:GField→Option Bool} (L:List GField) (h:∀ x ∈ L,del x=some (q x)) :
  (wZ L del=some (-1)∧∀ x ∈ L,q x=false) ∨ ∃ A x B,L=A++x::B∧q x=true∧(∀ y ∈ A,q y=false)∧wZ L del=some (A.length:Int):=by
 unfold wZ;rcases first_is L 0 h with ⟨e,h1⟩ | ⟨A,x,B,e0,h1,h2,e⟩
 ·left;exact ⟨by rw [e];rfl,h1⟩
 ·right;exact ⟨A,x,B,e0,h1,h2,by rw [e];simp [lp]⟩
def oneB (f:GField):Bool:=((((patB f.path&&((IntKind.wrap .u8 (((BitVec.ofInt (IntKind.bits .u8) f.types &&& ~~~(BitVec.ofInt (IntKind.bits .u8) (30:Int))).toNat:Int)))==(0:Int)))&&(decide (f.min≤f.max)))&&(decide (f.items ≥ (0:Int))))&&(decide (f.items≤(1000:Int))))
def schB (L:List GField):Bool:=decide ((L.length:Int)≤64)&&!(L.any fun f=>!oneB f)
def Paths (L:List GField):Prop:=∀ f ∈ L,f.path.length≤maxLen
theorem schemaMay_is {L:List GField} (h:Paths L):schemaMay L=some (schB L):=by
 unfold schemaMay;have hc:vE L (fun x0=>schemaMayC1 x0)=some (L.any fun f=>!oneB f):=by
  unfold vE;rcases idxField_is (q:=fun f=>!oneB f) (del:=fun x0=>schemaMayC1 x0) L (fun f hf=>by unfold schemaMayC1 schemaXmayOne;rw [pathsMayPattern_is (h f hf)];rfl) with ⟨e,h1⟩ | ⟨A,x,B,e0,h1,h2,e⟩
  ·rw [e,Option.bind_some];have:(L.any fun f=>!oneB f)=false:=List.any_eq_false.2 fun x hx=>by rw [h1 x hx];simp
   rw [this];rfl
  ·rw [e,Option.bind_some];have:(L.any fun f=>!oneB f)=true:=List.any_eq_true.2 ⟨x,by rw [e0];simp,h1⟩;rw [this];simp
 unfold schB;cases hd:decide ((L.length:Int)≤64)
 ·simp
 ·simp [hc]
def fieldOf (L:List GField) (p:List zY):Option GField:=L.find? fun f=>matchB f.path p
def kindOut (f:GField) (x:GLeaf):Bool:=((IntKind.wrap .u8 (((BitVec.ofInt (IntKind.bits .u8) (Int.fdiv f.types (2 ^ (min x.typ.toNat (IntKind.bits .u8)))) &&& BitVec.ofInt (IntKind.bits .u8) (1:Int)).toNat:Int)))==(0:Int))
def fitsB (f:GField) (x:GLeaf):Bool:=if x.typ=1 then decide (x.n ≥ f.min)&&decide (x.n≤f.max) else if x.typ=2 then true else decide ((x.items.length:Int)≤f.items)
def brB (L:List GField) (p:List zY) (x:GLeaf):Int :=
 match fieldOf L p with
 | none=>7
 | some f=>if kindOut f x=true then 15 else if fitsB f x=true then 0 else 14
theorem field_is {L:List GField} (h:Paths L) (p:List zY):schemaXfield L p=some (match fieldOf L p with | some f=>(f,true) | none=>(GField.mk ([]:List zY) (0:Int) (0:Int) (0:Int) (0:Int),false)):=by
 unfold schemaXfield;rcases idxField_is (q:=fun f=>matchB f.path p) (del:=fun x0=>schemaXfieldC1 x0 p) L (fun f hf=>by unfold schemaXfieldC1;rw [pathsMatch_is (h f hf)];rfl) with ⟨e,h1⟩ | ⟨A,x,B,rfl,h1,h2,e⟩
 ·rw [e,Option.bind_some];have:fieldOf L p=none:=List.find?_eq_none.2 fun x hx=>by rw [h1 x hx];simp
  rw [this];rfl
 ·rw [e,Option.bind_some];have:fieldOf (A++x::B) p=some x:=by
   unfold fieldOf;rw [List.find?_append,List.find?_eq_none.2 (fun y hy=>by rw [h2 y hy];simp),List.find?_cons,h1];rfl
  rw [this,if_neg (by simp),yI (x:=x) (by simp),Option.bind_some]
theorem breach_is {L:List GField} (h:Paths L) (p:List zY) {x:GLeaf} (ht:1≤x.typ∧x.typ≤4):ql L p x=some (brB L p x):=by
 unfold ql brB;rw [field_is h,Option.bind_some];cases fieldOf L p with
 | none=>rfl
 | some f =>
  simp only [Bool.not_true,Bool.false_eq_true,if_false];rw [yc (by omega)];show (if kindOut f x=true then _ else _)=_;split
  ·rfl
  ·unfold fitsB schemaXbreachC1 schemaXbreachC2 schemaXbreachC3;split
   ·simp only [Option.bind_some];cases (decide (x.n ≥ f.min)&&decide (x.n≤f.max)) <;> rfl
   ·split
    ·rfl
    ·split
     ·simp only [Option.bind_some];cases decide ((x.items.length:Int)≤f.items) <;> rfl
     ·split
      ·simp only [Option.bind_some];cases decide ((x.items.length:Int)≤f.items) <;> rfl
      ·omega
def badR (L:List GField) (r:GRow):Bool:=brB L r.path r.leaf != 0
theorem check_is {L:List GField} (h:Paths L) (hm:schB L=true) {t:List GNode} (hs:Small t) (ht:treeB 0 t=true) :
  qI L t=some (((ya [] t).filter (badR L)).map fun r=>GBreach.mk r.path r.leaf.typ (brB L r.path r.leaf),0):=by
 unfold qI;have hb:=hs.2;have hl:=rows_len (GNode.deps t) t [] (Nat.le_refl _);rw [schemaMay_is h,treeMay_is hs,pathsRows_is hs,hm,ht];simp only [Option.bind_some,Bool.not_true,beq_self_eq_true,if_true,Bool.or_self,Bool.false_eq_true,if_false];rw [loop_keep (badR L) (fun r=>GBreach.mk r.path r.leaf.typ (brB L r.path r.leaf)) (ya [] t) 0 [] (vp (by simp;omega))]
 ·simp only [vX,List.nil_append]
 ·intro i x s hx hsl;rw [breach_is h _ (leaf_typ (rows_ok t 0 [] hs ht rfl rfl x hx).leaf),Option.bind_some];unfold badR;cases hbr:(brB L x.path x.leaf != 0)
  ·simp
  ·simp only [if_true];rw [yc (by simpa using hsl)]
def edF (r:GRow):GEdit:=GEdit.mk r.path r.leaf.typ false true zLf r.leaf
theorem fit_is {L:List GField} (h:Paths L) (hm:schB L=true) {t:List GNode} (hf:Fine t) :
  ∃ u,schemaFit L t=some (u,0)∧treeB 0 u=true∧∀ r,r ∈ ya [] u ↔ r ∈ ya [] t∧badR L r=false:=by
 have hs:=hf.small;have ht:=hf.tree;have hl:=hf.len;have hok:=fun r hr=>rows_ok t 0 [] hs ht rfl rfl r hr;have hloop:yl (ρ:=List GNode×Int) (fun (n1:Nat) (x1:GRow) (s1:(List GEdit))=>(((ql L x1.path x1.leaf).bind fun v13=>(if (v13==(0:Int))=true then (wR ((s1).length+(([(GEdit.mk x1.path x1.leaf.typ false true zLf x1.leaf)]:List GEdit)).length≤vz) (some (.nxt (s1++([(GEdit.mk x1.path x1.leaf.typ false true zLf x1.leaf)]:List GEdit))))) else some (.nxt s1))):Option (Out _ (List GEdit)))) (ya [] t) 0 ([]:List GEdit)=some (.inr (((ya [] t).filter fun r=>!badR L r).map edF)):=by
  rw [loop_keep (fun r=>!badR L r) edF (ya [] t) 0 [] (vp (by simp;omega))]
  ·simp
  ·intro i x s hx hsl;rw [breach_is h _ (leaf_typ (hok x hx).leaf),Option.bind_some];unfold badR bne;cases hbr:(brB L x.path x.leaf==0)
   ·simp
   ·simp only [if_true,Bool.not_true,Bool.not_false];rw [yc (by simpa using hsl)];rfl
 have hes:∀ e ∈ ((ya [] t).filter fun r=>!badR L r).map edF,EOk e∧EFits [] e:=fun e he=>by
  obtain ⟨r,hr,rfl⟩:=List.mem_map.1 he;have hr:=(List.mem_filter.1 hr).1;have ho:=hok r hr;refine ⟨⟨ho.path,leaf_typ ho.leaf,.inr rfl,fun h=>(by cases h),fun h=>(by cases h),fun _=>rfl,fun _=>⟨ho.leaf,ho.ok,rfl⟩,fun h=>(by cases h)⟩,⟨fun h=>(by cases h),fun _ r hr=>by simp [ya] at hr⟩⟩
 have hpw:(((ya [] t).filter fun r=>!badR L r).map edF).Pairwise eLt:=by
  rw [List.pairwise_map];exact (rows_sorted ht []).filter _
 have hlen:(((ya [] t).filter fun r=>!badR L r).map edF).length≤863533:=by
  rw [List.length_map];exact Nat.le_trans (List.length_filter_le _ _) hl
 obtain ⟨u,e1,e2,e3⟩:=patch_is small_nil (tree_nil 0) (by have:(ya [] ([]:List GNode)).length=0:=rfl;omega) hes hpw;refine ⟨u,?_,e2,fun r=>?_⟩
 ·unfold schemaFit;rw [schemaMay_is h,treeMay_is hs,pathsRows_is hs,hm,ht];simp only [Option.bind_some,Bool.not_true,beq_self_eq_true,if_true,Bool.or_self,Bool.false_eq_true,if_false];rw [hloop,vX,e1,Option.bind_some]
 ·rw [e3];constructor
  ·rintro (h | ⟨e,he,_,rfl⟩)
   ·have:=h.1;simp [ya] at this
   ·obtain ⟨q,hq,rfl⟩:=List.mem_map.1 he;obtain ⟨h1,h2⟩:=List.mem_filter.1 hq;exact ⟨h1,by simpa [edF] using h2⟩
  ·rintro ⟨h1,h2⟩
   exact .inr ⟨edF r,List.mem_map.2 ⟨r,List.mem_filter.2 ⟨h1,by rw [h2];rfl⟩,rfl⟩,rfl,rfl⟩
end Go.Vv
namespace Go.Vv
open Go
set_option linter.unusedSimpArgs false
set_option linter.unusedVariables false
theorem leaf_behind {u:List GNode} {p:List zY} {k:Int} {l:GLeaf} (hu:treeB 0 u=true) (hs:Small u) (hp:p ≠ []) (hk:1≤k∧k≤4) (hl:l.typ=k) (hr:GRow.mk p l ∈ ya [] u):qq u p k=some (l,true):=by
 rcases treeLeaf_is hu (fun r hr=>(rows_ok u 0 [] hs hu rfl rfl r hr).ok) hp hk with ⟨l',h1,h2,h3⟩ | ⟨h1,_⟩
 ·have e:=sorted_key (key:=qz) (rows_sorted hu []) h1 hr (by simp only [qz];rw [h2,hl]);injection e with _ e;subst e;exact h3
 ·exact absurd (by simp only [qz];rw [hl]) (h1 _ hr)
theorem allows_is {L:List GField} (h:Paths L) (hm:schB L=true) {t:List GNode} {e:GEvent} (hf:Fine t) (he:qR e=true) (hw:GEvent.wf e) :
  ∃ u l b,qj L t e=some (brB L e.op.path (vj l e))∧ref07Apply t e=some (u,0)∧Small u∧treeB 0 u=true∧qq t e.op.path (qT e.op.kind)=some (l,b) ∧
   ∀ r,r ∈ ya [] u ↔ (r ∈ ya [] t∧qz r ≠ (e.op.path,qT e.op.kind)) ∨ r=⟨e.op.path,vj l e⟩:=by
 obtain ⟨u,l,b,h1,h2,h3,h4,h5,h6,h7,h8,h9⟩:=apply_is hf he hw;have d:=evOk he;have hk:=type_range d.kind;have hT:(vj l e).typ=qT e.op.kind:=by rw [applyP_typ,h6]
 have hb:=leaf_behind h4 h3 (pathB_parts d.path).1 hk hT ((h9 _).2 (.inr rfl));refine ⟨u,l,b,?_,h2,h3,h4,h5,h9⟩;unfold qj;rw [schemaMay_is h,treeMay_is hf.small,opMayEvent_is,hm,hf.tree,he];simp only [Option.bind_some,Bool.not_true,beq_self_eq_true,if_true,Bool.or_self,Bool.false_eq_true,if_false];rw [h1,Option.bind_some,opType_is,Option.bind_some,hb,Option.bind_some,breach_is h _ (by rw [hT];exact hk),Option.bind_some]
theorem ref43Great_tot (L:List GField):∃ b,ref43Great L=some b:=by
 unfold ref43Great
 refine lp_totL (fun i x s _=>?_) fun _=>⟨_,rfl⟩
 split
 ·exact ⟨_,rfl⟩
 ·exact lp_totL (fun j y s2 _=>by split <;> exact ⟨_,rfl⟩) fun _=>⟨_,rfl⟩
theorem great43_tot {L:List GField} {t:List GNode} (h:Small t) (o:GOp):∃ b,law43Xgreat L t o=some b:=by
 unfold law43Xgreat
 obtain ⟨a,ha⟩:=ref43Great_tot L;obtain ⟨b,hb⟩:=ref07Great_tot h;rw [ha,Option.bind_some,hb];cases a <;> exact ⟨_,rfl⟩
def tab (x:GLeaf):List GNode:=[⟨[97],[],[⟨[98],[x],[]⟩]⟩]
def fab:List GField:=[GField.mk ([([97]:zY),([42]:zY)]:List zY) (2:Int) (0:Int) (10:Int) (0:Int)]
def leaf9:GLeaf:=GLeaf.mk (1:Int) (9:Int) (0:Int) (GDot.mk (GActor.mk (0:Int) (0:Int)) (0:Int)) ([]:zY) ([]:List GItem) ([]:List GDot)
def evA:GEvent:=GEvent.mk (GDot.mk (GActor.mk (0:Int) (1:Int)) (1:Int)) (1:Int) (GOp.mk (1:Int) ([([97]:zY),([98]:zY)]:List zY) (2:Int) ([]:zY) ([]:List GDot))
theorem tab_rows (x:GLeaf):ya [] (tab x)=[⟨[[97],[98]],x⟩]:=by simp [tab,ya,rowsN]
theorem tab_tree {x:GLeaf} (h:leafB x=true):treeB 0 (tab x)=true:=by
 simp [treeB,tab,qu,nodeB,upB,leavesB,allI,h];decide
theorem tab_fine {x:GLeaf} (h:leafB x=true) (hw:GLeaf.wf x) (hb:x.bk≤1000):Fine (tab x):=by
 have b1:GNode.bks (tab x)≤2000:=by simp only [tab,GNode.bks,GNode.bk,List.map_cons,List.map_nil,List.sum_cons,List.sum_nil,List.length_cons,List.length_nil];omega
 refine fine_of ⟨?_,by omega⟩ (tab_tree h) (by omega);have m1:1≤maxLen:=by decide
 simp only [tab,GNode.wfs,GNode.wf];refine ⟨⟨m1,⟨Nat.zero_le _,fun y hy=>by cases hy⟩,⟨m1,⟨m1,fun y hy=>?_⟩,trivial⟩,trivial⟩,trivial⟩;rw [List.mem_singleton.1 hy];exact hw
theorem fab_paths:Paths fab:=fun f hf=>by
 rw [List.mem_singleton.1 hf];show 2≤maxLen;decide
theorem fab_may:schB fab=true:=by decide
theorem evA_may:qR evA=true:=by decide
theorem ik {k:IntKind} {n:Int} (h:decide (k.min≤n∧n≤k.max)=true):InK k n:=by unfold InK;exact of_decide_eq_true h
theorem evA_wf:GEvent.wf evA:=by
 have m1:1≤maxLen:=by decide
 refine ⟨⟨⟨ik rfl,ik rfl⟩,ik rfl⟩,ik rfl,⟨ik rfl,⟨(by decide:2≤maxLen),fun y hy=>?_⟩,ik rfl,Nat.zero_le _,⟨Nat.zero_le _,fun y hy=>by cases hy⟩⟩⟩;simp [evA] at hy;rcases hy with rfl | rfl <;> exact m1
theorem leaf9_wf:GLeaf.wf leaf9:=⟨ik rfl,ik rfl,ik rfl,⟨⟨ik rfl,ik rfl⟩,ik rfl⟩,Nat.zero_le _,⟨Nat.zero_le _,fun y hy=>by cases hy⟩,⟨Nat.zero_le _,fun y hy=>by cases hy⟩⟩
theorem known43:law43Xknown=some true:=by
 have f3:=tab_fine (x:=newLf 3) (newLf_may (by omega)) (newLf_wf (by omega)) (by simp [newLf,GLeaf.bk,GDot.bk,GActor.bk]);have f9:=tab_fine (x:=leaf9) (by decide) leaf9_wf (by simp [leaf9,GLeaf.bk,GDot.bk,GActor.bk]);have hc:=check_is fab_paths fab_may f3.small f3.tree;obtain ⟨u,l,b,a1,_,_,_,a5,_⟩:=allows_is fab_paths fab_may (t:=tab leaf9) (e:=evA) f9 evA_may evA_wf;have hl:=leaf_behind (p:=[[97],[98]]) (k:=1) (l:=leaf9) f9.tree f9.small (by simp) (by omega) rfl (by rw [tab_rows];simp);have a5:qq (tab leaf9) [[97],[98]] 1=some (l,b):=a5;rw [hl] at a5;injection a5 with a5;injection a5 with a5 _;subst a5;have b14:brB fab evA.op.path (vj leaf9 evA)=14:=by decide
 rw [b14] at a1;rw [tab_rows] at hc;have b15:brB fab [[97],[98]] (newLf 3)=15:=by decide
 have hc:qI fab (tab (newLf 3))=some ([GBreach.mk [[97],[98]] 3 15],0):=by
  rw [hc,List.filter_cons_of_pos (by unfold badR;rw [b15];rfl)];simp only [List.filter_nil,List.map_cons,List.map_nil,b15];rfl
 unfold law43Xknown law43XknownC1;rw [Option.bind_some];show ((qI fab (tab (newLf 3))).bind _)=_;rw [hc,Option.bind_some,Option.bind_some];show ((qj fab (tab leaf9) evA).bind _)=_;rw [a1,Option.bind_some];rfl
theorem law43SchemaKeeps_is {L:List GField} {t:List GNode} {e:GEvent} (hp:Paths L) (hs:Small t) (hb:GNode.bks t≤1048576) (hw:GEvent.wf e):law43SchemaKeeps L t e=some true:=by
 obtain ⟨g,hg⟩:=great43_tot (L:=L) hs e.op;unfold law43SchemaKeeps;rw [hg,Option.bind_some,schemaMay_is hp,ref07May_is hs];cases g with
 | true=>simp [known43]
 | false =>
  cases hm:schB L with
  | false=>simp [known43]
  | true =>
   cases ht:treeB 0 t with
   | false=>simp [known43]
   | true =>
    have hf:=fine_of hs ht hb;obtain ⟨u,u1,u2,u3⟩:=fit_is hp hm hf;have fu:=fine_sub hf u2 fun r hr=>((u3 r).1 hr).1;obtain ⟨u',v1,v2,v3⟩:=fit_is hp hm fu;have hnb:∀ r ∈ ya [] u,badR L r=false:=fun r hr=>((u3 r).1 hr).2;obtain rfl:u'=u:=rows_ext v2 u2 fun r=>by
     rw [v3];exact ⟨fun h=>h.1,fun h=>⟨h,hnb r h⟩⟩
    have hc:=check_is hp hm fu.small u2;have hnil:(ya [] u').filter (badR L)=[]:=List.filter_eq_nil_iff.2 fun r hr=>by rw [hnb r hr];simp
    rw [hnil] at hc;simp only [Option.bind_some,Bool.not_true,beq_self_eq_true,if_true,Bool.or_self,Bool.false_eq_true,if_false];rw [u1,Option.bind_some];simp only [];rw [hc,Option.bind_some,v1,Option.bind_some];simp only [List.map_nil,List.length_nil,Int.natCast_zero,bne_self_eq_false,Bool.or_self,beq_self_eq_true,if_true];rw [ref07Same_refl,Option.bind_some];simp only [Bool.not_true,Bool.false_eq_true,if_false];cases he:qR e with
    | false =>
     have:qj L u' e=some 2:=by
      unfold qj;rw [schemaMay_is hp,treeMay_is fu.small,opMayEvent_is,hm,u2,he];rfl
     rw [this,Option.bind_some];simp [known43]
    | true =>
     obtain ⟨w,l,b,a1,a2,a3,a4,a5,a6⟩:=allows_is hp hm fu he hw;rw [a1,Option.bind_some];cases hbr:(brB L e.op.path (vj l e) != 0) with
     | true=>simp [known43]
     | false =>
      simp only [Bool.false_eq_true,if_false];rw [a2,Option.bind_some];simp only [];have hnil2:(ya [] w).filter (badR L)=[]:=List.filter_eq_nil_iff.2 fun r hr=>by
       rcases (a6 r).1 hr with h | h
       ·rw [hnb r h.1];simp
       ·rw [h];unfold badR;rw [hbr];simp
      rw [check_is hp hm a3 a4,hnil2,Option.bind_some];simp [known43]
theorem law43SchemaKeeps_top (l:List GField) (t:List GNode) (e:GEvent) (h1:l.length≤maxLen∧∀ y ∈ l,GField.wf y) (h2:t.length≤maxLen∧∀ y ∈ t,GNode.wf y) (h3:GEvent.wf e) (hb:((l.map GField.bk).sum+1)+((t.map GNode.bk).sum+1)+GEvent.bk e≤1048576):law43SchemaKeeps l t e=some true:=by
 refine law43SchemaKeeps_is (fun f hf=>(h1.2 f hf).1.1) (small_of h2 (by omega)) ?_ h3;rw [GNode.bks_eq];omega
end Go.Vv
