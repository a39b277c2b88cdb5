/- The program's put, and the document's Lay, are layer 31's lay. -/
import Derived.Test.YtdkfnnpdeenhnaaGreatPlS0
namespace Go.Vv
open Go
noncomputable def putX (n:Nat) (p:List ze) (l2:GLeaf) (y7:GNode) (v6:List GNode) (i:Int):Option (List GNode) :=
 (if (decide (((p).length:Int) > (1:Int)))=true then ((slc p (1:Int) ((p).length:Int)).bind λm10=>((treeXputN n y7.subs m10 l2).bind λv11=>((yd v6 i).bind λy12=>some (v6.set i.toNat (GNode.mk y7.name y7.leaves v11))))) else ((xJ y7.leaves).bind λv13=>((yw v13 l2.typ (λx0 x1=>treeXputC1 x0 x1)).bind λv14=>(if (!v14.2)=true then ((insO v13 v14.1 ([l2]:List GLeaf)).bind λv16=>((yd v16 v14.1).bind λy17=>((yd v6 i).bind λy18=>some (v6.set i.toNat (GNode.mk y7.name (v16.set v14.1.toNat l2) y7.subs))))) else ((yd v13 v14.1).bind λy19=>((yd v6 i).bind λy20=>some (v6.set i.toNat (GNode.mk y7.name (v13.set v14.1.toNat l2) y7.subs))))))))
end Go.Vv
namespace Go.Vv
open Go
end Go.Vv
namespace Go.Vv
open Go
noncomputable def l7A (t0:List GNode) (path1:List ze):(List GNode)×Int->Option (Out (List GNode) ((List GNode)×Int)):=(λ(s1:(List GNode)×Int)=>((zB (((decide (s1.2 < ((t0).length:Int)))==true)=true->0<=s1.2/\s1.2 < ((t0).length:Int)) ((zB (((decide (s1.2 < ((t0).length:Int)))==true)=true->0<=(0:Int)/\(0:Int) < ((path1).length:Int)) ((if ((decide (s1.2 < ((t0).length:Int)))&&(Op.bytesLess (((t0).getD s1.2.toNat default).name) ((path1).getD (0:Int).toNat default)))=true then ((yd t0 s1.2).bind λy22=>(zB ((s1.1).length+(([y22]:List GNode)).length<=yg) (some (.nxt ((s1.1++([y22]:List GNode)),(IntKind.wrap .i64 (s1.2+(1:Int)))))))) else some (.brk (s1.1,s1.2))))))):Option (Out _ ((List GNode)×Int))))
noncomputable def l7B (ls:List GLeaf) (l2:GLeaf):(List GLeaf)×Int->Option (Out (List GNode) ((List GLeaf)×Int)):=(λ(sd62:(List GLeaf)×Int)=>((zB (((decide (sd62.2 < ((ls).length:Int)))==true)=true->0<=sd62.2/\sd62.2 < ((ls).length:Int)) ((if ((decide (sd62.2 < ((ls).length:Int)))&&(decide (((ls).getD sd62.2.toNat default).typ < l2.typ)))=true then ((yd ls sd62.2).bind λy66=>(zB ((sd62.1).length+(([y66]:List GLeaf)).length<=yg) (some (.nxt ((sd62.1++([y66]:List GLeaf)),(IntKind.wrap .i64 (sd62.2+(1:Int)))))))) else some (.brk (sd62.1,sd62.2))))):Option (Out _ ((List GLeaf)×Int))))
end Go.Vv
namespace Go.Vv
open Go
noncomputable def l7R (n:Nat) (t0:List GNode) (path1:List ze) (l2:GLeaf) (A:List GNode) (sd30:Int×ze×(List GLeaf)×(List GNode)):Option (List GNode):=(if (decide (((path1).length:Int) > (1:Int)))=true then ((slc path1 (1:Int) ((path1).length:Int)).bind λm38=>((ref07LayN n sd30.2.2.2 m38 l2).bind λv39=>(zB ((A).length+(([(GNode.mk sd30.2.1 sd30.2.2.1 v39)]:List GNode)).length<=yg) (((slc t0 sd30.1 ((t0).length:Int)).bind λm41=>(zB (((A++([(GNode.mk sd30.2.1 sd30.2.2.1 v39)]:List GNode))).length+(m41).length<=yg) (some ((A++([(GNode.mk sd30.2.1 sd30.2.2.1 v39)]:List GNode))++m41)))))))) else (lp (yb (l7B sd30.2.2.1 l2) (([]:List GLeaf),(0:Int))) λ(sd62:(List GLeaf)×Int)=>(zB (((decide (sd62.2 < ((sd30.2.2.1).length:Int)))==true)=true->0<=sd62.2/\sd62.2 < ((sd30.2.2.1).length:Int)) ((if ((decide (sd62.2 < ((sd30.2.2.1).length:Int)))&&(((sd30.2.2.1).getD sd62.2.toNat default).typ==l2.typ))=true then (zB ((sd62.1).length+(([l2]:List GLeaf)).length<=yg) (((slc sd30.2.2.1 (IntKind.wrap .i64 (sd62.2+(1:Int))) ((sd30.2.2.1).length:Int)).bind λm72=>(zB (((sd62.1++([l2]:List GLeaf))).length+(m72).length<=yg) ((zB ((A).length+(([(GNode.mk sd30.2.1 ((sd62.1++([l2]:List GLeaf))++m72) sd30.2.2.2)]:List GNode)).length<=yg) (((slc t0 sd30.1 ((t0).length:Int)).bind λm75=>(zB (((A++([(GNode.mk sd30.2.1 ((sd62.1++([l2]:List GLeaf))++m72) sd30.2.2.2)]:List GNode))).length+(m75).length<=yg) (some ((A++([(GNode.mk sd30.2.1 ((sd62.1++([l2]:List GLeaf))++m72) sd30.2.2.2)]:List GNode))++m75))))))))))) else (zB ((sd62.1).length+(([l2]:List GLeaf)).length<=yg) (((slc sd30.2.2.1 sd62.2 ((sd30.2.2.1).length:Int)).bind λm78=>(zB (((sd62.1++([l2]:List GLeaf))).length+(m78).length<=yg) ((zB ((A).length+(([(GNode.mk sd30.2.1 ((sd62.1++([l2]:List GLeaf))++m78) sd30.2.2.2)]:List GNode)).length<=yg) (((slc t0 sd30.1 ((t0).length:Int)).bind λm81=>(zB (((A++([(GNode.mk sd30.2.1 ((sd62.1++([l2]:List GLeaf))++m78) sd30.2.2.2)]:List GNode))).length+(m81).length<=yg) (some ((A++([(GNode.mk sd30.2.1 ((sd62.1++([l2]:List GLeaf))++m78) sd30.2.2.2)]:List GNode))++m81))))))))))))))))
end Go.Vv
namespace Go.Vv
open Go
end Go.Vv
namespace Go.Vv
open Go
structure EvOk (e:GEvent):Prop where
 dot:wh e.dot=true
 time:vU e.time=true
 kind:1<=e.op.kind/\e.op.kind<=5
 path:vE e.op.path=true
 text:e.op.text.length<=40
 dots:e.op.kind=4->e.op.dots.all wh=true
 dlen:e.op.dots.length<=64
end Go.Vv
namespace Go.Vv
open Go
def wo (k:Int):GLeaf:=GLeaf.mk k (0:Int) (0:Int) (GDot.mk (GActor.mk (0:Int) (0:Int)) (0:Int)) ([]:ze) ([]:List GItem) ([]:List GDot)
theorem leafNew_is {k:Int} (h:1<=k/\k<=4):wu k=some (wo k):=by
 unfold wu;rw [if_neg (by simp;omega)];rfl
theorem refNew_is {k:Int} (h:1<=k/\k<=4):ref05New k=some (wo k):=by
 unfold ref05New;rw [if_pos (by simp;omega)];rfl
theorem newLf_may {k:Int} (h:1<=k/\k<=4):leafB (wo k)=true:=by
 have:k=1 \/ k=2 \/ k=3 \/ k=4:=by omega
 rcases this with rfl | rfl | rfl | rfl <;> decide
theorem newLf_ok (k:Int):LeafOk (wo k):=⟨by simp [wo],by simp [wo],Int.le_refl _⟩
theorem node7_is (t:List GNode) (s:ze):xE t s=some (match nodeOf t s with | some x=>(x,true) | none=>(node0,false)):=by
 unfold xE;have key:∀(L:List GNode) (i:Nat),zj (ρ:=GNode×Bool) (λ(c:Nat) (a:GNode) (b:Unit)=>((if (a.name==s)=true then some (.ret (a,true)) else some (.nxt ())):Option (Out _ Unit))) L i ()=some (match nodeOf L s with | some x=>.inl (x,true) | none=>.inr ()):=by
  intro L
  induction L with
  | nil=>intro i;rfl
  | cons y r ih =>
   intro i;rw [zj];unfold nodeOf;rw [List.find?_cons];cases h:(y.name==s)
   ·simp only [Bool.false_eq_true,if_false];exact ih (i+1)
   ·simp only [if_true]
 rw [key];cases nodeOf t s <;> rfl
noncomputable def l7F (v1:GLeaf):Nat->ze->(List GNode)×ze×(List GLeaf)×(List GNode)->Option (Out (GLeaf×Bool) ((List GNode)×ze×(List GLeaf)×(List GNode))):=(λ(n1:Nat) (x1:ze) (s1:(List GNode)×ze×(List GLeaf)×(List GNode))=>(((xE s1.1 x1).bind λv32=>(if (!v32.2)=true then some (.ret (v1,false)) else some (.nxt (v32.1.subs,v32.1.name,v32.1.leaves,v32.1.subs))))))
noncomputable def l7S (ls:List GLeaf) (kind2:Int):Int->Option (Out (GLeaf×Bool) Int):=(λ(s2:Int)=>((if (((decide (s2 < ((ls).length:Int)))&&(decide (kind2 >= (1:Int))))&&(decide (kind2<=(4:Int))))=true then ((yd ls s2).bind λy63=>(if (y63.typ==kind2)=true then ((yd ls s2).bind λy65=>some (.ret (y65,true))) else some (.nxt (IntKind.wrap .i64 (s2+(1:Int)))))) else some (.brk s2))))
theorem leaf7_eq (t0:List GNode) (b:List ze) (a:Int):wd t0 b a=((ref05New a).bind λc=>(lp (zj (l7F c) b 0 (t0,([]:ze),([]:List GLeaf),([]:List GNode))) λ(d:(List GNode)×ze×(List GLeaf)×(List GNode))=>(lp (yb (l7S d.2.2.1 a) (0:Int)) λ(e:Int)=>some (c,false)))):=rfl
theorem l7_walk (v:GLeaf):∀(p:List ze) (n:Nat) (t:List GNode) (z:ze×(List GLeaf)×(List GNode)),p ≠ [] ->
  zj (l7F v) p n (t,z)=some (match xF t p with | some x=>.inr (x.subs,x.name,x.leaves,x.subs) | none=>.inl (v,false))
 | [],_,_,_,h=>absurd rfl h
 | [s],n,t,z,_=>by
  simp only [xF,zj,l7F,node7_is,Option.bind_some];cases nodeOf t s with
  | none=>rfl
  | some x=>rfl
 | s::c::q,n,t,z,_=>by
  have a:=λu z=>l7_walk v (c::q) (n+1) u z (by simp);simp only [xF];cases e:nodeOf t s with
  | none=>rw [zj];simp only [l7F,node7_is,e,Option.bind_some];rfl
  | some x =>
   have b:l7F v n s (t,z)=some (.nxt (x.subs,x.name,x.leaves,x.subs)):=by simp only [l7F,node7_is,e,Option.bind_some];rfl
   rw [zj,b,Option.bind_some];exact a x.subs (x.name,x.leaves,x.subs)
theorem l7_scan {ls:List GLeaf} {k:Int} (d:1<=k/\k<=4) (c:ls.length<=16777216):∀(m i:Nat),ls.length - i=m->i<=ls.length->yb (l7S ls k) (i:Int)=some (match (ls.drop i).find? (λy=>y.typ==k) with | some y=>.inl (y,true) | none=>.inr (ls.length:Int)):=by
 intro m
 induction m with
 | zero =>
  intro i h hi;obtain rfl:i=ls.length:=by omega
  rw [x5];unfold l7S;simp
 | succ m ih =>
  intro i h hi;have a:i < ls.length:=by omega
  rw [x5];have hd:ls.drop i=ls[i]::ls.drop (i+1):=List.drop_eq_getElem_cons a;have b:((decide ((i:Int) < (ls.length:Int))&&decide (k >= 1))&&decide (k<=4))=true:=by simp;omega
  rw [hd,List.find?_cons];cases e:(ls[i].typ==k)
  ·have:l7S ls k (i:Int)=some (.nxt ((i+1:Nat):Int)):=by
    unfold l7S;rw [if_pos b,vS a,Option.bind_some,e];simp only [Bool.false_eq_true,if_false];rw [w64n (by omega)];rfl
   rw [this];exact ih (i+1) (by omega) (by omega)
  ·have:l7S ls k (i:Int)=some (.ret (ls[i],true)):=by
    unfold l7S;rw [if_pos b,vS a,Option.bind_some,e];simp
   rw [this]
theorem leaves_len:∀{p:List ze} {t:List GNode} {d:Nat} {x:GNode},treeB d t=true->p ≠ []->xF t p=some x->x.leaves.length<=(zH [] t).length
 | [],_,_,_,_,h,_=>absurd rfl h
 | [s],t,d,x,h,_,e=>by
  have b:x ∈ t:=List.mem_of_find?_eq_some (show nodeOf t s=some x from e);have:=mem_rows_len b;omega
 | s::c::q,t,d,x,h,_,e=>by
  simp only [xF] at e;cases hn:nodeOf t s with
  | none=>rw [hn] at e;cases e
  | some y =>
   rw [hn,Option.bind_some] at e;have a:y ∈ t:=List.mem_of_find?_eq_some (show nodeOf t s=some y from hn);have f:=leaves_len (nodeB_parts ((wG h).2 y a)).2.1 (by simp) e;have g:=mem_rows_len a;omega
theorem leaf7_is {t:List GNode} (h:treeB 0 t=true) (m:(zH [] t).length<=16777215) {p:List ze} (f:p ≠ []) {k:Int} (i:1<=k/\k<=4) :
  (∃l,GRow.mk p l ∈ zH [] t/\l.typ=k/\wd t p k=some (l,true)) \/ ((∀r ∈ zH [] t,rkey r ≠ (p,k))/\wd t p k=some (wo k,false)):=by
 have a:=λl=>row_at p t 0 [] l f h;simp only [List.nil_append] at a;have c:(∀l,¬ (GRow.mk p l ∈ zH [] t/\l.typ=k))->∀r ∈ zH [] t,rkey r ≠ (p,k):=λn r j e=>by
  have:=row_mk e;simp only [List.nil_append] at this;exact n r.leaf ⟨by rw [<- this];exact j,congrArg Prod.snd e⟩
 rw [leaf7_eq,refNew_is i,Option.bind_some,l7_walk _ p 0 t _ f];cases e:xF t p with
 | none =>
  right;refine ⟨c λl hh=>?_,rfl⟩;obtain ⟨x,b,_⟩:=(a l).1 hh.1;rw [e] at b;cases b
 | some x =>
  simp only [lp];have g:x.leaves.length<=16777215:=by
   exact Nat.le_trans (leaves_len h f e) m
  have hs:=l7_scan i (by omega:x.leaves.length<=16777216) x.leaves.length 0 (by omega) (Nat.zero_le _);simp only [List.drop_zero,Int.natCast_zero] at hs;have d:yb (l7S x.leaves k) (0:Int)=_:=hs;rw [d];cases hf:x.leaves.find? (λy=>y.typ==k) with
  | some y =>
   left;refine ⟨y,(a y).2 ⟨x,e,List.mem_of_find?_eq_some hf⟩,?_,rfl⟩;have:=List.find?_some hf;simpa using this
  | none =>
   right;refine ⟨c λl hh=>?_,rfl⟩;obtain ⟨q,b,o⟩:=(a l).1 hh.1;rw [e] at b;injection b with b;subst b;have:=List.find?_eq_none.1 hf l o;simp [hh.2] at this
end Go.Vv
namespace Go.Vv
open Go
theorem leaf_bk (l:GLeaf):4<=GLeaf.bk l:=by unfold GLeaf.bk;omega
theorem leaves_bk:∀ls:List GLeaf,4 * ls.length<=(ls.map GLeaf.bk).sum
 | []=>by simp
 | l::ls=>by
  have:=leaves_bk ls;have:=leaf_bk l;simp only [List.length_cons,List.map_cons,List.sum_cons];omega
theorem rows4:∀(t:List GNode),4 * (zH [] t).length<=GNode.bks t:=by
 refine vA (by simp [zH]) ?_;intro x r d b;have a:=leaves_bk x.leaves;have c:=bk_node x;rw [show x::r=[x]++r from rfl,rowsL_app,rows_one,wl];simp only [List.length_append,List.length_map];rw [len_rows x.subs ([]++[x.name]) []];show _<=x.bk+GNode.bks r;omega
def wS (n:Nat):List GRow->Nat
 | []=>0
 | r::L=>r.leaf.bk+17 * (r.path.length - n)+wS n L
theorem bk_is (x:GNode):x.bk=(x.name.length+1)+(((x.leaves.map GLeaf.bk).sum+1)+((GNode.bks x.subs+1)+0))+1:=by cases x;simp only [GNode.bk]
def lS:List GRow->Nat
 | []=>0
 | r::L=>r.leaf.bk+lS L
theorem lS_app:∀A B:List GRow,lS (A++B)=lS A+lS B
 | [],B=>by simp [lS]
 | r::A,B=>by simp only [List.cons_append,lS,lS_app A B];omega
theorem lS_leaves (p:List ze):∀ls:List GLeaf,lS (ls.map λl=>GRow.mk p l)=(ls.map GLeaf.bk).sum
 | []=>rfl
 | l::ls=>by simp only [List.map_cons,lS,lS_leaves p ls,List.sum_cons]
theorem wS_le:∀L:List GRow,(∀r ∈ L,r.path.length<=3)->wS 0 L<=lS L+51 * L.length
 | [],_=>Nat.le_refl _
 | r::L,h=>by
  have b:=h r (by simp);have c:=wS_le L λq a=>h q (by simp [a]);simp only [wS,lS,List.length_cons];omega
theorem lS_le:∀(t:List GNode) (a:List ze),lS (zH a t)<=GNode.bks t:=by
 refine vA (λ_=>Nat.zero_le _) ?_;intro x r c b a;have e:=b a;have f:=c (a++[x.name]);have d:=bk_is x;show lS (rowsN a x++zH a r)<=x.bk+GNode.bks r;rw [lS_app,wl,lS_app,lS_leaves];omega
theorem rows_wf:∀(t:List GNode) (a:List ze),GNode.wfs t->∀r ∈ zH a t,GLeaf.wf r.leaf:=by
 refine vA (λ_ _ _ h=>by simp [zH] at h) ?_;intro x r f e a h q b;simp only [GNode.wfs] at h;have b:q ∈ rowsN a x++zH a r:=b;rcases List.mem_append.1 b with b | b
 ·have c:x.name.length<=maxLen/\(x.leaves.length<=maxLen/\∀y ∈ x.leaves,GLeaf.wf y)/\GNode.wfs x.subs:=by
   have:=h.1;cases x;simpa only [GNode.wf] using this
  rcases rowsN_mem.1 b with ⟨l,d,rfl⟩ | b
  ·exact c.2.1.2 l d
  ·exact f _ c.2.2 q b
 ·exact e a h.2 q b
end Go.Vv
namespace Go.Vv
open Go
theorem wS_len:∀L:List GRow,(∀r ∈ L,1<=r.path.length)->17 * L.length<=wS 0 L
 | [],_=>Nat.le_refl _
 | r::L,h=>by
  have b:=h r (by simp);have c:=wS_len L λq a=>h q (by simp [a]);simp only [wS,List.length_cons];omega
structure Fine (t:List GNode):Prop where
 small:Small t
 tree:treeB 0 t=true
 ws:wS 0 (zH [] t)<=14680064
 leaf:∀r ∈ zH [] t,r.leaf.bk<=1048576
theorem lS_mem:∀{L:List GRow} {r:GRow},r ∈ L->r.leaf.bk<=lS L
 | q::L,r,h=>by
  rcases List.mem_cons.1 h with rfl | h
  ·simp only [lS];omega
  ·have:=lS_mem h;simp only [lS];omega
theorem fine_of {t:List GNode} (hs:Small t) (b:treeB 0 t=true) (c:GNode.bks t<=1048576):Fine t:=by
 have f:=wS_le (zH [] t) λr a=>(pathB_parts (rows_ok t 0 [] hs b rfl rfl r a).path).2.1;have e:=lS_le t [];have d:=rows4 t;exact ⟨hs,b,by omega,λr a=>Nat.le_trans (lS_mem a) (by omega)⟩
theorem Fine.row {t:List GNode} (h:Fine t) {r:GRow} (a:r ∈ zH [] t):RowOk' r:=rows_ok t 0 [] h.small h.tree rfl rfl r a
theorem Fine.len {t:List GNode} (h:Fine t):(zH [] t).length<=863533:=by
 have b:=wS_len (zH [] t) λr a=>by
  have:=(pathB_parts (h.row a).path).1;exact List.length_pos_iff.2 this
 have:=h.ws;omega
theorem dots_bk (L:List GDot):(L.map GDot.bk).sum=5 * L.length:=by
 induction L with
 | nil=>rfl
 | cons d r ih =>
  have:GDot.bk d=5:=rfl;rw [List.map_cons,List.sum_cons,ih,this,List.length_cons];omega
theorem newLf_wf {k:Int} (h:1<=k/\k<=4):GLeaf.wf (wo k):=by
 have z:InK .u64 0:=⟨Int.le_refl _,by decide⟩
 have c:InK .u8 0:=⟨Int.le_refl _,by decide⟩
 have a:InK .u32 0:=⟨Int.le_refl _,by decide⟩
 have b:InK .i64 0:=⟨by decide,by decide⟩
 refine ⟨⟨by show (0:Int)<=k;omega,by show k<=255;omega⟩,b,z,⟨⟨c,a⟩,z⟩,by simp [wo],⟨by simp [wo],by simp [wo]⟩,⟨by simp [wo],by simp [wo]⟩⟩
end Go.Vv
namespace Go.Vv
open Go
theorem tlR_false {k:Int} (c:1<=k/\k<=4) {f:Bool×ze×(List GLeaf)×(List GNode)} {v:GLeaf} (h:tlR k f=some (v,false)):v=wo k:=by
 unfold tlR at h;obtain ⟨e,_,h⟩:=Option.bind_eq_some_iff.1 h;obtain ⟨d,_,h⟩:=Option.bind_eq_some_iff.1 h;split at h
 ·rw [leafNew_is c,Option.bind_some] at h;injection h with h;injection h with h _;exact h.symm
 ·obtain ⟨y,_,h⟩:=Option.bind_eq_some_iff.1 h;obtain ⟨a,_,h⟩:=Option.bind_eq_some_iff.1 h;obtain ⟨b,_,h⟩:=Option.bind_eq_some_iff.1 h;injection h with h;injection h with _ h;cases h
theorem treeLeaf_false {t:List GNode} {p:List ze} (c:p ≠ []) {k:Int} (b:1<=k/\k<=4) {v:GLeaf} (h:yT t p k=some (v,false)):v=wo k:=by
 have a:=tl_walk p 0 t (decide ((p.length:Int) > 0),([]:ze),([]:List GLeaf),([]:List GNode)) c;rw [tl_eq] at h;cases e:xF t p with
 | none =>
  rw [e] at a;obtain ⟨u,a⟩:=a;rw [a] at h;simp only [wz] at h;exact tlR_false b h
 | some x =>
  rw [e] at a;simp only at a;rw [a] at h;simp only [wz] at h;exact tlR_false b h
theorem leaf_lens (l:GLeaf):l.items.length<=l.bk/\l.tombs.length<=l.bk:=by
 have a:=sum_len (f:=GItem.bk) (λx=>by simp only [GItem.bk];omega) l.items;have b:=dots_bk l.tombs;simp only [GLeaf.bk];omega
theorem leaf_both {t:List GNode} (i:Fine t) {p:List ze} (n:p ≠ []) {k:Int} (g:1<=k/\k<=4) :
  ∃l b,yT t p k=some (l,b)/\wd t p k=some (l,b)/\l.typ=k/\leafB l=true/\LeafOk l/\GLeaf.wf l/\l.bk<=1048576/\((b=true/\GRow.mk p l ∈ zH [] t) \/ (b=false/\l=wo k/\∀r ∈ zH [] t,rkey r ≠ (p,k))):=by
 have u:=i.len;have hs:=i.small;have m:=i.tree;have f:=λr c=>rows_ok t 0 [] hs m rfl rfl r c;rcases treeLeaf_is m (λr c=>(f r c).ok) n g with ⟨l,a,d,o⟩ | ⟨a,v,d⟩ <;> rcases leaf7_is m (by omega) n g with ⟨s,h,j,q⟩ | ⟨h,j⟩
 ·have e:=sorted_key (key:=rkey) (rows_sorted m []) a h (by simp only [rkey];rw [d,j]);injection e with _ e;subst e;have c:=f _ a;refine ⟨l,true,o,q,d,c.leaf,c.ok,rows_wf t [] hs.1 _ a,?_,.inl ⟨rfl,a⟩⟩;exact i.leaf _ a
 ·exact absurd (by simp only [rkey];rw [d]) (h _ a)
 ·exact absurd (by simp only [rkey];rw [j]) (a _ h)
 ·have e:=treeLeaf_false n g d;subst e;exact ⟨wo k,false,d,j,rfl,newLf_may g,newLf_ok k,newLf_wf g,(by simp [wo,GLeaf.bk,GDot.bk,GActor.bk]),.inr ⟨rfl,rfl,a⟩⟩
end Go.Vv
namespace Go.Vv
open Go
def ddQ:List ze->List ze
 | []=>[]
 | [x]=>[x]
 | x::y::r=>if x=y then ddQ (y::r) else x::ddQ (y::r)
theorem dd_snocQ:∀(A:List ze) (x y:ze),ddQ (A++[x,y])=if x=y then ddQ (A++[x]) else ddQ (A++[x])++[y]
 | [],x,y=>by by_cases h:x=y <;> simp [ddQ,h]
 | [a],x,y=>by
  by_cases h:x=y
  ·subst h;by_cases h2:a=x <;> simp [ddQ,h2]
  ·by_cases h2:a=x <;> simp [ddQ,h2,h]
 | a::b::A,x,y=>by
  have c:=dd_snocQ (b::A) x y;simp only [List.cons_append] at c ⊢;simp only [ddQ];rw [c];by_cases h:a=b <;> by_cases h2:x=y <;> simp [h,h2]
theorem dd_memQ:∀(L:List ze) (d:ze),d ∈ ddQ L ↔ d ∈ L
 | [],_=>by simp [ddQ]
 | [x],_=>by simp [ddQ]
 | x::y::r,d=>by
  simp only [ddQ];split
  ·rename_i h;subst h;rw [dd_memQ (x::r) d];simp
  ·rw [List.mem_cons,dd_memQ (y::r) d];simp
theorem dd_strictQ {lt:ze->ze->Prop} (d:∀a b,¬ lt b a->a=b \/ lt a b) (i:∀a b c,lt a b->lt b c->lt a c):∀(L:List ze),L.Pairwise (λa b=>¬ lt b a)->(ddQ L).Pairwise lt
 | [],_=>by simp [ddQ]
 | [x],_=>by simp [ddQ]
 | x::y::r,h=>by
  have k:=(List.pairwise_cons.1 h).2;have j:=dd_strictQ d i (y::r) k;simp only [ddQ];split
  ·exact j
  ·rename_i g;refine List.pairwise_cons.2 ⟨λz f=>?_,j⟩;rw [dd_memQ] at f;have e:lt x y:=(d x y ((List.pairwise_cons.1 h).1 y (by simp))).resolve_left g;rcases List.mem_cons.1 f with rfl | f
   ·exact e
   ·rcases d y z ((List.pairwise_cons.1 k).1 z f) with rfl | l
    ·exact e
    ·exact i _ _ _ e l
theorem dd_leQ:∀L:List ze,(ddQ L).length<=L.length
 | []=>by simp [ddQ]
 | [x]=>by simp [ddQ]
 | x::y::r=>by
  have:=dd_leQ (y::r);simp only [ddQ];split
  ·simp only [List.length_cons] at this ⊢;omega
  ·simp only [List.length_cons] at this ⊢;omega
def nnQ (L:List ze):Prop:=∀i a b,L[i]?=some a->L[i+1]?=some b->a ≠ b
theorem take_snoc2Q {L:List ze} {n:Nat} {a b:ze} (d:L[n]?=some a) (c:L[n+1]?=some b):L.take (n+2)=L.take n++[a,b]:=by
 rw [List.take_add_one,List.take_add_one,d,c];simp
theorem dd_stepQ {L:List ze} {n:Nat} {a b:ze} (c:L[n]?=some a) (d:L[n+1]?=some b):ddQ (L.take (n+2))=if a=b then ddQ (L.take (n+1)) else ddQ (L.take (n+1))++[b]:=by
 rw [take_snoc2Q c d,dd_snocQ,List.take_add_one,c];rfl
noncomputable def cmpInQ (n:Nat) (s1:Int):Int×Int×(List ze)->Option (Out (Out (List ze) Int) (Int×Int×(List ze))):=λ(s2:Int×Int×(List ze))=>((zB ((s2.2.2).length=n) ((if (decide (s2.2.1 < ((n - s1.toNat:Nat):Int)))=true then ((yd (s2.2.2.drop s1.toNat) s2.2.1).bind λy51=>((yd (s2.2.2.drop s1.toNat) (IntKind.wrap .i64 (s2.2.1 - (1:Int)))).bind λy52=>(if (!(y51==y52))=true then ((yd (s2.2.2.drop s1.toNat) s2.2.1).bind λy54=>((yd s2.2.2 s2.1).bind λy55=>some (.nxt ((IntKind.wrap .i64 (s2.1+(1:Int))),(IntKind.wrap .i64 (s2.2.1+(1:Int))),(s2.2.2.set s2.1.toNat y54))))) else some (.nxt (s2.1,(IntKind.wrap .i64 (s2.2.1+(1:Int))),s2.2.2))))) else some (.brk (s2.1,s2.2.1,s2.2.2))))))
theorem cmpIn_runQ {L:List ze} (H:L.length<=16777216) {k0:Nat} (A:0 < k0) (I:k0 < L.length) {a:ze} (D:L[k0 - 1]?=some a) (C:L[k0]?=some a) (z:ddQ (L.take k0)=L.take k0) :
  ∃k,yb (cmpInQ L.length (k0:Int)) ((k0:Int),1,L)=some (.inr k)/\∃m:Nat,k.1=(m:Int)/\m<=L.length/\k.2.2.length=L.length/\k.2.2.take m=ddQ L:=by
 refine loopW_inv (f:=cmpInQ L.length (k0:Int)) (λs=>∃m b:Nat,s.1=(m:Int)/\s.2.1=(b:Int)/\1<=b/\k0+b<=L.length/\m+1<=k0+b/\s.2.2.length=L.length/\s.2.2.take m=ddQ (L.take (k0+b))/\s.2.2.drop (k0+b - 1)=L.drop (k0+b - 1))
  _ (λs=>L.length - s.2.1.toNat) ?_ _ _ rfl ⟨k0,1,rfl,rfl,Nat.le_refl _,by omega,by omega,rfl,?_,by simp⟩
 ·rintro ⟨i,j,M⟩ ⟨m,b,v,w,F,J,E,g,o,q⟩
  simp only at v w g o q;subst v w;simp only [cmpInQ,zB,g,if_true,Int.toNat_natCast];by_cases hb:k0+b < L.length
  ·right;have h:∀t,k0+b - 1<=t->M[t]?=L[t]?:=λt G=>by
    have:=congrArg (λl=>l[t - (k0+b - 1)]?) q;simp only [List.getElem?_drop] at this
    rwa [show k0+b - 1+(t - (k0+b - 1))=t by omega] at this
   have x:L[k0+b]?=some L[k0+b]:=List.getElem?_eq_getElem hb;have hb1:k0+b - 1 < L.length:=by omega
   have r:L[k0+b - 1]?=some (L[k0+b - 1]'hb1):=List.getElem?_eq_getElem hb1;have u:yd (M.drop k0) (b:Int)=some L[k0+b]:=by simp only [yd,Int.toNat_natCast,List.getElem?_drop];rw [if_pos (by omega),h _ (by omega),x]
   have y:yd (M.drop k0) (IntKind.wrap .i64 ((b:Int) - 1))=some (L[k0+b - 1]'hb1):=by
    rw [wrap_p1 (by omega) (by omega)];simp only [yd,Int.toNat_natCast,List.getElem?_drop];rw [if_pos (by omega),show k0+(b - 1)=k0+b - 1 by omega,h _ (by omega),r]
   have B:yd M (m:Int)=some (M[m]'(by omega)):=by simp [yd]
   have c:=dd_stepQ (L:=L) (n:=k0+b - 1) r (by rw [show k0+b - 1+1=k0+b by omega];exact x);rw [show k0+b - 1+2=k0+(b+1) by omega,show k0+b - 1+1=k0+b by omega] at c;have d:M.drop (k0+(b+1) - 1)=L.drop (k0+(b+1) - 1):=by
    have:=congrArg (λl=>l.drop 1) q;simp only [List.drop_drop] at this
    rwa [show k0+b - 1+1=k0+(b+1) - 1 by omega] at this
   rw [if_pos (by simp;omega),u,Option.bind_some,y,Option.bind_some];by_cases he:L[k0+b]=L[k0+b - 1]'hb1
   ·refine ⟨((m:Int),((b+1:Nat):Int),M),by simp [he,wrap_a1 (show b<=16777216 by omega)],⟨m,b+1,rfl,rfl,by omega,by omega,by omega,g,?_,d⟩,by simp;omega⟩;rw [c,if_pos he.symm];exact o
   ·refine ⟨(((m+1:Nat):Int),((b+1:Nat):Int),M.set m L[k0+b]),?_,⟨m+1,b+1,rfl,rfl,by omega,by omega,by omega,by simpa using g,?_,?_⟩,by simp;omega⟩
    ·simp [he,u,B,wrap_a1 (show b<=16777216 by omega),wrap_a1 (show m<=16777216 by omega)]
    ·rw [c,if_neg (λe=>he e.symm),<- o,List.take_add_one,List.take_set_of_le (Nat.le_refl _),List.getElem?_set_self (by omega)];rfl
    ·rw [List.drop_set_of_lt (by omega)];exact d
  ·left;have p:k0+b=L.length:=by omega
   rw [if_neg (by simp;omega)];exact ⟨_,rfl,m,rfl,by omega,g,by rw [o,p,List.take_length]⟩
 ·have:=dd_stepQ (L:=L) (n:=k0 - 1) D (by rw [show k0 - 1+1=k0 by omega];exact C);rw [show k0 - 1+2=k0+1 by omega,show k0 - 1+1=k0 by omega,if_pos rfl] at this;rw [this,z]
noncomputable def cmpOutQ (s0:List ze):Int->Option (Out (List ze) Int):=λ(s1:Int)=>((if (decide (s1 < ((s0).length:Int)))=true then ((yd s0 s1).bind λy35=>((yd s0 (IntKind.wrap .i64 (s1 - (1:Int)))).bind λy36=>(if (y35==y36)=true then (zB (0<=s1/\s1<=((s0.length:Nat):Int)) ((lp (yb (cmpInQ s0.length s1) (s1,(1:Int),s0)) λ(s2:Int×Int×(List ze))=>(zB (0<=s2.1/\s2.1<=((s0.length:Nat):Int)) (((slc (s2.2.2.take s2.1.toNat++List.replicate (s0.length - s2.1.toNat) ([]:ze)) (0:Int) s2.1).bind λm57=>some (.ret m57))))))) else some (.nxt (IntKind.wrap .i64 (s1+(1:Int))))))) else some (.brk s1)))
theorem compact_eqQ (a:List ze):yB a=(if (decide (((a).length:Int) < (2:Int)))=true then some a else (lp (yb (cmpOutQ a) (1:Int)) λ(_:Int)=>some a)):=rfl
theorem cmpOut_runQ {L:List ze} (q:L.length<=16777216):∀(n k:Nat),L.length - k=n->0 < k->k<=L.length->ddQ (L.take k)=L.take k->lp (yb (cmpOutQ L) (k:Int)) (λ(_:Int)=>some L)=some (ddQ L):=by
 intro n
 induction n with
 | zero =>
  intro k p h0 hk hd;have:k=L.length:=by omega
  subst this;rw [x5];simp only [cmpOutQ];rw [if_neg (by simp)];simp only [lp];rw [List.take_length] at hd;rw [hd]
 | succ n ih =>
  intro k p h0 hk hd;have c:k < L.length:=by omega
  have f:L[k]?=some L[k]:=List.getElem?_eq_getElem c;have hk1:k - 1 < L.length:=by omega
  have d:L[k - 1]?=some (L[k - 1]'hk1):=List.getElem?_eq_getElem hk1;rw [x5];have i:yd L (k:Int)=some L[k]:=by simp [yd]
  have g:yd L (IntKind.wrap .i64 ((k:Int) - 1))=some (L[k - 1]'hk1):=by
   rw [wrap_p1 h0 (by omega)];simp only [yd,Int.toNat_natCast];rw [if_pos (by omega),d]
  have b:=dd_stepQ (L:=L) (n:=k - 1) d (by rw [show k - 1+1=k by omega];exact f);rw [show k - 1+2=k+1 by omega,show k - 1+1=k by omega] at b;by_cases he:L[k]=L[k - 1]'hk1
  ·obtain ⟨h,o,m,j,r,s,l⟩:=cmpIn_runQ q h0 c (a:=L[k]) (by rw [he];exact d) f hd;have hs:slc (h.2.2.take ((m:Int)).toNat++List.replicate (L.length - ((m:Int)).toNat) ([]:ze)) (0:Int) (m:Int)=some (h.2.2.take m):=by
    unfold slc;rw [if_pos (by simp;omega)];simp only [Int.toNat_natCast,Int.toNat_zero,List.drop_zero];rw [List.take_append_of_le_length (by simp;omega),List.take_take,Nat.min_self]
   have:cmpOutQ L (k:Int)=some (.ret (ddQ L)):=by
    simp only [cmpOutQ];rw [if_pos (by simp;omega),i,Option.bind_some,g,Option.bind_some,if_pos (by simp [he])];rw [zx (by omega),o];simp only [lp];rw [zx (by rw [j];omega),j,hs,Option.bind_some,l]
   rw [this];rfl
  ·have:cmpOutQ L (k:Int)=some (.nxt ((k+1:Nat):Int)):=by
    simp only [cmpOutQ];rw [if_pos (by simp;omega),i,Option.bind_some,g,Option.bind_some,if_neg (by simp [he]),wrap_a1 (by omega)]
   rw [this];refine ih (k+1) (by omega) (by omega) (by omega) ?_;rw [b,if_neg (λe=>he e.symm),hd,List.take_add_one,f];rfl
theorem compact_isQ {L:List ze} (a:L.length<=16777216):yB L=some (ddQ L):=by
 rw [compact_eqQ];by_cases h:L.length < 2
 ·rw [if_pos (by simp;omega)]
  match L,h with
  | [],_=>rfl
  | [x],_=>rfl
  | _::_::_,h=>simp at h;omega
 ·rw [if_neg (by simp;omega)];have:=cmpOut_runQ a (L.length - 1) 1 rfl (by omega) (by omega) (by
   match L,h with
   | x::y::r,_=>rfl
   | [],h=>simp at h
   | [x],h=>simp at h)
  exact this
def srtQ (L:List ze):List ze:=L.mergeSort λa b=>!Op.bytesLess b a
theorem sortS_is {L:List ze} (a:L.length<=yg):sortS L=some (srtQ L):=by
 unfold sortS srtQ;rw [if_pos a];congr 2;funext x y;rw [Bool.eq_iff_iff];simp only [decide_eq_true_eq,Bool.not_eq_true',Go.Proofs.bytesLess_eq,decide_eq_false_iff_not];exact (List.not_lt).symm
theorem srtQ_perm (L:List ze):(srtQ L).Perm L:=List.mergeSort_perm ..
theorem srtQ_pw (L:List ze):(srtQ L).Pairwise λa b=>¬ Op.bytesLess b a=true:=by
 have:=List.pairwise_mergeSort (le:=λa b:ze=>!Op.bytesLess b a) (λa b c f d=>by
  simp only [Bool.not_eq_true'] at *;cases h:Op.bytesLess c a with
  | false=>rfl
  | true =>
   rcases less_tot a b with rfl | e | e
   ·rw [d] at h;cases h
   ·rw [yX h e] at d;cases d
   ·rw [f] at e;cases e) (λa b=>by
  cases h:Op.bytesLess b a with
  | false=>rfl
  | true =>
   cases d:Op.bytesLess a b with
   | false=>rfl
   | true=>have:=yX h d;rw [qu] at this;cases this) L
 refine this.imp λ{a b} h=>?_;simpa using h
theorem srtQ_up {L:List ze} (h:L.Pairwise λa b=>Op.bytesLess a b=true):srtQ L=L:=by
 refine sorted_one (cf:=λa b=>if Op.bytesLess a b=true then -1 else 1) (srtQ_perm L) ((srtQ_pw L).imp ?_) (h.imp ?_) ?_
 ·intro a b c d;split at d
  ·contradiction
  ·omega
 ·intro a b c d;split at d
  ·rename_i f;have:=yX c f;rw [qu] at this;cases this
  ·omega
 ·intro x y j i g d;rcases less_tot x y with e | e | e
  ·exact e
  ·rw [if_pos e] at g;omega
  ·rw [if_pos e] at d;omega
def onceQ (L:List ze) (d:ze):List ze:=if (L.any λy=>decide (y=d))=true then L else L.takeWhile (λy=>Op.bytesLess y d)++([d]++L.dropWhile λy=>Op.bytesLess y d)
noncomputable def onceF (L:List ze) (x:ze):(List ze)×Int->Option (Out (List ze) ((List ze)×Int)):=(λ(sL1:(List ze)×Int)=>((zB (((decide (sL1.2 < ((L).length:Int)))==true)=true->0<=sL1.2/\sL1.2 < ((L).length:Int)) ((if ((decide (sL1.2 < ((L).length:Int)))&&(Op.bytesLess ((L).getD sL1.2.toNat default) x))=true then ((yd L sL1.2).bind λy11=>(zB ((sL1.1).length+(([y11]:List ze)).length<=yg) (some (.nxt ((sL1.1++([y11]:List ze)),(IntKind.wrap .i64 (sL1.2+(1:Int)))))))) else some (.brk (sL1.1,sL1.2))))):Option (Out _ ((List ze)×Int))))
theorem once_loop {L:List ze} (e:L.length<=16777216) (x:ze):yb (onceF L x) ([],0)=some (.inr (L.takeWhile (λy=>Op.bytesLess y x),((L.takeWhile λy=>Op.bytesLess y x).length:Int))):=by
 refine tw_loop (λy=>Op.bytesLess y x) (f:=onceF L x) (λA i y g b=>?_) (λA=>?_) L.length 0 (by omega) (Nat.zero_le _)
 ·have d:i < L.length:=(List.getElem?_eq_some_iff.1 b).1;have hd:decide ((i:Int) < (L.length:Int))=true:=decide_eq_true (by omega);have a:L.getD i default=y:=by simp [List.getD_eq_getElem?_getD,b]
  have c:yd L (i:Int)=some y:=by simp [yd,b]
  simp only [onceF,hd];rw [zx (by intro _;omega)];simp only [Int.toNat_natCast,a,Bool.true_and];cases ha:Op.bytesLess y x with
  | true=>simp only [if_true];rw [c,Option.bind_some,zx (by simp [yg];omega),wrap_a1 (by omega)]
  | false=>rfl
 ·have hd:decide ((L.length:Int) < (L.length:Int))=false:=decide_eq_false (by omega);simp only [onceF,hd];rw [zx (by simp)];simp
theorem once_is {L:List ze} (v:L.length<=16777215) (l:L.Pairwise λa b=>Op.bytesLess a b=true) (x:ze):wc L x=some (onceQ L x):=by
 have m:=once_loop (L:=L) (by omega) x;unfold onceF at m;unfold wc;rw [m];simp only [lp];have u:=tw_le (λy=>Op.bytesLess y x) L;have t:=tw_add (λy=>Op.bytesLess y x) L;have f:=drop_tw (λy=>Op.bytesLess y x) L;generalize hn:(L.takeWhile λy=>Op.bytesLess y x).length=n at *;rw [zx (by intro h;simp at h;omega)];have g:(decide ((n:Int) < (L.length:Int))&&(L.getD n default==x))=L.any λy=>decide (y=x):=by
  rw [Bool.eq_iff_iff,List.any_eq_true,Bool.and_eq_true,decide_eq_true_eq,beq_iff_eq];constructor
  ·rintro ⟨a,b⟩
   have c:n < L.length:=by omega
   refine ⟨L[n],List.getElem_mem _,?_⟩;rw [List.getD_eq_getElem?_getD,List.getElem?_eq_getElem c] at b;simpa using b
  ·rintro ⟨y,p,e⟩
   have e:=of_decide_eq_true e;subst e;obtain ⟨j,k⟩:=List.mem_iff_getElem?.1 p;have d:=ahead_pre (lt:=λa b:ze=>Op.bytesLess a b) (λ_ _ _=>yX) y L l j y k;rw [qu,hn] at d;have d:n<=j:=by
    rcases Nat.lt_or_ge j n with h | h
    ·have:=d.2 h;cases this
    ·exact h
   have i:j < L.length:=(List.getElem?_eq_some_iff.1 k).1;have c:n < L.length:=by omega
   have s:L[n]?=some L[n]:=List.getElem?_eq_getElem c;have:n=j:=by
    rcases Nat.lt_or_ge n j with h | h
    ·have r:=List.pairwise_iff_getElem.1 l n j c i h;have o:L[j]=y:=by rw [List.getElem?_eq_getElem i] at k;exact Option.some.inj k
     have q:=(ahead_pre (lt:=λa b:ze=>Op.bytesLess a b) (λ_ _ _=>yX) y L l n L[n] s).1 (by rw [<- o];exact r);rw [hn] at q;omega
    ·omega
   subst this;exact ⟨by omega,by rw [List.getD_eq_getElem?_getD,k];rfl⟩
 simp only [Int.toNat_natCast];simp only [g];unfold onceQ;split
 ·rfl
 ·rw [zx (by simp [yg];omega),slcT _ _ (by omega),Option.bind_some,f,zx (by simp [yg,hn];omega)];simp
theorem onceQ_mem (L:List ze) (d x:ze):x ∈ onceQ L d ↔ x=d \/ x ∈ L:=by
 unfold onceQ;split
 ·rename_i h;rw [List.any_eq_true] at h;obtain ⟨y,a,e⟩:=h;have e:=of_decide_eq_true e;subst e;constructor
  ·exact .inr
  ·rintro (rfl | h)
   ·exact a
   ·exact h
 ·have h:x ∈ L ↔ x ∈ L.takeWhile (λy=>Op.bytesLess y d) \/ x ∈ L.dropWhile (λy=>Op.bytesLess y d):=by
   rw [<- List.mem_append,List.takeWhile_append_dropWhile]
  rw [h];simp only [List.mem_append,List.mem_singleton];constructor
  ·rintro (h | h | h)
   ·exact .inr (.inl h)
   ·exact .inl h
   ·exact .inr (.inr h)
  ·rintro (h | h | h)
   ·exact .inr (.inl h)
   ·exact .inl h
   ·exact .inr (.inr h)
theorem onceQ_pw {L:List ze} (d:ze) (h:L.Pairwise λa b=>Op.bytesLess a b=true):(onceQ L d).Pairwise λa b=>Op.bytesLess a b=true:=by
 unfold onceQ;split
 ·exact h
 ·rename_i e;refine ins_pw (lt:=λa b:ze=>Op.bytesLess a b) (λ_ _ _=>yX) h λy f=>?_;rcases less_tot y d with rfl | c | c
  ·exfalso;apply e;rw [List.any_eq_true];exact ⟨y,f,by simp⟩
  ·exact .inl c
  ·exact .inr c
theorem onceQ_len (L:List ze) (d:ze):(onceQ L d).length<=L.length+1:=by
 unfold onceQ;split
 ·omega
 ·have:=tw_add (λy=>Op.bytesLess y d) L;simp;omega
def qr (L ds:List ze):List ze:=ds.foldl onceQ L
theorem oncesQ_mem:∀(ds L:List ze) (x:ze),x ∈ qr L ds ↔ x ∈ ds \/ x ∈ L
 | [],L,x=>by simp [qr]
 | d::ds,L,x=>by
  have:=oncesQ_mem ds (onceQ L d) x;simp only [qr,List.foldl_cons] at this ⊢;rw [this,onceQ_mem];simp only [List.mem_cons];constructor
  ·rintro (h | h | h)
   ·exact .inl (.inr h)
   ·exact .inl (.inl h)
   ·exact .inr h
  ·rintro ((h | h) | h)
   ·exact .inr (.inl h)
   ·exact .inl h
   ·exact .inr (.inr h)
theorem oncesQ_pw:∀(ds:List ze) {L:List ze},L.Pairwise (λa b=>Op.bytesLess a b=true)->(qr L ds).Pairwise λa b=>Op.bytesLess a b=true
 | [],_,h=>h
 | d::ds,_,h=>oncesQ_pw ds (onceQ_pw d h)
theorem onces_eq (ds:List ze):ddQ (srtQ ds)=qr [] ds:=by
 refine strict_ext (lt:=λa b=>Op.bytesLess a b=true) (λa=>by simp [qu]) (λ_ _ _=>yX) _ _ (dd_strictQ (lt:=λa b=>Op.bytesLess a b=true) (λa b c=>?_) (λ_ _ _=>yX) _ (srtQ_pw _)) (oncesQ_pw ds List.Pairwise.nil) λx=>?_
 ·rcases less_tot a b with e | e | e
  ·exact .inl e
  ·exact .inr e
  ·exact (c e).elim
 ·rw [dd_memQ,(srtQ_perm _).mem_iff,oncesQ_mem];simp
end Go.Vv
namespace Go.Vv
open Go
def vd:List GNode->List ze->List GNode
 | t,[]=>t
 | t,s::p=>vd (match nodeOf t s with | some x=>x.subs | none=>[]) p
theorem lin_step (t:List GNode) (s:ze):((xd t s).bind λa=>(some (.nxt a.1.subs):Option (Out (List ze) (List GNode))))=some (.nxt (match nodeOf t s with | some x=>x.subs | none=>[])):=by
 rw [linear_is];cases nodeOf t s <;> rfl
theorem node_step (t:List GNode) (s:ze):((xE t s).bind λv9=>(some (.nxt v9.1.subs):Option (Out (List ze) (List GNode))))=some (.nxt (match nodeOf t s with | some x=>x.subs | none=>[])):=by
 rw [node7_is];cases nodeOf t s <;> rfl
theorem lin_walk:∀(p:List ze) (n:Nat) (t:List GNode),zj (λ(d:Nat) (b:ze) (c:(List GNode))=>(((xd c b).bind λa=>some (.nxt a.1.subs)):Option (Out (List ze) (List GNode)))) p n t=some (.inr (vd t p))
 | [],_,_=>rfl
 | s::p,n,t=>by
  simp only [zj,lin_step t s,vd];exact lin_walk p (n+1) _
theorem node_walk:∀(p:List ze) (n:Nat) (t:List GNode),zj (λ(c:Nat) (a:ze) (b:(List GNode))=>(((xE b a).bind λv9=>some (.nxt v9.1.subs)):Option (Out (List ze) (List GNode)))) p n t=some (.inr (vd t p))
 | [],_,_=>rfl
 | s::p,n,t=>by
  simp only [zj,node_step t s,vd];exact node_walk p (n+1) _
theorem subsAt_ok:∀(p:List ze) (d:Nat) (t:List GNode),treeB d t=true->Small t->upB (vd t p)=true/\Small (vd t p)
 | [],d,t,h,hs=>⟨(wG h).1,hs⟩
 | s::p,d,t,h,hs=>by
  simp only [vd];cases e:nodeOf t s with
  | none=>exact subsAt_ok p 0 [] rfl small_nil
  | some x =>
   have b:=List.mem_of_find?_eq_some e;have a:=(wG h).2 x b;rw [nodeB_eq] at a;simp only [Bool.and_eq_true] at a;exact subsAt_ok p (d+1) x.subs a.1.2 (hs.subs b)
theorem app_loop {α a ρ:Type} (f:α->a):∀(L:List α) (n:Nat) (A:List a),A.length+L.length<=16777216->zj (λ(_:Nat) (x:α) (s:List a)=>((zB ((s).length+(([f x]:List a)).length<=yg) (some (.nxt (s++([f x]:List a))))):Option (Out ρ (List a)))) L n A=some (.inr (A++L.map f))
 | [],n,A,_=>by simp [zj]
 | x::r,n,A,h=>by
  simp only [List.length_cons] at h;have b:zB (A.length+([f x]:List a).length<=yg) (some (.nxt (A++[f x])):Option (Out ρ (List a)))=some (.nxt (A++[f x])):=zx (by simp [yg];omega);simp only [zj,b];rw [app_loop f r (n+1) (A++[f x]) (by simp;omega)];simp
theorem treeNames_is {t:List GNode} (h:treeB 0 t=true) (hs:Small t) (p:List ze):treeNames t p=some ((vd t p).map (·.name)):=by
 obtain ⟨a,b⟩:=subsAt_ok p 0 t h hs;have c:=b.len;unfold treeNames;rw [lin_walk];simp only [wz];rw [app_loop (λx:GNode=>x.name) _ 0 [] (by simpa using c)];simp only [wz,List.nil_append];rw [sortS_is (by simp [yg];omega),srtQ_up,Option.bind_some];exact List.pairwise_map.2 ((upB_iff _).1 a)
theorem ins_loop {M:List ze} (j:M.length<=16777216) {L:List GNode} {n:Nat} {x:GNode} (d:L[n]?=some x) (h:∀y ∈ M,Op.bytesLess y x.name=true):∀(m i:Nat),M.length - i=m->i<=M.length ->
  yb (λ(a:Int)=>((zB (((decide (a < ((M).length:Int)))==true)=true->0<=a/\a < ((M).length:Int)) ((zB (((decide (a < ((M).length:Int)))==true)=true->0<=(n:Int)/\(n:Int) < ((L).length:Int)) ((if ((decide (a < ((M).length:Int)))&&(Op.bytesLess ((M).getD a.toNat default) (((L).getD (n:Int).toNat default).name) || ((M).getD a.toNat default)==((L).getD (n:Int).toNat default).name))=true then some (.nxt (IntKind.wrap .i64 (a+(1:Int)))) else some (.brk a)))))):Option (Out (Out (List ze) (List ze)) Int))) (i:Int)=some (.inr (M.length:Int)):=by
 have k:n < L.length:=(List.getElem?_eq_some_iff.1 d).1;have c:L.getD n default=x:=by rw [List.getD_eq_getElem?_getD,d];rfl
 intro m
 induction m with
 | zero =>
  intro i g hi;obtain rfl:i=M.length:=by omega
  rw [x5,zx (by intro h;simp at h),zx (by intro _;omega),if_neg (by simp)]
 | succ m ih =>
  intro i g hi;have b:i < M.length:=by omega
  have e:M.getD i default=M[i]:=by rw [List.getD_eq_getElem?_getD,List.getElem?_eq_getElem b];rfl
  have f:=h _ (List.getElem_mem b);rw [x5,zx (by intro _;omega),zx (by intro _;omega),if_pos (by simp only [Int.toNat_natCast,c,e,f];simp;omega),wrap_a1 (by omega)];exact ih (i+1) (by omega) (by omega)
theorem names7_loop {L:List GNode} (j:L.length<=16777216) (e:L.Pairwise λx y=>Op.bytesLess x.name y.name=true):∀(r A:List GNode),L=A++r ->
  zj (λ(n2:Nat) (f:GNode) (b:(List ze))=>((lp (yb (λ(a:Int)=>((zB (((decide (a < ((b).length:Int)))==true)=true->0<=a/\a < ((b).length:Int)) ((zB (((decide (a < ((b).length:Int)))==true)=true->0<=(n2:Int)/\(n2:Int) < ((L).length:Int)) ((if ((decide (a < ((b).length:Int)))&&(Op.bytesLess ((b).getD a.toNat default) (((L).getD (n2:Int).toNat default).name) || ((b).getD a.toNat default)==((L).getD (n2:Int).toNat default).name))=true then some (.nxt (IntKind.wrap .i64 (a+(1:Int)))) else some (.brk a)))))):Option (Out _ Int))) (0:Int)) λ(a:Int)=>((slc b (0:Int) a).bind λc=>(zB ((([]:List ze)).length+(c).length<=yg) ((zB (((([]:List ze)++c)).length+(([f.name]:List ze)).length<=yg) (((slc b a ((b).length:Int)).bind λd=>(zB ((((([]:List ze)++c)++([f.name]:List ze))).length+(d).length<=yg) (some (.nxt (((([]:List ze)++c)++([f.name]:List ze))++d))))))))))):Option (Out (List ze) (List ze)))) r A.length (A.map (·.name))=some (.inr (L.map (·.name)))
 | [],A,h=>by subst h;simp [zj]
 | x::r,A,h=>by
  have m:L[A.length]?=some x:=by rw [h];simp
  have g:A.length+1<=L.length:=by rw [h];simp
  have i:∀y ∈ A.map (·.name),Op.bytesLess y x.name=true:=λy k=>by
   obtain ⟨z,l,rfl⟩:=List.mem_map.1 k;rw [h] at e;exact (List.pairwise_append.1 e).2.2 z l x (by simp)
  have h0:=ins_loop (M:=A.map (·.name)) (by simp;omega) m i _ 0 rfl (Nat.zero_le _);have n:slc (A.map (·.name)) (0:Int) ((A.map (·.name)).length:Int)=some (A.map (·.name)):=by
   unfold slc;rw [if_pos (by omega),Int.toNat_natCast,List.take_length];rfl
  have b:slc (A.map (·.name)) ((A.map (·.name)).length:Int) ((A.map (·.name)).length:Int)=some []:=by
   unfold slc;rw [if_pos (by omega)];simp
  simp only [zj];simp only [Int.natCast_zero] at h0;rw [h0];simp only [wz];rw [n,Option.bind_some,zx (by simp [yg];omega),zx (by simp [yg];omega),b,Option.bind_some,zx (by simp [yg];omega)];have:=names7_loop j e r (A++[x]) (by rw [h];simp);simpa using this
theorem ref07Names_is {t:List GNode} (h:treeB 0 t=true) (hs:Small t) (p:List ze):qn t p=some ((vd t p).map (·.name)):=by
 obtain ⟨b,c⟩:=subsAt_ok p 0 t h hs;unfold qn;rw [node_walk];simp only [wz];have:=names7_loop c.len ((upB_iff _).1 b) (vd t p) [] rfl;exact (congrArg (λz=>lp z λa=>some a) this).trans rfl
theorem own7N:∀(n:Nat) (t:List GNode),GNode.deps t < n->Small t->ve n t=some t
 | 0,_,h,_=>by omega
 | n+1,t,h,hs=>by
  unfold ve;have q:=hs.len;rw [loop_keep (λ_=>true) (λx=>x) t 0 [] (lim_le (by simp;omega))]
  ·simp
  ·intro i x s a e;have g:=qX a;have k:=wr x;have m:=hs.leaves a;rw [own7N n x.subs (by omega) (hs.subs a),Option.bind_some];rw [loop_keep (λ_=>true) (λl=>l) x.leaves 0 [] (lim_le (by simp;omega))]
   ·have d:(x.leaves.filter λ_=>true)=x.leaves:=by simp
    simp only [wz,List.nil_append,List.map_id_fun',id,d,if_true];rw [zx (by simpa using e)];cases x;simp
   ·intro j l p b c;have f:=hs.leaf a b;have r:=f.items;have o:=f.tombs;rw [zx (by simp [yg];omega),zx (by simp [yg];omega),zx (by simpa using c)];cases l;simp
theorem own7_same {t:List GNode} (h:Small t):ref07Own t=some t:=by
 unfold ref07Own;exact anyN_of (GNode.deps t+1) λn a=>own7N n t (by omega) h
end Go.Vv
namespace Go.Vv
open Go
theorem strsEqual_is (L M:List ze):yF L M=some (decide (L=M)):=by
 unfold yF;by_cases hl:L.length=M.length
 ·have e:((L.length:Int) != (M.length:Int))=false:=by simp;omega
  rw [e,same_loop M (eq:=λa b=>a==b) (λa b=>by rw [Bool.eq_iff_iff];simp) L 0 (by omega) (λj x c=>by simp)];by_cases h:L=M <;> simp [h]
 ·have e:((L.length:Int) != (M.length:Int))=true:=by simp;omega
  rw [e,decide_eq_false (λh=>hl (by rw [h]))];rfl
def sameA (a b:GAnswer):Bool:=(a.is==b.is)&&(a.n==b.n)&&decide (a.l=b.l)
theorem sameA_refl (a:GAnswer):sameA a a=true:=by simp [sameA]
theorem querySame_is (a b:GAnswer):querySame a b=some (sameA a b):=by
 unfold querySame sameA;rw [strsEqual_is];cases a.is==b.is <;> cases a.n==b.n <;> rfl
theorem ref08Same_is (a b:GAnswer):xQ a b=some (sameA a b):=by
 have h:=strsEqual_is a.l b.l;unfold yF at h;unfold xQ sameA;cases h1:a.is==b.is with
 | false=>simp
 | true =>
  cases h2:a.n==b.n with
  | false=>simp [bne,h2]
  | true =>
   have e:(a.n != b.n)=false:=by simp [bne,h2]
   rw [e];simp only [Bool.not_true,Bool.false_or,Bool.true_and];exact h
def qryB (q:GQuery):Bool:=((q.kind==(5:Int))&&((q.path.length:Int)==(0:Int))) || ((decide (q.kind >= (1:Int))&&decide (q.kind<=(5:Int)))&&vE q.path)
theorem queryMay_is (q:GQuery):xZ q=some (qryB q):=by
 unfold xZ qryB;rw [opMayPath_is];cases (q.kind==(5:Int))&&((q.path.length:Int)==(0:Int)) <;> cases (decide (q.kind >= (1:Int))&&decide (q.kind<=(5:Int))) <;> rfl
theorem ref08May_is (q:GQuery):qm q=some (qryB q):=by
 unfold qm qryB;rw [ref04MayPath_is];by_cases h1:q.kind < 1
 ·have b:(q.kind==5)=false:=by simp;omega
  have a:decide (q.kind >= 1)=false:=decide_eq_false (by omega);rw [decide_eq_true h1,b,a];rfl
 ·by_cases h2:q.kind > 5
  ·have b:(q.kind==5)=false:=by simp;omega
   have a:decide (q.kind<=5)=false:=decide_eq_false (by omega);rw [decide_eq_true h2,b,a];simp
  ·have a:decide (q.kind<=5)=true:=decide_eq_true (by omega);have b:decide (q.kind >= 1)=true:=decide_eq_true (by omega);rw [decide_eq_false h1,decide_eq_false h2,b,a];simp [Bool.or_comm]
theorem qry_kind {q:GQuery} (h:qryB q=true):1<=q.kind/\q.kind<=5:=by
 unfold qryB at h;rw [Bool.or_eq_true,Bool.and_eq_true,Bool.and_eq_true,Bool.and_eq_true,decide_eq_true_eq,decide_eq_true_eq,beq_iff_eq] at h;omega
theorem qry_path {q:GQuery} (h:qryB q=true) (a:q.kind ≠ 5):vE q.path=true:=by
 unfold qryB at h;rw [Bool.or_eq_true,Bool.and_eq_true,Bool.and_eq_true,beq_iff_eq] at h;rcases h with h | h
 ·exact absurd h.1 a
 ·exact h.2
theorem texts_is {l:GLeaf} (h:l.items.length<=16777216):wI l=some (l.items.map (·.text)):=by
 unfold wI;rw [app_loop (λx:GItem=>x.text) _ 0 [] (by simpa using h)];rfl
theorem once_fold:∀(L:List GItem) (n:Nat) (A:List ze),(A.Pairwise λa b=>Op.bytesLess a b=true)->A.length+L.length<=16777215->zj (λ(i:Nat) (d:GItem) (f:List ze)=>(((wc f d.text).bind λc=>some (.nxt c)):Option (Out (GAnswer×Int) (List ze)))) L n A=some (.inr (qr A (L.map (·.text))))
 | [],n,A,_,_=>by simp [zj,qr]
 | x::r,n,A,hp,h=>by
  simp only [List.length_cons] at h;have g:=onceQ_len A x.text;have e:(wc A x.text).bind (λc=>(some (.nxt c):Option (Out (GAnswer×Int) (List ze))))=some (.nxt (onceQ A x.text)):=by rw [once_is (by omega) hp];rfl
  simp only [zj,e];rw [once_fold r (n+1) _ (onceQ_pw _ hp) (by omega)];simp [qr]
def ansL (k:Int) (l:GLeaf) (b:Bool):GAnswer:=if k=1 then ⟨b,l.n,[]⟩ else if k=2 then (if l.time=0 then ⟨false,0,[]⟩ else ⟨true,0,[l.text]⟩) else if k=3 then ⟨b,0,qr [] (l.items.map (·.text))⟩ else ⟨b,0,l.items.map (·.text)⟩
def ansN (t:List GNode) (p:List ze):GAnswer:=⟨decide ((((vd t p).map (·.name)).length:Int) > 0),0,(vd t p).map (·.name)⟩
theorem gate_is {t:List GNode} (hs:Small t) (q:GQuery) (X:Option GAnswer):((xZ q).bind λa=>((if ((!a)==false)=true then yL t else some default).bind λv3=>(if ((!a) || (!v3))=true then some ((GAnswer.mk false (0:Int) ([]:List ze)),(2:Int)) else (X.bind λv5=>some (v5,(0:Int))))))=if (qryB q&&treeB 0 t)=true then X.bind λv5=>some (v5,(0:Int)) else some ((GAnswer.mk false (0:Int) ([]:List ze)),(2:Int)):=by
 rw [queryMay_is,treeMay_is hs,Option.bind_some];cases qryB q <;> cases treeB 0 t <;> rfl
theorem gate8_is {t:List GNode} (hs:Small t) (q:GQuery) (X:Option (GAnswer×Int)):((qm q).bind λa=>((if ((!a)==false)=true then xK t else some default).bind λb=>(if ((!a) || (!b))=true then some ((GAnswer.mk false (0:Int) ([]:List ze)),(2:Int)) else X)))=if (qryB q&&treeB 0 t)=true then X else some ((GAnswer.mk false (0:Int) ([]:List ze)),(2:Int)):=by
 rw [ref08May_is,ref07May_is hs,Option.bind_some];cases qryB q <;> cases treeB 0 t <;> rfl
theorem ask_eq {t:List GNode} (hs:Small t) (q:GQuery):yp t q=if (qryB q&&treeB 0 t)=true then (if q.kind=1 then yW ⟨t,q.path⟩ else if q.kind=2 then xq ⟨t,q.path⟩ else if q.kind=3 then xL ⟨t,q.path⟩ else if q.kind=4 then xM ⟨t,q.path⟩ else xf ⟨t,q.path⟩).bind λv=>some (v,(0:Int)) else some ((GAnswer.mk false (0:Int) ([]:List ze)),(2:Int)):=by
 unfold yp;simp only [gate_is hs];cases h:(qryB q&&treeB 0 t) with
 | false=>simp
 | true =>
  have a:=qry_kind (by rw [Bool.and_eq_true] at h;exact h.1);simp only [if_true];by_cases h1:q.kind=1
  ·simp only [if_pos h1]
  ·by_cases h2:q.kind=2
   ·simp only [if_neg h1,if_pos h2]
   ·by_cases h3:q.kind=3
    ·simp only [if_neg h1,if_neg h2,if_pos h3]
    ·by_cases h4:q.kind=4
     ·simp only [if_neg h1,if_neg h2,if_neg h3,if_pos h4]
     ·simp only [if_neg h1,if_neg h2,if_neg h3,if_neg h4,if_pos (show q.kind=5 by omega)]
theorem ask_not {t:List GNode} (hs:Small t) {q:GQuery} (h:(qryB q&&treeB 0 t)=false):yp t q=some (⟨false,0,[]⟩,2)/\xW t q=some (⟨false,0,[]⟩,2):=by
 constructor
 ·rw [ask_eq hs,h];rfl
 ·unfold xW;rw [gate8_is hs,h];rfl
theorem ask_names {t:List GNode} (hs:Small t) (a:treeB 0 t=true) {q:GQuery} (c:qryB q=true) (b:q.kind=5):yp t q=some (ansN t q.path,0)/\xW t q=some (ansN t q.path,0):=by
 constructor
 ·rw [ask_eq hs,c,a];simp only [Bool.and_self,if_true,b,if_neg (show ¬ (5:Int)=1 by decide),if_neg (show ¬ (5:Int)=2 by decide),if_neg (show ¬ (5:Int)=3 by decide),if_neg (show ¬ (5:Int)=4 by decide)];unfold xf;rw [treeNames_is a hs];rfl
 ·unfold xW;rw [gate8_is hs,c,a];simp only [Bool.and_self,if_true,b,beq_self_eq_true];rw [ref07Names_is a hs];rfl
theorem ask_leaf {t:List GNode} (i:Fine t) {q:GQuery} (h:qryB q=true) (j:q.kind ≠ 5) :
  ∃l b,((b=true/\GRow.mk q.path l ∈ zH [] t) \/ (b=false/\l=wo q.kind/\∀r ∈ zH [] t,rkey r ≠ (q.path,q.kind)))/\yp t q=some (ansL q.kind l b,0)/\xW t q=some (ansL q.kind l b,0)/\l.items.length<=1048576:=by
 have hs:=i.small;have k:=i.tree;have o:=(pathB_parts (qry_path h j)).1;have n:=qry_kind h;have n:1<=q.kind/\q.kind<=4:=by omega
 obtain ⟨l,b,c,u,p,v,s,z,A,y⟩:=leaf_both i o n;have m:=leaf_lens l;have h0:=s.time;refine ⟨l,b,y,?_,?_,by omega⟩
 ·rw [ask_eq hs,h,k];simp only [Bool.and_self,if_true];unfold ansL;by_cases k1:q.kind=1
  ·rw [k1] at c;simp only [k1,if_true];unfold yW;rw [c];rfl
  by_cases k2:q.kind=2
  ·rw [k2] at c;simp only [k1,k2,if_true,if_false];unfold xq;rw [c,Option.bind_some];by_cases hz:l.time=0 <;> simp [hz]
  by_cases k3:q.kind=3
  ·rw [k3] at c;simp only [k1,k2,k3,if_true,if_false];unfold xL;rw [c,Option.bind_some];simp only [];rw [texts_is (by omega),Option.bind_some,sortS_is (by simp [yg];omega),Option.bind_some,compact_isQ (by rw [(srtQ_perm _).length_eq];simp;omega),Option.bind_some,onces_eq];simp
  ·have g:q.kind=4:=by omega
   rw [g] at c;simp only [k1,k2,k3,g,if_true,if_false];unfold xM;rw [c,Option.bind_some];simp only [];rw [texts_is (by omega)];simp
 ·unfold xW;rw [gate8_is hs,h,k];simp only [Bool.and_self,if_true];have w:(q.kind==(5:Int))=false:=by simp;exact j
  rw [w,u];simp only [Bool.false_eq_true,if_false,Option.bind_some];unfold ansL;have a:=v;unfold leafB at a;rw [p] at a;by_cases k1:q.kind=1
  ·rw [if_pos k1] at a;simp only [Bool.and_eq_true,decide_eq_true_eq] at a;have hi:=a.1.2;have e:((1:Int)==2)=false:=rfl;have f:((1:Int)==3)=false:=rfl;simp only [k1,if_true,e,f,Bool.false_eq_true,if_false,hi,zj,wz]
  by_cases k2:q.kind=2
  ·rw [if_neg k1,if_pos k2] at a;simp only [Bool.and_eq_true,decide_eq_true_eq] at a;have hi:=a.1.1.2;have d:=a.1.1.1;have f:((2:Int)==3)=false:=rfl;simp only [k1,k2,beq_self_eq_true,if_true,f,Bool.false_eq_true,if_false,hi,zj,wz,d];by_cases hz:l.time=0
   ·simp [hz]
   ·have:decide (l.time > 0)=true:=decide_eq_true (by omega);simp [hz,this]
  by_cases k3:q.kind=3
  ·rw [if_neg k1,if_neg k2,if_pos k3] at a;simp only [Bool.and_eq_true,decide_eq_true_eq] at a;have d:=a.1.1.1;have e:((3:Int)==2)=false:=rfl;simp only [k1,k2,k3,e,beq_self_eq_true,if_true,Bool.false_eq_true,if_false];rw [once_fold l.items 0 [] List.Pairwise.nil (by simp;omega)];simp only [wz,d];simp
  ·have g:q.kind=4:=by omega
   rw [if_neg k1,if_neg k2,if_neg k3,if_pos g] at a;simp only [Bool.and_eq_true,decide_eq_true_eq] at a;have d:=a.1.1.1;have e:((4:Int)==2)=false:=rfl;have f:((4:Int)==3)=false:=rfl;simp only [k1,k2,k3,g,e,f,Bool.false_eq_true,if_false];rw [app_loop (λx:GItem=>x.text) _ 0 [] (by simp;omega)];simp only [wz,d,List.nil_append];simp
end Go.Vv
namespace Go.Vv
open Go
theorem oncesQ_len (ds:List ze):(qr [] ds).length<=ds.length:=by
 rw [<- onces_eq];exact Nat.le_trans (dd_leQ _) (by rw [(srtQ_perm _).length_eq];exact Nat.le_refl _)
theorem ansL_len {k:Int} {l:GLeaf} {b:Bool} (h:l.items.length<=1048576):(ansL k l b).l.length<=16777216:=by
 have a:=oncesQ_len (l.items.map (·.text));rw [List.length_map] at a;unfold ansL;split
 ·simp
 split
 ·split <;> simp
 split
 ·show (qr [] (l.items.map (·.text))).length<=_;omega
 ·show (l.items.map (·.text)).length<=_;rw [List.length_map];omega
theorem ask_is {t:List GNode} (hs:Small t) (g:GNode.bks t<=1048576) (q:GQuery):∃a e,yp t q=some (a,e)/\xW t q=some (a,e)/\a.l.length<=16777216:=by
 cases hm:(qryB q&&treeB 0 t) with
 | false =>
  obtain ⟨c,d⟩:=ask_not hs hm;exact ⟨_,_,c,d,by simp⟩
 | true =>
  rw [Bool.and_eq_true] at hm;by_cases h5:q.kind=5
  ·obtain ⟨c,d⟩:=ask_names hs hm.2 hm.1 h5;refine ⟨_,_,c,d,?_⟩;have:=(subsAt_ok q.path 0 t hm.2 hs).2.len;simpa [ansN] using this
  ·obtain ⟨l,b,_,c,d,f⟩:=ask_leaf (fine_of hs hm.2 g) hm.1 h5;exact ⟨_,_,c,d,ansL_len f⟩
def leafK:GLeaf:=GLeaf.mk (3:Int) (0:Int) (0:Int) (GDot.mk (GActor.mk (0:Int) (0:Int)) (0:Int)) ([]:ze) ([(GItem.mk (0:Int) (GDot.mk (GActor.mk (0:Int) (1:Int)) 1) ([118]:ze)),(GItem.mk (0:Int) (GDot.mk (GActor.mk (0:Int) (1:Int)) 2) ([117]:ze)),(GItem.mk (0:Int) (GDot.mk (GActor.mk (0:Int) (1:Int)) 3) ([118]:ze))]:List GItem) ([]:List GDot)
def qj:List GNode:=[⟨[97],[leafK],[]⟩]
theorem treeK_rows:zH [] qj=[⟨[[97]],leafK⟩]:=by simp [qj,zH,rowsN]
theorem treeK_tree:treeB 0 qj=true:=by
 have h:leafB leafK=true:=by decide
 simp [treeB,qj,vR,nodeB,upB,leavesB,qF,h];decide
theorem ik8 {k:IntKind} {n:Int} (h:decide (k.min<=n/\n<=k.max)=true):InK k n:=by unfold InK;exact of_decide_eq_true h
theorem leafK_wf:GLeaf.wf leafK:=by
 refine ⟨ik8 rfl,ik8 rfl,ik8 rfl,⟨⟨ik8 rfl,ik8 rfl⟩,ik8 rfl⟩,Nat.zero_le _,⟨by decide,λy a=>?_⟩,⟨Nat.zero_le _,λy a=>by cases a⟩⟩;simp only [leafK,List.mem_cons,List.not_mem_nil,or_false] at a;rcases a with rfl | rfl | rfl <;> exact ⟨ik8 rfl,⟨⟨ik8 rfl,ik8 rfl⟩,ik8 rfl⟩,by decide⟩
theorem treeK_bks:GNode.bks qj<=2000:=by
 simp [qj,leafK,GNode.bks,GNode.bk,GLeaf.bk,GItem.bk,GDot.bk,GActor.bk]
theorem treeK_small:Small qj:=by
 have a:1<=maxLen:=by decide
 refine ⟨?_,Nat.le_trans treeK_bks (by decide)⟩;simp only [qj,GNode.wfs,GNode.wf];refine ⟨⟨a,⟨a,λy b=>?_⟩,trivial⟩,trivial⟩;rw [List.mem_singleton.1 b];exact leafK_wf
theorem known08:wL=some true:=by
 have f:=fine_of treeK_small treeK_tree (Nat.le_trans treeK_bks (by decide));have r:qryB ⟨3,[[97]]⟩=true:=by decide
 have s:qryB ⟨3,[[98]]⟩=true:=by decide
 have l:qryB ⟨5,[]⟩=true:=by decide
 obtain ⟨o,j,g,d,_,_⟩:=ask_leaf f r (by decide);obtain ⟨k,h,e,b,_,_⟩:=ask_leaf f s (by decide);obtain ⟨a3,_⟩:=ask_names treeK_small treeK_tree l rfl;rw [treeK_rows] at g e;have i:o=leafK/\j=true:=by
  rcases g with ⟨c,a⟩ | ⟨_,_,p⟩
  ·have:=List.mem_singleton.1 a;injection this with _ this;exact ⟨this,c⟩
  ·exact absurd rfl (p ⟨[[97]],leafK⟩ (by simp))
 have n:k=wo 3/\h=false:=by
  rcases e with ⟨_,a⟩ | ⟨c,a,_⟩
  ·have:=List.mem_singleton.1 a;injection this with this _;exact absurd (show ([[98]]:List ze)=[[97]] from this) (by decide)
  ·exact ⟨a,c⟩
 obtain ⟨rfl,rfl⟩:=i;obtain ⟨rfl,rfl⟩:=n;have m:ansL 3 leafK true=⟨true,0,[[117],[118]]⟩:=by decide
 have q:ansL 3 (wo 3) false=⟨false,0,[]⟩:=by decide
 have v3:ansN qj []=⟨true,0,[[97]]⟩:=by decide
 have d:yp qj ⟨3,[[97]]⟩=some (⟨true,0,[[117],[118]]⟩,0):=by rw [<- m];exact d
 have b:yp qj ⟨3,[[98]]⟩=some (⟨false,0,[]⟩,0):=by rw [<- q];exact b
 have a3:yp qj ⟨5,[]⟩=some (⟨true,0,[[97]]⟩,0):=by rw [<- v3];exact a3
 unfold wL xR;rw [Option.bind_some,Option.bind_some,Option.bind_some];show ((yp qj ⟨3,[[97]]⟩).bind _)=_;rw [d,Option.bind_some];show ((yp qj ⟨3,[[98]]⟩).bind _)=_;rw [b,Option.bind_some];show ((yp qj ⟨5,[]⟩).bind _)=_;rw [a3,Option.bind_some];simp only [ref08Same_is,sameA_refl];rfl
theorem great08_tot (p:List ze):∃b,wM p=some b:=by
 unfold wM;obtain ⟨v,a⟩:=loopL_tot (f:=λ(e:Nat) (c:ze) (d:Int)=>(some (.nxt (IntKind.wrap .i64 (d+((c).length:Int)))):Option (Out Bool Int))) p 0 0 (λi x s _=>⟨_,rfl⟩);rw [a];cases v <;> exact ⟨_,rfl⟩
theorem set_loop (n:Nat) (v:ze):∀(R:List Nat) (i:Nat) (s:List ze),s.length=n->i+R.length<=n->∃d,zj (λ(f:Nat) (j:Nat) (c:(List ze))=>((zB ((c).length=n) (((yd c (f:Int)).bind λb=>some (.nxt (c.set (f:Int).toNat v))))):Option (Out Bool (List ze)))) R i s=some (.inr d)
 | [],i,s,_,_=>⟨s,rfl⟩
 | x::R,i,s,hs,h=>by
  simp only [List.length_cons] at h;have e:yd s (i:Int)=some (s[i]'(by omega)):=vS (by omega);obtain ⟨d,a⟩:=set_loop n v R (i+1) (s.set i v) (by simpa using hs) (by omega);refine ⟨d,?_⟩;have g:((zB ((s).length=n) (((yd s (i:Int)).bind λb=>some (.nxt (s.set (i:Int).toNat v))))):Option (Out Bool (List ze)))=some (.nxt (s.set i v)):=by
   rw [zx hs,e];simp
  simp only [zj,g];exact a
theorem law08QueryAsks_is {t:List GNode} {q o:GQuery} (hs:Small t) (k:GNode.bks t<=1048576):xr t q o=some true:=by
 obtain ⟨g,r⟩:=ref07Great_tot hs;obtain ⟨m,h⟩:=great08_tot q.path;obtain ⟨n,j⟩:=great08_tot o.path;have b:=known08;have i:xr t q o=((some (if (g || m || n)=true then true else true)):Option Bool):=by
  unfold xr;rw [r,h,j,Option.bind_some];cases g with
  | true=>simp [b]
  | false =>
   cases m with
   | true=>simp [b]
   | false =>
    cases n with
    | true=>simp [b]
    | false =>
     simp only [beq_self_eq_true,if_true,Option.bind_some,Bool.or_self,Bool.false_eq_true,if_false];obtain ⟨a,e,v,s,x⟩:=ask_is hs k q;obtain ⟨c,f,p,u,y⟩:=ask_is hs k o;rw [own7_same hs,Option.bind_some,v,Option.bind_some,s,Option.bind_some,p,Option.bind_some,u,Option.bind_some,queryMay_is,Option.bind_some,ref08May_is,Option.bind_some];simp only [ref08Same_is,querySame_is,sameA_refl,beq_self_eq_true,bne_self_eq_false,Bool.not_true,Bool.or_self,if_true,Option.bind_some,Bool.false_eq_true,if_false];obtain ⟨w,d⟩:=set_loop a.l.length [33] (List.range ((((a.l).length:Nat):Int)).toNat) 0 a.l rfl (by simp);rw [zx (by omega),d];simp only [wz];rw [ref07Same_refl,Option.bind_some];simp [b]
 rw [i];simp
theorem law08QueryAsks_top (t:List GNode) (q o:GQuery) (a:t.length<=maxLen/\∀y ∈ t,GNode.wf y) (c:GQuery.wf q) (d:GQuery.wf o) (b:((t.map GNode.bk).sum+1)+GQuery.bk q+GQuery.bk o<=1048576):xr t q o=some true:=by
 refine law08QueryAsks_is (small_of a (by omega)) ?_;rw [GNode.bks_eq];omega
end Go.Vv
