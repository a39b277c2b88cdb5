/- Layers 31 and 42: edits put in; what is shown of a tree. -/
import Derived.Test.YtppafalkommbdaaGreatPlV3
namespace Go.Vv
set_option linter.unusedVariables false
set_option linter.unusedSimpArgs false
open Go
noncomputable def patF (t0:List GNode):Nat→GEdit→List GNode→Option (Out (List GNode×Int) (List GNode)):=(fun (n1:Nat) (x1:GEdit) (s1:(List GNode))=>(((treeLeaf t0 x1.path x1.typ).bind fun v14=>((if (((!(v14.2==x1.had))==false)&&(v14.2==true))=true then qB v14.1 x1.was else some default).bind fun v15=>(if ((!(v14.2==x1.had)) || (v14.2&&(!v15)))=true then some (.ret (([]:List GNode),(16:Int))) else ((diffXlay s1 x1.path x1.typ x1.is x1.has).bind fun v17=>some (.nxt v17))))):Option (Out _ (List GNode))))
noncomputable def viewF (l0:List GRule) (rep1:Int):Nat→GRow→List GEdit→Option (Out (List GNode×Int) (List GEdit)):=(fun (n1:Nat) (x1:GRow) (s1:(List GEdit))=>(((wX l0 rep1 x1.path).bind fun v13=>(if v13=true then (x5 ((s1).length+(([(GEdit.mk x1.path x1.leaf.typ false true (GLeaf.mk (0:Int) (0:Int) (0:Int) (GDot.mk (GActor.mk (0:Int) (0:Int)) (0:Int)) ([]:zR) ([]:List GItem) ([]:List GDot)) x1.leaf)]:List GEdit)).length≤vy) (some (.nxt (s1++([(GEdit.mk x1.path x1.leaf.typ false true (GLeaf.mk (0:Int) (0:Int) (0:Int) (GDot.mk (GActor.mk (0:Int) (0:Int)) (0:Int)) ([]:zR) ([]:List GItem) ([]:List GDot)) x1.leaf)]:List GEdit))))) else some (.nxt s1))):Option (Out _ (List GEdit))))
noncomputable def cntF (l0:List GRule) (rep1:Int):Nat→GRow→Int→Option (Out Bool Int):=(fun (n1:Nat) (x1:GRow) (s1:Int)=>(((wX l0 rep1 x1.path).bind fun v19=>(if v19=true then some (.nxt (IntKind.wrap .i64 (s1+(1:Int)))) else some (.nxt s1))):Option (Out _ Int)))
noncomputable def seeF (l0:List GRule) (rep1:Int) (t2:List GNode):Nat→GRow→Unit→Option (Out Bool Unit):=(fun (n2:Nat) (x2:GRow) (s2:Unit)=>(((ref07Leaf t2 x2.path x2.leaf.typ).bind fun v29=>((if ((!v29.2)==false)=true then wX l0 rep1 x2.path else some default).bind fun v30=>(if (((!v29.2) || (!v30)) || (v29.1.typ != x2.leaf.typ))=true then some (.ret false) else some (.nxt ())))):Option (Out _ Unit)))
theorem patch_eq (t0:List GNode) (l1:List GEdit):diffPatch t0 l1=((treeMay t0).bind fun v1=>((if ((!v1)==false)=true then diffMay l1 else some default).bind fun v2=>(if ((!v1) || (!v2))=true then some (([]:List GNode),(2:Int)) else ((qY t0 ([([42,42]:zR)]:List zR)).bind fun v4=>(lp (ya (patF t0) l1 0 v4.1) fun (s1:(List GNode))=>some (s1,(0:Int))))))):=rfl
theorem view_eq (l0:List GRule) (rep1:Int) (t2:List GNode):qn l0 rep1 t2=((vK l0).bind fun v1=>((if ((!v1)==false)=true then treeMay t2 else some default).bind fun v2=>(if ((!v1) || (!v2))=true then some (([]:List GNode),(2:Int)) else ((qJ t2).bind fun v4=>(lp (ya (viewF l0 rep1) v4 0 ([]:List GEdit)) fun (s1:(List GEdit))=>((diffPatch ([]:List GNode) s1).bind fun v16=>some (v16.1,v16.2))))))):=rfl
theorem small_nil:Small []:=⟨(GNode.wfs_iff []).2 (by simp),by simp [GNode.bks]⟩
theorem tree_nil (d:Nat):treeB d []=true:=by simp [treeB,vx,upB,allI]
theorem leafNew_tot (k:Int):∃ v,leafNew k=some v:=by unfold leafNew;split <;> exact ⟨_,rfl⟩
theorem treeLeaf_nil (a:zR) (q:List zR) (k:Int):∃ v,treeLeaf [] (a::q) k=some (v,false):=by
 obtain ⟨v,hv⟩:=leafNew_tot k
 refine ⟨v,?_⟩
 unfold treeLeaf
 have e1:treeXlinear [] a=some ((GNode.mk ([]:zR) ([]:List GLeaf) ([]:List GNode)),false):=rfl
 simp only [ya,e1,Option.bind_some,Bool.not_false,if_true,wc]
 have e2:wV [] (fun x0=>treeLeafC1 x0 k)=some (-1):=rfl
 rw [e2,Option.bind_some]
 have e3:((true || decide ((-1:Int) < 0))==false)=false:=rfl
 simp only [e3,Bool.false_eq_true,if_false,Option.bind_some,Bool.true_or,if_true,hv]
 rfl
theorem patF_row {r:GRow} {t u:List GNode} (hp:r.path ≠ []) (h:Lay t r.path r.leaf u) (n:Nat):patF [] n (edR r) t=some (.nxt u):=by
 obtain ⟨a,q,e⟩:∃ a q,r.path=a::q:=by
  cases hq:r.path with
  | nil=>exact absurd hq hp
  | cons a q=>exact ⟨a,q,rfl⟩
 obtain ⟨v,hv⟩:=treeLeaf_nil a q r.leaf.typ
 rw [← e] at hv
 have p1:(edR r).had=false:=rfl
 have p2:(edR r).has=true:=rfl
 have p3:(edR r).typ=r.leaf.typ:=rfl
 have p4:(edR r).path=r.path:=rfl
 have p6:(edR r).is=r.leaf:=rfl
 unfold patF
 rw [p1,p2,p3,p4,p6,hv,Option.bind_some]
 have e1:(((!(false==false))==false)&&(false==true))=false:=rfl
 simp only [e1,Bool.false_eq_true,if_false,Option.bind_some,Bool.false_and,Bool.or_false,beq_self_eq_true,Bool.not_true,h.is]
 rfl
theorem pat_rows:∀ {rs:List GRow} {t t':List GNode} (n:Nat),(∀ r ∈ rs,r.path ≠ [])→Lays t rs t'→ya (patF []) (rs.map edR) n t=some (.inr t')
 | [],_,_,_,_,h=>by cases h;rfl
 | r::rs,t,t',n,hp,⟨u,hu,_,h⟩=>by
  simp only [List.map_cons,ya,patF_row (hp r (by simp)) hu]
  exact pat_rows (n+1) (fun x hx=>hp x (by simp [hx])) h
theorem pathB_ne {p:List zR} (h:pathB p=true):p ≠ []:=by
 rintro rfl
 simp [pathB] at h
theorem patch_tree {t:List GNode} (h:Small t) (ht:treeB 0 t=true):diffPatch [] ((xt [] t).map edR)=some (t,0):=by
 have hok:=rows_ok t 0 [] h ht rfl rfl
 have ht':=ht
 simp only [treeB,Bool.and_eq_true] at ht'
 have hlen:(xt [] t).length≤1048576:=Nat.le_trans (rows_len _ t [] (Nat.le_refl _)) h.2
 have hl:=lays_tree t 0 [] h ht'.1.2 ht'.2 (by simp) (by simpa using h.len)
 rw [List.nil_append] at hl
 rw [patch_eq,treeMay_is small_nil,tree_nil,Option.bind_some]
 have e1:((!true)==false)=true:=rfl
 rw [if_pos e1,diffMay_rows hlen hok (rows_lt t 0 [] ht'.1.2 ht'.2),Option.bind_some,if_neg (by decide)]
 obtain ⟨v,hv,h0⟩:∃ v,qY [] [[42,42]]=some v∧v.1=[]:=by
  rw [pathsSelect_is small_nil (by simp [maxLen])]
  split
  ·exact ⟨_,rfl,rfl⟩
  ·exact ⟨_,rfl,rfl⟩
 rw [hv,Option.bind_some,h0,pat_rows 0 (fun r hr=>pathB_ne (hok r hr).path) hl,wc]
def showB (l:List GRule) (rep:Int) (p:List zR):Bool:=letB (vQ rep p (fun y=>y.read)) l
theorem shows_is {l:List GRule} (hl:l.length≤maxLen) (h:∀ x ∈ l,wB x) (hr:rulesB l=true) (rep:Int) (path:List zR):wX l rep path=some (showB l rep path):=by
 rw [rightsShows_is hl h,hr];rfl
theorem view_is {l:List GRule} (hl:l.length≤maxLen) (h:∀ x ∈ l,wB x) (hr:rulesB l=true) (rep:Int) {t:List GNode} (hs:Small t) (ht:treeB 0 t=true):qn l rep t=some (vE (showB l rep) [] t,0):=by
 rw [view_eq,vf h,hr,Option.bind_some]
 have e1:((!true)==false)=true:=rfl
 rw [if_pos e1,treeMay_is hs,ht,Option.bind_some,if_neg (by decide),pathsRows_is hs,if_pos ht,Option.bind_some]
 have hlen:(xt [] t).length≤1048576:=Nat.le_trans (rows_len _ t [] (Nat.le_refl _)) hs.2
 rw [loop_keep (fun r:GRow=>showB l rep r.path) edR (xt [] t) 0 [] (wp (by simp;omega)) (fun i x s _ hsl=>by
  unfold viewF
  rw [shows_is hl h hr,Option.bind_some]
  cases showB l rep x.path with
  | false=>rfl
  | true =>
   rw [if_pos rfl,if_pos rfl,zW (by simpa using hsl)]
   rfl),wc]
 have hk:=keep_rows (showB l rep) t []
 rw [List.nil_append,← hk,patch_tree (hs.keep (is:=showB l rep) []) (keep_may (showB l rep) t 0 [] ht),Option.bind_some]
end Go.Vv
