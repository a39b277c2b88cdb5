/- Layer 31's lay: one row more, behind all others; all rows of a tree make it. -/
import Derived.Test.YtppafalkommbdaaGreatPlV1
namespace Go.Vv
set_option linter.unusedVariables false
set_option linter.unusedSimpArgs false
open Go
noncomputable def layIn (n:Nat) (path1:List zR) (kind2:Int) (l3:GLeaf) (there4:Bool) (s1:zR×(List GLeaf)×(List GNode)):Option (List GNode ⊕ ((List GLeaf)×(List GNode))):=((if (decide (((path1).length:Int) > (1:Int)))=true then ((slc path1 (1:Int) ((path1).length:Int)).bind fun m20=>((diffXlayN n s1.2.2 m20 kind2 l3 there4).bind fun v21=>some (.inr (s1.2.1,v21)))) else ((qz s1.2.1).bind fun v22=>((xT v22 (fun x0=>diffXlayC2 x0 kind2)).bind fun v23=>(if there4=true then ((diffXown l3).bind fun v25=>(x5 ((v22).length+(([v25]:List GLeaf)).length≤vy) (((vd (v22++([v25]:List GLeaf)) (fun x0 x1=>diffXlayC3 x0 x1)).bind fun v27=>some (.inr ((v22++([v25]:List GLeaf)),s1.2.2)))))) else some (.inr (v22,s1.2.2)))))):Option (_ ⊕ ((List GLeaf)×(List GNode))))
noncomputable def layRest (t0:List GNode) (i:Int) (f:Bool) (nm:zR) (s2:(List GLeaf)×(List GNode)):Option (List GNode):=((slc t0 (0:Int) i).bind fun m28=>((vp m28).bind fun v29=>(if (decide ((IntKind.wrap .i64 (((s2.1).length:Int)+((s2.2).length:Int))) > (0:Int)))=true then (x5 ((v29).length+(([(GNode.mk nm s2.1 s2.2)]:List GNode)).length≤vy) ((if f=true then ((slc t0 (IntKind.wrap .i64 (i+(1:Int))) ((t0).length:Int)).bind fun m35=>(x5 (((v29++([(GNode.mk nm s2.1 s2.2)]:List GNode))).length+(m35).length≤vy) (some ((v29++([(GNode.mk nm s2.1 s2.2)]:List GNode))++m35)))) else ((slc t0 i ((t0).length:Int)).bind fun m37=>(x5 (((v29++([(GNode.mk nm s2.1 s2.2)]:List GNode))).length+(m37).length≤vy) (some ((v29++([(GNode.mk nm s2.1 s2.2)]:List GNode))++m37))))))) else (if f=true then ((slc t0 (IntKind.wrap .i64 (i+(1:Int))) ((t0).length:Int)).bind fun m40=>(x5 ((v29).length+(m40).length≤vy) (some (v29++m40)))) else ((slc t0 i ((t0).length:Int)).bind fun m42=>(x5 ((v29).length+(m42).length≤vy) (some (v29++m42))))))))
theorem layN_eq (n:Nat) (t0:List GNode) (path1:List zR) (kind2:Int) (l3:GLeaf) (there4:Bool):diffXlayN (n+1) t0 path1 kind2 l3 there4=((vH path1 (0:Int)).bind fun y1=>((yx t0 y1 (fun x0 x1=>diffXlayC1 x0 x1)).bind fun v2=>((vH path1 (0:Int)).bind fun y3=>(lp ((if v2.2=true then ((vH t0 v2.1).bind fun y7=>some (.inr (y7.name,y7.leaves,y7.subs))) else some (.inr (y3,([]:List GLeaf),([]:List GNode)))):Option (_ ⊕ (zR×(List GLeaf)×(List GNode)))) fun (s1:zR×(List GLeaf)×(List GNode))=>(lp (layIn n path1 kind2 l3 there4 s1) fun (s2:(List GLeaf)×(List GNode))=>layRest t0 v2.1 v2.2 s1.1 s2))))):=rfl
theorem cloneLeaf_is {L:List GLeaf} (h:L.length≤vy):qz L=some L:=clone_is h
theorem cloneNode_is {L:List GNode} (h:L.length≤vy):vp L=some L:=clone_is h
theorem wp {n:Nat} (h:n≤1048577):n≤vy:=Nat.le_trans h (by decide)
theorem own_is {l:GLeaf} (h:LeafOk l):diffXown l=some l:=by
 unfold diffXown
 rw [cloneItem_is (wp (Nat.le_succ_of_le h.items)),Option.bind_some,cloneDot_is (wp (Nat.le_succ_of_le h.tombs)),Option.bind_some]
theorem delete_is {L:List GLeaf} {k:Int} (h:∀ x ∈ L,x.typ ≠ k):xT L (fun x0=>diffXlayC2 x0 k)=some L:=by
 unfold xT wV
 rw [loopL_all (fun _=>true) (0:Int) L 0 (fun i x hx=>by
  unfold diffXlayC2
  rw [Option.bind_some,beq_eq_false_iff_ne.2 (h x hx)]
  rfl)]
 simp
theorem layIn_leaf {n:Nat} {s:zR} {l:GLeaf} {nm:zR} {ls:List GLeaf} {sb:List GNode} (hl:LeafOk l) (h1:ls.length≤11) (h2:(ls++[l]).Pairwise fun x y=>x.typ < y.typ):layIn n [s] l.typ l true (nm,ls,sb)=some (.inr (ls++[l],sb)):=by
 unfold layIn
 have e1:decide (((([s]:List zR).length:Int)) > 1)=false:=rfl
 have hlt:∀ x ∈ ls,x.typ < l.typ:=fun x hx=>by
  rw [List.pairwise_append] at h2
  exact h2.2.2 x hx l (by simp)
 simp only [e1,Bool.false_eq_true,if_false]
 rw [cloneLeaf_is (wp (by omega)),Option.bind_some,delete_is (fun x hx=>Int.ne_of_lt (hlt x hx)),Option.bind_some]
 simp only [if_true]
 rw [own_is hl,Option.bind_some,zW (wp (by simp;omega)),sort_is (by simp;omega) (fun i hi hi2=>by
  refine ⟨_,by unfold diffXlayC3;rw [cmpU8];rfl,?_⟩
  have:=List.pairwise_iff_getElem.1 h2 (i - 1) i (by omega) hi2 (by omega)
  simp only [List.getD_eq_getElem?_getD,List.getElem?_eq_getElem hi2,List.getElem?_eq_getElem (show i - 1 < (ls++[l]).length by omega),Option.getD_some]
  rw [if_neg (by omega)]
  split <;> omega),Option.bind_some]
theorem layIn_sub {n:Nat} {s a:zR} {r:List zR} {l:GLeaf} {nm:zR} {ls:List GLeaf} {sb sb':List GNode} (hr:(s::a::r).length≤1048576) (h:diffXlayN n sb (a::r) l.typ l true=some sb'):layIn n (s::a::r) l.typ l true (nm,ls,sb)=some (.inr (ls,sb')):=by
 unfold layIn
 have e1:decide ((((s::a::r).length:Int)) > 1)=true:=decide_eq_true (by simp only [List.length_cons];omega)
 simp only [e1,if_true]
 rw [slc_at ⟨by omega,by simp only [List.length_cons];omega,Int.le_refl _⟩,Option.bind_some]
 have e2:((s::a::r).take (((s::a::r).length:Int)).toNat).drop (1:Int).toNat=a::r:=by rw [Int.toNat_natCast,List.take_length];rfl
 rw [e2,h,Option.bind_some]
theorem layRest_new {t0:List GNode} {nm:zR} {ls:List GLeaf} {sb:List GNode} (ht:t0.length≤1048576) (h1:ls.length≤1048576) (h2:sb.length≤1048576) (h0:0 < ls.length+sb.length):layRest t0 (t0.length:Int) false nm (ls,sb)=some (t0++[⟨nm,ls,sb⟩]):=by
 unfold layRest
 rw [slc_at ⟨Int.le_refl _,by omega,Int.le_refl _⟩,Option.bind_some]
 have e1:(t0.take ((t0.length:Int)).toNat).drop (0:Int).toNat=t0:=by simp
 have e2:decide (IntKind.wrap .i64 ((ls.length:Int)+(sb.length:Int)) > 0)=true:=by rw [w64n (by omega)];exact decide_eq_true (by omega)
 rw [e1,cloneNode_is (wp (by omega)),Option.bind_some,if_pos e2,zW (wp (by simp;omega))]
 simp only [Bool.false_eq_true,if_false]
 rw [slc_at ⟨by omega,Int.le_refl _,Int.le_refl _⟩,Option.bind_some]
 have e3:(t0.take ((t0.length:Int)).toNat).drop ((t0.length:Int)).toNat=[]:=by simp
 rw [e3,zW (wp (by simp;omega)),List.append_nil]
theorem layRest_old {t0:List GNode} {x:GNode} {nm:zR} {ls:List GLeaf} {sb:List GNode} (ht:(t0++[x]).length≤1048576) (h1:ls.length≤1048576) (h2:sb.length≤1048576) (h0:0 < ls.length+sb.length):layRest (t0++[x]) (t0.length:Int) true nm (ls,sb)=some (t0++[⟨nm,ls,sb⟩]):=by
 simp only [List.length_append,List.length_cons,List.length_nil] at ht
 unfold layRest
 rw [slc_at ⟨Int.le_refl _,by omega,by simp only [List.length_append,List.length_cons,List.length_nil];omega⟩,Option.bind_some]
 have e1:((t0++[x]).take ((t0.length:Int)).toNat).drop (0:Int).toNat=t0:=by simp
 have e2:decide (IntKind.wrap .i64 ((ls.length:Int)+(sb.length:Int)) > 0)=true:=by rw [w64n (by omega)];exact decide_eq_true (by omega)
 rw [e1,cloneNode_is (wp (by omega)),Option.bind_some,if_pos e2,zW (wp (by simp;omega))]
 simp only [if_true]
 have e4:IntKind.wrap .i64 ((t0.length:Int)+1)=((t0++[x]).length:Int):=by rw [w64n (by omega)];simp
 rw [e4,slc_at ⟨by omega,Int.le_refl _,Int.le_refl _⟩,Option.bind_some]
 have e3:((t0++[x]).take (((t0++[x]).length:Int)).toNat).drop (((t0++[x]).length:Int)).toNat=[]:=by simp
 rw [e3,zW (wp (by simp;omega)),List.append_nil]
def Lay (t:List GNode) (p:List zR) (l:GLeaf) (t':List GNode):Prop:=∀ n,p.length < n→diffXlayN n t p l.typ l true=some t'
theorem Lay.is {t t':List GNode} {p:List zR} {l:GLeaf} (h:Lay t p l t'):diffXlay t p l.typ l true=some t':=anyN_of (p.length+1) fun n hn=>h n (by omega)
theorem lay_new {t:List GNode} {s:zR} {r:List zR} {l:GLeaf} {ls:List GLeaf} {sb:List GNode} (ht:t.length≤1048576) (hn:∀ y ∈ t,Op.bytesLess y.name s=true) (h1:ls.length≤1048576) (h2:sb.length≤1048576) (h0:0 < ls.length+sb.length)
  (hin:∀ n,r.length < n→layIn n (s::r) l.typ l true (s,[],[])=some (.inr (ls,sb))):Lay t (s::r) l (t++[⟨s,ls,sb⟩]):=by
 intro n hl
 obtain ⟨m,rfl⟩:∃ m,n=m+1:=⟨n - 1,by omega⟩
 rw [layN_eq]
 have e0:vH (s::r) (0:Int)=some s:=rfl
 rw [e0,Option.bind_some,bs_new ht hn,Option.bind_some,Option.bind_some]
 simp only [Bool.false_eq_true,if_false,wc]
 rw [hin m (by simp only [List.length_cons] at hl;omega),wc]
 exact layRest_new ht h1 h2 h0
theorem lay_old {t:List GNode} {s:zR} {r:List zR} {l:GLeaf} {ls0 ls:List GLeaf} {sb0 sb:List GNode} (ht:t.length+1≤1048576) (hn:∀ y ∈ t,Op.bytesLess y.name s=true) (h1:ls.length≤1048576) (h2:sb.length≤1048576) (h0:0 < ls.length+sb.length)
  (hin:∀ n,r.length < n→layIn n (s::r) l.typ l true (s,ls0,sb0)=some (.inr (ls,sb))):Lay (t++[⟨s,ls0,sb0⟩]) (s::r) l (t++[⟨s,ls,sb⟩]):=by
 intro n hl
 obtain ⟨m,rfl⟩:∃ m,n=m+1:=⟨n - 1,by omega⟩
 rw [layN_eq]
 have e0:vH (s::r) (0:Int)=some s:=rfl
 have hb:=bs_old (x:=t) (n:=⟨s,ls0,sb0⟩) (by simpa using ht) hn
 simp only at hb
 rw [e0,Option.bind_some,hb,Option.bind_some,Option.bind_some]
 have e1:vH (t++[(⟨s,ls0,sb0⟩:GNode)]) (t.length:Int)=some ⟨s,ls0,sb0⟩:=yA (by simp)
 simp only [if_true,e1,Option.bind_some,wc]
 rw [hin m (by simp only [List.length_cons] at hl;omega),wc]
 exact layRest_old (by simpa using ht) h1 h2 h0
def Lays:List GNode→List GRow→List GNode→Prop
 | t,[],t'=>t'=t
 | t,r::rs,t'=>∃ t1,Lay t r.path r.leaf t1∧(0 < t1.length∧t1.length≤1048576)∧Lays t1 rs t'
theorem Lays.app:∀ {a b:List GRow} {t t1 t2:List GNode},Lays t a t1→Lays t1 b t2→Lays t (a++b) t2
 | [],_,_,_,_,h,k=>by cases h;exact k
 | _::_,_,_,_,_,⟨u,h1,h0,h2⟩,k=>⟨u,h1,h0,h2.app k⟩
def preR (a:List zR) (r:GRow):GRow:=⟨a++r.path,r.leaf⟩
theorem rows_pre:∀ (t:List GNode) (a b:List zR),xt (a++b) t=(xt b t).map (preR a):=by
 refine tree_ind (fun _ _=>rfl) ?_
 intro x r hx hr a b
 rw [xP,xP,List.flatMap_cons,List.flatMap_cons,← xP,← xP,hr,List.map_append]
 congr 1
 rw [vD,vD,List.append_assoc,hx,List.map_append,List.map_map]
 rfl
theorem Lays.below {t:List GNode} {s:zR} {ls:List GLeaf} (ht:t.length+1≤1048576) (hn:∀ y ∈ t,Op.bytesLess y.name s=true) (h1:ls.length≤1048576) :
  ∀ {rs:List GRow} {sb sb':List GNode},Lays sb rs sb'→(∀ r ∈ rs,0 < r.path.length∧r.path.length+1≤1048576)→Lays (t++[⟨s,ls,sb⟩]) (rs.map (preR [s])) (t++[⟨s,ls,sb'⟩])
 | [],_,_,h,_=>by cases h;rfl
 | r::rs,sb,sb',⟨u,hu,⟨u0,u1⟩,h⟩,hp=>by
  obtain ⟨h0,hp1⟩:=hp r (by simp)
  obtain ⟨a,q,e⟩:∃ a q,r.path=a::q:=by
   cases hq:r.path with
   | nil=>rw [hq] at h0;simp at h0
   | cons a q=>exact ⟨a,q,rfl⟩
  refine ⟨t++[⟨s,ls,u⟩],?_,by simp;omega,Lays.below ht hn h1 h (fun x hx=>hp x (by simp [hx]))⟩
  simp only [preR,e,List.singleton_append]
  refine lay_old ht hn h1 u1 (by omega) fun n hl=>layIn_sub (by rw [e] at hp1;simp only [List.length_cons] at hp1 ⊢;omega) ?_
  have:=hu n (by rw [e];exact hl)
  rw [e] at this
  exact this
theorem Lays.leaves {t:List GNode} {s:zR} (ht:t.length+1≤1048576) (hn:∀ y ∈ t,Op.bytesLess y.name s=true) :
  ∀ {ls ls0:List GLeaf},(∀ l ∈ ls,LeafOk l)→(ls0++ls).length≤12→(ls0++ls).Pairwise (fun x y=>x.typ < y.typ)→Lays (t++[⟨s,ls0,[]⟩]) (ls.map fun l=>⟨[s],l⟩) (t++[⟨s,ls0++ls,[]⟩])
 | [],ls0,_,_,_=>by rw [List.append_nil];rfl
 | l::ls,ls0,hl,hs,hp=>by
  have e:ls0++l::ls=(ls0++[l])++ls:=by simp
  rw [e] at hs hp ⊢
  have hs':=hs
  simp only [List.length_append,List.length_cons,List.length_nil] at hs'
  refine ⟨t++[⟨s,ls0++[l],[]⟩],?_,by simp;omega,Lays.leaves ht hn (fun x hx=>hl x (by simp [hx])) hs hp⟩
  refine lay_old ht hn (by simp;omega) (by simp) (by simp) fun n _=>layIn_leaf (hl l (by simp)) (by omega) ?_
  rw [List.pairwise_append] at hp
  exact hp.1
theorem rows_path:∀ (t:List GNode) (a:List zR) (r:GRow),r ∈ xt a t→a.length < r.path.length∧r.path.length≤a.length+GNode.deps t:=by
 refine tree_ind (fun _ _ h=>by simp [xt] at h) ?_
 intro x r hx hr a q hq
 rw [xP,List.flatMap_cons,List.mem_append,← xP] at hq
 have h1:x.dep≤GNode.deps (x::r):=dep_mem (by simp)
 have h2:=vr x
 have h3:GNode.deps r≤GNode.deps (x::r):=by
  simp only [GNode.deps];omega
 rcases hq with hq | hq
 ·rw [vD,List.mem_append,List.mem_map] at hq
  rcases hq with ⟨l,_,rfl⟩ | hq
  ·simp;omega
  ·have:=hx _ _ hq
   simp only [List.length_append,List.length_cons,List.length_nil] at this
   omega
 ·have:=hr _ _ hq
  omega
theorem leaf_typ {l:GLeaf} (h:leafB l=true):1≤l.typ∧l.typ≤4:=by
 unfold leafB at h
 split at h
 ·omega
 split at h
 ·omega
 split at h
 ·omega
 split at h
 ·omega
 ·cases h
theorem leaves_up {ls:List GLeaf} (h:leavesB ls=true):ls.Pairwise (fun x y=>x.typ < y.typ)∧∀ l ∈ ls,leafB l=true:=by
 unfold leavesB at h
 rw [allI_iff] at h
 have h1:∀ l ∈ ls,leafB l=true:=fun l hl=>by
  obtain ⟨i,hi⟩:=List.mem_iff_getElem?.1 hl
  have:=h i l hi
  simp only [Bool.and_eq_true] at this
  exact this.1
 refine ⟨?_,h1⟩
 have step:∀ i,(hi:i+1 < ls.length)→ls[i].typ < ls[i+1].typ:=fun i hi=>by
  have:=h (i+1) _ (List.getElem?_eq_getElem hi)
  simp only [Nat.add_eq_zero_iff,Nat.one_ne_zero,and_false,decide_false,Bool.false_or,Bool.and_eq_true,decide_eq_true_eq,Nat.add_sub_cancel] at this
  have e:ls.getD i default=ls[i]:=by simp [List.getD_eq_getElem?_getD,List.getElem?_eq_getElem (show i < ls.length by omega)]
  rw [e] at this
  exact this.2
 rw [List.pairwise_iff_getElem]
 intro i j hi hj hij
 obtain ⟨k,rfl⟩:∃ k,j=i+1+k:=⟨j - (i+1),by omega⟩
 clear hij
 induction k with
 | zero=>exact step i hj
 | succ k ih=>exact Int.lt_trans (ih (by omega)) (step (i+1+k) hj)
theorem typ_len:∀ (ls:List GLeaf) (lo:Int),ls.Pairwise (fun x y=>x.typ < y.typ)→(∀ l ∈ ls,lo≤l.typ∧l.typ≤4)→(ls.length:Int)≤max 0 (5 - lo)
 | [],_,_,_=>by simp;omega
 | l::ls,lo,hp,h=>by
  rw [List.pairwise_cons] at hp
  have h0:=h l (by simp)
  have:=typ_len ls (lo+1) hp.2 fun x hx=>⟨by have:=hp.1 x hx;omega,(h x (by simp [hx])).2⟩
  simp only [List.length_cons]
  omega
theorem Small.tail {x:GNode} {r:List GNode} (h:Small (x::r)):Small r:=by
 refine ⟨(GNode.wfs_iff r).2 fun y hy=>(GNode.wfs_iff _).1 h.1 y (by simp [hy]),?_⟩
 have:=h.2
 simp only [GNode.bks] at this
 omega
theorem lays_tree:∀ (t:List GNode) (d:Nat) (done:List GNode),Small t→upB t=true→vx d t=true→(∀ y ∈ done,∀ x ∈ t,Op.bytesLess y.name x.name=true)→(done++t).length≤1048576→Lays done (xt [] t) (done++t):=by
 refine tree_ind (fun d done _ _ _ _ _=>by rw [List.append_nil];rfl) ?_
 intro x r hx hr d done hs hu hn hd hl
 rw [xP,List.flatMap_cons,← xP]
 rw [upB_iff,List.pairwise_cons] at hu
 simp only [vx,Bool.and_eq_true] at hn
 obtain ⟨hnx,hnr⟩:=hn
 rw [nodeB_eq] at hnx
 simp only [Bool.and_eq_true] at hnx
 obtain ⟨⟨⟨_,hne⟩,hsub⟩,hlv⟩:=hnx
 simp only [treeB,Bool.and_eq_true] at hsub
 simp only [List.length_append,List.length_cons] at hl
 have hsx:Small x.subs:=hs.subs (by simp)
 have hdn:∀ y ∈ done,Op.bytesLess y.name x.name=true:=fun y hy=>hd y hy x (by simp)
 obtain ⟨hpw,hlf⟩:=leaves_up hlv
 have hlen:x.leaves.length≤12:=by
  have:=typ_len x.leaves 1 hpw fun l hl=>leaf_typ (hlf l hl)
  omega
 have hok:∀ l ∈ x.leaves,LeafOk l:=fun l hl=>hs.leaf (by simp) hl
 have hsb:=hx (d+1) [] hsx hsub.1.2 hsub.2 (by simp) (by simpa using hsx.len)
 rw [List.nil_append] at hsb
 have hpth:∀ q ∈ xt [] x.subs,0 < q.path.length∧q.path.length+1≤1048576:=fun q hq=>by
  have h1:=rows_path x.subs [] q hq
  have h2:=vr x
  have h3:x.dep≤GNode.deps (x::r):=dep_mem (by simp)
  have h4:=hs.dep
  simp only [List.length_nil] at h1
  omega
 have hxx:Lays done (rowsN [] x) (done++[x]):=by
  have ex:x=⟨x.name,x.leaves,x.subs⟩:=by cases x;rfl
  rw [vD,List.nil_append]
  have er:xt [x.name] x.subs=(xt [] x.subs).map (preR [x.name]):=by
   have:=rows_pre x.subs [x.name] []
   rwa [List.append_nil] at this
  rw [er]
  cases hls:x.leaves with
  | cons l ls =>
   rw [hls] at hpw hlen hok
   have g1:Lays (done++[⟨x.name,[l],[]⟩]) (ls.map fun l=>⟨[x.name],l⟩) (done++[⟨x.name,[l]++ls,[]⟩]):=Lays.leaves (by omega) hdn (fun y hy=>hok y (by simp [hy])) (by simpa using hlen) (by simpa using hpw)
   have g2:Lays (done++[⟨x.name,l::ls,[]⟩]) ((xt [] x.subs).map (preR [x.name])) (done++[⟨x.name,l::ls,x.subs⟩]):=Lays.below (by omega) hdn (by omega) hsb hpth
   rw [← hls,← ex] at g2
   refine ⟨done++[⟨x.name,[l],[]⟩],?_,by simp;omega,?_⟩
   ·exact lay_new (by omega) hdn (by simp) (by simp) (by simp) fun n _=>layIn_leaf (ls:=[]) (hok l (by simp)) (by simp) (by simp)
   ·rw [hls] at g2
    exact g1.app g2
  | nil =>
   have hnb:x.subs ≠ []:=by
    intro e
    rw [hls,e] at hne
    simp at hne
   cases hrw:xt [] x.subs with
   | nil=>exact absurd (rows_nil x.subs (d+1) [] hsub.2 hrw) hnb
   | cons q qs =>
    rw [hrw] at hsb hpth
    obtain ⟨u,hu1,⟨hu2,hu3⟩,hu4⟩:=hsb
    obtain ⟨h0,hp1⟩:=hpth q (by simp)
    obtain ⟨a,p,e⟩:∃ a p,q.path=a::p:=by
     cases hq:q.path with
     | nil=>rw [hq] at h0;simp at h0
     | cons a p=>exact ⟨a,p,rfl⟩
    have g2:Lays (done++[⟨x.name,[],u⟩]) (qs.map (preR [x.name])) (done++[⟨x.name,[],x.subs⟩]):=Lays.below (by omega) hdn (by simp) hu4 fun y hy=>hpth y (by simp [hy])
    rw [← hls,← ex] at g2
    refine ⟨done++[⟨x.name,[],u⟩],?_,by simp;omega,by rw [hls] at g2;exact g2⟩
    simp only [preR,e,List.singleton_append]
    refine lay_new (by omega) hdn (by simp) hu3 (by simp;omega) fun n hl=>layIn_sub (by rw [e] at hp1;simp only [List.length_cons] at hp1 ⊢;omega) ?_
    have:=hu1 n (by rw [e];exact hl)
    rw [e] at this
    exact this
 have e:done++x::r=(done++[x])++r:=by simp
 rw [e]
 refine hxx.app (hr d (done++[x]) hs.tail (upB_iff r |>.2 hu.2) hnr (fun y hy z hz=>?_) (by simp;omega))
 rcases List.mem_append.1 hy with hy | hy
 ·exact hd y hy z (by simp [hz])
 ·simp only [List.mem_singleton] at hy
  subst hy
  exact hu.1 z hz
end Go.Vv
