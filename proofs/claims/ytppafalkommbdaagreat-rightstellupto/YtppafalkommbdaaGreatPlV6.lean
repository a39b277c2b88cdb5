/- Rows of a tree, laid one behind the other by whatever lays. -/
import Derived.Test.YtppafalkommbdaaGreatPlV5
namespace Go.Vv
set_option linter.unusedVariables false
set_option linter.unusedSimpArgs false
open Go
abbrev LyR:=List GNode→List zR→GLeaf→List GNode→Prop
structure LyOk (Ly:LyR):Prop where
 leafNew:∀ {t:List GNode} {s:zR} {l:GLeaf},t.length+1≤1048576→(∀ y ∈ t,Op.bytesLess y.name s=true)→LeafOk l→Ly t [s] l (t++[⟨s,[l],[]⟩])
 leafOld:∀ {t:List GNode} {s:zR} {l:GLeaf} {ls:List GLeaf},t.length+1≤1048576→(∀ y ∈ t,Op.bytesLess y.name s=true)→LeafOk l→ls.length≤11→(ls++[l]).Pairwise (fun x y=>x.typ < y.typ)→Ly (t++[⟨s,ls,[]⟩]) [s] l (t++[⟨s,ls++[l],[]⟩])
 subOld:∀ {t:List GNode} {s a:zR} {q:List zR} {l:GLeaf} {ls:List GLeaf} {sb u:List GNode},t.length+1≤1048576→(∀ y ∈ t,Op.bytesLess y.name s=true)→ls.length≤1048576→0 < u.length→u.length≤1048576→(a::q).length+1≤1048576→Ly sb (a::q) l u→Ly (t++[⟨s,ls,sb⟩]) (s::a::q) l (t++[⟨s,ls,u⟩])
 subNew:∀ {t:List GNode} {s a:zR} {q:List zR} {l:GLeaf} {u:List GNode},t.length+1≤1048576→(∀ y ∈ t,Op.bytesLess y.name s=true)→0 < u.length→u.length≤1048576→(a::q).length+1≤1048576→Ly [] (a::q) l u→Ly t (s::a::q) l (t++[⟨s,[],u⟩])
def LaysG (Ly:LyR):List GNode→List GRow→List GNode→Prop
 | t,[],t'=>t'=t
 | t,r::rs,t'=>∃ t1,Ly t r.path r.leaf t1∧(0 < t1.length∧t1.length≤1048576)∧LaysG Ly t1 rs t'
section
variable {Ly:LyR}
theorem LaysG.app:∀ {a b:List GRow} {t t1 t2:List GNode},LaysG Ly t a t1→LaysG Ly t1 b t2→LaysG Ly t (a++b) t2
 | [],_,_,_,_,h,k=>by cases h;exact k
 | _::_,_,_,_,_,⟨u,h1,h0,h2⟩,k=>⟨u,h1,h0,h2.app k⟩
theorem LaysG.below (ok:LyOk Ly) {t:List GNode} {s:zR} {ls:List GLeaf} (ht:t.length+1≤1048576) (hn:∀ y ∈ t,Op.bytesLess y.name s=true) (h1:ls.length≤1048576) :
  ∀ {rs:List GRow} {sb sb':List GNode},LaysG Ly sb rs sb'→(∀ r ∈ rs,0 < r.path.length∧r.path.length+1≤1048576)→LaysG Ly (t++[⟨s,ls,sb⟩]) (rs.map (preR [s])) (t++[⟨s,ls,sb'⟩])
 | [],_,_,h,_=>by cases h;rfl
 | r::rs,sb,sb',⟨u,hu,⟨u0,u1⟩,h⟩,hp=>by
  obtain ⟨h0,hp1⟩:=hp r (by simp)
  obtain ⟨a,q,e⟩:∃ a q,r.path=a::q:=by
   cases hq:r.path with
   | nil=>rw [hq] at h0;simp at h0
   | cons a q=>exact ⟨a,q,rfl⟩
  refine ⟨t++[⟨s,ls,u⟩],?_,by simp;omega,LaysG.below ok ht hn h1 h (fun x hx=>hp x (by simp [hx]))⟩
  simp only [preR,e,List.singleton_append]
  rw [e] at hu hp1
  exact ok.subOld ht hn h1 u0 u1 hp1 hu
theorem LaysG.leaves (ok:LyOk Ly) {t:List GNode} {s:zR} (ht:t.length+1≤1048576) (hn:∀ y ∈ t,Op.bytesLess y.name s=true) :
  ∀ {ls ls0:List GLeaf},(∀ l ∈ ls,LeafOk l)→(ls0++ls).length≤12→(ls0++ls).Pairwise (fun x y=>x.typ < y.typ)→LaysG Ly (t++[⟨s,ls0,[]⟩]) (ls.map fun l=>⟨[s],l⟩) (t++[⟨s,ls0++ls,[]⟩])
 | [],ls0,_,_,_=>by rw [List.append_nil];rfl
 | l::ls,ls0,hl,hs,hp=>by
  have e:ls0++l::ls=(ls0++[l])++ls:=by simp
  rw [e] at hs hp ⊢
  have hs':=hs
  simp only [List.length_append,List.length_cons,List.length_nil] at hs'
  refine ⟨t++[⟨s,ls0++[l],[]⟩],?_,by simp;omega,LaysG.leaves ok ht hn (fun x hx=>hl x (by simp [hx])) hs hp⟩
  refine ok.leafOld ht hn (hl l (by simp)) (by omega) ?_
  rw [List.pairwise_append] at hp
  exact hp.1
theorem laysG_tree (ok:LyOk Ly):∀ (t:List GNode) (d:Nat) (done:List GNode),Small t→upB t=true→vx d t=true→(∀ y ∈ done,∀ x ∈ t,Op.bytesLess y.name x.name=true)→(done++t).length≤1048576→LaysG Ly done (xt [] t) (done++t):=by
 refine tree_ind (fun d done _ _ _ _ _=>by rw [List.append_nil];rfl) ?_
 intro x r hx hr d done hs hu hn hd hl
 rw [xP,List.flatMap_cons,← xP]
 rw [upB_iff,List.pairwise_cons] at hu
 simp only [vx,Bool.and_eq_true] at hn
 obtain ⟨hnx,hnr⟩:=hn
 rw [nodeB_eq] at hnx
 simp only [Bool.and_eq_true] at hnx
 obtain ⟨⟨⟨_,hne⟩,hsub⟩,hlv⟩:=hnx
 simp only [treeB,Bool.and_eq_true] at hsub
 simp only [List.length_append,List.length_cons] at hl
 have hsx:Small x.subs:=hs.subs (by simp)
 have hdn:∀ y ∈ done,Op.bytesLess y.name x.name=true:=fun y hy=>hd y hy x (by simp)
 obtain ⟨hpw,hlf⟩:=leaves_up hlv
 have hlen:x.leaves.length≤12:=by
  have:=typ_len x.leaves 1 hpw fun l hl=>leaf_typ (hlf l hl)
  omega
 have hok:∀ l ∈ x.leaves,LeafOk l:=fun l hl=>hs.leaf (by simp) hl
 have hsb:=hx (d+1) [] hsx hsub.1.2 hsub.2 (by simp) (by simpa using hsx.len)
 rw [List.nil_append] at hsb
 have hpth:∀ q ∈ xt [] x.subs,0 < q.path.length∧q.path.length+1≤1048576:=fun q hq=>by
  have h1:=rows_path x.subs [] q hq
  have h2:=vr x
  have h3:x.dep≤GNode.deps (x::r):=dep_mem (by simp)
  have h4:=hs.dep
  simp only [List.length_nil] at h1
  omega
 have hxx:LaysG Ly done (rowsN [] x) (done++[x]):=by
  have ex:x=⟨x.name,x.leaves,x.subs⟩:=by cases x;rfl
  rw [vD,List.nil_append]
  have er:xt [x.name] x.subs=(xt [] x.subs).map (preR [x.name]):=by
   have:=rows_pre x.subs [x.name] []
   rwa [List.append_nil] at this
  rw [er]
  cases hls:x.leaves with
  | cons l ls =>
   rw [hls] at hpw hlen hok
   have g1:LaysG Ly (done++[⟨x.name,[l],[]⟩]) (ls.map fun l=>⟨[x.name],l⟩) (done++[⟨x.name,[l]++ls,[]⟩]):=LaysG.leaves ok (by omega) hdn (fun y hy=>hok y (by simp [hy])) (by simpa using hlen) (by simpa using hpw)
   have g2:LaysG Ly (done++[⟨x.name,l::ls,[]⟩]) ((xt [] x.subs).map (preR [x.name])) (done++[⟨x.name,l::ls,x.subs⟩]):=LaysG.below ok (by omega) hdn (by omega) hsb hpth
   rw [← hls,← ex] at g2
   refine ⟨done++[⟨x.name,[l],[]⟩],?_,by simp;omega,?_⟩
   ·exact ok.leafNew (by omega) hdn (hok l (by simp))
   ·rw [hls] at g2
    exact g1.app g2
  | nil =>
   have hnb:x.subs ≠ []:=by
    intro e
    rw [hls,e] at hne
    simp at hne
   cases hrw:xt [] x.subs with
   | nil=>exact absurd (rows_nil x.subs (d+1) [] hsub.2 hrw) hnb
   | cons q qs =>
    rw [hrw] at hsb hpth
    obtain ⟨u,hu1,⟨hu2,hu3⟩,hu4⟩:=hsb
    obtain ⟨h0,hp1⟩:=hpth q (by simp)
    obtain ⟨a,p,e⟩:∃ a p,q.path=a::p:=by
     cases hq:q.path with
     | nil=>rw [hq] at h0;simp at h0
     | cons a p=>exact ⟨a,p,rfl⟩
    have g2:LaysG Ly (done++[⟨x.name,[],u⟩]) (qs.map (preR [x.name])) (done++[⟨x.name,[],x.subs⟩]):=LaysG.below ok (by omega) hdn (by simp) hu4 fun y hy=>hpth y (by simp [hy])
    rw [← hls,← ex] at g2
    refine ⟨done++[⟨x.name,[],u⟩],?_,by simp;omega,by rw [hls] at g2;exact g2⟩
    simp only [preR,e,List.singleton_append]
    rw [e] at hu1 hp1
    exact ok.subNew (by omega) hdn hu2 hu3 hp1 hu1
 have e:done++x::r=(done++[x])++r:=by simp
 rw [e]
 refine hxx.app (hr d (done++[x]) hs.tail (upB_iff r |>.2 hu.2) hnr (fun y hy z hz=>?_) (by simp;omega))
 rcases List.mem_append.1 hy with hy | hy
 ·exact hd y hy z (by simp [hz])
 ·simp only [List.mem_singleton] at hy
  subst hy
  exact hu.1 z hz
end
end Go.Vv
