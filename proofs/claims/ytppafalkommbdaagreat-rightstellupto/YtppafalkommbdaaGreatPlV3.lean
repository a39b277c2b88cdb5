/- Layer 31: rows in their order are edits that may be. -/
import Derived.Test.YtppafalkommbdaaGreatPlV2
namespace Go.Vv
set_option linter.unusedVariables false
set_option linter.unusedSimpArgs false
open Go
def pathLt (a b:List zR):Prop:=(∃ y q,b=a++y::q) ∨ ∃ p x y a' b',a=p++x::a'∧b=p++y::b'∧Op.bytesLess x y=true
theorem less_irr:∀ (a:List UInt8),Op.bytesLess a a=false
 | []=>rfl
 | x::a=>by simp [Op.bytesLess,less_irr a]
theorem cmpS_self (x:zR):wA x x=some 0:=by
 unfold wA vL
 simp [less_irr]
theorem cmpS_less {x y:zR} (h:Op.bytesLess x y=true):wA x y=some (-1):=by
 unfold wA vL
 simp [h]
noncomputable def cmpF (s2:List zR):Nat→zR→Unit→Option (Out Int Unit):=fun n x _=>if (decide ((n:Int) ≥ ((s2).length:Int)))=true then some (.ret (1:Int)) else ((vH s2 (n:Int)).bind fun y12=>((wA x y12).bind fun v13=>(if (v13 != (0:Int))=true then some (.ret v13) else some (.nxt ()))))
theorem cmpP_eq (a b:List zR):wW a b=lp (ya (cmpF b) a 0 ()) fun _=>(if (decide (((a).length:Int) < ((b).length:Int)))=true then some (-1:Int) else some (0:Int)):=rfl
theorem cmp_pre {s2:List zR}:∀ (p a:List zR) (q b:List zR),s2=q++(p++b)→ya (cmpF s2) (p++a) q.length ()=ya (cmpF s2) a (q.length+p.length) ()
 | [],a,q,b,_=>rfl
 | x::p,a,q,b,h=>by
  have hl:q.length < s2.length:=by rw [h];simp
  have hx:vH s2 (q.length:Int)=some x:=yA (by rw [h];simp)
  have e:cmpF s2 q.length x ()=some (.nxt ()):=by
   unfold cmpF
   rw [decide_eq_false (by omega)]
   simp only [Bool.false_eq_true,if_false,hx,Option.bind_some,cmpS_self,bne_self_eq_false]
  simp only [List.cons_append,ya,e]
  have:=cmp_pre (s2:=s2) p a (q++[x]) b (by rw [h];simp)
  rw [List.length_append,List.length_singleton] at this
  rw [this]
  congr 1
  simp only [List.length_cons];omega
theorem cmpP_lt {a b:List zR} (h:pathLt a b):wW a b=some (-1):=by
 rw [cmpP_eq]
 rcases h with ⟨y,q,rfl⟩ | ⟨p,x,y,a',b',rfl,rfl,h⟩
 ·have:=cmp_pre (s2:=a++y::q) a [] [] (y::q) rfl
  rw [List.append_nil,List.length_nil] at this
  rw [this]
  simp only [ya,wc]
  rw [if_pos (decide_eq_true (by simp only [List.length_append,List.length_cons];omega))]
 ·have:=cmp_pre (s2:=p++y::b') p (x::a') [] (y::b') rfl
  rw [List.length_nil] at this
  rw [this]
  have hx:vH (p++y::b') ((0+p.length:Nat):Int)=some y:=yA (by simp)
  have e:cmpF (p++y::b') (0+p.length) x ()=some (.ret (-1)):=by
   unfold cmpF
   rw [decide_eq_false (by simp only [List.length_append,List.length_cons];omega)]
   simp only [Bool.false_eq_true,if_false,hx,Option.bind_some,cmpS_less h]
   rfl
  simp only [ya,e,lp_inl]
theorem cmpP_self (a:List zR):wW a a=some 0:=by
 rw [cmpP_eq]
 have:=cmp_pre (s2:=a) a [] [] [] (by simp)
 rw [List.append_nil,List.length_nil] at this
 rw [this]
 simp only [ya,wc]
 rw [if_neg (by simp)]
def rowLt (r q:GRow):Prop:=pathLt r.path q.path ∨ (r.path=q.path∧r.leaf.typ < q.leaf.typ)
def leaf0:GLeaf:=GLeaf.mk (0:Int) (0:Int) (0:Int) (GDot.mk (GActor.mk (0:Int) (0:Int)) (0:Int)) ([]:zR) ([]:List GItem) ([]:List GDot)
def edR (r:GRow):GEdit:=GEdit.mk r.path r.leaf.typ false true leaf0 r.leaf
theorem order_lt {r q:GRow} (h:rowLt r q):∃ v,diffXorder (edR r) (edR q)=some v∧v < 0:=by
 unfold diffXorder edR
 rcases h with h | ⟨h1,h2⟩
 ·simp only [cmpP_lt h,cmpU8,Option.bind_some]
  exact ⟨-1,rfl,by decide⟩
 ·simp only [h1,cmpP_self,cmpU8,Option.bind_some,if_pos h2]
  exact ⟨-1,rfl,by decide⟩
theorem rows_head {t:List GNode} {a:List zR} {r:GRow} (h:r ∈ xt a t):∃ x ∈ t,∃ w,r.path=a++x.name::w:=by
 rw [xP,List.mem_flatMap] at h
 obtain ⟨x,hx,h⟩:=h
 refine ⟨x,hx,?_⟩
 rw [vD,List.mem_append,List.mem_map] at h
 rcases h with ⟨l,_,rfl⟩ | h
 ·exact ⟨[],rfl⟩
 ·have:=rows_pre x.subs (a++[x.name]) []
  rw [List.append_nil] at this
  rw [this,List.mem_map] at h
  obtain ⟨q,_,rfl⟩:=h
  exact ⟨q.path,by simp [preR]⟩
theorem rows_lt:∀ (t:List GNode) (d:Nat) (a:List zR),upB t=true→vx d t=true→(xt a t).Pairwise rowLt:=by
 refine tree_ind (fun _ _ _ _=>List.Pairwise.nil) ?_
 intro x r hx hr d a hu hn
 rw [xP,List.flatMap_cons,← xP]
 rw [upB_iff,List.pairwise_cons] at hu
 simp only [vx,Bool.and_eq_true] at hn
 obtain ⟨hnx,hnr⟩:=hn
 rw [nodeB_eq] at hnx
 simp only [Bool.and_eq_true] at hnx
 obtain ⟨⟨⟨_,_⟩,hsub⟩,hlv⟩:=hnx
 simp only [treeB,Bool.and_eq_true] at hsub
 obtain ⟨hpw,_⟩:=leaves_up hlv
 rw [List.pairwise_append]
 refine ⟨?_,hr d a (upB_iff r |>.2 hu.2) hnr,fun q hq q' hq'=>?_⟩
 ·rw [vD,List.pairwise_append]
  refine ⟨?_,hx (d+1) _ hsub.1.2 hsub.2,fun q hq q' hq'=>?_⟩
  ·rw [List.pairwise_map]
   exact hpw.imp fun h=>.inr ⟨rfl,h⟩
  ·rw [List.mem_map] at hq
   obtain ⟨l,_,rfl⟩:=hq
   obtain ⟨y,_,w,e⟩:=rows_head hq'
   exact .inl (.inl ⟨y.name,w,e⟩)
 ·have h1:∃ w,q.path=a++x.name::w:=by
   have:q ∈ xt a [x]:=by rw [xP];simpa using hq
   obtain ⟨z,hz,w,e⟩:=rows_head this
   simp only [List.mem_singleton] at hz
   subst hz
   exact ⟨w,e⟩
  obtain ⟨w,e1⟩:=h1
  obtain ⟨y,hy,w',e2⟩:=rows_head hq'
  exact .inl (.inr ⟨a,x.name,y.name,w,w',e1,e2,hu.1 y hy⟩)
structure RowOk' (r:GRow):Prop where
 path:pathB r.path=true
 leaf:leafB r.leaf=true
 ok:LeafOk r.leaf
theorem rows_ok:∀ (t:List GNode) (d:Nat) (a:List zR),Small t→treeB d t=true→a.length=d→a.all nameB=true→∀ r ∈ xt a t,RowOk' r:=by
 have key:∀ (t:List GNode),(∀ (d:Nat) (a:List zR),Small t→vx d t=true→d < 3→a.length=d→a.all nameB=true→∀ r ∈ xt a t,RowOk' r):=by
  refine tree_ind (fun _ _ _ _ _ _ _ _ h=>by simp [xt] at h) ?_
  intro x r hx hr d a hs hn hd hl ha q hq
  rw [xP,List.flatMap_cons,List.mem_append,← xP] at hq
  simp only [vx,Bool.and_eq_true] at hn
  obtain ⟨hnx,hnr⟩:=hn
  rcases hq with hq | hq
  ·rw [nodeB_eq] at hnx
   simp only [Bool.and_eq_true] at hnx
   obtain ⟨⟨⟨hnm,_⟩,hsub⟩,hlv⟩:=hnx
   have ha':(a++[x.name]).all nameB=true:=by rw [List.all_append,ha];simpa using hnm
   rw [vD,List.mem_append,List.mem_map] at hq
   rcases hq with ⟨l,hl',rfl⟩ | hq
   ·refine ⟨?_,(leaves_up hlv).2 l hl',hs.leaf (by simp) hl'⟩
    simp only [pathB,ha',Bool.and_true,List.length_append,List.length_cons,List.length_nil,Bool.and_eq_true,decide_eq_true_eq]
    omega
   ·simp only [treeB,Bool.and_eq_true,Bool.or_eq_true,List.isEmpty_iff,decide_eq_true_eq] at hsub
    rcases hsub.1.1 with h0 | h0
    ·rw [h0] at hq;simp [xt] at hq
    ·exact hx (d+1) _ (hs.subs (by simp)) hsub.2 h0 (by simp [hl]) ha' q hq
  ·exact hr d a hs.tail hnr hd hl ha q hq
 intro t d a hs ht hl ha r hr
 simp only [treeB,Bool.and_eq_true,Bool.or_eq_true,List.isEmpty_iff,decide_eq_true_eq] at ht
 rcases ht.1.1 with h0 | h0
 ·rw [h0] at hr;simp [xt] at hr
 ·exact key t d a hs ht.2 h0 hl ha r hr
theorem side0 (k:Int):diffXside false leaf0 k=some true:=by
 unfold diffXside
 simp only [Bool.not_false,if_true]
 have:=leafSame_is leaf0 leaf0
 unfold leaf0 at this ⊢
 rw [this]
 simp
theorem side1 {l:GLeaf} (h:leafB l=true) (ho:LeafOk l):diffXside true l l.typ=some true:=by
 unfold diffXside
 have hm:leafMay l=some true:=by
  rw [leafMay_is (Nat.le_trans ho.items (by decide)) (Nat.le_trans ho.tombs (by decide)),h]
 simp [hm]
theorem diffMay_rows {rs:List GRow} (hlen:rs.length≤1048576) (hok:∀ r ∈ rs,RowOk' r) (hlt:rs.Pairwise rowLt):diffMay (rs.map edR)=some true:=by
 unfold diffMay
 rw [lp_all (r:=false) (fun _ _=>true) (fun i x hx=>?_)]
 ·have:allI (fun _ _=>true) (rs.map edR)=true:=allI_iff.2 fun _ _ _=>rfl
  rw [if_pos this]
 ·rw [List.getElem?_map,Option.map_eq_some_iff] at hx
  obtain ⟨r,hr,rfl⟩:=hx
  have hi:=(List.getElem?_eq_some_iff.1 hr).1
  have ho:=hok r (List.mem_of_getElem? hr)
  have ht:=leaf_typ ho.leaf
  have e1:decide (r.leaf.typ ≥ 1)=true:=decide_eq_true ht.1
  have e2:decide (r.leaf.typ≤4)=true:=decide_eq_true ht.2
  have e3:opMayPath r.path=some true:=by rw [opMayPath_is,ho.path]
  have eo:∃ v,(if ((decide ((i:Int) > (0:Int)))==true)=true then diffXorder ((rs.map edR).getD (IntKind.wrap .i64 ((i:Int) - (1:Int))).toNat default) (edR r) else some default)=some v∧((decide ((i:Int) > 0))&&(decide (v ≥ 0)))=false:=by
   by_cases h0:0 < i
   ·have ew:IntKind.wrap .i64 ((i:Int) - 1)=((i - 1:Nat):Int):=by rw [w64n (by omega)];omega
    have hp:rs[i - 1]?=some rs[i - 1]:=List.getElem?_eq_getElem (by omega)
    obtain ⟨v,h1,h2⟩:=order_lt (r:=rs[i - 1]) (q:=r) (by
     have:=List.pairwise_iff_getElem.1 hlt (i - 1) i (by omega) hi (by omega)
     rwa [(List.getElem?_eq_some_iff.1 hr).2] at this)
    have eg:(rs.map edR).getD (i - 1) default=edR rs[i - 1]:=by
     rw [List.getD_eq_getElem?_getD,List.getElem?_map,hp];rfl
    rw [decide_eq_true (by omega:(i:Int) > 0),ew,Int.toNat_natCast,eg,h1]
    exact ⟨v,rfl,by rw [decide_eq_false (by omega)];rfl⟩
   ·rw [decide_eq_false (by omega:¬ (i:Int) > 0)]
    exact ⟨default,rfl,rfl⟩
  obtain ⟨v,ev1,ev2⟩:=eo
  have ec:((decide ((i:Int) > (0:Int)))==true)=true→0≤(IntKind.wrap .i64 ((i:Int) - (1:Int)))∧(IntKind.wrap .i64 ((i:Int) - (1:Int))) < (((rs.map edR)).length:Int):=by
   intro h
   simp only [beq_iff_eq,decide_eq_true_eq] at h
   rw [w64n (by omega),List.length_map];omega
  have p1:(edR r).had=false:=rfl
  have p2:(edR r).has=true:=rfl
  have p3:(edR r).typ=r.leaf.typ:=rfl
  have p4:(edR r).path=r.path:=rfl
  have p5:(edR r).was=leaf0:=rfl
  have p6:(edR r).is=r.leaf:=rfl
  rw [p1,p2,p3,p4,p5,p6,e1,e2,e3]
  have q0:((false&&true)==true)=false:=rfl
  rw [q0,if_neg (by decide),Option.bind_some,Option.bind_some]
  have q1:∀ z:Bool,((((!true) || (!(true&&true))) || ((!false)&&(!true))) || ((false&&true)&&z))=false:=fun z=>by cases z <;> rfl
  rw [q1,if_pos (by rfl),side0,Option.bind_some]
  have q2:((false || (!true))==false)=true:=rfl
  rw [if_pos q2,side1 ho.leaf ho.ok,Option.bind_some]
  have q3:((false || (!true)) || (!true))=false:=rfl
  rw [q3,if_neg (by decide),zW ec,ev1,Option.bind_some,ev2]
  simp
end Go.Vv
