/- The document's lay and rows. -/
import Derived.Test.YtppafalkommbdaaGreatPlV6
namespace Go.Vv
set_option linter.unusedVariables false
set_option linter.unusedSimpArgs false
open Go
noncomputable def l7A (t0:List GNode) (path1:List zR):(List GNode)×Int→Option (Out (List GNode) ((List GNode)×Int)):=(fun (s1:(List GNode)×Int)=>((x5 (((decide (s1.2 < ((t0).length:Int)))==true)=true→0≤s1.2∧s1.2 < ((t0).length:Int)) ((x5 (((decide (s1.2 < ((t0).length:Int)))==true)=true→0≤(0:Int)∧(0:Int) < ((path1).length:Int)) ((if ((decide (s1.2 < ((t0).length:Int)))&&(Op.bytesLess (((t0).getD s1.2.toNat default).name) ((path1).getD (0:Int).toNat default)))=true then ((vH t0 s1.2).bind fun y22=>(x5 ((s1.1).length+(([y22]:List GNode)).length≤vy) (some (.nxt ((s1.1++([y22]:List GNode)),(IntKind.wrap .i64 (s1.2+(1:Int)))))))) else some (.brk (s1.1,s1.2))))))):Option (Out _ ((List GNode)×Int))))
noncomputable def l7B (ls:List GLeaf) (l2:GLeaf):(List GLeaf)×Int→Option (Out (List GNode) ((List GLeaf)×Int)):=(fun (sd62:(List GLeaf)×Int)=>((x5 (((decide (sd62.2 < ((ls).length:Int)))==true)=true→0≤sd62.2∧sd62.2 < ((ls).length:Int)) ((if ((decide (sd62.2 < ((ls).length:Int)))&&(decide (((ls).getD sd62.2.toNat default).typ < l2.typ)))=true then ((vH ls sd62.2).bind fun y66=>(x5 ((sd62.1).length+(([y66]:List GLeaf)).length≤vy) (some (.nxt ((sd62.1++([y66]:List GLeaf)),(IntKind.wrap .i64 (sd62.2+(1:Int)))))))) else some (.brk (sd62.1,sd62.2))))):Option (Out _ ((List GLeaf)×Int))))
theorem lay7_eq (n:Nat) (t0:List GNode) (path1:List zR) (l2:GLeaf):vl (n+1) t0 path1 l2=(lp (wE (l7A t0 path1) (([]:List GNode),(0:Int))) fun (s1:(List GNode)×Int)=>((vH path1 (0:Int)).bind fun y24=>(lp ((x5 (((decide (s1.2 < ((t0).length:Int)))==true)=true→0≤s1.2∧s1.2 < ((t0).length:Int)) ((x5 (((decide (s1.2 < ((t0).length:Int)))==true)=true→0≤(0:Int)∧(0:Int) < ((path1).length:Int)) ((if ((decide (s1.2 < ((t0).length:Int)))&&(((t0).getD s1.2.toNat default).name==((path1).getD (0:Int).toNat default)))=true then ((vH t0 s1.2).bind fun y35=>some (.inr ((IntKind.wrap .i64 (s1.2+(1:Int))),y35.name,y35.leaves,y35.subs))) else some (.inr (s1.2,y24,([]:List GLeaf),([]:List GNode)))))))):Option (_ ⊕ (Int×zR×(List GLeaf)×(List GNode)))) fun (sd30:Int×zR×(List GLeaf)×(List GNode))=>(if (decide (((path1).length:Int) > (1:Int)))=true then ((slc path1 (1:Int) ((path1).length:Int)).bind fun m38=>((vl n sd30.2.2.2 m38 l2).bind fun v39=>(x5 ((s1.1).length+(([(GNode.mk sd30.2.1 sd30.2.2.1 v39)]:List GNode)).length≤vy) (((slc t0 sd30.1 ((t0).length:Int)).bind fun m41=>(x5 (((s1.1++([(GNode.mk sd30.2.1 sd30.2.2.1 v39)]:List GNode))).length+(m41).length≤vy) (some ((s1.1++([(GNode.mk sd30.2.1 sd30.2.2.1 v39)]:List GNode))++m41)))))))) else (lp (wE (l7B sd30.2.2.1 l2) (([]:List GLeaf),(0:Int))) fun (sd62:(List GLeaf)×Int)=>(x5 (((decide (sd62.2 < ((sd30.2.2.1).length:Int)))==true)=true→0≤sd62.2∧sd62.2 < ((sd30.2.2.1).length:Int)) ((if ((decide (sd62.2 < ((sd30.2.2.1).length:Int)))&&(((sd30.2.2.1).getD sd62.2.toNat default).typ==l2.typ))=true then (x5 ((sd62.1).length+(([l2]:List GLeaf)).length≤vy) (((slc sd30.2.2.1 (IntKind.wrap .i64 (sd62.2+(1:Int))) ((sd30.2.2.1).length:Int)).bind fun m72=>(x5 (((sd62.1++([l2]:List GLeaf))).length+(m72).length≤vy) ((x5 ((s1.1).length+(([(GNode.mk sd30.2.1 ((sd62.1++([l2]:List GLeaf))++m72) sd30.2.2.2)]:List GNode)).length≤vy) (((slc t0 sd30.1 ((t0).length:Int)).bind fun m75=>(x5 (((s1.1++([(GNode.mk sd30.2.1 ((sd62.1++([l2]:List GLeaf))++m72) sd30.2.2.2)]:List GNode))).length+(m75).length≤vy) (some ((s1.1++([(GNode.mk sd30.2.1 ((sd62.1++([l2]:List GLeaf))++m72) sd30.2.2.2)]:List GNode))++m75))))))))))) else (x5 ((sd62.1).length+(([l2]:List GLeaf)).length≤vy) (((slc sd30.2.2.1 sd62.2 ((sd30.2.2.1).length:Int)).bind fun m78=>(x5 (((sd62.1++([l2]:List GLeaf))).length+(m78).length≤vy) ((x5 ((s1.1).length+(([(GNode.mk sd30.2.1 ((sd62.1++([l2]:List GLeaf))++m78) sd30.2.2.2)]:List GNode)).length≤vy) (((slc t0 sd30.1 ((t0).length:Int)).bind fun m81=>(x5 (((s1.1++([(GNode.mk sd30.2.1 ((sd62.1++([l2]:List GLeaf))++m78) sd30.2.2.2)]:List GNode))).length+(m81).length≤vy) (some ((s1.1++([(GNode.mk sd30.2.1 ((sd62.1++([l2]:List GLeaf))++m78) sd30.2.2.2)]:List GNode))++m81))))))))))))))))))):=rfl
noncomputable def r7F (n:Nat) (ahead1:List zR):Nat→GNode→List GVarveref07Row→Option (Out (List GVarveref07Row) (List GVarveref07Row)):=(fun (n1:Nat) (x1:GNode) (s1:(List GVarveref07Row))=>((x5 ((([]:List zR)).length+(ahead1).length≤vy) ((x5 (((([]:List zR)++ahead1)).length+(([x1.name]:List zR)).length≤vy) ((lp (ya (fun (n2:Nat) (x2:GLeaf) (s2:(List GVarveref07Row))=>((x5 ((s2).length+(([(GVarveref07Row.mk ((([]:List zR)++ahead1)++([x1.name]:List zR)) x2)]:List GVarveref07Row)).length≤vy) (some (.nxt (s2++([(GVarveref07Row.mk ((([]:List zR)++ahead1)++([x1.name]:List zR)) x2)]:List GVarveref07Row))))):Option (Out _ (List GVarveref07Row)))) x1.leaves 0 s1) fun (s2:(List GVarveref07Row))=>((qq n x1.subs ((([]:List zR)++ahead1)++([x1.name]:List zR))).bind fun v44=>(x5 ((s2).length+(v44).length≤vy) (some (.nxt (s2++v44)))))))))):Option (Out _ (List GVarveref07Row))))
theorem rows7_eq (n:Nat) (t0:List GNode) (ahead1:List zR):qq (n+1) t0 ahead1=(lp (ya (r7F n ahead1) t0 0 ([]:List GVarveref07Row)) fun (s1:(List GVarveref07Row))=>some s1):=rfl
theorem l7A_is {t:List GNode} {s:zR} {q:List zR} (ht:t.length≤1048576) (a b:List GNode) (e:t=a++b) (ha:∀ y ∈ a,Op.bytesLess y.name s=true) (hb:∀ y r,b=y::r→Op.bytesLess y.name s=false) :
  ∀ (k i:Nat),a.length - i≤k→i≤a.length→wE (l7A t (s::q)) (a.take i,(i:Int))=some (.inr (a,(a.length:Int))):=by
 have hl:t.length=a.length+b.length:=by rw [e];simp
 intro k
 induction k with
 | zero =>
  intro i hk hi
  obtain rfl:i=a.length:=by omega
  rw [va]
  have:l7A t (s::q) (a.take a.length,(a.length:Int))=some (.brk (a,(a.length:Int))):=by
   unfold l7A
   simp only [List.take_length]
   rw [zW (by intro h;simp at h;omega),zW (by intro h;simp)]
   cases hbb:b with
   | nil =>
    rw [hbb] at hl
    rw [decide_eq_false (by simp at hl;omega)]
    rfl
   | cons y r =>
    have hy:t.getD a.length default=y:=by rw [e,hbb];simp
    have:=hb y r hbb
    simp only [Int.toNat_natCast,hy]
    have e2:(s::q).getD (0:Int).toNat default=s:=rfl
    rw [e2,this,Bool.and_false]
    rfl
  rw [this]
 | succ k ih =>
  intro i hk hi
  rcases Nat.lt_or_ge i a.length with h | h
  ·rw [va]
   have hy:t[i]?=some a[i]:=by rw [e,List.getElem?_append_left h,List.getElem?_eq_getElem h]
   have hd:t.getD i default=a[i]:=by rw [List.getD_eq_getElem?_getD,hy];rfl
   have:l7A t (s::q) (a.take i,(i:Int))=some (.nxt (a.take (i+1),((i+1:Nat):Int))):=by
    unfold l7A
    simp only
    rw [zW (by intro h;simp at h;omega),zW (by intro h;simp)]
    have e2:(s::q).getD (0:Int).toNat default=s:=rfl
    have e3:IntKind.wrap .i64 ((i:Int)+1)=((i+1:Nat):Int):=by rw [w64n (by omega)];omega
    rw [Int.toNat_natCast,hd,e2,ha _ (List.getElem_mem h),decide_eq_true (by omega:(i:Int) < (t.length:Int)),Bool.and_self,if_pos rfl,yA hy,Option.bind_some,zW (wp (by simp;omega)),e3]
    rw [List.take_succ_eq_append_getElem h]
   rw [this]
   exact ih (i+1) (by omega) h
  ·exact ih i (by omega) hi
theorem l7B_is {ls:List GLeaf} {l:GLeaf} (hl:ls.length≤1048576) (ha:∀ y ∈ ls,y.typ < l.typ) :
  ∀ (k i:Nat),ls.length - i≤k→i≤ls.length→wE (l7B ls l) (ls.take i,(i:Int))=some (.inr (ls,(ls.length:Int))):=by
 intro k
 induction k with
 | zero =>
  intro i hk hi
  obtain rfl:i=ls.length:=by omega
  rw [va]
  have:l7B ls l (ls.take ls.length,(ls.length:Int))=some (.brk (ls,(ls.length:Int))):=by
   unfold l7B
   simp only [List.take_length]
   rw [zW (by intro h;simp at h),decide_eq_false (by omega)]
   rfl
  rw [this]
 | succ k ih =>
  intro i hk hi
  rcases Nat.lt_or_ge i ls.length with h | h
  ·rw [va]
   have hy:ls[i]?=some ls[i]:=List.getElem?_eq_getElem h
   have hd:ls.getD i default=ls[i]:=by rw [List.getD_eq_getElem?_getD,hy];rfl
   have:l7B ls l (ls.take i,(i:Int))=some (.nxt (ls.take (i+1),((i+1:Nat):Int))):=by
    unfold l7B
    simp only
    have e3:IntKind.wrap .i64 ((i:Int)+1)=((i+1:Nat):Int):=by rw [w64n (by omega)];omega
    rw [zW (by intro h;simp at h;omega),Int.toNat_natCast,hd,decide_eq_true (ha _ (List.getElem_mem h)),decide_eq_true (by omega:(i:Int) < (ls.length:Int)),Bool.and_self,if_pos rfl,yA hy,Option.bind_some,zW (wp (by simp;omega)),e3]
    rw [List.take_succ_eq_append_getElem h]
   rw [this]
   exact ih (i+1) (by omega) h
  ·exact ih i (by omega) hi
def LayR:LyR:=fun t p l t'=>∀ n,p.length < n→vl n t p l=some t'
theorem drop_all {α:Type} (L:List α):((L.take ((L.length:Int)).toNat).drop ((L.length:Int)).toNat)=[]:=by simp
section
variable {t:List GNode} {s:zR} {q:List zR} {l:GLeaf} {n:Nat}
theorem lay7_new_sub {a:zR} {u:List GNode} (ht:t.length+1≤1048576) (hn:∀ y ∈ t,Op.bytesLess y.name s=true) (hq:(a::q).length+1≤1048576) (h:vl n [] (a::q) l=some u):vl (n+1) t (s::a::q) l=some (t++[⟨s,[],u⟩]):=by
 have hA:=l7A_is (t:=t) (s:=s) (q:=a::q) (by omega) t [] (by simp) hn (by simp) t.length 0 (by omega) (by omega)
 rw [lay7_eq,show (([]:List GNode),(0:Int))=(t.take 0,((0:Nat):Int)) from rfl,hA,wc]
 have d0:decide ((t.length:Int) < (t.length:Int))=false:=decide_eq_false (by omega)
 have i0:vH (s::a::q) (0:Int)=some s:=rfl
 have d1:decide ((((s::a::q).length:Int)) > 1)=true:=decide_eq_true (by simp only [List.length_cons];omega)
 simp only [i0,Option.bind_some,d0,Bool.false_and]
 rw [zW (by intro h;cases h),zW (by intro h;cases h)]
 simp only [Bool.false_eq_true,if_false,wc,d1,if_true]
 rw [slc_at ⟨by omega,by simp only [List.length_cons];omega,Int.le_refl _⟩,Option.bind_some]
 have e2:((s::a::q).take (((s::a::q).length:Int)).toNat).drop (1:Int).toNat=a::q:=by rw [Int.toNat_natCast,List.take_length];rfl
 rw [e2,h,Option.bind_some,zW (wp (by simp;omega)),slc_at ⟨by omega,Int.le_refl _,Int.le_refl _⟩,Option.bind_some,drop_all,zW (wp (by simp;omega)),List.append_nil]
theorem lay7_new_leaf (ht:t.length+1≤1048576) (hn:∀ y ∈ t,Op.bytesLess y.name s=true):vl (n+1) t [s] l=some (t++[⟨s,[l],[]⟩]):=by
 have hA:=l7A_is (t:=t) (s:=s) (q:=[]) (by omega) t [] (by simp) hn (by simp) t.length 0 (by omega) (by omega)
 rw [lay7_eq,show (([]:List GNode),(0:Int))=(t.take 0,((0:Nat):Int)) from rfl,hA,wc]
 have d0:decide ((t.length:Int) < (t.length:Int))=false:=decide_eq_false (by omega)
 have i0:vH [s] (0:Int)=some s:=rfl
 have d1:decide (((([s]:List zR).length:Int)) > 1)=false:=rfl
 simp only [i0,Option.bind_some,d0,Bool.false_and]
 rw [zW (by intro h;cases h),zW (by intro h;cases h)]
 simp only [Bool.false_eq_true,if_false,wc,d1]
 have hB:=l7B_is (ls:=[]) (l:=l) (by simp) (by simp) 0 0 (by simp) (by simp)
 rw [show (([]:List GLeaf),(0:Int))=(([]:List GLeaf).take 0,((0:Nat):Int)) from rfl,hB,wc]
 have d2:decide (((([]:List GLeaf).length:Nat):Int) < ((([]:List GLeaf).length:Nat):Int))=false:=rfl
 simp only [d2,Bool.false_and]
 rw [zW (by intro h;cases h)]
 simp only [Bool.false_eq_true,if_false]
 rw [zW (wp (by simp)),slc_at ⟨by simp,Int.le_refl _,Int.le_refl _⟩,Option.bind_some,drop_all,zW (wp (by simp)),zW (wp (by simp;omega)),slc_at ⟨by omega,Int.le_refl _,Int.le_refl _⟩,Option.bind_some,drop_all,zW (wp (by simp;omega)),List.append_nil]
 rfl
theorem lay7_old_sub {a:zR} {u sb:List GNode} {ls:List GLeaf} (ht:t.length+1≤1048576) (hn:∀ y ∈ t,Op.bytesLess y.name s=true) (hq:(a::q).length+1≤1048576) (h:vl n sb (a::q) l=some u):vl (n+1) (t++[⟨s,ls,sb⟩]) (s::a::q) l=some (t++[⟨s,ls,u⟩]):=by
 have hl:(t++[(⟨s,ls,sb⟩:GNode)]).length=t.length+1:=by simp
 have hA:=l7A_is (t:=t++[⟨s,ls,sb⟩]) (s:=s) (q:=a::q) (by omega) t [⟨s,ls,sb⟩] rfl hn (by rintro y r e;injection e with e1 _;subst e1;exact less_irr s) t.length 0 (by omega) (by omega)
 rw [lay7_eq,show (([]:List GNode),(0:Int))=(t.take 0,((0:Nat):Int)) from rfl,hA,wc]
 have d0:decide ((t.length:Int) < ((t++[(⟨s,ls,sb⟩:GNode)]).length:Int))=true:=decide_eq_true (by omega)
 have i0:vH (s::a::q) (0:Int)=some s:=rfl
 have d1:decide ((((s::a::q).length:Int)) > 1)=true:=decide_eq_true (by simp only [List.length_cons];omega)
 have g0:(t++[(⟨s,ls,sb⟩:GNode)]).getD ((t.length:Int)).toNat default=⟨s,ls,sb⟩:=by simp
 have g1:(s::a::q).getD (0:Int).toNat default=s:=rfl
 have g2:vH (t++[(⟨s,ls,sb⟩:GNode)]) (t.length:Int)=some ⟨s,ls,sb⟩:=yA (by simp)
 have g3:IntKind.wrap .i64 ((t.length:Int)+1)=((t++[(⟨s,ls,sb⟩:GNode)]).length:Int):=by rw [w64n (by omega)];omega
 simp only [i0,Option.bind_some,d0,g0,g1,g2,g3,beq_self_eq_true,Bool.and_self,if_true]
 rw [zW (by intro _;simp only [List.length_append,List.length_cons,List.length_nil];omega),zW (by intro _;simp only [List.length_cons];omega)]
 simp only [wc,d1,if_true]
 rw [slc_at ⟨by omega,by simp only [List.length_cons];omega,Int.le_refl _⟩,Option.bind_some]
 have e2:((s::a::q).take (((s::a::q).length:Int)).toNat).drop (1:Int).toNat=a::q:=by rw [Int.toNat_natCast,List.take_length];rfl
 rw [e2,h,Option.bind_some,zW (wp (by simp;omega)),slc_at ⟨by omega,Int.le_refl _,Int.le_refl _⟩,Option.bind_some,drop_all,zW (wp (by simp;omega)),List.append_nil]
theorem lay7_old_leaf {ls:List GLeaf} {sb:List GNode} (ht:t.length+1≤1048576) (hn:∀ y ∈ t,Op.bytesLess y.name s=true) (h1:ls.length≤1048575) (h2:∀ y ∈ ls,y.typ < l.typ):vl (n+1) (t++[⟨s,ls,sb⟩]) [s] l=some (t++[⟨s,ls++[l],sb⟩]):=by
 have hl:(t++[(⟨s,ls,sb⟩:GNode)]).length=t.length+1:=by simp
 have hA:=l7A_is (t:=t++[⟨s,ls,sb⟩]) (s:=s) (q:=[]) (by omega) t [⟨s,ls,sb⟩] rfl hn (by rintro y r e;injection e with e1 _;subst e1;exact less_irr s) t.length 0 (by omega) (by omega)
 rw [lay7_eq,show (([]:List GNode),(0:Int))=(t.take 0,((0:Nat):Int)) from rfl,hA,wc]
 have d0:decide ((t.length:Int) < ((t++[(⟨s,ls,sb⟩:GNode)]).length:Int))=true:=decide_eq_true (by omega)
 have i0:vH [s] (0:Int)=some s:=rfl
 have d1:decide (((([s]:List zR).length:Int)) > 1)=false:=rfl
 have g0:(t++[(⟨s,ls,sb⟩:GNode)]).getD ((t.length:Int)).toNat default=⟨s,ls,sb⟩:=by simp
 have g1:[s].getD (0:Int).toNat default=s:=rfl
 have g2:vH (t++[(⟨s,ls,sb⟩:GNode)]) (t.length:Int)=some ⟨s,ls,sb⟩:=yA (by simp)
 have g3:IntKind.wrap .i64 ((t.length:Int)+1)=((t++[(⟨s,ls,sb⟩:GNode)]).length:Int):=by rw [w64n (by omega)];omega
 simp only [i0,Option.bind_some,d0,g0,g1,g2,g3,beq_self_eq_true,Bool.and_self,if_true]
 rw [zW (by intro _;simp only [List.length_append,List.length_cons,List.length_nil];omega),zW (by intro _;simp only [List.length_cons,List.length_nil];omega)]
 simp only [wc,d1,Bool.false_eq_true,if_false]
 have hB:=l7B_is (ls:=ls) (l:=l) (by omega) h2 ls.length 0 (by omega) (by omega)
 rw [show (([]:List GLeaf),(0:Int))=(ls.take 0,((0:Nat):Int)) from rfl,hB,wc]
 have d2:decide (((ls.length:Nat):Int) < ((ls.length:Nat):Int))=false:=decide_eq_false (by omega)
 simp only [d2,Bool.false_and]
 rw [zW (by intro h;cases h)]
 simp only [Bool.false_eq_true,if_false]
 rw [zW (wp (by simp;omega)),slc_at ⟨by omega,Int.le_refl _,Int.le_refl _⟩,Option.bind_some,drop_all,zW (wp (by simp;omega)),zW (wp (by simp;omega)),slc_at ⟨by omega,Int.le_refl _,Int.le_refl _⟩,Option.bind_some,drop_all,zW (wp (by simp;omega)),List.append_nil,List.append_nil]
end
theorem layR_ok:LyOk LayR where
 leafNew:=fun ht hn _ n hl=>by
  obtain ⟨m,rfl⟩:∃ m,n=m+1:=⟨n - 1,by omega⟩
  exact lay7_new_leaf ht hn
 leafOld:=fun ht hn _ h1 h2 n hl=>by
  obtain ⟨m,rfl⟩:∃ m,n=m+1:=⟨n - 1,by omega⟩
  exact lay7_old_leaf ht hn (by omega) fun y hy=>(List.pairwise_append.1 h2).2.2 y hy _ (by simp)
 subOld:=fun ht hn _ _ _ hq h n hl=>by
  obtain ⟨m,rfl⟩:∃ m,n=m+1:=⟨n - 1,by omega⟩
  exact lay7_old_sub ht hn hq (h m (by simp only [List.length_cons] at hl ⊢;omega))
 subNew:=fun ht hn _ _ hq h n hl=>by
  obtain ⟨m,rfl⟩:∃ m,n=m+1:=⟨n - 1,by omega⟩
  exact lay7_new_sub ht hn hq (h m (by simp only [List.length_cons] at hl ⊢;omega))
theorem made_rows:∀ {rs:List GRow} {t t':List GNode} (n:Nat),LaysG LayR t rs t'→ya (fun (n1:Nat) (x1:GRow) (s1:(List GNode))=>(((ref07Lay s1 x1.path x1.leaf).bind fun v10=>some (.nxt v10)):Option (Out (List GNode) (List GNode)))) rs n t=some (.inr t')
 | [],_,_,_,h=>by cases h;rfl
 | r::rs,t,t',n,⟨u,hu,_,h⟩=>by
  have:ref07Lay t r.path r.leaf=some u:=anyN_of (r.path.length+1) fun n hn=>hu n (by omega)
  simp only [ya,this,Option.bind_some]
  exact made_rows (n+1) h
theorem made_is {t:List GNode} (h:Small t) (ht:treeB 0 t=true):ref30Made (xt [] t)=some t:=by
 simp only [treeB,Bool.and_eq_true] at ht
 have hl:=laysG_tree layR_ok t 0 [] h ht.1.2 ht.2 (by simp) (by simpa using h.len)
 rw [List.nil_append] at hl
 unfold ref30Made
 rw [made_rows 0 hl,wc]
def vR (r:GRow):GVarveref07Row:=⟨r.path,r.leaf⟩
end Go.Vv
