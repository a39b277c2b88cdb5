/- A region that draws its order: one walk, in the text's order, serves every order. -/
import Derived.Test.YtbaclapbinkedaaVvM
import Derived.OrdersIn
namespace Go.Vv
open Go Go.RowKit Go.Lib

def befF (acc:Array Nat) (o:Oper):Array Nat:=acc.push (o.after.foldl (fun s e=>if Region.binds .any e then s ||| 2 ^ e.on ||| acc.getD e.on 0 else s) 0)
theorem before_eq (ops:Array Oper):Region.before ops=ops.toList.foldl befF #[]:=by
 unfold Region.before
 rw [← Array.foldl_toList];rfl
theorem bef_size:∀ (l:List Oper) (acc:Array Nat),(l.foldl befF acc).size=acc.size+l.length
 | [],acc=>by simp
 | o::r,acc=>by simp only [List.foldl_cons,bef_size r,befF,Array.size_push,List.length_cons];omega
theorem bef_keep:∀ (l:List Oper) (acc:Array Nat) (j:Nat),j < acc.size→(l.foldl befF acc).getD j 0=acc.getD j 0
 | [],acc,j,_=>rfl
 | o::r,acc,j,h=>by
  simp only [List.foldl_cons]
  rw [bef_keep r _ j (by simp [befF];omega)]
  simp [befF,Array.getD_eq_getD_getElem?,Array.getElem?_push,Nat.ne_of_lt h]
theorem edges_bit (acc:Array Nat) (w:Nat):∀ (es:List Edge) (s:Nat),(es.foldl (fun s e=>if Region.binds .any e then s ||| 2 ^ e.on ||| acc.getD e.on 0 else s) s).testBit w=true →
  s.testBit w=true ∨ ∃ e ∈ es,Region.binds .any e=true∧(e.on=w ∨ (acc.getD e.on 0).testBit w=true)
 | [],s,h=>.inl h
 | e::r,s,h=>by
  simp only [List.foldl_cons] at h
  rcases edges_bit acc w r _ h with h | ⟨e',he',hb,hh⟩
  ·split at h
   ·rename_i hb
    simp only [Nat.testBit_or,Bool.or_eq_true,Nat.testBit_two_pow,decide_eq_true_eq] at h
    rcases h with (h | h) | h
    ·exact .inl h
    ·exact .inr ⟨e,by simp,hb,.inl h⟩
    ·exact .inr ⟨e,by simp,hb,.inr h⟩
   ·exact .inl h
  ·exact .inr ⟨e',by simp [he'],hb,hh⟩
theorem before_spec {ops:Array Oper} {i w:Nat} {o:Oper} (hi:ops[i]?=some o) (h:((Region.before ops).getD i 0).testBit w=true) :
  ∃ e ∈ o.after,Region.binds .any e=true∧(e.on=w ∨ (e.on < i∧((Region.before ops).getD e.on 0).testBit w=true)):=by
 have hl:ops.toList[i]?=some o:=by simpa using hi
 obtain ⟨hlt,_⟩:=List.getElem?_eq_some_iff.1 hl
 have hsplit:ops.toList=ops.toList.take i++o::ops.toList.drop (i+1):=by
  have:=List.getElem_cons_drop hlt
  rw [← (List.getElem?_eq_some_iff.1 hl).2,this,List.take_append_drop]
 generalize hA:(ops.toList.take i).foldl befF #[]=acc
 have hsz:acc.size=i:=by rw [← hA,bef_size];simp at hlt ⊢;omega
 have hb:Region.before ops=(ops.toList.drop (i+1)).foldl befF (befF acc o):=by
  rw [before_eq]
  conv=>lhs;rw [hsplit]
  rw [List.foldl_append,hA,List.foldl_cons]
 have hval:(Region.before ops).getD i 0=o.after.foldl (fun s e=>if Region.binds .any e then s ||| 2 ^ e.on ||| acc.getD e.on 0 else s) 0:=by
  rw [hb,bef_keep _ _ _ (by simp [befF,hsz])]
  subst hsz
  simp [befF,Array.getD_eq_getD_getElem?]
 rw [hval,← Array.foldl_toList] at h
 rcases edges_bit acc w o.after.toList 0 h with h | ⟨e,he,hbe,hh⟩
 ·simp at h
 ·refine ⟨e,by simpa using he,hbe,hh.imp id fun hh=>?_⟩
  have hei:e.on < i:=by
   rcases Nat.lt_or_ge e.on i with hl | hl
   ·exact hl
   ·have:acc.getD e.on 0=0:=by simp [Array.getD_eq_getD_getElem?,Array.getElem?_eq_none (show acc.size≤e.on by omega)]
    rw [this] at hh;simp at hh
  refine ⟨hei,?_⟩
  rw [hb,bef_keep _ _ _ (by simp [befF,hsz];omega)]
  have:(befF acc o).getD e.on 0=acc.getD e.on 0:=by simp [befF,Array.getD_eq_getD_getElem?,Array.getElem?_push,hsz,Nat.ne_of_lt hei]
  rw [this];exact hh

theorem ev_congr {env env':List AV} {x:Operand} (h:∀ t,x=.tmp t→env[t]?=env'[t]?):ev env x=ev env' x:=by
 cases x with
 | tmp t=>simp only [ev,List.getD_eq_getElem?_getD,h t rfl]
 | _=>rfl
theorem looks_op {ops:Array Oper} {o:Oper} {t:Tmp} (h:Operand.tmp t ∈ o.op.operands):t ∈ o.looksAt ops:=by
 unfold Oper.looksAt
 refine List.mem_append.2 (.inl (List.mem_filterMap.2 ⟨.tmp t,by simpa using h,rfl⟩))
theorem looks_guard {ops:Array Oper} {o:Oper} {j:Nat} {b:Bool} {d:Tmp} (hg:o.guard=some (j,b)) (hd:(ops[j]?).bind (·.dst)=some d):d ∈ o.looksAt ops:=by
 unfold Oper.looksAt
 refine List.mem_append.2 (.inr ?_)
 simp [hg,hd]
theorem aG_congr {ops:Array Oper} {o:Oper} {env env':List AV} (h:∀ t ∈ o.looksAt ops,env[t]?=env'[t]?):aG ops o env=aG ops o env':=by
 unfold aG
 split
 ·rfl
 ·rename_i j want hg
  split
  ·rfl
  ·rename_i d hd
   rw [h d (looks_guard hg hd)]

theorem aParts_congr {P:Program} {d:TypeDesc} {env env':List AV} {parts:Array (Nat×Operand)} (h:∀ p ∈ parts.toList,ev env p.2=ev env' p.2):xQ P d env parts=xQ P d env' parts:=by
 unfold xQ
 exact List.map_congr_left fun p hp=>by rw [h p hp]

theorem astep_congr {P:Program} {o:Oper} {env env':List AV} {h:AH} (he:∀ x ∈ o.op.operands,ev env x=ev env' x):zN P o env h=zN P o env' h:=by
 unfold zN
 cases ho:o.op <;> rw [ho] at he <;> simp only [Op.operands] at he ⊢
 case move x=>rw [he x (by simp)]
 case assign x=>rw [he x (by simp)]
 case pick c a b=>rw [he c (by simp),he a (by simp),he b (by simp)]
 case box t x=>rw [he x (by simp)]
 case build t parts =>
  have hp:∀ d,xQ P d env parts=xQ P d env' parts:=fun d=>aParts_congr fun p hp=>he p.2 (by simp;exact ⟨p.1,by simpa using hp⟩)
  simp only [hp]
 case buildSlice t n parts =>
  have hp:∀ d,xQ P d env parts=xQ P d env' parts:=fun d=>aParts_congr fun p hp=>he p.2 (by simp;exact ⟨p.1,by simpa using hp⟩)
  simp only [hp]
 case load t x=>rw [he x (by simp)]
 case store t x y=>rw [he x (by simp),he y (by simp)]
 case nilCheck x=>rw [he x (by simp)]
 case binOp op t x y yt=>rw [he x (by simp),he y (by simp)]
 case unOp op t x=>rw [he x (by simp)]
 case convert s t x=>rw [he x (by simp)]
 case makeFunc f a b =>
  have h1:a.toList.map (ev env)=a.toList.map (ev env'):=List.map_congr_left fun x hx=>he x (by simp at hx ⊢;exact .inl hx)
  have h2:b.toList.map (ev env)=b.toList.map (ev env'):=List.map_congr_left fun x hx=>he x (by simp at hx ⊢;exact .inr hx)
  rw [h1,h2]
 case slice t x lo hi mx =>
  have h1:lo.map (ev env)=lo.map (ev env'):=by cases lo with | none=>rfl | some y=>simp [he y (by simp)]
  have h2:hi.map (ev env)=hi.map (ev env'):=by cases hi with | none=>rfl | some y=>simp [he y (by simp)]
  have h3:mx.map (ev env)=mx.map (ev env'):=by cases mx with | none=>rfl | some y=>simp [he y (by simp)]
  rw [he x (by simp),h1,h2,h3]
 case fieldAddr t x f=>rw [he x (by simp)]
 case field t x f=>rw [he x (by simp)]
 case indexAddr t x i=>rw [he x (by simp),he i (by simp)]
 case index t x i=>rw [he x (by simp),he i (by simp)]
 case extract x i=>rw [he x (by simp)]
 case range t x=>rw [he x (by simp)]
 case next x s=>rw [he x (by simp)]
 case lookup t x i ok=>rw [he x (by simp),he i (by simp)]
 case mapEntry t x i=>rw [he x (by simp),he i (by simp)]
 case entryStore t x i y=>rw [he x (by simp),he i (by simp),he y (by simp)]
 case mapUpdate t x i y=>rw [he x (by simp),he i (by simp),he y (by simp)]
 case makeMap t r=>cases r <;> rfl
 case call c =>
  have h1:c.args.toList.map (ev env)=c.args.toList.map (ev env'):=List.map_congr_left fun x hx=>he x (by simp [Call.operands];exact .inr (by simpa using hx))
  have h2:(c.args.toList.zip c.argTypes.toList).map (fun p=>tyfix P p.2 (ev env p.1))=(c.args.toList.zip c.argTypes.toList).map (fun p=>tyfix P p.2 (ev env' p.1)) :=
   List.map_congr_left fun p hp=>by rw [he p.1 (by simp [Call.operands];exact .inr (by simpa using (List.of_mem_zip hp).1))]
  rw [h1,h2]
  split
  ·split
   ·rfl
   ·rename_i f hc
    rw [he f (by simp [Call.operands,hc])]
   ·rename_i x m hc
    rw [he x (by simp [Call.operands,hc])]
  ·rfl

theorem bstep_congr {P:Program} {o:Oper} {env env':List AV} {h:AH} (he:∀ x ∈ o.op.operands,ev env x=ev env' x):bstep P o env h=bstep P o env' h:=by
 unfold bstep
 cases ho:o.op <;> rw [ho] at he <;> simp only [Op.operands] at he ⊢
 case range t x=>rw [he x (by simp)]
 case next x s=>cases s <;> simp only;rw [he x (by simp)]
 case entry x=>rw [he x (by simp)]
 case buildSlice t n parts =>
  have hp:∀ d,xQ P d env parts=xQ P d env' parts:=fun d=>aParts_congr fun p hp=>he p.2 (by simp;exact ⟨p.1,by simpa using hp⟩)
  simp only [hp]
 case convert s t x=>rw [he x (by simp)]
 case makeInterface t x=>rw [he x (by simp)]
 case typeAssert x u t ok=>rw [he x (by simp)]
 case slice t x lo hi mx =>
  split <;> first | rfl | skip
  all_goals (rename_i h0;try (cases h0))
  all_goals first
   | rfl
   | (rename_i y;rw [he x (by simp),he y (by simp)])
 case insert t m k x =>
  have:zN P { o with op:=.mapUpdate t m k x } env h=zN P { o with op:=.mapUpdate t m k x } env' h:=astep_congr fun y hy=>he y (by simpa [Op.operands] using hy)
  rw [this]
 case call c =>
  have h1:∀ x ∈ c.args.toList,ev env x=ev env' x:=fun x hx=>he x (by simp [Call.operands];exact .inr (by simpa using hx))
  split
  ·rename_i ts x y hc has
   rw [h1 x (by rw [has];simp),h1 y (by rw [has];simp)]
  ·rename_i ts x y hc has
   rw [h1 x (by rw [has];simp),h1 y (by rw [has];simp)]
  ·rename_i t u x y hc hts has
   rw [h1 x (by rw [has];simp),h1 y (by rw [has];simp)]
  ·rename_i t x hc hts has
   rw [h1 x (by rw [has];simp)]
  ·rfl
theorem bstep_still {P:Program} {o:Oper} {env:List AV} {h h':AH} {v:AV} (hne:isEff o.op=false) (hd:bdraw o.op=true) (hb:bstep P o env h=some [(v,h')]):h'=h∧∀ h2,bstep P o env h2=some [(v,h2)]:=by
 unfold bstep at hb ⊢
 cases ho:o.op <;> rw [ho] at hne hb hd <;> simp only [isEff,bdraw,reduceCtorEq] at hne hb hd ⊢
 case convert s t x =>
  split at hb
  ·rename_i hok
   split at hb
   ·simp only [Option.some.injEq,List.cons.injEq,Prod.mk.injEq,and_true] at hb
    obtain ⟨rfl,rfl⟩:=hb
    exact ⟨rfl,fun h2=>by rw [if_pos hok]⟩
   ·cases hb
  ·cases hb
 case makeInterface t x =>
  split at hb
  ·rename_i hok
   split at hb
   ·cases hb
   ·simp only [Option.some.injEq,List.cons.injEq,Prod.mk.injEq,and_true] at hb
    obtain ⟨rfl,rfl⟩:=hb
    exact ⟨rfl,fun h2=>by rw [if_pos hok]⟩
   ·cases hb
  ·cases hb
 case typeAssert x u t ok =>
  split at hb
  ·rename_i hok
   split at hb
   ·cases hb
   ·split at hb
    ·rename_i hq
     simp only [Option.some.injEq,List.cons.injEq,Prod.mk.injEq,and_true] at hb
     obtain ⟨rfl,rfl⟩:=hb
     exact ⟨rfl,fun h2=>by rw [if_pos hok,if_pos hq]⟩
    ·rename_i hq
     split at hb
     ·rename_i hk
      split at hb
      ·simp only [Option.some.injEq,List.cons.injEq,Prod.mk.injEq,and_true] at hb
       obtain ⟨rfl,rfl⟩:=hb
       exact ⟨rfl,fun h2=>by rw [if_pos hok,if_neg hq,if_pos hk]⟩
      ·cases hb
     ·cases hb
   ·cases hb
  ·cases hb
 case call c =>
  obtain ⟨callee,as,ts⟩:=c
  cases callee with
  | value f=>simp at hne
  | invoke x m=>simp at hne
  | builtin b=>cases b <;> simp only [reduceCtorEq] at hne hb
theorem aLoad_blks {h h2:AH} (hb:h2.blks=h.blks) (ag:Bool) (n:Nat) (p:AV):aLoad h2 ag n p=aLoad h ag n p:=by
 unfold aLoad AH.blk
 rw [hb]

theorem astep_still {P:Program} {o:Oper} {env:List AV} {h:AH} (hne:isEff o.op=false) :
  (∃ x:Option AV,∀ h2:AH,(isRd o.op=true→h2.blks=h.blks)→zN P o env h2=oo h2 x) ∨ (∃ n v,∀ h2:AH,zN P o env h2=.len n v h2) ∨ (∀ h2:AH,(∃ S,zN P o env h2=.any S) ∨ zN P o env h2=.fail):=by
 cases ho:o.op <;> rw [ho] at hne <;> simp only [isEff,reduceCtorEq] at hne <;> simp only [zN,ho]
 case call c =>
  obtain ⟨callee,as,ts⟩:=c
  cases callee with
  | value f=>simp at hne
  | invoke x m=>simp at hne
  | builtin b =>
   cases b <;> simp only [reduceCtorEq] at hne
   simp only [qh]
   split
   ·split
    ·split
     ·split
      ·exact .inr (.inl ⟨_,_,fun _=>rfl⟩)
      ·exact .inl ⟨none,fun _ _=>rfl⟩
     ·split
      ·exact .inr (.inl ⟨_,_,fun _=>rfl⟩)
      ·exact .inl ⟨none,fun _ _=>rfl⟩
     ·split
      ·refine .inr (.inr fun h2=>?_)
       split
       ·exact .inl ⟨_,rfl⟩
       ·exact .inr rfl
      ·exact .inl ⟨none,fun _ _=>rfl⟩
     ·exact .inl ⟨none,fun _ _=>rfl⟩
    ·exact absurd ‹Builtin.len=Builtin.append› (by simp)
    ·exact absurd ‹Builtin.len=Builtin.min› (by simp)
    ·exact absurd ‹Builtin.len=Builtin.max› (by simp)
    ·exact .inl ⟨none,fun _ _=>rfl⟩
   ·exact .inl ⟨none,fun _ _=>rfl⟩
 case binOp op t x y u =>
  split
  ·cases hq:aNilq P op t h (ev env x) (ev env y) with
   | none =>
    have hn:∀ h2,aNilq P op t h2 (ev env x) (ev env y)=none:=by
     intro h2
     unfold aNilq at hq ⊢
     split at hq
     ·split at hq <;> first | rfl | cases hq
     ·split at hq <;> first | rfl | cases hq
     ·rfl
    exact .inl ⟨_,fun h2 _=>by rw [hn h2]⟩
   | some S =>
    refine .inr (.inr fun h2=>?_)
    have:∃ S',aNilq P op t h2 (ev env x) (ev env y)=some S':=by
     unfold aNilq at hq ⊢
     split at hq
     ·split at hq <;> first | exact ⟨_,rfl⟩ | (exfalso;cases hq)
     ·split at hq <;> first | exact ⟨_,rfl⟩ | (exfalso;cases hq)
     ·cases hq
    obtain ⟨S',hS'⟩:=this
    exact .inl ⟨S',by rw [hS']⟩
  ·exact .inl ⟨none,fun _ _=>rfl⟩
 case load t x =>
  split
  ·exact .inl ⟨_,fun h2 hb=>by rw [aLoad_blks (hb rfl)]⟩
  ·exact .inl ⟨none,fun _ _=>rfl⟩
 all_goals
  (repeat' split) <;> first
   | exact .inl ⟨none,fun _ _=>rfl⟩
   | exact .inl ⟨some _,fun _ _=>rfl⟩
   | exact .inl ⟨_,fun _ _=>rfl⟩
end Go.Vv
