/- A region that draws its order: one walk, in the text's order, serves every order. -/
import Derived.Test.YtcociipjgndnaaaGreatVvM
import Derived.OrdersIn
namespace Go.Vv
open Go Go.RowKit Go.Lib

def befF (acc:Array Nat) (o:Oper):Array Nat:=acc.push (o.after.foldl (λs e=>if Region.binds .any e then s ||| 2 ^ e.on ||| acc.getD e.on 0 else s) 0)
theorem before_eq (a:Array Oper):Region.before a=a.toList.foldl befF #[]:=by
 unfold Region.before;rw [<- rY];rfl
theorem bef_size:∀(l:List Oper) (a:Array Nat),(l.foldl befF a).size=a.size+l.length
 | [],a=>by simp
 | o::r,a=>by simp only [sI,bef_size r,befF,Array.size_push,uk];omega
theorem bef_keep:∀(l:List Oper) (a:Array Nat) (j:Nat),j < a.size->(l.foldl befF a).getD j 0=a.getD j 0
 | [],a,j,_=>rfl
 | o::r,a,j,h=>by
  simp only [sI];rw [bef_keep r _ j (by simp [befF];omega)];simp [befF,u9,rq,Nat.ne_of_lt h]
theorem edges_bit (a:Array Nat) (w:Nat):∀(es:List Edge) (s:Nat),(es.foldl (λs e=>if Region.binds .any e then s ||| 2 ^ e.on ||| a.getD e.on 0 else s) s).testBit w=true ->
  s.testBit w=true \/ ∃e ∈ es,Region.binds .any e=true/\(e.on=w \/ (a.getD e.on 0).testBit w=true)
 | [],s,h=>.inl h
 | e::r,s,h=>by
  simp only [sI] at h;rcases edges_bit a w r _ h with h | ⟨d,c,b,hh⟩
  ·split at h
   ·rename_i b;simp only [Nat.testBit_or,tn,Nat.testBit_two_pow,um] at h;rcases h with (h | h) | h
    ·exact .inl h
    ·exact .inr ⟨e,by simp,b,.inl h⟩
    ·exact .inr ⟨e,by simp,b,.inr h⟩
   ·exact .inl h
  ·exact .inr ⟨d,by simp [c],b,hh⟩
theorem before_spec {a:Array Oper} {i w:Nat} {o:Oper} (hi:a[i]?=some o) (h:((Region.before a).getD i 0).testBit w=true) :
  ∃e ∈ o.after,Region.binds .any e=true/\(e.on=w \/ (e.on < i/\((Region.before a).getD e.on 0).testBit w=true)):=by
 have f:a.toList[i]?=some o:=by simpa using hi
 obtain ⟨d,_⟩:=uc.1 f;have b:a.toList=a.toList.take i++o::a.toList.drop (i+1):=by
  have:=re d;rw [<- (uc.1 f).2,this,sG]
 generalize hA:(a.toList.take i).foldl befF #[]=acc;have c:acc.size=i:=by rw [<- hA,bef_size];simp at d ⊢;omega
 have l:Region.before a=(a.toList.drop (i+1)).foldl befF (befF acc o):=by
  rw [before_eq]
  conv=>lhs;rw [b]
  rw [List.foldl_append,hA,sI]
 have g:(Region.before a).getD i 0=o.after.foldl (λs e=>if Region.binds .any e then s ||| 2 ^ e.on ||| acc.getD e.on 0 else s) 0:=by
  rw [l,bef_keep _ _ _ (by simp [befF,c])];subst c;simp [befF,u9]
 rw [g,<- rY] at h;rcases edges_bit acc w o.after.toList 0 h with h | ⟨e,m,k,hh⟩
 ·simp at h
 ·refine ⟨e,by simpa using m,k,hh.imp id λhh=>?_⟩;have j:e.on < i:=by
   rcases tz e.on i with f | f
   ·exact f
   ·have:acc.getD e.on 0=0:=by simp [u9,tV (show acc.size<=e.on by omega)]
    rw [this] at hh;simp at hh
  refine ⟨j,?_⟩;rw [l,bef_keep _ _ _ (by simp [befF,c];omega)];have:(befF acc o).getD e.on 0=acc.getD e.on 0:=by simp [befF,u9,rq,c,Nat.ne_of_lt j]
  rw [this];exact hh

theorem ev_congr {env a:List AV} {x:Operand} (h:∀t,x=.tmp t->env[t]?=a[t]?):ev env x=ev a x:=by
 cases x with
 | tmp t=>simp only [ev,ur,h t rfl]
 | _=>rfl
theorem looks_op {a:Array Oper} {o:Oper} {t:Tmp} (h:Operand.tmp t ∈ o.op.operands):t ∈ o.looksAt a:=by
 unfold Oper.looksAt;refine uR.2 (.inl (List.mem_filterMap.2 ⟨.tmp t,by simpa using h,rfl⟩))
theorem looks_guard {a:Array Oper} {o:Oper} {j:Nat} {b:Bool} {d:Tmp} (c:o.guard=some (j,b)) (hd:(a[j]?).bind (·.dst)=some d):d ∈ o.looksAt a:=by
 unfold Oper.looksAt;refine uR.2 (.inr ?_);simp [c,hd]
theorem aG_congr {b:Array Oper} {o:Oper} {env a:List AV} (h:∀t ∈ o.looksAt b,env[t]?=a[t]?):aG b o env=aG b o a:=by
 unfold aG;split
 ·rfl
 ·rename_i j c e;split
  ·rfl
  ·rename_i d hd;rw [h d (looks_guard e hd)]

theorem aParts_congr {P:Program} {d:TypeDesc} {env a:List AV} {parts:Array (Nat×Operand)} (h:∀p ∈ parts.toList,ev env p.2=ev a p.2):xB P d env parts=xB P d a parts:=by
 unfold xB;exact rb λp b=>by rw [h p b]

theorem astep_congr {P:Program} {o:Oper} {env g:List AV} {h:AH} (e:∀x ∈ o.op.operands,ev env x=ev g x):zw P o env h=zw P o g h:=by
 unfold zw;cases ho:o.op <;> rw [ho] at e <;> simp only [Op.operands] at e ⊢
 case move x=>rw [e x (by simp)]
 case assign x=>rw [e x (by simp)]
 case pick c a b=>rw [e c (by simp),e a (by simp),e b (by simp)]
 case box t x=>rw [e x (by simp)]
 case build t parts =>
  have j:∀d,xB P d env parts=xB P d g parts:=λd=>aParts_congr λp j=>e p.2 (by simp;exact ⟨p.1,by simpa using j⟩);simp only [j]
 case buildSlice t n parts =>
  have j:∀d,xB P d env parts=xB P d g parts:=λd=>aParts_congr λp j=>e p.2 (by simp;exact ⟨p.1,by simpa using j⟩);simp only [j]
 case load t x=>rw [e x (by simp)]
 case store t x y=>rw [e x (by simp),e y (by simp)]
 case nilCheck x=>rw [e x (by simp)]
 case binOp op t x y yt=>rw [e x (by simp),e y (by simp)]
 case unOp op t x=>rw [e x (by simp)]
 case convert s t x=>rw [e x (by simp)]
 case makeFunc f a b =>
  have q:a.toList.map (ev env)=a.toList.map (ev g):=rb λx k=>e x (by simp at k ⊢;exact .inl k);have l:b.toList.map (ev env)=b.toList.map (ev g):=rb λx k=>e x (by simp at k ⊢;exact .inr k);rw [q,l]
 case slice t x lo hi mx =>
  have q:lo.map (ev env)=lo.map (ev g):=by cases lo with | none=>rfl | some y=>simp [e y (by simp)]
  have l:hi.map (ev env)=hi.map (ev g):=by cases hi with | none=>rfl | some y=>simp [e y (by simp)]
  have v:mx.map (ev env)=mx.map (ev g):=by cases mx with | none=>rfl | some y=>simp [e y (by simp)]
  rw [e x (by simp),q,l,v]
 case fieldAddr t x f=>rw [e x (by simp)]
 case field t x f=>rw [e x (by simp)]
 case indexAddr t x i=>rw [e x (by simp),e i (by simp)]
 case index t x i=>rw [e x (by simp),e i (by simp)]
 case extract x i=>rw [e x (by simp)]
 case range t x=>rw [e x (by simp)]
 case next x s=>rw [e x (by simp)]
 case lookup t x i ok=>rw [e x (by simp),e i (by simp)]
 case mapEntry t x i=>rw [e x (by simp),e i (by simp)]
 case entryStore t x i y=>rw [e x (by simp),e i (by simp),e y (by simp)]
 case mapUpdate t x i y=>rw [e x (by simp),e i (by simp),e y (by simp)]
 case makeMap t r=>cases r <;> rfl
 case call c =>
  have q:c.args.toList.map (ev env)=c.args.toList.map (ev g):=rb λx k=>e x (by simp [Call.operands];exact .inr (by simpa using k));have l:(c.args.toList.zip c.argTypes.toList).map (λp=>tyfix P p.2 (ev env p.1))=(c.args.toList.zip c.argTypes.toList).map (λp=>tyfix P p.2 (ev g p.1)) :=
   rb λp j=>by rw [e p.1 (by simp [Call.operands];exact .inr (by simpa using (List.of_mem_zip j).1))]
  rw [q,l];split
  ·split
   ·rfl
   ·rename_i f u;rw [e f (by simp [Call.operands,u])]
   ·rename_i x m u;rw [e x (by simp [Call.operands,u])]
  ·rfl

theorem bstep_congr {P:Program} {o:Oper} {env a:List AV} {h:AH} (b:∀x ∈ o.op.operands,ev env x=ev a x):vt P o env h=vt P o a h:=by
 unfold vt;cases ho:o.op <;> rw [ho] at b <;> simp only [Op.operands] at b ⊢
 case range t x=>rw [b x (by simp)]
 case next x s=>cases s <;> simp only;rw [b x (by simp)]
 case entry x=>rw [b x (by simp)]
 case buildSlice t n parts =>
  have g:∀d,xB P d env parts=xB P d a parts:=λd=>aParts_congr λp g=>b p.2 (by simp;exact ⟨p.1,by simpa using g⟩);simp only [g]
 case convert s t x=>rw [b x (by simp)]
 case makeInterface t x=>rw [b x (by simp)]
 case typeAssert x u t ok=>rw [b x (by simp)]
 case slice t x lo hi mx =>
  split <;> first | rfl | skip
  all_goals (rename_i h0;try (cases h0))
  all_goals first
   | rfl
   | (rename_i y;rw [b x (by simp),b y (by simp)])
 case insert t m k x =>
  have:zw P { o with op:=.mapUpdate t m k x } env h=zw P { o with op:=.mapUpdate t m k x } a h:=astep_congr λy l=>b y (by simpa [Op.operands] using l);rw [this]
 case call c =>
  have e:∀x ∈ c.args.toList,ev env x=ev a x:=λx j=>b x (by simp [Call.operands];exact .inr (by simpa using j));split
  ·rename_i ts x y i has;rw [e x (by rw [has];simp),e y (by rw [has];simp)]
  ·rename_i ts x y i has;rw [e x (by rw [has];simp),e y (by rw [has];simp)]
  ·rename_i t u x y i f has;rw [e x (by rw [has];simp),e y (by rw [has];simp)]
  ·rename_i t x i f has;rw [e x (by rw [has];simp)]
  ·rfl
theorem bstep_still {P:Program} {o:Oper} {env:List AV} {h j:AH} {v:AV} (e:isEff o.op=false) (hd:bdraw o.op=true) (a:vt P o env h=some [(v,j)]):j=h/\∀g,vt P o env g=some [(v,g)]:=by
 unfold vt at a ⊢;cases ho:o.op <;> rw [ho] at e a hd <;> simp only [isEff,bdraw,reduceCtorEq] at e a hd ⊢
 case convert s t x =>
  split at a
  ·rename_i d;split at a
   ·simp only [un,s9,tG,tW] at a;obtain ⟨rfl,rfl⟩:=a;exact ⟨rfl,λg=>by rw [up d]⟩
   ·cases a
  ·cases a
 case makeInterface t x =>
  split at a
  ·rename_i d;split at a
   ·cases a
   ·simp only [un,s9,tG,tW] at a;obtain ⟨rfl,rfl⟩:=a;exact ⟨rfl,λg=>by rw [up d]⟩
   ·cases a
  ·cases a
 case typeAssert x u t ok =>
  split at a
  ·rename_i d;split at a
   ·cases a
   ·split at a
    ·rename_i i;simp only [un,s9,tG,tW] at a;obtain ⟨rfl,rfl⟩:=a;exact ⟨rfl,λg=>by rw [up d,up i]⟩
    ·rename_i i;split at a
     ·rename_i k;split at a
      ·simp only [un,s9,tG,tW] at a;obtain ⟨rfl,rfl⟩:=a;exact ⟨rfl,λg=>by rw [up d,uu i,up k]⟩
      ·cases a
     ·cases a
   ·cases a
  ·cases a
 case call c =>
  obtain ⟨callee,l,ts⟩:=c;cases callee with
  | value f=>simp at e
  | invoke x m=>simp at e
  | builtin b=>cases b <;> simp only [reduceCtorEq] at e a
theorem aLoad_blks {h a:AH} (c:a.blks=h.blks) (b:Bool) (n:Nat) (p:AV):aLoad a b n p=aLoad h b n p:=by
 unfold aLoad AH.blk;rw [c]

theorem astep_still {P:Program} {o:Oper} {env:List AV} {h:AH} (d:isEff o.op=false) :
  (∃x:Option AV,∀a:AH,(isRd o.op=true->a.blks=h.blks)->zw P o env a=oo a x) \/ (∃n v,∀a:AH,zw P o env a=.len n v a) \/ (∀a:AH,(∃S,zw P o env a=.any S) \/ zw P o env a=.fail):=by
 cases ho:o.op <;> rw [ho] at d <;> simp only [isEff,reduceCtorEq] at d <;> simp only [zw,ho]
 case call c =>
  obtain ⟨callee,j,ts⟩:=c;cases callee with
  | value f=>simp at d
  | invoke x m=>simp at d
  | builtin b =>
   cases b <;> simp only [reduceCtorEq] at d;simp only [vP];split
   ·split
    ·split
     ·split
      ·exact .inr (.inl ⟨_,_,λ_=>rfl⟩)
      ·exact .inl ⟨none,λ_ _=>rfl⟩
     ·split
      ·exact .inr (.inl ⟨_,_,λ_=>rfl⟩)
      ·exact .inl ⟨none,λ_ _=>rfl⟩
     ·split
      ·refine .inr (.inr λa=>?_);split
       ·exact .inl ⟨_,rfl⟩
       ·exact .inr rfl
      ·exact .inl ⟨none,λ_ _=>rfl⟩
     ·exact .inl ⟨none,λ_ _=>rfl⟩
    ·exact absurd ‹Builtin.len=Builtin.append› (by simp)
    ·exact absurd ‹Builtin.len=Builtin.min› (by simp)
    ·exact absurd ‹Builtin.len=Builtin.max› (by simp)
    ·exact .inl ⟨none,λ_ _=>rfl⟩
   ·exact .inl ⟨none,λ_ _=>rfl⟩
 case binOp op t x y u =>
  split
  ·cases hq:aNilq P op t h (ev env x) (ev env y) with
   | none =>
    have g:∀a,aNilq P op t a (ev env x) (ev env y)=none:=by
     intro a;unfold aNilq at hq ⊢;split at hq
     ·split at hq <;> first | rfl | cases hq
     ·split at hq <;> first | rfl | cases hq
     ·rfl
    exact .inl ⟨_,λa _=>by rw [g a]⟩
   | some S =>
    refine .inr (.inr λa=>?_);have:∃S',aNilq P op t a (ev env x) (ev env y)=some S':=by
     unfold aNilq at hq ⊢;split at hq
     ·split at hq <;> first | exact ⟨_,rfl⟩ | (exfalso;cases hq)
     ·split at hq <;> first | exact ⟨_,rfl⟩ | (exfalso;cases hq)
     ·cases hq
    obtain ⟨S',e⟩:=this;exact .inl ⟨S',by rw [e]⟩
  ·exact .inl ⟨none,λ_ _=>rfl⟩
 case load t x =>
  split
  ·exact .inl ⟨_,λa i=>by rw [aLoad_blks (i rfl)]⟩
  ·exact .inl ⟨none,λ_ _=>rfl⟩
 all_goals
  (repeat' split) <;> first
   | exact .inl ⟨none,λ_ _=>rfl⟩
   | exact .inl ⟨some _,λ_ _=>rfl⟩
   | exact .inl ⟨_,λ_ _=>rfl⟩
end Go.Vv
