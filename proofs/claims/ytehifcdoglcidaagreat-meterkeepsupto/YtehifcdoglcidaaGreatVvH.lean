/- Each operation of the model: structs made, comparisons, integers, lengths. -/
import Derived.Test.YtehifcdoglcidaaGreatVvG
import Derived.Great.BuildSlice
import Derived.ChangeKeysEq
namespace Go.Vv
open Go Go.RowKit Go.Lib
section
variable {P:Program} {w:World} {g:Gh} {h:AH} {B:Nat} {w0:World}

theorem tyfix_one {t:TypeId} {a:AV} (h:a.one=true):(tyfix P t a).one=true:=by
 unfold tyfix;split
 ·split <;> rfl
 ·exact h
theorem VA.fix:∀{ts:List TypeId} {b:List AV} {vs:List Value},VA g b vs->VA g (fixCells P ts b) vs
 | [],_,_,h=>by simp only [fixCells];exact h
 | _::_,[],_,h=>by simp only [fixCells];exact h
 | t::ts,a::b,vs,h=>by
  simp only [VA] at h;obtain ⟨v,s,rfl,⟨h0,d⟩,c⟩:=h;simp only [fixCells,VA];exact ⟨v,s,rfl,⟨tyfix_one h0,d.tyfix⟩,VA.fix c⟩
theorem qS {t:TypeId} {cs:List AV} (a:xk P t=some cs):∃i z,P.info? t=some i/\i.zero=some z/\VA g cs z.cells.toList:=by
 unfold xk at a;split at a
 ·rename_i i hi;split at a
  ·rename_i z b;split at a
   ·rename_i c;split at a
    ·rename_i cs' d;cases a;exact ⟨i,z,hi,b,((V.cv c).cells d).fix⟩
    ·cases a
   ·cases a
  ·cases a
 ·cases a

theorem parts_rel {d:TypeDesc} {env:List AV} {a:Act} (n:VL g env a.tmps.toList) {parts:Array (Nat×Operand)} (f:(parts.all λp=>z7 p.2)=true) :
  (xd P d env parts).length=(parts.map λ(i,x)=>(i,a.eval x)).toList.length /\
  ∀(j:Nat) (p:Nat×AV) (q:Nat×Value),(xd P d env parts)[j]?=some p->(parts.map λ(i,x)=>(i,a.eval x)).toList[j]?=some q->p.1=q.1/\V g p.2 q.2:=by
 refine ⟨by simp [xd],λj p q m l=>?_⟩;simp only [xd,List.getElem?_map,Array.toList_map,Option.map_eq_some_iff] at m l;obtain ⟨x,k,rfl⟩:=m;obtain ⟨y,c,rfl⟩:=l;rw [k] at c;injection c with c;subst c;have b:x ∈ parts:=by
  have:=List.mem_of_getElem? k;simpa using this
 have e:=(Array.all_eq_true_iff_forall_mem.1 f) x b;exact ⟨rfl,(V.ev n e).tyfix⟩

theorem build_sound {t:TypeId} {env:List AV} {a:Act} (A:VL g env a.tmps.toList) {parts:Array (Nat×Operand)} (o:(parts.all λp=>z7 p.2)=true) {z out:List AV} (D:xk P t=some z)
  (f:(∃fs q,P.underlying t=some (.struct fs)/\wH P fs=some q/\vu (λi=>q[i]?) z (xd P (.struct fs) env parts)=some out) \/
   ∃n e j,P.underlying t=some (.array n e)/\P.info? e=some j/\vu (λi=>some (i * j.size,j.size)) z (xd P (.array n e) env parts)=some out) :
  ∃u,(Instr.build t (parts.map λ(i,x)=>(i,a.eval x))).run P w=.ok u w/\V g (.agg out) u:=by
 obtain ⟨i,E,hi,m,k⟩:=qS (g:=g) D;rcases f with ⟨fs,q,r,l,s⟩ | ⟨n,e,j,r,C,s⟩
 ·obtain ⟨y,v⟩:=parts_rel (P:=P) (d:=.struct fs) A o;obtain ⟨xs,b,c⟩:=fill_sound (place':=(q.toArray[·]?)) (λi x h=>by simpa using h) k y v s;refine ⟨.agg xs,run_build w t _ xs ?_,by simp only [V];exact ⟨xs,rfl,c⟩⟩;unfold wH at l;simp only [Program.built,hi,r,m,l];exact b
 ·obtain ⟨y,v⟩:=parts_rel (P:=P) (d:=.array n e) A o;obtain ⟨xs,b,c⟩:=fill_sound (place':=λi=>some (i * j.size,j.size)) (λi x h=>h) k y v s;refine ⟨.agg xs,run_build w t _ xs ?_,by simp only [V];exact ⟨xs,rfl,c⟩⟩;simp only [Program.built,hi,r,m,C];exact b

theorem aEqL_split:∀(c:List Kd) {ls:List Kd} {d bs:List AV} {r:Bool},qm (c++ls) d bs=some r ->
  ∃e f,qm c (d.take c.length) (bs.take c.length)=some e/\qm ls (d.drop c.length) (bs.drop c.length)=some f/\r=(e&&f)/\c.length<=d.length/\c.length<=bs.length
 | [],ls,d,bs,r,h=>⟨true,r,by simp [qm],by simpa using h,by simp,by simp,by simp⟩
 | k::c,ls,[],bs,r,h=>by simp [qm] at h
 | k::c,ls,a::d,[],r,h=>by simp [qm] at h
 | k::c,ls,a::d,b::bs,r,h=>by
  simp only [List.cons_append,qm] at h;split at h
  ·rename_i x y m i;obtain ⟨e,f,n,l,j,o,p⟩:=aEqL_split c i;cases h;exact ⟨x&&e,f,by simp [qm,m,n],by simpa using l,by rw [j,Bool.and_assoc],by simpa using o,by simpa using p⟩
  ·cases h

def KdOk (P:Program) (t:TypeId):Kd->Prop
 | .b=>P.underlying t=some .bool
 | .i=>∃j,P.underlying t=some (.int j)
 | .s=>P.underlying t=some .string

theorem eq1_run {t:TypeId} {k:Kd} {a b:AV} {x y:Value} {r:Bool} (e:V g a x) (d:V g b y) (c:aEq1 k a b=some r)
  (hd:KdOk P t k) (D:Nat):(Op.equalIn (D+1) t x y).run P w=.ok r w:=by
 unfold aEq1 at c;split at c
 ·cases c;simp only [V] at e d;subst e d;exact run_equalIn_bool w D t _ _ hd
 ·split at c
  ·rename_i f;cases c;simp only [V] at e d;subst e d f;obtain ⟨j,hd⟩:=hd;simp [Op.equalIn,run_underlying hd]
  ·cases c
 ·cases c;simp only [V] at e d;obtain ⟨rfl,_⟩:=e;obtain ⟨rfl,_⟩:=d;rw [run_equalIn_string w D t _ _ hd,ByteArray.toList_mk,ByteArray.toList_mk]
 ·cases c

def EqE (P:Program) (w:World) (g:Gh) (d:Nat):Prop:=∀{t:TypeId} {ks:List Kd} {i:TypeInfo},xB P d t=some ks->P.info? t=some i->i.size=ks.length->∀{xs ys:Array Value} {as bs:List AV} {off:Nat} {r:Bool},VA g as xs.toList->VA g bs ys.toList ->
  qm ks ((as.drop off).take ks.length) ((bs.drop off).take ks.length)=some r->∀D,d<=D->∃u v,(part t xs off).run P w=.ok u w/\(part t ys off).run P w=.ok v w/\(Op.equalIn D t u v).run P w=.ok r w

theorem eqF {d:Nat} (E:EqE P w g d):∀(fs:List Field) (c:Nat) {k:List Kd},plainFs P d fs c=some k->∀{xs m:Array Value} {j bs:List AV} {r:Bool},VA g j xs.toList->VA g bs m.toList ->
  qm k (j.drop c) (bs.drop c)=some r->∀D,d<=D->(Op.eqFields D xs m fs).run P w=.ok r w
 | [],c,k,h,xs,m,j,bs,r,ha,hb,hr,D,_=>by
  simp only [plainFs,plainFsOf,Option.some.injEq] at h;subst h;have:r=true:=by
   rcases p:j.drop c with _ | ⟨a,F⟩ <;> rcases n:bs.drop c with _ | ⟨b,x⟩ <;> simp [p,n,qm] at hr;exact hr
  subst this;simp [Op.eqFields]
 | f::fs,c,k,h,xs,m,j,bs,r,ha,hb,hr,D,hD=>by
  simp only [plainFs,plainFsOf] at h;split at h
  ·rename_i s;split at h
   ·rename_i A i o hi;split at h
    ·rename_i e;split at h
     ·rename_i H q;cases h;obtain ⟨t,K,p,n,l,I,J⟩:=aEqL_split A hr;obtain ⟨u,v,z,C,G⟩:=E o hi e ha hb p D hD;have y:=eqF E fs (c+i.size) q ha hb (by rw [List.drop_drop,List.drop_drop,<- e] at n;exact n) D hD;simp only [Op.eqFields,if_pos s.1,s.2,Sem.run_bind,z,C,G,Result.andThen_ok];cases t with
      | true=>simp at l;subst l;simpa using y
      | false=>simp at l;subst l;simp
     ·cases h
    ·cases h
   ·cases h
  ·cases h
theorem eqE:∀(d:Nat),EqE P w g d:=by
 intro d
 induction d with
 | zero=>intro t p i h;simp [xB] at h
 | succ d ih =>
  intro t p i h hi m xs o J bs off r Q N e D U;obtain ⟨D,rfl⟩:∃D',D=D'+1:=⟨D - 1,by omega⟩
  have one:∀(k:Kd),p=[k]->KdOk P t k ->
    ∃u v,(part t xs off).run P w=.ok u w/\(part t o off).run P w=.ok v w/\(Op.equalIn (D+1) t u v).run P w=.ok r w:=by
   intro k S hd;subst S;simp only [List.length_singleton] at e;rcases h1:J.drop off with _ | ⟨a,T⟩
   ·simp [h1,qm] at e
   ·rcases h2:bs.drop off with _ | ⟨b,R⟩
    ·simp [h1,h2,qm] at e
    ·have K:J[off]?=some a:=by have:=congrArg (·[0]?) h1;simpa using this
     have L:bs[off]?=some b:=by have:=congrArg (·[0]?) h2;simpa using this
     obtain ⟨u,c,C⟩:=Q.toVL.get _ _ K;obtain ⟨v,M,G⟩:=N.toVL.get _ _ L;rw [Array.getElem?_toList] at c M;have E:aEq1 k a b=some r:=by
      simp [h1,h2,qm] at e;split at e
      ·rename_i x y A I;cases I;cases e;rw [A];simp
      ·cases e
     have f:∀dd,P.underlying t=some dd->zS dd=false->∃u v,(part t xs off).run P w=.ok u w/\(part t o off).run P w=.ok v w/\(Op.equalIn (D+1) t u v).run P w=.ok r w:=λdd l O =>
      ⟨u,v,by simp [part,qM l,O,c],by simp [part,qM l,O,M],eq1_run C G E hd D⟩
     cases k with
     | b=>exact f _ hd rfl
     | i=>obtain ⟨j,F⟩:=hd;exact f _ F rfl
     | s=>exact f _ hd rfl
  simp only [xB] at h;split at h
  ·rename_i c;cases h;exact one .b rfl c
  ·rename_i j c;cases h;exact one .i rfl ⟨j,c⟩
  ·rename_i c;cases h;exact one .s rfl c
  ·rename_i fs c;split at h
   ·cases h
   ·rename_i H;have n:P.fieldsOf t=fs:=by simp [Program.fieldsOf,c]
    have A:(part t xs off).run P w=.ok (.agg (xs.extract off (off+i.size))) w:=by simp [part,qM c,zS,xJ hi]
    have I:(part t o off).run P w=.ok (.agg (o.extract off (off+i.size))) w:=by simp [part,qM c,zS,xJ hi]
    refine ⟨_,_,A,I,?_⟩;rw [run_equalIn_struct w D t _ _ (by rw [n];exact c) (by simpa using H),n];have q:VA g ((J.drop off).take p.length) (xs.extract off (off+i.size)).toList:=by
     rw [Array.toList_extract,List.extract_eq_take_drop,show off+i.size - off=i.size by omega,m];exact VA.take _ (VA.drop _ Q)
    have z:VA g ((bs.drop off).take p.length) (o.extract off (off+i.size)).toList:=by
     rw [Array.toList_extract,List.extract_eq_take_drop,show off+i.size - off=i.size by omega,m];exact VA.take _ (VA.drop _ N)
    exact eqF ih fs.toList 0 h q z (by simpa using e) D (by omega)
  ·cases h
theorem eqItems_sound {e:TypeId} {i:TypeInfo} (q:xB P 1 e=some [.i]) (hi:P.info? e=some i) (hs:i.size=1) {us vs:Array Value} {cs ds:List AV} (o:VA g cs us.toList) (l:VA g ds vs.toList):∀(m s:Nat) {r:Bool},
  qm (List.replicate m .i) (cs.drop s) (ds.drop s)=some r->∀D,1<=D->(Op.eqItems D e (P.cellsOf e) us vs (List.range' s m)).run P w=.ok r w:=by
 have x:P.cellsOf e=1:=by simp [Program.cellsOf,hi,hs]
 intro m
 induction m with
 | zero =>
  intro s r h D _;rcases f:cs.drop s with _ | ⟨a,z⟩ <;> rcases d:ds.drop s with _ | ⟨b,bs⟩ <;> simp [f,d,qm] at h;subst h;simp [Op.eqItems]
 | succ m ih =>
  intro s r h D k;obtain ⟨n,A,f,d,c,_⟩:=aEqL_split [.i] (ls:=List.replicate m .i) (by simpa [List.replicate_succ] using h);obtain ⟨u,v,p,t,y⟩:=eqE (P:=P) (w:=w) 1 q hi hs o l (off:=s) f D k;have j:=ih (s+1) (by rw [List.drop_drop,List.drop_drop] at d;exact d) D k;rw [x] at j ⊢;simp only [List.range'_succ,Op.eqItems,Nat.mul_one,Sem.run_bind,p,t,y,Result.andThen_ok];cases n with
  | true=>simp at c;subst c;simpa using j
  | false=>simp at c;subst c;simp
end
end Go.Vv
