/- Each operation of the model: structs made, comparisons, integers, lengths. -/
import Derived.Test.YtdkfnnpdeenhnaaGreatVvG
import Derived.Great.BuildSlice
import Derived.ChangeKeysEq
namespace Go.Vv
open Go Go.RowKit Go.Lib
section
variable {P:Program} {w:World} {g:Gh} {h:AH} {B:Nat} {w0:World}

theorem tyfix_one {t:TypeId} {a:AV} (h:a.one=true):(tyfix P t a).one=true:=by
 unfold tyfix;split
 ·split <;> rfl
 ·exact h
theorem VA.fix:∀{ts:List TypeId} {b:List AV} {vs:List Value},VA g b vs->VA g (qz P ts b) vs
 | [],_,_,h=>by simp only [qz];exact h
 | _::_,[],_,h=>by simp only [qz];exact h
 | t::ts,a::b,vs,h=>by
  simp only [VA] at h;obtain ⟨v,s,rfl,⟨h0,c⟩,d⟩:=h;simp only [qz,VA];exact ⟨v,s,rfl,⟨tyfix_one h0,c.tyfix⟩,VA.fix d⟩
theorem wD {t:TypeId} {cs:List AV} (a:xc P t=some cs):∃i z,P.info? t=some i/\i.zero=some z/\VA g cs z.cells.toList:=by
 unfold xc at a;split at a
 ·rename_i i hi;split at a
  ·rename_i z c;split at a
   ·rename_i b;split at a
    ·rename_i cs' d;cases a;exact ⟨i,z,hi,c,((V.cv b).cells d).fix⟩
    ·cases a
   ·cases a
  ·cases a
 ·cases a

theorem parts_rel {d:TypeDesc} {env:List AV} {a:Act} (n:VL g env a.tmps.toList) {parts:Array (Nat×Operand)} (e:(parts.all λp=>zO p.2)=true) :
  (yu P d env parts).length=(parts.map λ(i,x)=>(i,a.eval x)).toList.length /\
  ∀(j:Nat) (p:Nat×AV) (q:Nat×Value),(yu P d env parts)[j]?=some p->(parts.map λ(i,x)=>(i,a.eval x)).toList[j]?=some q->p.1=q.1/\V g p.2 q.2:=by
 refine ⟨by simp [yu],λj p q m k=>?_⟩;simp only [yu,List.getElem?_map,Array.toList_map,Option.map_eq_some_iff] at m k;obtain ⟨x,l,rfl⟩:=m;obtain ⟨y,c,rfl⟩:=k;rw [l] at c;injection c with c;subst c;have b:x ∈ parts:=by
  have:=List.mem_of_getElem? l;simpa using this
 have f:=(Array.all_eq_true_iff_forall_mem.1 e) x b;exact ⟨rfl,(V.ev n f).tyfix⟩

theorem build_sound {t:TypeId} {env:List AV} {a:Act} (A:VL g env a.tmps.toList) {parts:Array (Nat×Operand)} (l:(parts.all λp=>zO p.2)=true) {z out:List AV} (D:xc P t=some z)
  (b:(∃fs q,P.underlying t=some (.struct fs)/\wt P fs=some q/\wi (λi=>q[i]?) z (yu P (.struct fs) env parts)=some out) \/
   ∃n e j,P.underlying t=some (.array n e)/\P.info? e=some j/\wi (λi=>some (i * j.size,j.size)) z (yu P (.array n e) env parts)=some out) :
  ∃u,(Instr.build t (parts.map λ(i,x)=>(i,a.eval x))).run P w=.ok u w/\V g (.agg out) u:=by
 obtain ⟨i,E,hi,m,o⟩:=wD (g:=g) D;rcases b with ⟨fs,q,y,k,r⟩ | ⟨n,e,j,y,C,r⟩
 ·obtain ⟨v,s⟩:=parts_rel (P:=P) (d:=.struct fs) A l;obtain ⟨xs,f,c⟩:=vm (place':=(q.toArray[·]?)) (λi x h=>by simpa using h) o v s r;refine ⟨.agg xs,run_build w t _ xs ?_,by simp only [V];exact ⟨xs,rfl,c⟩⟩;unfold wt at k;simp only [Program.built,hi,y,m,k];exact f
 ·obtain ⟨v,s⟩:=parts_rel (P:=P) (d:=.array n e) A l;obtain ⟨xs,f,c⟩:=vm (place':=λi=>some (i * j.size,j.size)) (λi x h=>h) o v s r;refine ⟨.agg xs,run_build w t _ xs ?_,by simp only [V];exact ⟨xs,rfl,c⟩⟩;simp only [Program.built,hi,y,m,C];exact f

theorem aEqL_split:∀(c:List Kd) {ls:List Kd} {d e:List AV} {r:Bool},w7 (c++ls) d e=some r ->
  ∃i f,w7 c (d.take c.length) (e.take c.length)=some i/\w7 ls (d.drop c.length) (e.drop c.length)=some f/\r=(i&&f)/\c.length<=d.length/\c.length<=e.length
 | [],ls,d,e,r,h=>⟨true,r,by simp [w7],by simpa using h,by simp,by simp,by simp⟩
 | k::c,ls,[],e,r,h=>by simp [w7] at h
 | k::c,ls,a::d,[],r,h=>by simp [w7] at h
 | k::c,ls,a::d,b::e,r,h=>by
  simp only [List.cons_append,w7] at h;split at h
  ·rename_i x y q n;obtain ⟨i,f,l,o,j,p,m⟩:=aEqL_split c n;cases h;exact ⟨x&&i,f,by simp [w7,q,l],by simpa using o,by rw [j,Bool.and_assoc],by simpa using p,by simpa using m⟩
  ·cases h

def KdOk (P:Program) (t:TypeId):Kd->Prop
 | .b=>P.underlying t=some .bool
 | .i=>∃j,P.underlying t=some (.int j)
 | .s=>P.underlying t=some .string

theorem eq1_run {t:TypeId} {k:Kd} {a b:AV} {x y:Value} {r:Bool} (e:V g a x) (d:V g b y) (c:aEq1 k a b=some r)
  (hd:KdOk P t k) (D:Nat):(Op.equalIn (D+1) t x y).run P w=.ok r w:=by
 unfold aEq1 at c;split at c
 ·cases c;simp only [V] at e d;subst e d;exact run_equalIn_bool w D t _ _ hd
 ·split at c
  ·rename_i f;cases c;simp only [V] at e d;subst e d f;obtain ⟨j,hd⟩:=hd;simp [Op.equalIn,run_underlying hd]
  ·cases c
 ·cases c;simp only [V] at e d;obtain ⟨rfl,_⟩:=e;obtain ⟨rfl,_⟩:=d;rw [run_equalIn_string w D t _ _ hd,ByteArray.toList_mk,ByteArray.toList_mk]
 ·cases c

def EqE (P:Program) (w:World) (g:Gh) (d:Nat):Prop:=∀{t:TypeId} {ks:List Kd} {i:TypeInfo},yN P d t=some ks->P.info? t=some i->i.size=ks.length->∀{xs ys:Array Value} {as bs:List AV} {off:Nat} {r:Bool},VA g as xs.toList->VA g bs ys.toList ->
  w7 ks ((as.drop off).take ks.length) ((bs.drop off).take ks.length)=some r->∀D,d<=D->∃u v,(part t xs off).run P w=.ok u w/\(part t ys off).run P w=.ok v w/\(Op.equalIn D t u v).run P w=.ok r w

theorem eqF {d:Nat} (E:EqE P w g d):∀(fs:List Field) (c:Nat) {n:List Kd},plainFs P d fs c=some n->∀{xs o:Array Value} {e j:List AV} {r:Bool},VA g e xs.toList->VA g j o.toList ->
  w7 n (e.drop c) (j.drop c)=some r->∀D,d<=D->(Op.eqFields D xs o fs).run P w=.ok r w
 | [],c,n,h,xs,o,e,j,r,ha,hb,hr,D,_=>by
  simp only [plainFs,qc,Option.some.injEq] at h;subst h;have:r=true:=by
   rcases s:e.drop c with _ | ⟨a,F⟩ <;> rcases m:j.drop c with _ | ⟨b,H⟩ <;> simp [s,m,w7] at hr;exact hr
  subst this;simp [Op.eqFields]
 | f::fs,c,n,h,xs,o,e,j,r,ha,hb,hr,D,hD=>by
  simp only [plainFs,qc] at h;split at h
  ·rename_i t;split at h
   ·rename_i x i q hi;split at h
    ·rename_i k;split at h
     ·rename_i L p;cases h;obtain ⟨A,J,s,m,l,K,I⟩:=aEqL_split x hr;obtain ⟨u,v,G,z,C⟩:=E q hi k ha hb s D hD;have y:=eqF E fs (c+i.size) p ha hb (by rw [List.drop_drop,List.drop_drop,<- k] at m;exact m) D hD;simp only [Op.eqFields,if_pos t.1,t.2,Sem.run_bind,G,z,C,Result.andThen_ok];cases A with
      | true=>simp at l;subst l;simpa using y
      | false=>simp at l;subst l;simp
     ·cases h
    ·cases h
   ·cases h
  ·cases h
theorem eqE:∀(d:Nat),EqE P w g d:=by
 intro d
 induction d with
 | zero=>intro t p i h;simp [yN] at h
 | succ d ih =>
  intro t p i h hi m xs n z G off r O N e D V;obtain ⟨D,rfl⟩:∃D',D=D'+1:=⟨D - 1,by omega⟩
  have one:∀(k:Kd),p=[k]->KdOk P t k ->
    ∃u v,(part t xs off).run P w=.ok u w/\(part t n off).run P w=.ok v w/\(Op.equalIn (D+1) t u v).run P w=.ok r w:=by
   intro k U hd;subst U;simp only [List.length_singleton] at e;rcases h1:z.drop off with _ | ⟨a,T⟩
   ·simp [h1,w7] at e
   ·rcases h2:G.drop off with _ | ⟨b,S⟩
    ·simp [h1,h2,w7] at e
    ·have A:z[off]?=some a:=by have:=congrArg (·[0]?) h1;simpa using this
     have E:G[off]?=some b:=by have:=congrArg (·[0]?) h2;simpa using this
     obtain ⟨u,c,I⟩:=O.toVL.get _ _ A;obtain ⟨v,Q,J⟩:=N.toVL.get _ _ E;rw [Array.getElem?_toList] at c Q;have F:aEq1 k a b=some r:=by
      simp [h1,h2,w7] at e;split at e
      ·rename_i x y L H;cases H;cases e;rw [L];simp
      ·cases e
     have f:∀dd,P.underlying t=some dd->zK dd=false->∃u v,(part t xs off).run P w=.ok u w/\(part t n off).run P w=.ok v w/\(Op.equalIn (D+1) t u v).run P w=.ok r w:=λdd o R =>
      ⟨u,v,by simp [part,vu o,R,c],by simp [part,vu o,R,Q],eq1_run I J F hd D⟩
     cases k with
     | b=>exact f _ hd rfl
     | i=>obtain ⟨j,q⟩:=hd;exact f _ q rfl
     | s=>exact f _ hd rfl
  simp only [yN] at h;split at h
  ·rename_i c;cases h;exact one .b rfl c
  ·rename_i j c;cases h;exact one .i rfl ⟨j,c⟩
  ·rename_i c;cases h;exact one .s rfl c
  ·rename_i fs c;split at h
   ·cases h
   ·rename_i M;have l:P.fieldsOf t=fs:=by simp [Program.fieldsOf,c]
    have L:(part t xs off).run P w=.ok (.agg (xs.extract off (off+i.size))) w:=by simp [part,vu c,zK,yV hi]
    have H:(part t n off).run P w=.ok (.agg (n.extract off (off+i.size))) w:=by simp [part,vu c,zK,yV hi]
    refine ⟨_,_,L,H,?_⟩;rw [run_equalIn_struct w D t _ _ (by rw [l];exact c) (by simpa using M),l];have C:VA g ((z.drop off).take p.length) (xs.extract off (off+i.size)).toList:=by
     rw [Array.toList_extract,List.extract_eq_take_drop,show off+i.size - off=i.size by omega,m];exact VA.take _ (VA.drop _ O)
    have K:VA g ((G.drop off).take p.length) (n.extract off (off+i.size)).toList:=by
     rw [Array.toList_extract,List.extract_eq_take_drop,show off+i.size - off=i.size by omega,m];exact VA.take _ (VA.drop _ N)
    exact eqF ih fs.toList 0 h C K (by simpa using e) D (by omega)
  ·cases h
theorem eqItems_sound {e:TypeId} {i:TypeInfo} (l:yN P 1 e=some [.i]) (hi:P.info? e=some i) (hs:i.size=1) {us vs:Array Value} {cs ds:List AV} (t:VA g cs us.toList) (n:VA g ds vs.toList):∀(m s:Nat) {r:Bool},
  w7 (List.replicate m .i) (cs.drop s) (ds.drop s)=some r->∀D,1<=D->(Op.eqItems D e (P.cellsOf e) us vs (List.range' s m)).run P w=.ok r w:=by
 have y:P.cellsOf e=1:=by simp [Program.cellsOf,hi,hs]
 intro m
 induction m with
 | zero =>
  intro s r h D _;rcases f:cs.drop s with _ | ⟨a,z⟩ <;> rcases d:ds.drop s with _ | ⟨b,A⟩ <;> simp [f,d,w7] at h;subst h;simp [Op.eqItems]
 | succ m ih =>
  intro s r h D j;obtain ⟨p,C,f,d,c,_⟩:=aEqL_split [.i] (ls:=List.replicate m .i) (by simpa [List.replicate_succ] using h);obtain ⟨u,v,x,o,q⟩:=eqE (P:=P) (w:=w) 1 l hi hs t n (off:=s) f D j;have k:=ih (s+1) (by rw [List.drop_drop,List.drop_drop] at d;exact d) D j;rw [y] at k ⊢;simp only [List.range'_succ,Op.eqItems,Nat.mul_one,Sem.run_bind,x,o,q,Result.andThen_ok];cases p with
  | true=>simp at c;subst c;simpa using k
  | false=>simp at c;subst c;simp
end
end Go.Vv
