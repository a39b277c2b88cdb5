/- Each operation of the model: structs made, comparisons, integers, lengths. -/
import Derived.Test.YtandnkcefogjeaaGreatVvG
import Derived.Great.BuildSlice
namespace Go.Vv
open Go Go.RowKit Go.Lib
section
variable {P:Program} {w:World} {g:Gh} {h:AH} {B:Nat} {w0:World}

theorem tyfix_one {t:TypeId} {a:AV} (h:a.one=true):(tyfix P t a).one=true:=by
 unfold tyfix;split
 ·split <;> rfl
 ·exact h
theorem VA.fix:∀{ts:List TypeId} {b:List AV} {vs:List Value},VA g b vs->VA g (fixCells P ts b) vs
 | [],_,_,h=>by simp only [fixCells];exact h
 | _::_,[],_,h=>by simp only [fixCells];exact h
 | t::ts,a::b,vs,h=>by
  simp only [VA] at h;obtain ⟨v,s,rfl,⟨h0,c⟩,d⟩:=h;simp only [fixCells,VA];exact ⟨v,s,rfl,⟨tyfix_one h0,c.tyfix⟩,VA.fix d⟩
theorem zeroC_sound {t:TypeId} {cs:List AV} (a:xq P t=some cs):∃i z,P.info? t=some i/\i.zero=some z/\VA g cs z.cells.toList:=by
 unfold xq at a;split at a
 ·rename_i i hi;split at a
  ·rename_i z c;split at a
   ·rename_i b;split at a
    ·rename_i cs' d;cases a;exact ⟨i,z,hi,c,((V.cv b).cells d).fix⟩
    ·cases a
   ·cases a
  ·cases a
 ·cases a

theorem parts_rel {d:TypeDesc} {env:List AV} {a:Act} (n:VL g env a.tmps.toList) {parts:Array (Nat×Operand)} (f:(parts.all λp=>yg p.2)=true) :
  (xg P d env parts).length=(parts.map λ(i,x)=>(i,a.eval x)).toList.length /\
  ∀(j:Nat) (p:Nat×AV) (q:Nat×Value),(xg P d env parts)[j]?=some p->(parts.map λ(i,x)=>(i,a.eval x)).toList[j]?=some q->p.1=q.1/\V g p.2 q.2:=by
 refine ⟨by simp [xg],λj p q k m=>?_⟩;simp only [xg,List.getElem?_map,Array.toList_map,Option.map_eq_some_iff] at k m;obtain ⟨x,l,rfl⟩:=k;obtain ⟨y,c,rfl⟩:=m;rw [l] at c;injection c with c;subst c;have b:x ∈ parts:=by
  have:=List.mem_of_getElem? l;simpa using this
 have e:=(Array.all_eq_true_iff_forall_mem.1 f) x b;exact ⟨rfl,(V.ev n e).tyfix⟩

theorem build_sound {t:TypeId} {env:List AV} {a:Act} (A:VL g env a.tmps.toList) {parts:Array (Nat×Operand)} (k:(parts.all λp=>yg p.2)=true) {z out:List AV} (D:xq P t=some z)
  (f:(∃fs q,P.underlying t=some (.struct fs)/\xX P fs=some q/\vS (λi=>q[i]?) z (xg P (.struct fs) env parts)=some out) \/
   ∃n e j,P.underlying t=some (.array n e)/\P.info? e=some j/\vS (λi=>some (i * j.size,j.size)) z (xg P (.array n e) env parts)=some out) :
  ∃u,(Instr.build t (parts.map λ(i,x)=>(i,a.eval x))).run P w=.ok u w/\V g (.agg out) u:=by
 obtain ⟨i,E,hi,m,l⟩:=zeroC_sound (g:=g) D;rcases f with ⟨fs,q,r,o,v⟩ | ⟨n,e,j,r,C,v⟩
 ·obtain ⟨s,y⟩:=parts_rel (P:=P) (d:=.struct fs) A k;obtain ⟨xs,c,b⟩:=fill_sound (place':=(q.toArray[·]?)) (λi x h=>by simpa using h) l s y v;refine ⟨.agg xs,run_build w t _ xs ?_,by simp only [V];exact ⟨xs,rfl,b⟩⟩;unfold xX at o;simp only [Program.built,hi,r,m,o];exact c
 ·obtain ⟨s,y⟩:=parts_rel (P:=P) (d:=.array n e) A k;obtain ⟨xs,c,b⟩:=fill_sound (place':=λi=>some (i * j.size,j.size)) (λi x h=>h) l s y v;refine ⟨.agg xs,run_build w t _ xs ?_,by simp only [V];exact ⟨xs,rfl,b⟩⟩;simp only [Program.built,hi,r,m,C];exact c

theorem aEqL_split:∀(c:List Kd) {ls:List Kd} {d bs:List AV} {r:Bool},aEqL (c++ls) d bs=some r ->
  ∃f e,aEqL c (d.take c.length) (bs.take c.length)=some f/\aEqL ls (d.drop c.length) (bs.drop c.length)=some e/\r=(f&&e)/\c.length<=d.length/\c.length<=bs.length
 | [],ls,d,bs,r,h=>⟨true,r,by simp [aEqL],by simpa using h,by simp,by simp,by simp⟩
 | k::c,ls,[],bs,r,h=>by simp [aEqL] at h
 | k::c,ls,a::d,[],r,h=>by simp [aEqL] at h
 | k::c,ls,a::d,b::bs,r,h=>by
  simp only [List.cons_append,aEqL] at h;split at h
  ·rename_i x y l i;obtain ⟨f,e,m,n,p,o,j⟩:=aEqL_split c i;cases h;exact ⟨x&&f,e,by simp [aEqL,l,m],by simpa using n,by rw [p,Bool.and_assoc],by simpa using o,by simpa using j⟩
  ·cases h

def KdOk (P:Program) (t:TypeId):Kd->Prop
 | .b=>P.underlying t=some .bool
 | .i=>∃j,P.underlying t=some (.int j)
 | .s=>P.underlying t=some .string

theorem eq1_run {t:TypeId} {k:Kd} {a b:AV} {x y:Value} {r:Bool} (d:V g a x) (e:V g b y) (c:aEq1 k a b=some r)
  (hd:KdOk P t k) (D:Nat):(Op.equalIn (D+1) t x y).run P w=.ok r w:=by
 unfold aEq1 at c;split at c
 ·cases c;simp only [V] at d e;subst d e;exact run_equalIn_bool w D t _ _ hd
 ·split at c
  ·rename_i f;cases c;simp only [V] at d e;subst d e f;obtain ⟨j,hd⟩:=hd;simp [Op.equalIn,run_underlying hd]
  ·cases c
 ·cases c;simp only [V] at d e;obtain ⟨rfl,_⟩:=d;obtain ⟨rfl,_⟩:=e;rw [run_equalIn_string w D t _ _ hd,ByteArray.toList_mk,ByteArray.toList_mk]
 ·cases c

def EqE (P:Program) (w:World) (g:Gh) (d:Nat):Prop:=∀{t:TypeId} {ks:List Kd} {i:TypeInfo},wq P d t=some ks->P.info? t=some i->i.size=ks.length->∀{xs ys:Array Value} {as bs:List AV} {off:Nat} {r:Bool},VA g as xs.toList->VA g bs ys.toList ->
  aEqL ks ((as.drop off).take ks.length) ((bs.drop off).take ks.length)=some r->∀D,d<=D->∃u v,(part t xs off).run P w=.ok u w/\(part t ys off).run P w=.ok v w/\(Op.equalIn D t u v).run P w=.ok r w

theorem eqF {d:Nat} (E:EqE P w g d):∀(fs:List Field) (c:Nat) {m:List Kd},plainFs P d fs c=some m->∀{xs l:Array Value} {e bs:List AV} {r:Bool},VA g e xs.toList->VA g bs l.toList ->
  aEqL m (e.drop c) (bs.drop c)=some r->∀D,d<=D->(Op.eqFields D xs l fs).run P w=.ok r w
 | [],c,m,h,xs,l,e,bs,r,ha,hb,hr,D,_=>by
  simp only [plainFs,plainFsOf,Option.some.injEq] at h;subst h;have:r=true:=by
   rcases o:e.drop c with _ | ⟨a,A⟩ <;> rcases n:bs.drop c with _ | ⟨b,t⟩ <;> simp [o,n,aEqL] at hr;exact hr
  subst this;simp [Op.eqFields]
 | f::fs,c,m,h,xs,l,e,bs,r,ha,hb,hr,D,hD=>by
  simp only [plainFs,plainFsOf] at h;split at h
  ·rename_i s;split at h
   ·rename_i x i p hi;split at h
    ·rename_i j;split at h
     ·rename_i K q;cases h;obtain ⟨G,I,o,n,k,H,J⟩:=aEqL_split x hr;obtain ⟨u,v,z,F,C⟩:=E p hi j ha hb o D hD;have y:=eqF E fs (c+i.size) q ha hb (by rw [List.drop_drop,List.drop_drop,<- j] at n;exact n) D hD;simp only [Op.eqFields,if_pos s.1,s.2,Sem.run_bind,z,F,C,Result.andThen_ok];cases G with
      | true=>simp at k;subst k;simpa using y
      | false=>simp at k;subst k;simp
     ·cases h
    ·cases h
   ·cases h
  ·cases h
theorem eqE:∀(d:Nat),EqE P w g d:=by
 intro d
 induction d with
 | zero=>intro t p i h;simp [wq] at h
 | succ d ih =>
  intro t p i h hi m xs n z bs off r Q N e D U;obtain ⟨D,rfl⟩:∃D',D=D'+1:=⟨D - 1,by omega⟩
  have one:∀(k:Kd),p=[k]->KdOk P t k ->
    ∃u v,(part t xs off).run P w=.ok u w/\(part t n off).run P w=.ok v w/\(Op.equalIn (D+1) t u v).run P w=.ok r w:=by
   intro k S hd;subst S;simp only [List.length_singleton] at e;rcases h1:z.drop off with _ | ⟨a,T⟩
   ·simp [h1,aEqL] at e
   ·rcases h2:bs.drop off with _ | ⟨b,R⟩
    ·simp [h1,h2,aEqL] at e
    ·have F:z[off]?=some a:=by have:=congrArg (·[0]?) h1;simpa using this
     have I:bs[off]?=some b:=by have:=congrArg (·[0]?) h2;simpa using this
     obtain ⟨u,c,E⟩:=Q.toVL.get _ _ F;obtain ⟨v,M,A⟩:=N.toVL.get _ _ I;rw [Array.getElem?_toList] at c M;have H:aEq1 k a b=some r:=by
      simp [h1,h2,aEqL] at e;split at e
      ·rename_i x y C L;cases L;cases e;rw [C];simp
      ·cases e
     have f:∀dd,P.underlying t=some dd->z7 dd=false->∃u v,(part t xs off).run P w=.ok u w/\(part t n off).run P w=.ok v w/\(Op.equalIn (D+1) t u v).run P w=.ok r w:=λdd o O =>
      ⟨u,v,by simp [part,run_agg o,O,c],by simp [part,run_agg o,O,M],eq1_run E A H hd D⟩
     cases k with
     | b=>exact f _ hd rfl
     | i=>obtain ⟨j,G⟩:=hd;exact f _ G rfl
     | s=>exact f _ hd rfl
  simp only [wq] at h;split at h
  ·rename_i c;cases h;exact one .b rfl c
  ·rename_i j c;cases h;exact one .i rfl ⟨j,c⟩
  ·rename_i c;cases h;exact one .s rfl c
  ·rename_i fs c;split at h
   ·cases h
   ·rename_i q;have l:P.fieldsOf t=fs:=by simp [Program.fieldsOf,c]
    have C:(part t xs off).run P w=.ok (.agg (xs.extract off (off+i.size))) w:=by simp [part,run_agg c,z7,xP hi]
    have L:(part t n off).run P w=.ok (.agg (n.extract off (off+i.size))) w:=by simp [part,run_agg c,z7,xP hi]
    refine ⟨_,_,C,L,?_⟩;rw [run_equalIn_struct w D t _ _ (by rw [l];exact c) (by simpa using q),l];have J:VA g ((z.drop off).take p.length) (xs.extract off (off+i.size)).toList:=by
     rw [Array.toList_extract,List.extract_eq_take_drop,show off+i.size - off=i.size by omega,m];exact VA.take _ (VA.drop _ Q)
    have K:VA g ((bs.drop off).take p.length) (n.extract off (off+i.size)).toList:=by
     rw [Array.toList_extract,List.extract_eq_take_drop,show off+i.size - off=i.size by omega,m];exact VA.take _ (VA.drop _ N)
    exact eqF ih fs.toList 0 h J K (by simpa using e) D (by omega)
  ·cases h
end
end Go.Vv
