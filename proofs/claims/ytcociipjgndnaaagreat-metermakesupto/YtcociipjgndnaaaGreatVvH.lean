/- Each operation of the model: structs made, comparisons, integers, lengths. -/
import Derived.Test.YtcociipjgndnaaaGreatVvG
import Derived.Great.BuildSlice
import Derived.ChangeKeysEq
namespace Go.Vv
open Go Go.RowKit Go.Lib
section
variable {P:Program} {w:World} {g:Gh} {h:AH} {B:Nat} {w0:World}

theorem tyfix_one {t:TypeId} {a:AV} (h:a.one=true):(tyfix P t a).one=true:=by
 unfold tyfix;split
 ·split <;> rfl
 ·exact h
theorem VA.fix:∀{ts:List TypeId} {b:List AV} {vs:List Value},VA g b vs->VA g (fixCells P ts b) vs
 | [],_,_,h=>by simp only [fixCells];exact h
 | _::_,[],_,h=>by simp only [fixCells];exact h
 | t::ts,a::b,vs,h=>by
  simp only [VA] at h;obtain ⟨v,s,rfl,⟨h0,d⟩,c⟩:=h;simp only [fixCells,VA];exact ⟨v,s,rfl,⟨tyfix_one h0,d.tyfix⟩,VA.fix c⟩
theorem qA {t:TypeId} {cs:List AV} (a:xD P t=some cs):∃i z,P.info? t=some i/\i.zero=some z/\VA g cs z.cells.toList:=by
 unfold xD at a;split at a
 ·rename_i i hi;split at a
  ·rename_i z b;split at a
   ·rename_i c;split at a
    ·rename_i cs' d;cases a;exact ⟨i,z,hi,b,((V.cv c).cells d).fix⟩
    ·cases a
   ·cases a
  ·cases a
 ·cases a

theorem parts_rel {d:TypeDesc} {env:List AV} {a:Act} (n:VL g env a.tmps.toList) {parts:Array (Nat×Operand)} (e:(parts.all λp=>yy p.2)=true) :
  (xB P d env parts).length=(parts.map λ(i,x)=>(i,a.eval x)).toList.length /\
  ∀(j:Nat) (p:Nat×AV) (q:Nat×Value),(xB P d env parts)[j]?=some p->(parts.map λ(i,x)=>(i,a.eval x)).toList[j]?=some q->p.1=q.1/\V g p.2 q.2:=by
 refine ⟨by simp [xB],λj p q m l=>?_⟩;simp only [xB,s5,rM,sP] at m l;obtain ⟨x,k,rfl⟩:=m;obtain ⟨y,c,rfl⟩:=l;rw [k] at c;injection c with c;subst c;have b:x ∈ parts:=by
  have:=uN k;simpa using this
 have f:=(sQ.1 e) x b;exact ⟨rfl,(V.ev n f).tyfix⟩

theorem build_sound {t:TypeId} {env:List AV} {a:Act} (y:VL g env a.tmps.toList) {parts:Array (Nat×Operand)} (k:(parts.all λp=>yy p.2)=true) {z out:List AV} (C:xD P t=some z)
  (f:(∃fs pl,P.underlying t=some (.struct fs)/\va P fs=some pl/\qd (λi=>pl[i]?) z (xB P (.struct fs) env parts)=some out) \/
   ∃n e j,P.underlying t=some (.array n e)/\P.info? e=some j/\qd (λi=>some (i * j.size,j.size)) z (xB P (.array n e) env parts)=some out) :
  ∃u,(Instr.build t (parts.map λ(i,x)=>(i,a.eval x))).run P w=.ok u w/\V g (.agg out) u:=by
 obtain ⟨i,D,hi,m,l⟩:=qA (g:=g) C;rcases f with ⟨fs,pl,s,o,q⟩ | ⟨n,e,j,s,A,q⟩
 ·obtain ⟨v,r⟩:=parts_rel (P:=P) (d:=.struct fs) y k;obtain ⟨xs,c,b⟩:=fill_sound (place':=(pl.toArray[·]?)) (λi x h=>by simpa using h) l v r q;refine ⟨.agg xs,run_build w t _ xs ?_,by simp only [V];exact ⟨xs,rfl,b⟩⟩;unfold va at o;simp only [Program.built,hi,s,m,o];exact c
 ·obtain ⟨v,r⟩:=parts_rel (P:=P) (d:=.array n e) y k;obtain ⟨xs,c,b⟩:=fill_sound (place':=λi=>some (i * j.size,j.size)) (λi x h=>h) l v r q;refine ⟨.agg xs,run_build w t _ xs ?_,by simp only [V];exact ⟨xs,rfl,b⟩⟩;simp only [Program.built,hi,s,m,A];exact c

theorem aEqL_split:∀(c:List Kd) {ls:List Kd} {d bs:List AV} {r:Bool},aEqL (c++ls) d bs=some r ->
  ∃e f,aEqL c (d.take c.length) (bs.take c.length)=some e/\aEqL ls (d.drop c.length) (bs.drop c.length)=some f/\r=(e&&f)/\c.length<=d.length/\c.length<=bs.length
 | [],ls,d,bs,r,h=>⟨true,r,by simp [aEqL],by simpa using h,by simp,by simp,by simp⟩
 | k::c,ls,[],bs,r,h=>by simp [aEqL] at h
 | k::c,ls,a::d,[],r,h=>by simp [aEqL] at h
 | k::c,ls,a::d,b::bs,r,h=>by
  simp only [tS,aEqL] at h;split at h
  ·rename_i x y i o;obtain ⟨e,f,p,j,m,n,l⟩:=aEqL_split c o;cases h;exact ⟨x&&e,f,by simp [aEqL,i,p],by simpa using j,by rw [m,Bool.and_assoc],by simpa using n,by simpa using l⟩
  ·cases h

def KdOk (P:Program) (t:TypeId):Kd->Prop
 | .b=>P.underlying t=some .bool
 | .i=>∃j,P.underlying t=some (.int j)
 | .s=>P.underlying t=some .string

theorem eq1_run {t:TypeId} {k:Kd} {a b:AV} {x y:Value} {r:Bool} (d:V g a x) (e:V g b y) (c:aEq1 k a b=some r)
  (hd:KdOk P t k) (D:Nat):(Op.equalIn (D+1) t x y).run P w=.ok r w:=by
 unfold aEq1 at c;split at c
 ·cases c;simp only [V] at d e;subst d e;exact run_equalIn_bool w D t _ _ hd
 ·split at c
  ·rename_i f;cases c;simp only [V] at d e;subst d e f;obtain ⟨j,hd⟩:=hd;simp [Op.equalIn,run_underlying hd]
  ·cases c
 ·cases c;simp only [V] at d e;obtain ⟨rfl,_⟩:=d;obtain ⟨rfl,_⟩:=e;rw [run_equalIn_string w D t _ _ hd,ByteArray.toList_mk,ByteArray.toList_mk]
 ·cases c

def EqE (P:Program) (w:World) (g:Gh) (d:Nat):Prop:=∀{t:TypeId} {ks:List Kd} {i:TypeInfo},wc P d t=some ks->P.info? t=some i->i.size=ks.length->∀{xs ys:Array Value} {as bs:List AV} {off:Nat} {r:Bool},VA g as xs.toList->VA g bs ys.toList ->
  aEqL ks ((as.drop off).take ks.length) ((bs.drop off).take ks.length)=some r->∀D,d<=D->∃u v,(part t xs off).run P w=.ok u w/\(part t ys off).run P w=.ok v w/\(Op.equalIn D t u v).run P w=.ok r w

theorem eqF {d:Nat} (E:EqE P w g d):∀(fs:List Field) (c:Nat) {k:List Kd},plainFs P d fs c=some k->∀{xs m:Array Value} {j bs:List AV} {r:Bool},VA g j xs.toList->VA g bs m.toList ->
  aEqL k (j.drop c) (bs.drop c)=some r->∀D,d<=D->(Op.eqFields D xs m fs).run P w=.ok r w
 | [],c,k,h,xs,m,j,bs,r,ha,hb,hr,D,_=>by
  simp only [plainFs,plainFsOf,un] at h;subst h;have:r=true:=by
   rcases q:j.drop c with _ | ⟨a,y⟩ <;> rcases l:bs.drop c with _ | ⟨b,t⟩ <;> simp [q,l,aEqL] at hr;exact hr
  subst this;simp [Op.eqFields]
 | f::fs,c,k,h,xs,m,j,bs,r,ha,hb,hr,D,hD=>by
  simp only [plainFs,plainFsOf] at h;split at h
  ·rename_i s;split at h
   ·rename_i z i o hi;split at h
    ·rename_i e;split at h
     ·rename_i I p;cases h;obtain ⟨C,J,q,l,n,K,H⟩:=aEqL_split z hr;obtain ⟨u,v,x,A,F⟩:=E o hi e ha hb q D hD;have G:=eqF E fs (c+i.size) p ha hb (by rw [tB,tB,<- e] at l;exact l) D hD;simp only [Op.eqFields,up s.1,s.2,Sem.run_bind,x,A,F,Result.andThen_ok];cases C with
      | true=>simp at n;subst n;simpa using G
      | false=>simp at n;subst n;simp
     ·cases h
    ·cases h
   ·cases h
  ·cases h
theorem eqE:∀(d:Nat),EqE P w g d:=by
 intro d
 induction d with
 | zero=>intro t p i h;simp [wc] at h
 | succ d ih =>
  intro t p i h hi l xs o J bs off r Q M e D U;obtain ⟨D,rfl⟩:∃D',D=D'+1:=⟨D - 1,by omega⟩
  have one:∀(k:Kd),p=[k]->KdOk P t k ->
    ∃u v,(part t xs off).run P w=.ok u w/\(part t o off).run P w=.ok v w/\(Op.equalIn (D+1) t u v).run P w=.ok r w:=by
   intro k T hd;subst T;simp only [rF] at e;rcases h1:J.drop off with _ | ⟨a,S⟩
   ·simp [h1,aEqL] at e
   ·rcases h2:bs.drop off with _ | ⟨b,R⟩
    ·simp [h1,h2,aEqL] at e
    ·have A:J[off]?=some a:=by have:=congrArg (·[0]?) h1;simpa using this
     have C:bs[off]?=some b:=by have:=congrArg (·[0]?) h2;simpa using this
     obtain ⟨u,c,q⟩:=Q.toVL.get _ _ A;obtain ⟨v,O,I⟩:=M.toVL.get _ _ C;rw [uv] at c O;have z:aEq1 k a b=some r:=by
      simp [h1,h2,aEqL] at e;split at e
      ·rename_i x y G L;cases L;cases e;rw [G];simp
      ·cases e
     have f:∀dd,P.underlying t=some dd->yh dd=false->∃u v,(part t xs off).run P w=.ok u w/\(part t o off).run P w=.ok v w/\(Op.equalIn (D+1) t u v).run P w=.ok r w:=λdd m N =>
      ⟨u,v,by simp [part,run_agg m,N,c],by simp [part,run_agg m,N,O],eq1_run q I z hd D⟩
     cases k with
     | b=>exact f _ hd rfl
     | i=>obtain ⟨j,E⟩:=hd;exact f _ E rfl
     | s=>exact f _ hd rfl
  simp only [wc] at h;split at h
  ·rename_i c;cases h;exact one .b rfl c
  ·rename_i j c;cases h;exact one .i rfl ⟨j,c⟩
  ·rename_i c;cases h;exact one .s rfl c
  ·rename_i fs c;split at h
   ·cases h
   ·rename_i H;have n:P.fieldsOf t=fs:=by simp [Program.fieldsOf,c]
    have G:(part t xs off).run P w=.ok (.agg (xs.extract off (off+i.size))) w:=by simp [part,run_agg c,yh,x6 hi]
    have L:(part t o off).run P w=.ok (.agg (o.extract off (off+i.size))) w:=by simp [part,run_agg c,yh,x6 hi]
    refine ⟨_,_,G,L,?_⟩;rw [run_equalIn_struct w D t _ _ (by rw [n];exact c) (by simpa using H),n];have F:VA g ((J.drop off).take p.length) (xs.extract off (off+i.size)).toList:=by
     rw [px,rh,show off+i.size - off=i.size by omega,l];exact VA.take _ (VA.drop _ Q)
    have K:VA g ((bs.drop off).take p.length) (o.extract off (off+i.size)).toList:=by
     rw [px,rh,show off+i.size - off=i.size by omega,l];exact VA.take _ (VA.drop _ M)
    exact eqF ih fs.toList 0 h F K (by simpa using e) D (by omega)
  ·cases h
theorem eqItems_sound {e:TypeId} {i:TypeInfo} (q:wc P 1 e=some [.i]) (hi:P.info? e=some i) (hs:i.size=1) {us vs:Array Value} {cs ds:List AV} (t:VA g cs us.toList) (n:VA g ds vs.toList):∀(m s:Nat) {r:Bool},
  aEqL (List.replicate m .i) (cs.drop s) (ds.drop s)=some r->∀D,1<=D->(Op.eqItems D e (P.cellsOf e) us vs (List.range' s m)).run P w=.ok r w:=by
 have y:P.cellsOf e=1:=by simp [Program.cellsOf,hi,hs]
 intro m
 induction m with
 | zero =>
  intro s r h D _;rcases f:cs.drop s with _ | ⟨a,A⟩ <;> rcases c:ds.drop s with _ | ⟨b,bs⟩ <;> simp [f,c,aEqL] at h;subst h;simp [Op.eqItems]
 | succ m ih =>
  intro s r h D j;obtain ⟨p,z,f,c,d,_⟩:=aEqL_split [.i] (ls:=List.replicate m .i) (by simpa [rp] using h);obtain ⟨u,v,l,o,x⟩:=eqE (P:=P) (w:=w) 1 q hi hs t n (off:=s) f D j;have k:=ih (s+1) (by rw [tB,tB] at c;exact c) D j;rw [y] at k ⊢;simp only [List.range'_succ,Op.eqItems,Nat.mul_one,Sem.run_bind,l,o,x,Result.andThen_ok];cases p with
  | true=>simp at d;subst d;simpa using k
  | false=>simp at d;subst d;simp
end
end Go.Vv
