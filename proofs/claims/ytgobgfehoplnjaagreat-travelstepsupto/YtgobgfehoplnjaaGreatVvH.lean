/- Each operation of the model: structs made, comparisons, integers, lengths. -/
import Derived.Test.YtgobgfehoplnjaaGreatVvD
import Derived.Great.BuildSlice
import Derived.ChangeKeysEq
import Derived.MapKept
import Derived.Carry
set_option linter.all false
namespace Go.Vv
open Go Go.RowKit Go.Lib
variable {t:TypeId} {env:List AV}
section
variable {P:Program} {w:World} {g:Gh} {h:AH} {B:Nat} {w0:World}

theorem zkD {t:TypeId} {a:AV} (h:a.one=true):(w6 P t a).one=true:=by
 unfold w6;split
 ·split <;> rfl
 ·exact h
theorem VA.fix:∀{ts:List TypeId} {a5:List AV} {vs:List Value},VA g a5 vs->VA g (pu P ts a5) vs
 | [],_,_,h=>by simp only [pu];exact h
 | _::_,[],_,h=>by simp only [pu];exact h
 | t::ts,a::a5,vs,h=>by
  simp only [VA] at h;obtain ⟨v,s,rfl,⟨h0,c⟩,b⟩:=h;simp only [pu,VA];exact ⟨v,s,rfl,⟨zkD h0,c.w6⟩,VA.fix b⟩
theorem qD {cs:List AV} (a:yX P t=some cs):∃i z,P.info? t=some i/\i.zero=some z/\VA g cs z.cells.toList:=by
 unfold yX at a;split at a
 ·rename_i i hi;split at a
  ·rename_i z c;split at a
   ·rename_i b;split at a
    ·rename_i cs' d;cases a;exact ⟨i,z,hi,c,((V.cv b).cells d).fix⟩
    ·cases a
   ·cases a
  ·cases a
 ·cases a

theorem oD {d:TypeDesc} {a:Act} (m:VL g env a.tmps.toList) {parts:Array (Nat×Operand)} (e:(parts.all λp=>yl p.2)=true) :
  (xO P d env parts).length=(parts.map λ(i,x)=>(i,a.eval x)).toList.length /\
  ∀(j:Nat) (p:Nat×AV) (q:Nat×Value),(xO P d env parts)[j]?=some p->(parts.map λ(i,x)=>(i,a.eval x)).toList[j]?=some q->p.1=q.1/\V g p.2 q.2:=by
 refine ⟨by simp [xO],λj p q l k=>?_⟩;simp only [xO,ib,ik,j4] at l k;obtain ⟨x,n,rfl⟩:=l;obtain ⟨y,c,rfl⟩:=k;rw [n] at c;injection c with c;subst c;have b:x ∈ parts:=by
  grind
 have f:=(kY.1 e) x b;exact ⟨rfl,(V.ev m f).w6⟩

theorem zcR {a:Act} (A:VL g env a.tmps.toList) {parts:Array (Nat×Operand)} (m:(parts.all λp=>yl p.2)=true) {z out:List AV} (C:yX P t=some z)
  (b:(∃fs o,P.underlying t=some (.struct fs)/\zaK P fs=some o/\qq (λi=>o[i]?) z (xO P (.struct fs) env parts)=some out) \/
   ∃n e j,P.underlying t=some (.array n e)/\P.info? e=some j/\qq (λi=>some (i * j.size,j.size)) z (xO P (.array n e) env parts)=some out) :
  ∃u,(Instr.build t (parts.map λ(i,x)=>(i,a.eval x))).run P w=.ok u w/\V g (.agg out) u:=by
 obtain ⟨i,E,hi,k,l⟩:=qD (g:=g) C;rcases b with ⟨fs,o,y,f,v⟩ | ⟨n,e,j,y,D,v⟩
 ·obtain ⟨r,q⟩:=oD (P:=P) (d:=.struct fs) A m;obtain ⟨xs,s,c⟩:=sB (place':=(o.toArray[·]?)) (λi x h=>by simpa using h) l r q v;refine ⟨.agg xs,run_build w t _ xs ?_,by simp only [V];exact ⟨xs,rfl,c⟩⟩;unfold zaK at f;simp only [Program.built,hi,y,k,f];omega
 ·obtain ⟨r,q⟩:=oD (P:=P) (d:=.array n e) A m;obtain ⟨xs,s,c⟩:=sB (place':=λi=>some (i * j.size,j.size)) (λi x h=>h) l r q v;refine ⟨.agg xs,run_build w t _ xs ?_,by simp only [V];exact ⟨xs,rfl,c⟩⟩;simp only [Program.built,hi,y,k,D];omega

theorem nO:∀(c:List Kd) {ls:List Kd} {a5 bs:List AV} {r:Bool},tY (c++ls) a5 bs=some r ->
  ∃e d,tY c (a5.take c.length) (bs.take c.length)=some e/\tY ls (a5.drop c.length) (bs.drop c.length)=some d/\r=(e&&d)/\c.length<=a5.length/\c.length<=bs.length
 | [],ls,a5,bs,r,h=>⟨true,r,by simp [tY],by simpa using h,by simp,by simp,by simp⟩
 | k::c,ls,[],bs,r,h=>by simp [tY] at h
 | k::c,ls,a::a5,[],r,h=>by simp [tY] at h
 | k::c,ls,a::a5,b::bs,r,h=>by
  simp only [kg,tY] at h;split at h
  ·rename_i x y j f;obtain ⟨e,d,i,l,o,m,n⟩:=nO c f;cases h;exact ⟨x&&e,d,by simp [tY,j,i],by simp_all,by grind,by simp_all,by simp_all⟩
  ·cases h

def zwD (P:Program) (t:TypeId):Kd->Prop
 | .b=>P.underlying t=some .bool
 | .i=>∃j,P.underlying t=some (.int j)
 | .s=>P.underlying t=some .string

theorem zfd {k:Kd} {a b:AV} {x y:Value} {r:Bool} (d:V g a x) (e:V g b y) (c:n9 k a b=some r)
  (hd:zwD P t k) (D:Nat):(Op.equalIn (D+1) t x y).run P w=.ok r w:=by
 unfold n9 at c;split at c
 ·cases c;simp only [V] at d e;subst d e;exact run_equalIn_bool w D t _ _ hd
 ·split at c
  ·rename_i f;cases c;simp only [V] at d e;subst d e f;obtain ⟨j,hd⟩:=hd;simp [Op.equalIn,run_underlying hd]
  ·cases c
 ·cases c;simp only [V] at d e;obtain ⟨rfl,_⟩:=d;obtain ⟨rfl,_⟩:=e;rw [run_equalIn_string w D t _ _ hd,ByteArray.toList_mk,ByteArray.toList_mk]
 ·cases c

def EqE (P:Program) (w:World) (g:Gh) (d:Nat):Prop:=∀{t:TypeId} {ks:List Kd} {i:TypeInfo},wA P d t=some ks->P.info? t=some i->i.size=ks.length->∀{xs ys:Array Value} {a5 bs:List AV} {off:Nat} {r:Bool},VA g a5 xs.toList->VA g bs ys.toList ->
  tY ks ((a5.drop off).take ks.length) ((bs.drop off).take ks.length)=some r->∀D,d<=D->∃u v,(part t xs off).run P w=.ok u w/\(part t ys off).run P w=.ok v w/\(Op.equalIn D t u v).run P w=.ok r w

theorem eqF {d:Nat} (E:EqE P w g d):∀(fs:List Field) (acc:Nat) {j:List Kd},zcd P d fs acc=some j->∀{xs l:Array Value} {a5 bs:List AV} {r:Bool},VA g a5 xs.toList->VA g bs l.toList ->
  tY j (a5.drop acc) (bs.drop acc)=some r->∀D,d<=D->(Op.eqFields D xs l fs).run P w=.ok r w
 | [],acc,j,h,xs,l,a5,bs,r,ha,hb,hr,D,_=>by
  simp only [zcd,rQ,p3] at h;subst h;have:r=true:=by
   rcases o:a5.drop acc with _ | ⟨a,q⟩ <;> rcases e:bs.drop acc with _ | ⟨b,A⟩ <;> simp [o,e,tY] at hr;exact hr
  subst this;rfl
 | f::fs,acc,j,h,xs,l,a5,bs,r,ha,hb,hr,D,hD=>by
  simp only [zcd,rQ] at h;split at h
  ·rename_i p;split at h
   ·rename_i k1 i n hi;split at h
    ·rename_i c;split at h
     ·rename_i k2 m;cases h;obtain ⟨s,H,o,e,k,F,G⟩:=nO k1 hr;obtain ⟨u,v,y,x,z⟩:=E n hi c ha hb o D hD;have C:=eqF E fs (acc+i.size) m ha hb (by rw [kp,kp,<- c] at e;exact e) D hD;simp only [Op.eqFields,lc p.1,p.2,Sem.run_bind,y,x,z,Result.andThen_ok];cases s with
      | true=>simp at k;subst k;simpa using C
      | false=>simp at k;subst k;simp
     ·cases h
    ·cases h
   ·cases h
  ·cases h
theorem eqE:∀(d:Nat),EqE P w g d:=by
 intro d
 induction d with
 | zero=>intro t n i h;simp [wA] at h
 | succ d ih =>
  intro t n i h hi l xs m a5 bs off r I G o D R;obtain ⟨D,rfl⟩:∃D',D=D'+1:=⟨D - 1,by omega⟩
  have one:∀(k:Kd),n=[k]->zwD P t k ->
    ∃u v,(part t xs off).run P w=.ok u w/\(part t m off).run P w=.ok v w/\(Op.equalIn (D+1) t u v).run P w=.ok r w:=by
   intro k M hd;subst M;simp only [kG] at o;rcases h1:a5.drop off with _ | ⟨a,K⟩
   ·simp [h1,tY] at o
   ·rcases h2:bs.drop off with _ | ⟨b,Q⟩
    ·simp [h1,h2,tY] at o
    ·have A:a5[off]?=some a:=by have:=congrArg (·[0]?) h1;simpa using this
     have z:bs[off]?=some b:=by have:=congrArg (·[0]?) h2;simpa using this
     obtain ⟨u,c,q⟩:=I.f4.get _ _ A;obtain ⟨v,J,y⟩:=G.f4.get _ _ z;rw [lB] at c J;have p:n9 k a b=some r:=by
      simp [h1,h2,tY] at o
      grind
     have e:∀dd,P.underlying t=some dd->ye dd=false->∃u v,(part t xs off).run P w=.ok u w/\(part t m off).run P w=.ok v w/\(Op.equalIn (D+1) t u v).run P w=.ok r w:=λdd f H =>
      ⟨u,v,by simp [part,sK f,H,c],by simp [part,sK f,H,J],zfd q y p hd D⟩
     cases k with
     | b=>exact e _ hd rfl
     | i=>obtain ⟨j,F⟩:=hd;exact e _ F rfl
     | s=>exact e _ hd rfl
  simp only [wA] at h;split at h
  ·rename_i c;cases h;exact one .b rfl c
  ·rename_i j c;cases h;exact one .i rfl ⟨j,c⟩
  ·rename_i c;cases h;exact one .s rfl c
  ·rename_i fs c;split at h
   ·cases h
   ·rename_i L;have x:P.fieldsOf t=fs:=by simp [Program.fieldsOf,c]
    have O:(part t xs off).run P w=.ok (.agg (xs.extract off (off+i.size))) w:=by simp [part,sK c,ye,wm hi]
    have N:(part t m off).run P w=.ok (.agg (m.extract off (off+i.size))) w:=by simp [part,sK c,ye,wm hi]
    refine ⟨_,_,O,N,?_⟩;rw [run_equalIn_struct w D t _ _ (by simp_all) (by simp_all),x];have C:VA g ((a5.drop off).take n.length) (xs.extract off (off+i.size)).toList:=by
     rw [Array.toList_extract,ip,show off+i.size - off=i.size by omega,l];exact VA.take _ (VA.drop _ I)
    have E:VA g ((bs.drop off).take n.length) (m.extract off (off+i.size)).toList:=by
     rw [Array.toList_extract,ip,show off+i.size - off=i.size by omega,l];exact VA.take _ (VA.drop _ G)
    exact eqF ih fs.toList 0 h C E (by simp_all) D (by omega)
  ·cases h
theorem zfc {e:TypeId} {i:TypeInfo} (o:wA P 1 e=some [.i]) (hi:P.info? e=some i) (hs:i.size=1) {us vs:Array Value} {cs ds:List AV} (p:VA g cs us.toList) (y:VA g ds vs.toList):∀(m s:Nat) {r:Bool},
  tY (List.replicate m .i) (cs.drop s) (ds.drop s)=some r->∀D,1<=D->(Op.eqItems D e (P.cellsOf e) us vs (List.range' s m)).run P w=.ok r w:=by
 have z:P.cellsOf e=1:=by simp [Program.cellsOf,hi,hs]
 intro m
 induction m with
 | zero =>
  intro s r h D _;rcases f:cs.drop s with _ | ⟨a,a5⟩ <;> rcases c:ds.drop s with _ | ⟨b,bs⟩ <;> simp [f,c,tY] at h;subst h;rfl
 | succ m ih =>
  intro s r h D j;obtain ⟨l,A,f,c,d,_⟩:=nO [.i] (ls:=List.replicate m .i) (by simpa [jS] using h);obtain ⟨u,v,q,n,x⟩:=eqE (P:=P) (w:=w) 1 o hi hs p y (off:=s) f D j;have k:=ih (s+1) (by rw [kp,kp] at c;exact c) D j;rw [z] at k ⊢;simp only [List.range'_succ,Op.eqItems,Nat.mul_one,Sem.run_bind,q,n,x,Result.andThen_ok];cases l with
  | true=>simp at d;subst d;simpa using k
  | false=>simp at d;subst d;simp
end
end Go.Vv
namespace Go.Vv
open Go Go.RowKit Go.Lib
variable {op:BinOp} {t ty:TypeId} {a b v:AV} {x y:Value} {ox oy:Operand} {d:TypeDesc}
section
variable {P:Program} {w:World} {g:Gh} {h:AH} {B:Nat} {w0:World}
theorem zep (s:List UInt8):(⟨s.toArray⟩:ByteArray).size=s.length:=by rfl

def eI:AV->Value
 | .bool b=>.bool b
 | .int k n=>.int k n
 | .str s=>.string ⟨s.toArray⟩
 | _=>undef

theorem zlO {k k':IntKind} {a b:Int} (i:k=k' \/ op=.shl \/ op=.shr) {ox oy:Operand} {v:AV} (c:xy op k a b=some v) :
  ∃u,(do eqGuard op t ox oy (.int k a) (.int k' b);binOp op t (.int k a) (.int k' b):Sem Value).run P w=.ok u w/\V g v u:=by
 refine ⟨eI v,?_,?_⟩
 ·simp only [eqGuard_at_int];cases op <;> simp only [xy,p3] at c
  case shl =>
   split at c
   ·cases c
   ·rename_i f;cases c;simp [binOp,Op.shift,f,eI]
  case shr =>
   split at c
   ·cases c
   ·rename_i f;cases c;simp [binOp,Op.shift,f,eI]
  case quo =>
   have e:k=k':=by simp_all
   split at c
   ·cases c
   ·rename_i f;cases c;simp [binOp,Op.intDiv,f,eI,e]
  case rem =>
   have e:k=k':=by simp_all
   split at c
   ·cases c
   ·rename_i f;cases c;simp [binOp,Op.intDiv,f,eI,e]
  all_goals
   have e:k=k':=by simp_all
   subst e c;simp [binOp,Op.intArith,Op.intCmp,Op.intBits,eI]
 ·cases op <;> simp only [xy,p3] at c <;> first
   | (subst c;simp only [eI,V];done)
   | (
         split at c
         · cases c
         · cases c;simp only [eI,V])

theorem zkK {x y:List UInt8} (c:ztb op x y=some v) :
  ∃u,(do eqGuard op t ox oy (.string ⟨x.toArray⟩) (.string ⟨y.toArray⟩);binOp op t (.string ⟨x.toArray⟩) (.string ⟨y.toArray⟩):Sem Value).run P w=.ok u w/\V g v u:=by
 refine ⟨eI v,?_,?_⟩
 ·simp only [eqGuard_at_string];cases op <;> simp only [ztb,p3,reduceCtorEq] at c
  case add =>
   split at c
   ·rename_i e;cases c;have f:¬ ((9223372036854775807:Int) < (x.length:Int)+(y.length:Int)):=by simp only [maxLen] at e;omega
    simp [binOp,Op.stringOp,zep,f,eI];rfl
   ·cases c
  all_goals
   subst c;simp [binOp,Op.stringOp,eI]
 ·cases op <;> simp only [ztb,p3,reduceCtorEq] at c <;> first
   | (subst c;simp only [eI,V];done)
   | (
         split at c
         · rename_i e;cases c;simp only [eI,V];exact ⟨trivial,by simp_all⟩
         · cases c)

theorem zls (hd:P.underlying t=some d) {a b:AV} {x y:Value} (c:V g a x) (e:V g b y) {r:Bool} (i:b8 d a b=some r) (D:Nat):(Op.equalIn (D+1) t x y).run P w=.ok r w:=by
 unfold b8 at i;split at i <;> first
  | (
       cases i;simp only [V] at c e
       first
         | (subst c e;simp [Op.equalIn,ym hd];done)
         | (obtain ⟨_,_,rfl⟩:=c;subst e;simp [Op.equalIn,ym hd];done)
         | (obtain ⟨_,_,rfl⟩:=e;subst c;simp [Op.equalIn,ym hd];done)
         | (obtain ⟨_,_,rfl,_⟩:=c;subst e;simp [Op.equalIn,ym hd];done)
         | (obtain ⟨_,_,rfl,_⟩:=e;subst c;simp [Op.equalIn,ym hd];done)
         | (obtain ⟨_,_,_,rfl,_⟩:=c;subst e;simp [Op.equalIn,ym hd];done)
         | (
      obtain ⟨_,_,rfl,_,_,f⟩:=c;subst e;rcases f with f | ⟨_,_,rfl,_⟩
      ·cases f
      ·simp [Op.equalIn,ym hd])
         | (
      obtain ⟨_,_,rfl,_,_,f,_⟩:=c;subst e;rcases f with f | ⟨_,_,rfl,_⟩
      ·cases f
      ·simp [Op.equalIn,ym hd]))
  | cases i

theorem znX (l:V g a x) (k:V g b y) {r:Bool} (f:cN P t a b=some r):(Op.equalIn 10000 t x y).run P w=.ok r w:=by
 unfold cN at f;split at f
 ·rename_i cs ds;split at f
  ·rename_i z;split at f
   ·rename_i A c;simp only [V] at l k;obtain ⟨us,rfl,o⟩:=l;obtain ⟨vs,rfl,p⟩:=k;have q:=z.2;rcases hd:P.underlying t with _ | d
    ·simp_all
    ·cases d <;> simp [hd,ye] at q
     ·rename_i n e;simp only [wA,zoi,hd,Option.none_or] at c;split at c
      ·rename_i j i u hi;split at c
       ·rename_i hs;cases c;rw [show (10000:Nat)=9999+1 from rfl,run_equalIn_array w 9999 us vs hd hi,List.range_eq_range'];exact zfc (by simp [wA,u]) hi hs o p n 0 (by simp_all) 9999 (by omega)
       ·cases c
      ·cases c
     ·rename_i fs;have m:P.fieldsOf t=fs:=by simp [Program.fieldsOf,hd]
      simp only [wA,zoi,hd,Option.or_none] at c;split at c
      ·cases c
      ·rename_i s;rw [show (10000:Nat)=9999+1 from rfl,run_equalIn_struct w 9999 t _ _ (by simp_all) (by simp_all),m];exact eqF (eqE 5) fs.toList 0 c o p (by simp_all) 9999 (by omega)
   ·cases f
  ·cases f
 ·split at f
  ·rename_i hd;cases f;simp only [V] at l k;subst l k;exact run_equalIn_bool w 9999 t _ _ hd
  ·cases f
 ·split at f
  ·rename_i d hd;exact zls hd l k f 9999
  ·cases f

theorem zoR (c:V g a x) (e:V g b y) {r:Bool} (i:cN P t a b=some r) :
  (do eqGuard .eql t ox oy x y;binOp .eql t x y:Sem Value).run P w=.ok (.bool r) w/\(do eqGuard .neq t ox oy x y;binOp .neq t x y:Sem Value).run P w=.ok (.bool !r) w:=by
 have f:=znX (w:=w) c e i;unfold cN at i;split at i
 ·split at i
  ·rename_i j;simp only [V] at c e;obtain ⟨us,rfl,_⟩:=c;obtain ⟨vs,rfl,_⟩:=e;simp [run_eqGuard_agg w _ t ox oy us vs j.1,run_eql_struct,run_neq_struct,f]
  ·cases i
 ·simp only [V] at c e;subst c e;simp [eqGuard_at_bool,binOp,Op.equal,Op.maxDepth,f]
 ·split at i
  ·unfold b8 at i;split at i <;> first
    | (cases i;done)
    | (
           simp only [V] at c e
           first
             | (subst c e;simp [eqGuard,binOp,Op.equal,Op.maxDepth,f];done)
             | (obtain ⟨_,_,rfl⟩:=c;subst e;simp [eqGuard,binOp,Op.equal,Op.maxDepth,f];done)
             | (obtain ⟨_,_,rfl⟩:=e;subst c;simp [eqGuard,binOp,Op.equal,Op.maxDepth,f];done)
             | (obtain ⟨_,_,rfl,_⟩:=c;subst e;simp [eqGuard,binOp,Op.equal,Op.maxDepth,f];done)
             | (obtain ⟨_,_,rfl,_⟩:=e;subst c;simp [eqGuard,binOp,Op.equal,Op.maxDepth,f];done)
             | (obtain ⟨_,_,_,rfl,_⟩:=c;subst e;simp [eqGuard,binOp,Op.equal,Op.maxDepth,f];done)
             | (obtain ⟨A,C,k,_⟩:=c;subst e;rw [k] at f ⊢;revert f;generalize List.length _=n;intro f;simp [eqGuard,binOp,Op.equal,Op.maxDepth,f];done))
  ·cases i

theorem zlU (f:V g a x) (i:V g b y) (c:zvs P op t oy a b=some v) :
  ∃u,(do eqGuard op t ox oy x y;binOp op t x y:Sem Value).run P w=.ok u w/\V g v u:=by
 unfold zvs at c;split at c
 ·rename_i hd;simp only [V] at f i;subst f i;have e:(Op.equalIn 10000 t .nilIface .nilIface).run P w=.ok true w:=(show ∀D,(Op.equalIn (D+1) t .nilIface .nilIface).run P w=.ok true w from λD=>by simp [Op.equalIn,ym hd]) 9999;split at c
  ·cases c;exact ⟨.bool true,by simp [eqGuard,binOp,Op.equal,Op.maxDepth,e],by simp only [V]⟩
  ·cases c;exact ⟨.bool false,by simp [eqGuard,binOp,Op.equal,Op.maxDepth,e],by simp only [V]⟩
  ·cases c
 ·rename_i hd;simp only [V] at f i;obtain ⟨u,rfl,_⟩:=f;subst i;rename_i j _ _;have e:(Op.equalIn 10000 t (.iface j u) .nilIface).run P w=.ok false w:=(show ∀D,(Op.equalIn (D+1) t (.iface j u) .nilIface).run P w=.ok false w from λD=>by simp [Op.equalIn,ym hd]) 9999;split at c
  ·cases c;exact ⟨.bool false,by simp [eqGuard,binOp,Op.equal,Op.maxDepth,e],by simp only [V]⟩
  ·cases c;exact ⟨.bool true,by simp [eqGuard,binOp,Op.equal,Op.maxDepth,e],by simp only [V]⟩
  ·cases c
 ·cases c

theorem zjW {h:AH} (u:V g a x) (s:V g b y) {S:AV->AH->Prop} (l:nW P op t h a b=some S) :
  ∃r,(do eqGuard op t ox oy x y;binOp op t x y:Sem Value).run P w=.ok (.bool r) w/\S (.bool r) h:=by
 have p:∀(D:Nat) (es:List (List AV)) (i:Option Addr) (c:Nat) (e:TypeId),P.underlying t=some (.slice e)->(es=[] \/ ∃b o,i=some ⟨b,o,none⟩)->∃r,(Op.equalIn (D+1) t (.slice i es.length c) (.slice none 0 0)).run P w=.ok r w/\(r=true->es=[]):=by
  intro D es i c e j f;cases i with
  | none =>
   rcases f with rfl | ⟨_,_,h⟩
   ·exact ⟨true,by simp [Op.equalIn,ym j],λ_=>rfl⟩
   ·cases h
  | some i=>exact ⟨false,by simp [Op.equalIn,ym j],λh=>by cases h⟩
 have key:∀(es:List (List AV)) (i:Option Addr) (c:Nat) (e:TypeId),P.underlying t=some (.slice e)->(es=[] \/ ∃b o,i=some ⟨b,o,none⟩)->∃r,(Op.equalIn 10000 t (.slice i es.length c) (.slice none 0 0)).run P w=.ok r w/\(r=true->es=[]):=λes i c e j f=>p 9999 es i c e j f;unfold nW at l;split at l
 ·rename_i k es;simp only [V] at u s;obtain ⟨i,c,rfl,_,_,f⟩:=u;subst s;split at l
  ·rename_i e j;obtain ⟨r,n,m⟩:=key es i c e j (f.imp id λ⟨b,o,h,_⟩=>⟨b,o,h⟩);cases l;exact ⟨r,by simp [eqGuard,binOp,Op.equal,Op.maxDepth,n],rfl,r,rfl,m⟩
  ·rename_i e j;obtain ⟨r,n,m⟩:=key es i c e j (f.imp id λ⟨b,o,h,_⟩=>⟨b,o,h⟩);cases l;exact ⟨!r,by simp [eqGuard,binOp,Op.equal,Op.maxDepth,n],rfl,r,rfl,m⟩
  ·cases l
 ·rename_i q k es;simp only [V] at u s;obtain ⟨i,c,rfl,_,_,f,_⟩:=u;subst s;split at l
  ·rename_i e j;obtain ⟨r,n,m⟩:=key es i c e j (f.imp id λ⟨b,o,h,_⟩=>⟨b,o,h⟩);cases l;exact ⟨r,by simp [eqGuard,binOp,Op.equal,Op.maxDepth,n],rfl,r,rfl,m⟩
  ·rename_i e j;obtain ⟨r,n,m⟩:=key es i c e j (f.imp id λ⟨b,o,h,_⟩=>⟨b,o,h⟩);cases l;exact ⟨!r,by simp [eqGuard,binOp,Op.equal,Op.maxDepth,n],rfl,r,rfl,m⟩
  ·cases l
 ·cases l
theorem zmw (e:V g a x) (f:V g b y) (c:yF P op t a b=some v) :
  ∃u,(do eqGuard op t ox oy x y;binOp op t x y:Sem Value).run P w=.ok u w/\V g v u:=by
 unfold yF at c;split at c
 ·split at c
  ·rename_i i;simp only [V] at e f;subst e f;exact zlO i c
  ·cases c
 ·simp only [V] at e f;obtain ⟨rfl,_⟩:=e;obtain ⟨rfl,_⟩:=f;exact zkK c
 ·split at c
  ·rcases hr:cN P t a b with _ | r
   ·simp_all
   ·simp [hr] at c;subst c;exact ⟨_,(zoR e f hr).1,by simp only [V]⟩
  ·rcases hr:cN P t a b with _ | r
   ·simp_all
   ·simp [hr] at c;subst c;exact ⟨_,(zoR e f hr).2,by simp only [V]⟩
  ·cases c

theorem zmO {op:UnOp} (e:V g a x) (c:aUn op a=some v):∃u,(Op.unary op x).run P w=.ok u w/\V g v u:=by
 unfold aUn at c;split at c
 ·simp only [V] at e;subst e;split at c
  ·cases c;exact ⟨_,rfl,by simp only [V]⟩
  ·cases c;exact ⟨_,rfl,by simp only [V]⟩
  ·cases c
 ·simp only [V] at e;subst e;split at c
  ·cases c;exact ⟨_,by rfl,by simp only [V]⟩
  ·cases c
 ·cases c

theorem zfn {s:TypeId} {ds:TypeDesc} (hs:P.underlying s=some ds) (hd:P.underlying t=some d) {a v:AV} {x:Value} (e:V g a x) (c:zbR d a=some v) :
  ∃u,(convert s t x).run P w=.ok u w/\V g v u:=by
 unfold zbR at c;split at c
 ·simp only [V] at e;subst e;split at c
  ·cases c;exact ⟨_,by simp [convert,ym hs,ym hd,Conv.intToInt];rfl,by simp only [V]⟩
  ·cases c
 ·simp only [V] at e;obtain ⟨rfl,f⟩:=e;split at c
  ·cases c;exact ⟨_,by simp [convert,ym hs,ym hd];rfl,by simp only [V];exact ⟨trivial,f⟩⟩
  ·cases c
 ·cases c

theorem zeR (f:P.underlying t=some .string) {s:List UInt8} {x:Value} (c:V g (.str s) x) :
  (Builtin.len_ #[t] ty #[x]).run P w=.ok (.int .i64 s.length) w/\s.length<=maxLen:=by
 simp only [V] at c;obtain ⟨rfl,e⟩:=c;exact ⟨by simp [Builtin.len_,ym f,zep,goInt],e⟩
theorem zgj {e:TypeId} (i:P.underlying t=some (.slice e)) {a:AV} {x:Value} (c:V g a x) {n:Nat} (f:ay a=some n) :
  (Builtin.len_ #[t] ty #[x]).run P w=.ok (.int .i64 n) w/\n<=maxLen:=by
 unfold ay at f;split at f <;> first
  | (
       cases f;simp only [V] at c
       first
         | (obtain ⟨_,_,rfl,k,j,_⟩:=c;exact ⟨by simp [Builtin.len_,ym i,goInt],by omega⟩)
         | (obtain ⟨_,_,_,rfl,k,j⟩:=c;exact ⟨by simp [Builtin.len_,ym i,goInt],by omega⟩)
         | (subst c;exact ⟨by simp [Builtin.len_,ym i,goInt],by simp⟩))
  | cases f

theorem VA.flatten {z:List AV} {c:List Value} (h:VA g z c):∀n,VA g (List.replicate n z).flatten (List.replicate n c).flatten
 | 0=>by rfl
 | n+1=>by
  simp only [jS,lT];exact VA.append h (VA.flatten h n)
theorem rP (c:Array Value):∀n:Nat,(List.range (n * c.size)).map (λi=>c[i % c.size]!)=(List.replicate n c.toList).flatten
 | 0=>by simp
 | n+1=>by
  rw [jx,gO,List.range_add,ki,jS,lT,<- rP c n,ji];congr 1
  ·apply List.ext_getElem
   ·simp
   ·intro i f e;simp at f e;simp [gw e,e]
  ·simp_all

theorem zc4 {c:Nat->Option (Nat×Nat)}:∀{parts:List (Nat×AV)} {cs out:List AV},qq c cs parts=some out->out.length=cs.length
 | [],cs,out,h=>by simp only [qq,p3] at h;rw [h]
 | (i,v)::r,cs,out,h=>by
  simp only [qq] at h;split at h
  ·split at h
   ·rename_i e;rw [zc4 h];simp [yI];omega
   ·cases h
  ·cases h
theorem zbq (r:Rel B w0 g h w) {t e:TypeId} {n:Nat} {i:TypeInfo} {z cs out:List AV} {env:List AV} {a:Act} (he:VL g env a.tmps.toList) {parts:Array (Nat×Operand)} (L:(parts.all λp=>yl p.2)=true)
  (Q:P.underlying t=some (.slice e)) (hi:P.info? e=some i) (X:yX P e=some z) (f:0 < i.size) (Y:n * i.size<=65536) (q:z.length=i.size)
  (A:qq (λj=>some (j * i.size,i.size)) ((List.replicate n z).flatten) (xO P (.slice e) env parts)=some cs) (N:xH cs=some out) :
  ∃u w' g',(Instr.buildSlice t n (parts.map λ(i,x)=>(i,a.eval x))).run P w=.ok u w'/\g.le g'/\Rel B w0 g' h w'/\V g' (.gW none i.size (rows i.size n out)) u:=by
 obtain ⟨i',F,c,I,s⟩:=qD (g:=g) X;rw [hi] at c;injection c with c;subst c;have K:F.cells.size=i.size:=by rw [<- q,s.length];rfl
 rcases iD n with rfl | Z
 ·-- empty
  simp only [List.replicate_zero,iV] at A;rcases hp:xO P (.slice e) env parts with _ | ⟨⟨j,v⟩,rest⟩
  ·have H:parts=#[]:=by
    have:parts.toList=[]:=by simpa [xO] using hp
    simp_all
   subst H;refine ⟨.slice (some ⟨w.heap.size,0,none⟩) 0 0,w.alloc (.cells #[] e),g,by simp [Instr.buildSlice,ym Q,wm hi,Instr.fill,newRow];congr 2;apply gH;simp,Gh.le.refl g,r.eL _,?_⟩;simp only [rows,V]
   simp_all
  ·rw [hp] at A;simp only [qq] at A
   grind
 ·have M:¬ (n * i.size=0):=by
   have:=iZ Z f;omega
  obtain ⟨U,R⟩:=oD (P:=P) (d:=.slice e) he L;have D:=VA.flatten s n;obtain ⟨xs,J,G⟩:=sB (place':=λj=>some (j * i.size,i.size)) (λi x h=>h) (us:=(Array.range (n * i.size)).map (F.cells[· % F.cells.size]!))
   (by rw [<- K,ik,iE,rP];exact D) U R A
  have l:=tn G N;have o:out.length=n * i.size:=by
   rw [tp N,zc4 A];simp [q]
  have T:xs.size=n * i.size:=by rw [<- o,l.length];rfl
  have C:=run_buildSlice w t e n _ xs i F Q hi I (by omega) M J;have S:=r.newRow xs e xs.size;have E:=g.dw w.heap.size λj=>if j < xs.size then xs[j]? else none
  obtain ⟨e1,O,e3⟩:=oq (k:=i.size) n out o;refine ⟨_,_,_,C,E,S,?_⟩;simp only [V];refine ⟨some ⟨w.heap.size,0,none⟩,n,by rw [O],by omega,by simp only [maxLen];have:=iI n f;omega,.inr ⟨w.heap.size,0,rfl,?_⟩,by rw [O]⟩;refine ej.2 ⟨e3,?_⟩;rw [e1];refine VC.c5 (l.mono E _ _) (sF N) λj u W=>?_;have hj:j < xs.size:=by
   grind
  have m:g.Φ w.heap.size j=none:=by
   rcases he':g.Φ w.heap.size j with _ | v
   ·rfl
   ·exact absurd (r.ef he') (jl _)
  simp only [Gh.cz,nv,l6,m,lc hj]
  grind
end
end Go.Vv
namespace Go.Vv
open Go Go.RowKit Go.Lib
variable {kt t et:TypeId} {a b m:AV} {x y mv kv xv:Value} {r:Bool} {h':AH}
section
variable {P:Program} {w:World} {g:Gh} {h:AH} {B:Nat} {w0:World}

theorem pz {k:Kd} {a b:AV} {x y:Value} (ha:V g a x) (hb:V g b y) (hr:n9 k a b=some true):x=y/\∀n,Instr.sameBits n x x=true:=by
 unfold n9 at hr;split at hr
 ·simp only [V] at ha hb;simp at hr;subst ha hb hr;exact ⟨rfl,λn=>by unfold Instr.sameBits;cases n <;> simp⟩
 ·split at hr
  ·rename_i hk;simp only [V] at ha hb;simp at hr;subst ha hb hr hk;exact ⟨rfl,λn=>by unfold Instr.sameBits;cases n <;> simp⟩
  ·cases hr
 ·simp only [V] at ha hb;simp at hr;subst hr;exact ⟨by simp_all,λn=>by rw [ha.1];unfold Instr.sameBits;cases n <;> exact lL (α:=Array UInt8) _⟩
 ·cases hr
theorem zi9:∀{d:List Kd} {a5 bs:List AV} {xs c:List Value},VA g a5 xs->VA g bs c->tY d a5 bs=some true->xs=c/\∀n,(xs.zip xs).all (λ(x,y)=>Instr.sameBits n x y)=true
 | [],[],[],xs,c,ha,hb,_=>by
  simp only [VA] at ha hb
  simp_all
 | k::d,a::a5,b::bs,xs,c,ha,hb,hr=>by
  simp only [VA] at ha hb;obtain ⟨x,e,rfl,⟨_,l⟩,f⟩:=ha;obtain ⟨y,s,rfl,⟨_,u⟩,j⟩:=hb;simp only [tY] at hr;split at hr
  ·rename_i p q o i;simp only [p3,tr] at hr;obtain ⟨rfl,rfl⟩:=hr;obtain ⟨rfl,z⟩:=pz l u o;obtain ⟨rfl,v⟩:=zi9 f j i
   simp_all
  ·cases hr
 | [],[],_::_,_,_,_,_,hr=>by simp [tY] at hr
 | [],_::_,_,_,_,_,_,hr=>by simp [tY] at hr
 | _::_,[],_,_,_,_,_,hr=>by simp [tY] at hr
 | _::_,_::_,[],_,_,_,_,hr=>by simp [tY] at hr

theorem zeY (d:V g a x) (e:V g b y) (c:xk P kt a b=some true):x=y/\Instr.sameBits 10000 x x=true:=by
 unfold xk at c;split at c
 ·exact ⟨(pz d e c).1,(pz d e c).2 _⟩
 ·exact ⟨(pz d e c).1,(pz d e c).2 _⟩
 ·exact ⟨(pz d e c).1,(pz d e c).2 _⟩
 ·split at c
  ·split at c
   ·simp only [V] at d e;obtain ⟨us,rfl,j⟩:=d;obtain ⟨vs,rfl,f⟩:=e;obtain ⟨i,k⟩:=zi9 j f c;have:us=vs:=gH i;subst this;refine ⟨rfl,?_⟩;rw [show (10000:Nat)=9999+1 from rfl];unfold Instr.sameBits
    simp_all
   ·cases c
  ·cases c
 ·cases c

def CkE (P:Program) (w:World) (d:Nat):Prop:=∀{t:TypeId} {ks:List Kd} {i:TypeInfo},wA P d t=some ks->P.info? t=some i->i.size=ks.length->∀{xs:Array Value} {off:Nat},off+ks.length<=xs.size->∀(b:Bool) D,d<=D ->
  ∃u,(part t xs off).run P w=.ok u w/\(Instr.checkKey b D t u).run P w=.ok () w
theorem ckF {d:Nat} (E:CkE P w d) (b:Bool):∀(fs:List Field) (acc:Nat) {ks:List Kd},zcd P d fs acc=some ks->∀{xs:Array Value},acc+ks.length<=xs.size->∀D,d<=D ->
  (forIn fs PUnit.unit fun (f : Field) (_ : PUnit) => (if f.name ≠ "_" then (part f.type xs f.offset) >>= fun u => Instr.checkKey b D f.type u >>= fun _ => pure (ForInStep.yield PUnit.unit) else pure (ForInStep.yield PUnit.unit) : Sem (ForInStep PUnit))).run P w = .ok PUnit.unit w
 | [],acc,ks,h,xs,hx,D,_=>by simp
 | f::fs,acc,ks,h,xs,hx,D,hD=>by
  simp only [zcd,rQ] at h;split at h
  ·rename_i hf;split at h
   ·rename_i k1 i hk1 hi;split at h
    ·rename_i hsz;split at h
     ·rename_i k2 hk2;cases h;simp only [ng] at hx;obtain ⟨u,e1,e2⟩:=E hk1 hi hsz (xs:=xs) (off:=acc) (by omega) b D hD;have e4:=ckF E b fs (acc+i.size) hk2 (xs:=xs) (by omega) D hD
      simp_all
     ·cases h
    ·cases h
   ·cases h
  ·cases h
theorem ckE:∀(d:Nat),CkE P w d:=by
 intro d
 induction d with
 | zero=>intro t n i h;simp [wA] at h
 | succ d ih =>
  intro t n i h hi o xs off v b D q;obtain ⟨D,rfl⟩:∃D',D=D'+1:=⟨D - 1,by omega⟩
  have one:∀(dd:TypeDesc),n.length=1->P.underlying t=some dd->ye dd=false->(∀u,(Instr.checkKey b (D+1) t u).run P w=.ok () w)->∃u,(part t xs off).run P w=.ok u w/\(Instr.checkKey b (D+1) t u).run P w=.ok () w:=by
   intro dd s f p l;have k:off < xs.size:=by omega
   exact ⟨xs[off],by simp [part,sK f,p,k],l _⟩
  simp only [wA] at h;split at h
  ·rename_i c;cases h;exact one _ rfl c rfl λu=>by simp [Instr.checkKey,run_underlying c]
  ·rename_i j c;cases h;exact one _ rfl c rfl λu=>by simp [Instr.checkKey,run_underlying c]
  ·rename_i c;cases h;exact one _ rfl c rfl λu=>by simp [Instr.checkKey,run_underlying c]
  ·rename_i fs c;split at h
   ·cases h
   ·have e:(part t xs off).run P w=.ok (.agg (xs.extract off (off+i.size))) w:=by simp [part,sK c,ye,wm hi]
    refine ⟨_,e,?_⟩;have:=ckF ih b fs.toList 0 h (xs:=xs.extract off (off+i.size)) (by simp;omega) D (by omega);simp only [Instr.checkKey,Sem.run_bind,run_underlying c,Result.andThen_ok]
    simp_all
  ·cases h
theorem zp5 {k:AV} (f:V g k x) (d:xk P kt k k=some r) (b:Bool) (D:Nat) (l:5<=D):(Instr.checkKey b (D+1) kt x).run P w=.ok () w:=by
 unfold xk at d;split at d
 ·rename_i e;simp [Instr.checkKey,run_underlying e]
 ·rename_i e;simp [Instr.checkKey,run_underlying e]
 ·rename_i e;simp [Instr.checkKey,run_underlying e]
 ·rename_i fs e;split at d
  ·rename_i cs ds;split at d
   ·rename_i i c;simp only [V] at f;obtain ⟨us,rfl,j⟩:=f;have n:i.length<=us.size:=by
     obtain ⟨_,_,_,_,_,o,_⟩:=nO i (ls:=[]) (by simpa using d);have:=j.f4.length
     simp_all
    simp only [wA,e] at c;split at c
    ·cases c
    ·have:=ckF (P:=P) (w:=w) (ckE 5) b fs.toList 0 c (xs:=us) (by omega) D l;simp only [Instr.checkKey,Sem.run_bind,run_underlying e,Result.andThen_ok]
     simp_all
   ·cases d
  ·cases d
 ·cases d
theorem zlM {k:AV} (c:V g k x) (d:xk P kt k k=some r) (b:Bool):(Instr.checkKey b 10000 kt x).run P w=.ok () w:=zp5 c d b 9999 (by omega)
theorem zoL (f:V g a x) (i:V g b y) (c:xk P kt a b=some r):(Op.equal kt x y).run P w=.ok r w:=by
 unfold Op.equal;show (Op.equalIn 10000 kt x y).run P w=.ok r w;rw [show (10000:Nat)=9999+1 from rfl];unfold xk at c;split at c
 ·rename_i e;exact zfd f i c e 9999
 ·rename_i e;exact zfd f i c ⟨_,e⟩ 9999
 ·rename_i e;exact zfd f i c e 9999
 ·rename_i fs e;split at c
  ·split at c
   ·rename_i o d;simp only [V] at f i;obtain ⟨us,rfl,n⟩:=f;obtain ⟨vs,rfl,l⟩:=i;have j:P.fieldsOf kt=fs:=by simp [Program.fieldsOf,e]
    simp only [wA,e] at d;split at d
    ·cases d
    ·rename_i k;rw [run_equalIn_struct w 9999 kt _ _ (by simp_all) (by simp_all),j];exact eqF (eqE 5) fs.toList 0 d n l (by simp_all) 9999 (by omega)
   ·cases c
  ·cases c
 ·cases c

theorem zim {d:TypeDesc} (hd:P.underlying kt=some d) {a b:AV} {x y:Value} {r:Bool} (f:V g a x) (e:V g b y) (j:xk P kt a b=some r) {l:Bool} (hs:Instr.sameNow d x y=some l):l=r:=by
 have one:∀{k:Kd},n9 k a b=some r->l=r:=by
  intro k c;unfold n9 at c;split at c
  ·simp only [V] at f e;subst f e;cases c;cases d <;> simp [Instr.sameNow] at hs
   simp_all
  ·split at c
   ·rename_i o;simp only [V] at f e;subst f e o;cases c;cases d <;> simp [Instr.sameNow] at hs
    simp_all
   ·cases c
  ·simp only [V] at f e;obtain ⟨rfl,_⟩:=f;obtain ⟨rfl,_⟩:=e;cases c;cases d <;> simp [Instr.sameNow] at hs;rw [<- hs];have:∀i s2:List UInt8,((⟨i.toArray⟩:ByteArray)==⟨s2.toArray⟩)=(i==s2):=λi s2=>by
    have:((⟨i.toArray⟩:ByteArray)==⟨s2.toArray⟩)=(i.toArray==s2.toArray):=rfl
    simp_all
   simp_all
  ·cases c
 unfold xk at j;rw [hd] at j;split at j
 ·grind
 ·grind
 ·grind
 ·rename_i fs n;injection n with n;subst n;simp [Instr.sameNow] at hs
 ·cases j
theorem zdR {kt:TypeId} {d:TypeDesc} (hd:P.underlying kt=some d) {k:AV} {x:Value} (f:V g k x):∀{es:List (AV×AV)} {ents:List MapEntry} {i:Nat} {res:Option (Nat×AV)},ME g es ents->tV P kt k es i=some res ->
  ∃r,(Instr.findAsking kt x ents i).run P w=.ok r w/\(∀n,Instr.findNow d x ents i=some n->n=r) /\
   (match res with
       | none=>r=none
       | some (j,v)=>∃m e,j=i+m/\ents[m]?=some e/\(∃o,es[m]?=some (o,v)/\xk P kt k o=some true/\V g o e.key)/\e.key=x/\V g v e.val/\r=some (j,e.val))
 | [],ents,i,res,hm,hf=>by
  simp only [ME] at hm;subst hm;simp only [tV,p3] at hf;subst hf;exact ⟨none,rfl,λn h=>by simp [Instr.findNow] at h;exact h.symm,rfl⟩
 | (o,v)::es,ents,i,res,hm,hf=>by
  simp only [ME] at hm;obtain ⟨e,s,rfl,l,u,D⟩:=hm;simp only [tV] at hf;split at hf
  ·rename_i c;cases hf;obtain ⟨E,_⟩:=zeY f l c;refine ⟨some (i,e.val),by simp [Instr.findAsking,zoL (w:=w) f l c],λn h=>?_,0,e,rfl,rfl,⟨o,rfl,c,l⟩,E.symm,u,rfl⟩;simp only [Instr.findNow] at h;split at h
   ·simp_all
   ·rename_i hs;exact absurd (zim hd f l c hs) (by simp)
   ·cases h
  ·rename_i c;obtain ⟨r,k1,k2,k3⟩:=zdR hd f D hf;refine ⟨r,by simp [Instr.findAsking,zoL (w:=w) f l c,k1],λn h=>?_,?_⟩
   ·simp only [Instr.findNow] at h;split at h
    ·rename_i hs;exact absurd (zim hd f l c hs) (by simp)
    ·simp_all
    ·cases h
   ·cases res with
    | none=>exact k3
    | some p =>
     obtain ⟨m,z,F,H,⟨q,G,C⟩,A⟩:=k3;exact ⟨m+1,z,by omega,by simp_all,⟨q,by simp_all,C⟩,A⟩
  ·cases hf
theorem px {k:AV} (i:V g k x) {es:List (AV×AV)} {ents:List MapEntry} {res:Option (Nat×AV)} (f:ME g es ents) (l:tV P kt k es 0=some res) (o:(P.underlying kt).isSome) :
  (match res with
       | none=>(Instr.findKey kt x ents).run P w=.ok none w
       | some (j,v)=>∃e,ents[j]?=some e/\(∃c,es[j]?=some (c,v)/\xk P kt k c=some true/\V g c e.key)/\e.key=x/\V g v e.val/\(Instr.findKey kt x ents).run P w=.ok (some (j,e.val)) w):=by
 obtain ⟨d,hd⟩:=iw.1 o;obtain ⟨r,n,p,q⟩:=zdR (w:=w) hd i f l;have key:(Instr.findKey kt x ents).run P w=.ok r w:=by
  simp only [Instr.findKey,Sem.run_bind,run_underlying hd,Result.andThen_ok];split
  ·simp_all
  ·exact n
 grind
theorem nD (c:xk P kt a b=some r):(P.underlying kt).isSome:=by
 unfold xk at c
 grind
theorem zc2 {z:AV} (c:zon P t=some z):∃u,(zeroValue t).run P w=.ok u w/\V g z u:=by
 unfold zon at c;split at c
 ·rename_i i hi;split at c
  ·rename_i u k;split at c
   ·rename_i e;refine ⟨u,by simp [zeroValue,run_typeInfo w hi,k],?_⟩;have d:=V.cv (g:=g) e;split at c
    ·rename_i cs l;cases c;rw [l] at d;simp only [V] at d ⊢;obtain ⟨vs,j,f⟩:=d;exact ⟨vs,j,f.fix⟩
    ·cases c;exact d.w6
   ·cases c
  ·cases c
 ·cases c

theorem ME.len:∀{es:List (AV×AV)} {ents:List MapEntry},ME g es ents->ents.length=es.length
 | [],_,h=>by simp only [ME] at h;subst h;rfl
 | (_,_)::r,_,h=>by
  simp only [ME] at h;obtain ⟨e,s,rfl,_,_,c⟩:=h;simp [c.len]
theorem ME.push:∀{es:List (AV×AV)} {ents:List MapEntry} {k v:AV} {e:MapEntry},ME g es ents->V g k e.key->V g v e.val->ME g (es++[(k,v)]) (ents++[e])
 | [],_,k,v,e,h,hk,hv=>by simp only [ME] at h;subst h;simp only [lC,ME];exact ⟨e,[],rfl,hk,hv,rfl⟩
 | (_,_)::r,_,k,v,e,h,hk,hv=>by
  simp only [ME] at h;obtain ⟨f,s,rfl,d,c,i⟩:=h;simp only [kg,ME];exact ⟨f,s++[e],rfl,d,c,i.push hk hv⟩
theorem ME.put:∀{es:List (AV×AV)} {ents:List MapEntry} (j:Nat) {k v:AV} {e:MapEntry},ME g es ents->V g k e.key->V g v e.val->ME g (es.set j (k,v)) (ents.set j e)
 | [],_,j,k,v,e,h,hk,hv=>by simp only [ME] at h;subst h;simp [ME]
 | (_,_)::r,_,j,k,v,e,h,hk,hv=>by
  simp only [ME] at h;obtain ⟨i,s,rfl,f,d,c⟩:=h;cases j with
  | zero=>simp only [kE,ME];exact ⟨e,s,rfl,hk,hv,c⟩
  | succ j=>simp only [kf,ME];exact ⟨i,s.set j e,rfl,f,d,c.put j hk hv⟩
theorem ME.bW:∀{es:List (AV×AV)} {ents:List MapEntry} {j:Nat} {p:AV×AV},ME g es ents->es[j]?=some p->∃e,ents[j]?=some e/\V g p.1 e.key/\V g p.2 e.val
 | [],_,j,p,h,hp=>by simp at hp
 | (_,_)::r,_,j,p,h,hp=>by
  simp only [ME] at h;obtain ⟨i,s,rfl,d,c,f⟩:=h;cases j with
  | zero=>simp at hp;subst hp;exact ⟨i,rfl,d,c⟩
  | succ j=>simpa using f.bW (by simp_all)

theorem V.aK {a:AV} {v:Value} (h:V g a v):V g a.aK v:=by
 unfold AV.aK;split
 ·simp only [V] at h ⊢
  grind
 ·exact h
theorem VA.aK:∀{a5:List AV} {vs:List Value},VA g a5 vs->VA g (a5.map AV.aK) vs
 | [],_,h=>by simpa using h
 | a::r,_,h=>by
  simp only [VA] at h;obtain ⟨v,s,rfl,⟨h0,d⟩,c⟩:=h;simp only [ld,VA];exact ⟨v,s,rfl,⟨by cases a <;> first | exact h0 | rfl,d.aK⟩,VA.aK c⟩
theorem V.cy {a:AV} {v:Value} (h:V g a v):V g a.cy v:=by
 unfold AV.cy;split
 ·simp only [V] at h ⊢;obtain ⟨vs,e,c⟩:=h;exact ⟨vs,e,c.aK⟩
 ·exact h
theorem nM {z:AV} (c:qV P t=some z):∃u,(zeroValue t).run P w=.ok u w/\V g z u:=by
 unfold qV at c;rw [j4] at c;obtain ⟨y,e,rfl⟩:=c;obtain ⟨u,d,f⟩:=zc2 (w:=w) (g:=g) e;exact ⟨u,d,f.cy⟩
theorem zgf {ok:Bool} {k v:AV} (r:Rel B w0 g h w) (D:P.underlying t=some (.map kt et)) (A:V g m mv) (q:V g k kv) (d:pW P h kt et ok m k=some v) :
  ∃u,(Instr.lookup t mv kv ok).run P w=.ok u w/\V g v u:=by
 unfold pW at d;split at d
 case isFalse=>cases d
 rename_i f;have F:=λb=>zlM (w:=w) q f b;have i:∀{x:AV} {u:Value} (b:Bool),V g x u->V g (tu ok x b) (if ok then .tuple #[u,.bool b] else u):=λ{x u} b H=>by
  unfold tu;cases ok
  ·exact H
  ·simp only [nv,V];exact ⟨_,rfl,by simp only [VL];exact ⟨_,_,rfl,H,_,_,rfl,by simp only [V],rfl⟩⟩
 split at d
 ·simp only [V] at A;subst A;rcases s:qV P et with _ | z
  ·simp_all
  ·simp [s] at d;subst d;obtain ⟨u,E,C⟩:=nM (w:=w) (g:=g) s;have G:(Instr.findKey kt kv []).run P w=.ok none w:=by
    have:=px (w:=w) (es:=[]) (ents:=[]) (res:=none) q rfl rfl (nD f);omega
   exact ⟨_,by simp [Instr.lookup,run_underlying D,F,G,E],i false C⟩
 ·rename_i id;simp only [V] at A;obtain ⟨c,L,rfl⟩:=A;split at d
  ·rename_i es cl I;obtain ⟨_,_,⟨ents,n,p,o,_⟩,_⟩:=r.gZ id c _ L I;split at d
   ·rename_i j x l;cases d;obtain ⟨e,M,_,N,K,J⟩:=px (w:=w) q o l (nD f);exact ⟨_,by simp [Instr.lookup,run_underlying D,MapKept.run_getObj_map p,F,J],i true K⟩
   ·rename_i z l s;cases d;have G:=px (w:=w) q o l (nD f);obtain ⟨u,E,C⟩:=nM (w:=w) (g:=g) s;exact ⟨_,by simp [Instr.lookup,run_underlying D,MapKept.run_getObj_map p,F,G,E],i false C⟩
   ·cases d
  ·cases d
 ·cases d

theorem mH {α:Type} {a:Array α} {i:Nat} {f:α->α} {e:α} (h:a.toList[i]?=some e):(a.modify i f).toList=a.toList.set i (f e):=by
 apply lW
 grind
theorem zgo (h:Instr.sameBits 10000 x x=true):(Instr.keyThatStays x x).run P w=.ok x w:=by simp [Instr.keyThatStays,h]
theorem Rel.cj (r:Rel B w0 g h w) {id c:Nat} {k:q6} (s:g.σ[id]?=some c) (j:h.gZ id=some k) (hd:k ≠ .dead) {es:List (AV×AV)} {cl:Nat} {ents:Array MapEntry} {n:Nat} {o:Obj} (l:w.heap[c]?=some o) (p:ME g es ents.toList)
  (f:cl=0->n=ents.size/\∀(i:Nat) (e:MapEntry),ents[i]?=some e->e.born=i):Rel B w0 g (h.put id (.q7 es cl)) { w with heap:=w.heap.setIfInBounds c (.map ents n) }:=by
 have d:c < w.heap.size:=(l9.1 l).1;refine r.putObj s j hd rfl rfl rfl (by simp) (λb q=>by grind) ?_;exact ⟨ents,n,by simp [d],p,f⟩

theorem zmX {w:World} {c:Nat} {o:Obj} (h:w.heap[c]?=some o):({ w with heap:=w.heap.setIfInBounds c o }:World)=w:=by
 have:w.heap.setIfInBounds c o=w.heap:=by
  grind
 rw [this]

theorem zhJ {k v:AV} (r:Rel B w0 g h w) (J:P.underlying t=some (.map kt et)) (O:V g m mv) (s:V g k kv) (f:zgR P h kt et m k=some (v,h')) :
  ∃u w',(Instr.mapEntry t mv kv).run P w=.ok u w'/\V g v u/\Rel B w0 g h' w':=by
 unfold zgR at f;split at f
 case isFalse=>cases f
 rename_i l;have M:=λb=>zlM (w:=w) s l b;split at f
 ·rename_i id;simp only [V] at O;obtain ⟨c,Q,rfl⟩:=O;split at f
  ·rename_i es K;obtain ⟨_,_,⟨ents,n,d,o,H⟩,_⟩:=r.gZ id c _ Q K;obtain ⟨N,p⟩:=H rfl;split at f
   ·rename_i j x q;cases f;obtain ⟨e,F,_,L,W,S⟩:=px (w:=w) s o q (nD l);have hs:=zgo (P:=P) (w:=w) (zeY s s l).2;have A:ents[j]?=some e:=by simp_all
    have C:(ents.modify j λe=>{ e with key:=kv })=ents:=by
     apply gH;rw [mH F];apply lW;intro i;rw [List.getElem?_set];split
     ·rename_i E;subst E;rw [lc (tm.1 F).1,F,<- L]
     ·rfl
    refine ⟨.tuple #[e.val,goInt e.born],w,?_,?_,r⟩
    ·have D:(setObj c (.map (ents.modify j λe=>{ e with key:=kv }) n)).run P w=.ok () w:=by
      rw [C,MapKept.run_setObj_map _ d,zmX d]
     simp [Instr.mapEntry,run_underlying J,MapKept.run_getObj_map d,M,S,A,L,hs,D]
    ·simp only [V];exact ⟨_,rfl,by simp only [VL];exact ⟨_,_,rfl,W,_,_,rfl,by simp only [V,p j e A];rfl,rfl⟩⟩
   ·rename_i z q T;cases f;have U:=px (w:=w) s o q (nD l);obtain ⟨u,R,I⟩:=nM (w:=w) (g:=g) T;have G:ents.size=es.length:=by have:=o.len;simpa using this
    refine ⟨.tuple #[u,goInt n],{ w with heap:=w.heap.setIfInBounds c (.map (ents.push { key:=kv,val:=u,born:=n }) (n+1)) },?_,?_,?_⟩
    ·simp [Instr.mapEntry,run_underlying J,MapKept.run_getObj_map d,M,U,R,MapKept.run_setObj_map _ d]
    ·simp only [V];exact ⟨_,rfl,by simp only [VL];exact ⟨_,_,rfl,I,_,_,rfl,by simp only [V,N,G];rfl,rfl⟩⟩
    ·refine r.cj Q K (by simp) d (by rw [Array.toList_push];exact o.push s I) λ_=>⟨by simp [N],λi e hi=>?_⟩
     grind
   ·cases f
  ·cases f
 ·cases f
theorem zbo {s x:AV} {C:Value} (r:Rel B w0 g h w) (D:V g m mv) (hs:V g s C) (H:V g x xv) (d:rn h m s x=some h') :
  ∃w',(Instr.entryStore t mv C xv).run P w=.ok () w'/\Rel B w0 g h' w':=by
 unfold rn at d;split at d
 ·rename_i id L q;simp only [V] at D hs;obtain ⟨c,E,rfl⟩:=D;subst hs;split at d
  ·rename_i es A;obtain ⟨_,_,⟨ents,n,k,o,v⟩,_⟩:=r.gZ id c _ E A;obtain ⟨I,f⟩:=v rfl;split at d
   ·rename_i h0;split at d
    ·rename_i p G;cases d;obtain ⟨e,F,K,N⟩:=o.bW G;have u:ents[q.toNat]?=some e:=by simp_all
     have l:=(l9.1 u).1;have z:ents.findIdx? (λe=>(e.born:Int)==q)=some q.toNat:=by
      rw [Array.findIdx?_eq_some_iff_getElem];refine ⟨l,?_,λj J=>?_⟩
      ·grind
      ·have:=f j _ (lJ (Nat.lt_trans J l))
       grind
     refine ⟨{ w with heap:=w.heap.setIfInBounds c (.map (ents.modify q.toNat λe=>{ e with val:=xv }) n) },?_,?_⟩
     ·simp [Instr.entryStore,MapKept.run_getObj_map k,asInt,asIntOf,z,MapKept.run_setObj_map _ k]
     ·refine r.cj E A (by simp) k (by rw [mH F];exact o.put _ K H.cy) λ_=>⟨by simp [I],λi M hi=>?_⟩
      grind
    ·cases d
   ·cases d
  ·cases d
 ·cases d
theorem zgc {k x:AV} (r:Rel B w0 g h w) (v:P.underlying t=some (.map kt et)) (C:V g m mv) (o:V g k kv) (A:V g x xv) (f:za7 P h kt m k x=some h') :
  ∃w',(Instr.mapUpdate t mv kv xv).run P w=.ok () w'/\Rel B w0 g h' w':=by
 unfold za7 at f;split at f
 case isFalse=>cases f
 rename_i i;have z:=λb=>zlM (w:=w) o i b;split at f
 ·rename_i id;simp only [V] at C;obtain ⟨c,u,rfl⟩:=C;split at f
  ·rename_i es cl s;obtain ⟨_,_,⟨ents,n,d,l,H⟩,_⟩:=r.gZ id c _ u s;split at f
   ·rename_i j I p;cases f;obtain ⟨e,D,_,E,J,F⟩:=px (w:=w) o l p (nD i);have hs:=zgo (P:=P) (w:=w) (zeY o o i).2;have q:ents[j]?=some e:=by simp_all
    refine ⟨{ w with heap:=w.heap.setIfInBounds c (.map (ents.modify j λe=>{ e with key:=kv,val:=xv }) n) },?_,?_⟩
    ·simp [Instr.mapUpdate,run_underlying v,MapKept.run_getObj_map d,z,F,q,E,hs,MapKept.run_setObj_map _ d]
    ·refine r.cj u s (by simp) d (by rw [mH D];exact l.put _ o A.cy) λh0=>?_
     grind
   ·rename_i p;cases f;have G:=px (w:=w) o l p (nD i);refine ⟨{ w with heap:=w.heap.setIfInBounds c (.map (ents.push { key:=kv,val:=xv,born:=n }) (n+1)) },?_,?_⟩
    ·simp [Instr.mapUpdate,run_underlying v,MapKept.run_getObj_map d,z,G,MapKept.run_setObj_map _ d]
    ·refine r.cj u s (by simp) d (by rw [Array.toList_push];exact l.push o A.cy) λh0=>?_
     grind
   ·cases f
  ·cases f
 ·cases f
end
end Go.Vv
namespace Go.Vv
open Go Go.RowKit Go.Lib
section
variable {P:Program} {w:World} {g:Gh} {h:AH} {B:Nat} {w0:World}

def uN (P:Program) (B:Nat) (w0:World) (g:Gh) (a:Act) (o:Oper) (w:World) (v:AV) (h':AH):Prop :=
 ∃u w' g',((execOp a.eval o).run P w=.ok (.value u) w' \/ ((execOp a.eval o).run P w=.ok .skip w'/\u=undef))/\g.le g'/\Rel B w0 g' h' w'/\V g' v u

def Fits (P:Program) (B:Nat) (w0:World) (g:Gh) (a:Act) (o:Oper) (w:World):aV->Prop
 | .ok v h'=>uN P B w0 g a o w v h'
 | .len n v h'=>n<=maxLen/\uN P B w0 g a o w v h'
 | .call f args=>∃vs:Array Value,(execOp a.eval o).run P w=(callFunc f vs).run P w/\VL g args vs.toList
 | .round id args=>∃(c:Nat) (vs:Array Value),g.σ[id]?=some c/\(execOp a.eval o).run P w=(Instr.yield c vs).run P w/\VL g args vs.toList
 | .any S=>∃v h',S v h'/\uN P B w0 g a o w v h'
 | .fail=>True

theorem Fits.oo {a:Act} {o:Oper} {x:Option AV} (b:∀v,x=some v->uN P B w0 g a o w v h):Fits P B w0 g a o w (oo h x):=by
 cases x with
 | none=>trivial
 | some v=>exact b v rfl

theorem VO.ev {env:List AV} {a:Act} (b:VL g env a.tmps.toList) {x:Option Operand} (c:x.all yl=true):VO g (x.map (ev env)) (x.map a.eval):=by
 cases x with
 | none=>rfl
 | some x=>exact ⟨_,rfl,V.ev b (by simp_all)⟩
theorem VL.evs {env:List AV} {a:Act} (b:VL g env a.tmps.toList):∀{xs:List Operand},xs.all yl=true->VL g (xs.map (ev env)) (xs.map a.eval)
 | [],_=>by simp [VL]
 | x::r,h=>by
  simp only [l8,tr] at h;simp only [ld];exact VL.cons (V.ev b h.1) (VL.evs b h.2)
theorem VL.dI {env:List AV} {a:Act} (b:VL g env a.tmps.toList):∀{xs:List Operand} {ts:List TypeId},xs.all yl=true->xs.length=ts.length->VL g ((xs.zip ts).map λp=>w6 P p.2 (ev env p.1)) (xs.map a.eval)
 | [],_,_,_=>by simp [VL]
 | x::r,[],_,h=>by simp at h
 | x::r,t::ts,h,hl=>by
  simp only [l8,tr] at h;simp only [gh,ld];exact VL.cons (V.ev b h.1).w6 (VL.dI b h.2 (by simp_all))

theorem V.eS {t:TypeId} {x:Option AV} {v:AV} (b:x.map (Vv.w6 P t)=some v):∃a,x=some a/\v=Vv.w6 P t a:=by
 cases x with
 | none=>cases b
 | some a=>injection b with b;exact ⟨a,rfl,b.symm⟩

theorem za1:∀s:List UInt8,(s.map λb=>[AV.int .u8 b.toNat]).flatten=s.map λb=>AV.int .u8 b.toNat
 | []=>rfl
 | b::r=>by simp only [ld,lT,za1 r];rfl
theorem zjl:∀s:List UInt8,VA g (s.map λb=>AV.int .u8 b.toNat) (s.map λb=>Value.int .u8 b.toNat)
 | []=>by simp [VA]
 | b::r=>by simp only [ld,VA];exact ⟨_,_,rfl,⟨rfl,by simp only [V]⟩,zjl r⟩

theorem ziG (mx:Bool):∀{r:List AV} {a v:AV} {x:Value} {xs:List Value},V g a x->VL g r xs->aMM mx a r=some v->∃u,(xs.foldlM (if mx then Builtin.max2 else Builtin.min2) x).run P w=.ok u w/\V g v u:=by
 intro r
 induction r with
 | nil =>
  intro a v x xs i d c;simp only [VL] at d;subst d;simp only [aMM,p3] at c
  simp_all
 | cons b r ih =>
  intro a v x xs i d c;simp only [VL] at d;obtain ⟨y,p,rfl,j,d⟩:=d;unfold aMM at c;split at c
  ·simp_all
  ·rename_i k n k' m rest f;cases f;split at c
   ·rename_i o;subst o;simp only [V] at i j;subst i j;obtain ⟨u,e,l⟩:=ih (x:=.int k (if mx then (if m > n then m else n) else (if m < n then m else n))) (by simp only [V]) d c;refine ⟨u,?_,l⟩;rw [List.foldlM_cons];cases mx
    ·simp only [tx,lg,Builtin.min2] at e ⊢;exact e
    ·simp only [nv,Builtin.max2] at e ⊢;exact e
   ·cases c
  ·cases c
theorem zgE (r:Rel B w0 g h w) {a:Act} {env:List AV} (N:VL g env a.tmps.toList) {o:Oper} {c:Call} (ho:o.op=.call c) {b:Builtin} (hc:c.callee=.builtin b) (hok:c.args.all yl=true) :
  Fits P B w0 g a o w (qW P h b c.argTypes.toList (c.args.toList.map (ev env))):=by
 have f:∀(bb:Builtin),b=bb->(execOp a.eval o).run P w=(builtin bb c.argTypes o.type (c.args.map λ| .const _=>true | _=>false) (c.args.map a.eval)).run P w:=by
  intro bb Z;subst Z;simp only [execOp,ho,resolve,hc,Sem.run_bind,Sem.run_pure,Result.andThen_ok,invoke];rfl
 have I:c.args.toList.all yl=true:=by simp_all
 unfold qW;split
 ·rename_i t x hts has;have C:c.argTypes=#[t]:=by grind
  obtain ⟨m,D,rfl⟩:∃m,c.args=#[m]/\x=ev env m:=by
   rcases S:c.args.toList with _ | ⟨y,_ | ⟨z,rest⟩⟩ <;> simp [S] at has
   grind
  have O:=V.ev N (x:=m) (by simp_all);split
  ·rename_i E;split
   ·rename_i s hx;rw [hx] at O;obtain ⟨k,p⟩:=zeR (P:=P) (w:=w) (ty:=o.type) E O;refine ⟨p,.int .i64 s.length,w,g,.inl ?_,Gh.le.refl g,r,by simp only [V]⟩;rw [f .len rfl,C,D];simp [builtin,k]
   ·trivial
  ·rename_i e E;split
   ·rename_i n hn;obtain ⟨k,p⟩:=zgj (P:=P) (w:=w) (ty:=o.type) E O hn;refine ⟨p,.int .i64 n,w,g,.inl ?_,Gh.le.refl g,r,by simp only [V]⟩;rw [f .len rfl,C,D];simp [builtin,k]
   ·trivial
  ·rename_i kt et E;split
   ·rename_i id hx;split
    ·rename_i es cl Z;rw [hx] at O;simp only [V] at O;obtain ⟨c0,hc0,hv0⟩:=O;obtain ⟨_,_,⟨ents,n,hb1,hb2,_⟩,_⟩:=r.gZ id c0 _ hc0 Z;refine ⟨_,_,⟨rfl,rfl⟩,.int .i64 es.length,w,g,.inl ?_,Gh.le.refl g,r,by simp only [V]⟩;rw [f .len rfl,C,D];have hsz:ents.size=es.length:=by have:=hb2.len;simpa using this
     simp [builtin,hv0,Builtin.len_,run_underlying E,MapKept.run_getObj_map hb1,hsz,goInt]
    ·trivial
   ·trivial
  ·trivial
 ·rename_i t u s x hts has;have C:c.argTypes=#[t,u]:=by grind
  obtain ⟨M,m,D,rfl,rfl⟩:∃M m,c.args=#[M,m]/\s=ev env M/\x=ev env m:=by
   rcases S:c.args.toList with _ | ⟨y,_ | ⟨z,_ | ⟨q,rest⟩⟩⟩ <;> simp [S] at has
   grind
  have H:yl M=true/\yl m=true:=by simp_all
  have hVs:=(V.ev N H.1).w6 (P:=P) (t:=t);have F:=(V.ev N H.2).w6 (P:=P) (t:=u);have J:∀(e:TypeId) (Y:TypeDesc),P.underlying t=some (.slice e)->P.underlying u=some Y->zgS Y ->
    Fits P B w0 g a o w (match P.info? e with
     | some i=>if i.bytes<=65536/\0 < i.size/\(i.zero.map (·.cells.size))=some i.size then (match pI i.size (w6 P u (ev env m)) with
      | some G=>ovh (rH h i.size (w6 P t (ev env M)) G)
      | none=>.fail) else .fail
     | none=>.fail):=by
   intro e Y Q E hdu;split
   ·rename_i i hi;split
    ·rename_i hc1;obtain ⟨hby,hpos,hzz⟩:=hc1;obtain ⟨z,hz,hzs⟩:∃z,i.zero=some z/\z.cells.size=i.size:=by
      simp_all
     split
     ·rename_i G d;rcases hap:rH h i.size (w6 P t (ev env M)) G with _ | ⟨s',h'⟩
      ·trivial
      ·show uN P B w0 g a o w s' h';have K:∀(A:List Value),(∀e ∈ G,e.length=i.size)->VA g G.flatten A->G.flatten.all AV.pure=true ->
         (∀W:World,(∀a v,w.cell? a=some v->W.cell? a=some v)->dj P i.size G.length (a.eval m) A W)->uN P B w0 g a o w s' h':=by
        intro A S hva hpu hn;obtain ⟨v,w',g',k,p,h3,h4⟩:=zgM (ty:=o.type) r Q E hdu hi hz hzs hby hVs S hva hpu hn hap;refine ⟨v,w',g',.inl ?_,p,h3,h4⟩;rw [f .append rfl,C,D];simp [builtin,k]
       have fL:∀(es:List (List AV)) (R:Option Addr) (c:Nat),a.eval m=.slice R es.length c->(es=[] \/ ∃b o,R=some ⟨b,o,none⟩/\VE g b i.size o es)->G=es->uN P B w0 g a o w s' h':=by
        rintro es R c L hes rfl
        rcases hes with rfl | ⟨b,oo,rfl,hve⟩
        ·refine K [] (by simp) (by simp [VA]) rfl λW _=>⟨by rw [L];rfl,?_⟩
         rw [L];cases R with
         | none=>simp [Builtin.firstCells]
         | some R=>simp [Builtin.firstCells,loadCells,loadCellsFrom]
        ·obtain ⟨k,p⟩:=ej.1 hve;obtain ⟨us,U,hup,hΦ⟩:=p.bO;refine K us k U hup λW hW=>?_;rw [L];refine dj.slice (by rw [<- U.length,xf k]) λj v T=>?_;rw [wX];exact hW _ _ (r.eF _ _ _ (hΦ j v T))
       generalize hgx:w6 P u (ev env m)=xx at d F;unfold pI at d;split at d
       ·split at d
        ·rename_i X;cases d;subst X;simp only [V] at F
         grind
        ·cases d
       ·split at d
        ·rename_i X;cases d;subst X;simp only [V] at F
         grind
        ·cases d
       ·rename_i s;split at d
        ·rename_i X;cases d;simp only [V] at F;obtain ⟨k,p⟩:=F;refine K (strCells ⟨s.toArray⟩) (λe N=>?_) ?_ (by rw [za1,List.all_map];exact nK.2 λ_ _=>rfl) λW _=>?_
         ·grind
         ·rw [za1];exact zjl s
         ·rw [k];have:=dj.str (P:=P) (size:=i.size) (s:=⟨s.toArray⟩) (w:=W);rw [zep] at this
          simp_all
        ·cases d
       ·cases d
     ·trivial
    ·trivial
   ·trivial
  split
  ·rename_i e e' Q E;exact J e _ Q E (.inr ⟨_,rfl⟩)
  ·rename_i e Q E;exact J e _ Q E (.inl rfl)
  ·trivial
 ·rename_i x rs has;refine Fits.oo λv T=>?_;have l:=VL.evs N (xs:=c.args.toList) I;rw [has] at l;simp only [VL] at l;obtain ⟨y,G,d,hy,hr⟩:=l;obtain ⟨u,k,p⟩:=ziG (P:=P) (w:=w) false hy hr T;refine ⟨u,w,g,.inl ?_,Gh.le.refl g,r,p⟩;rw [f .min rfl];simp only [tx,lg] at k;simp [builtin,Builtin.min_,d,k]
 ·rename_i x rs has;refine Fits.oo λv T=>?_;have l:=VL.evs N (xs:=c.args.toList) I;rw [has] at l;simp only [VL] at l;obtain ⟨y,G,d,hy,hr⟩:=l;obtain ⟨u,k,p⟩:=ziG (P:=P) (w:=w) true hy hr T;refine ⟨u,w,g,.inl ?_,Gh.le.refl g,r,p⟩;rw [f .max rfl];simp only [nv] at k;simp [builtin,Builtin.max_,d,k]
 ·trivial
end
end Go.Vv
