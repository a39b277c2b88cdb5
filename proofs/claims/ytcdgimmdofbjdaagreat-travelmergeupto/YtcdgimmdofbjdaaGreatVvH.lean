/- Each operation of the model: structs made, comparisons, integers, lengths. -/
import Derived.Test.YtcdgimmdofbjdaaGreatVvD
import Derived.Great.BuildSlice
import Derived.ChangeKeysEq
import Derived.MapKept
import Derived.Carry
set_option linter.all false
open Option renaming some→aa
namespace Go.Vv
open Go Go.RowKit Go.Lib
variable{t:TypeId}{env:List AV}
section
variable{P:Program}{w:World}{g:Gh}{h:AH}{B:Nat}{w0:World}

theorem zlI{t:TypeId}{a:AV}(h:a.one=true):(w5 P t a).one=true:=by
 unfold w5;split
 ·split<;>rfl
 ·exact h
theorem VA.fix:∀{ts:List TypeId}{a5:List AV} {vs:List Value},VA g a5 vs->VA g (oc P ts a5) vs
 |[],_,_,h=>by simp only[oc];exact h
 |_::_,[],_,h=>by simp only[oc];exact h
 |t::ts,a::a5,vs,h=>by
  simp only[VA]at h;obtain⟨v,s,rfl,⟨h0,c⟩,b⟩:=h;simp only[oc,VA];exact⟨v,s,rfl,⟨zlI h0,c.w5⟩,VA.fix b⟩
theorem qX{cs:List AV}(a:yY P t=aa cs):∃i z,P.info? t=aa i/\i.zero=aa z/\VA g cs z.cells.toList:=by
 unfold yY at a;split at a
 ·rename_i i hi;split at a
  ·rename_i z c;split at a
   ·rename_i b;split at a
    ·rename_i cs' d;cases a;exact⟨i,z,hi,c,((V.cv b).cells d).fix⟩
    ·cases a
   ·cases a
  ·cases a
 ·cases a

theorem ny{d:TypeDesc}{a:Act}(m:VL g env a.tmps.toList){parts:Array (Nat×Operand)}(e:(parts.all λp=>yo p.2)=true) :
  (xS P d env parts).length=(parts.map λ(i,x)=>(i,a.eval x)).toList.length /\
  ∀(j:Nat)(p:Nat×AV) (q:Nat×Value),(xS P d env parts)[j]?=aa p->(parts.map λ(i,x)=>(i,a.eval x)).toList[j]?=aa q->p.1=q.1/\V g p.2 q.2:=by
 refine⟨by simp[xS],λj p q l k=>?_⟩;simp only[xS,ie,ik,j7]at l k;obtain⟨x,n,rfl⟩:=l;obtain⟨y,c,rfl⟩:=k;rw[n]at c;injection c with c;subst c;have b:x∈parts:=by
  grind
 have f:=(kX.1 e) x b;exact⟨rfl,(V.ev m f).w5⟩

theorem zdE{a:Act}(A:VL g env a.tmps.toList){parts:Array (Nat×Operand)}(m:(parts.all λp=>yo p.2)=true){z out:List AV}(C:yY P t=aa z)
  (b:(∃fs o,P.underlying t=aa (.struct fs)/\zbm P fs=aa o/\qJ (λi=>o[i]?) z (xS P (.struct fs) env parts)=aa out) \/
   ∃n e j,P.underlying t=aa (.array n e)/\P.info? e=aa j/\qJ (λi=>aa (i*j.size,j.size)) z (xS P (.array n e) env parts)=aa out) :
  ∃u,(Instr.build t (parts.map λ(i,x)=>(i,a.eval x))).run P w=.ok u w/\V g (.agg out) u:=by
 obtain⟨i,E,hi,k,l⟩:=qX (g:=g) C;rcases b with⟨fs,o,y,f,v⟩|⟨n,e,j,y,D,v⟩
 ·obtain⟨r,q⟩:=ny (P:=P) (d:=.struct fs) A m;obtain⟨xs,s,c⟩:=rm (place':=(o.toArray[·]?)) (λi x h=>by simpa using h) l r q v;refine⟨.agg xs,run_build w t _ xs ?_,by simp only[V];exact⟨xs,rfl,c⟩⟩;unfold zbm at f;simp only[Program.built,hi,y,k,f];omega
 ·obtain⟨r,q⟩:=ny (P:=P) (d:=.array n e) A m;obtain⟨xs,s,c⟩:=rm (place':=λi=>aa (i*j.size,j.size)) (λi x h=>h) l r q v;refine⟨.agg xs,run_build w t _ xs ?_,by simp only[V];exact⟨xs,rfl,c⟩⟩;simp only[Program.built,hi,y,k,D];omega

theorem mK:∀(c:List Kd){ls:List Kd} {a5 bs:List AV} {r:Bool},sN (c++ls) a5 bs=aa r ->
  ∃e d,sN c (a5.take c.length) (bs.take c.length)=aa e/\sN ls (a5.drop c.length) (bs.drop c.length)=aa d/\r=(e&&d)/\c.length<=a5.length/\c.length<=bs.length
 |[],ls,a5,bs,r,h=>⟨true,r,by simp[sN],by simpa using h,by simp,by simp,by simp⟩
 |k::c,ls,[],bs,r,h=>by simp[sN]at h
 |k::c,ls,a::a5,[],r,h=>by simp[sN]at h
 |k::c,ls,a::a5,b::bs,r,h=>by
  simp only[kc,sN]at h;split at h
  ·rename_i x y j f;obtain⟨e,d,i,l,o,m,n⟩:=mK c f;cases h;exact⟨x&&e,d,by simp[sN,j,i],by simp_all,by grind,by simp_all,by simp_all⟩
  ·cases h

def zym(P:Program)(t:TypeId):Kd->Prop
 |.b=>P.underlying t=aa .bool
 |.i=>∃j,P.underlying t=aa (.int j)
 |.s=>P.underlying t=aa .string

theorem zf7{k:Kd}{a b:AV}{x y:Value}{r:Bool}(d:V g a x)(e:V g b y)(c:m5 k a b=aa r)
  (hd:zym P t k) (D:Nat):(Op.equalIn (D+1) t x y).run P w=.ok r w:=by
 unfold m5 at c;split at c
 ·cases c;simp only[V]at d e;subst d e;exact run_equalIn_bool w D t _ _ hd
 ·split at c
  ·rename_i f;cases c;simp only[V]at d e;subst d e f;obtain⟨j,hd⟩:=hd;simp[Op.equalIn,run_underlying hd]
  ·cases c
 ·cases c;simp only[V]at d e;obtain⟨rfl,_⟩:=d;obtain⟨rfl,_⟩:=e;rw[run_equalIn_string w D t _ _ hd,ByteArray.toList_mk,ByteArray.toList_mk]
 ·cases c

def EqE(P:Program)(w:World)(g:Gh)(d:Nat):Prop:=∀{t:TypeId}{ks:List Kd} {i:TypeInfo},wP P d t=aa ks->P.info? t=aa i->i.size=ks.length->∀{xs ys:Array Value}{a5 bs:List AV} {off:Nat} {r:Bool},VA g a5 xs.toList->VA g bs ys.toList ->
  sN ks ((a5.drop off).take ks.length) ((bs.drop off).take ks.length)=aa r->∀D,d<=D->∃u v,(part t xs off).run P w=.ok u w/\(part t ys off).run P w=.ok v w/\(Op.equalIn D t u v).run P w=.ok r w

theorem eqF{d:Nat}(E:EqE P w g d):∀(fs:List Field)(acc:Nat) {j:List Kd},zcU P d fs acc=aa j->∀{xs l:Array Value}{a5 bs:List AV} {r:Bool},VA g a5 xs.toList->VA g bs l.toList ->
  sN j (a5.drop acc) (bs.drop acc)=aa r->∀D,d<=D->(Op.eqFields D xs l fs).run P w=.ok r w
 |[],acc,j,h,xs,l,a5,bs,r,ha,hb,hr,D,_=>by
  simp only[zcU,py,p5]at h;subst h;have:r=true:=by
   rcases o:a5.drop acc with _|⟨a,q⟩<;>rcases e:bs.drop acc with _|⟨b,A⟩<;>simp[o,e,sN]at hr;exact hr
  subst this;rfl
 |f::fs,acc,j,h,xs,l,a5,bs,r,ha,hb,hr,D,hD=>by
  simp only[zcU,py]at h;split at h
  ·rename_i p;split at h
   ·rename_i k1 i n hi;split at h
    ·rename_i c;split at h
     ·rename_i k2 m;cases h;obtain⟨s,H,o,e,k,F,G⟩:=mK k1 hr;obtain⟨u,v,y,x,z⟩:=E n hi c ha hb o D hD;have C:=eqF E fs (acc+i.size) m ha hb (by rw[kf,kf,<- c]at e;exact e) D hD;simp only[Op.eqFields,nK p.1,p.2,Sem.run_bind,y,x,z,Result.andThen_ok];cases s with
      |true=>simp at k;subst k;simpa using C
      |false=>simp at k;subst k;simp
     ·cases h
    ·cases h
   ·cases h
  ·cases h
theorem eqE:∀(d:Nat),EqE P w g d:=by
 intro d
 induction d with
 |zero=>intro t n i h;simp[wP]at h
 |succ d ih =>
  intro t n i h hi l xs m a5 bs off r I G o D R;obtain⟨D,rfl⟩:∃D',D=D'+1:=⟨D-1,by omega⟩
  have one:∀(k:Kd),n=[k]->zym P t k ->
    ∃u v,(part t xs off).run P w=.ok u w/\(part t m off).run P w=.ok v w/\(Op.equalIn (D+1) t u v).run P w=.ok r w:=by
   intro k M hd;subst M;simp only[kM]at o;rcases h1:a5.drop off with _|⟨a,K⟩
   ·simp[h1,sN]at o
   ·rcases h2:bs.drop off with _|⟨b,Q⟩
    ·simp[h1,h2,sN]at o
    ·have A:a5[off]?=aa a:=by have:=congrArg (·[0]?) h1;simpa using this
     have z:bs[off]?=aa b:=by have:=congrArg (·[0]?) h2;simpa using this
     obtain⟨u,c,q⟩:=I.f8.get _ _ A;obtain⟨v,J,y⟩:=G.f8.get _ _ z;rw[lr]at c J;have p:m5 k a b=aa r:=by
      simp[h1,h2,sN]at o
      grind
     have e:∀dd,P.underlying t=aa dd->yd dd=false->∃u v,(part t xs off).run P w=.ok u w/\(part t m off).run P w=.ok v w/\(Op.equalIn (D+1) t u v).run P w=.ok r w:=λdd f H =>
      ⟨u,v,by simp[part,ry f,H,c],by simp[part,ry f,H,J],zf7 q y p hd D⟩
     cases k with
     |b=>exact e _ hd rfl
     |i=>obtain⟨j,F⟩:=hd;exact e _ F rfl
     |s=>exact e _ hd rfl
  simp only[wP]at h;split at h
  ·rename_i c;cases h;exact one .b rfl c
  ·rename_i j c;cases h;exact one .i rfl ⟨j,c⟩
  ·rename_i c;cases h;exact one .s rfl c
  ·rename_i fs c;split at h
   ·cases h
   ·rename_i L;have x:P.fieldsOf t=fs:=by simp[Program.fieldsOf,c]
    have O:(part t xs off).run P w=.ok (.agg (xs.extract off (off+i.size))) w:=by simp[part,ry c,yd,wF hi]
    have N:(part t m off).run P w=.ok (.agg (m.extract off (off+i.size))) w:=by simp[part,ry c,yd,wF hi]
    refine⟨_,_,O,N,?_⟩;rw[run_equalIn_struct w D t _ _ (by simp_all) (by simp_all),x];have C:VA g ((a5.drop off).take n.length) (xs.extract off (off+i.size)).toList:=by
     rw[Array.toList_extract,ir,show off+i.size-off=i.size by omega,l];exact VA.take _ (VA.drop _ I)
    have E:VA g ((bs.drop off).take n.length) (m.extract off (off+i.size)).toList:=by
     rw[Array.toList_extract,ir,show off+i.size-off=i.size by omega,l];exact VA.take _ (VA.drop _ G)
    exact eqF ih fs.toList 0 h C E (by simp_all) D (by omega)
  ·cases h
theorem zf6{e:TypeId}{i:TypeInfo}(o:wP P 1 e=aa [.i])(hi:P.info? e=aa i)(hs:i.size=1){us vs:Array Value}{cs ds:List AV}(p:VA g cs us.toList)(y:VA g ds vs.toList):∀(m s:Nat){r:Bool},
  sN (List.replicate m .i) (cs.drop s) (ds.drop s)=aa r->∀D,1<=D->(Op.eqItems D e (P.cellsOf e) us vs (List.range' s m)).run P w=.ok r w:=by
 have z:P.cellsOf e=1:=by simp[Program.cellsOf,hi,hs]
 intro m
 induction m with
 |zero =>
  intro s r h D _;rcases f:cs.drop s with _|⟨a,a5⟩<;>rcases c:ds.drop s with _|⟨b,bs⟩<;>simp[f,c,sN]at h;subst h;rfl
 |succ m ih =>
  intro s r h D j;obtain⟨l,A,f,c,d,_⟩:=mK [.i] (ls:=List.replicate m .i) (by simpa[jU]using h);obtain⟨u,v,q,n,x⟩:=eqE (P:=P) (w:=w) 1 o hi hs p y (off:=s) f D j;have k:=ih (s+1) (by rw[kf,kf]at c;exact c) D j;rw[z]at k ⊢;simp only[List.range'_succ,Op.eqItems,Nat.mul_one,Sem.run_bind,q,n,x,Result.andThen_ok];cases l with
  |true=>simp at d;subst d;simpa using k
  |false=>simp at d;subst d;simp
end
end Go.Vv
namespace Go.Vv
open Go Go.RowKit Go.Lib
variable{op:BinOp}{t ty:TypeId}{a b v:AV}{x y:Value}{ox oy:Operand}{d:TypeDesc}
section
variable{P:Program}{w:World}{g:Gh}{h:AH}{B:Nat}{w0:World}
theorem zfj(s:List UInt8):(⟨s.toArray⟩:ByteArray).size=s.length:=by rfl

def eO:AV->Value
 |.bool b=>.bool b
 |.int k n=>.int k n
 |.str s=>.string ⟨s.toArray⟩
 |_=>undef

theorem zmZ{k k':IntKind}{a b:Int}(i:k=k' \/ op=.shl \/ op=.shr){ox oy:Operand}{v:AV}(c:xC op k a b=aa v) :
  ∃u,(do eqGuard op t ox oy (.int k a) (.int k' b);binOp op t (.int k a) (.int k' b):Sem Value).run P w=.ok u w/\V g v u:=by
 refine⟨eO v,?_,?_⟩
 ·simp only[eqGuard_at_int];cases op<;>simp only[xC,p5]at c
  case shl =>
   split at c
   ·cases c
   ·rename_i f;cases c;simp[binOp,Op.shift,f,eO]
  case shr =>
   split at c
   ·cases c
   ·rename_i f;cases c;simp[binOp,Op.shift,f,eO]
  case quo =>
   have e:k=k':=by simp_all
   split at c
   ·cases c
   ·rename_i f;cases c;simp[binOp,Op.intDiv,f,eO,e]
  case rem =>
   have e:k=k':=by simp_all
   split at c
   ·cases c
   ·rename_i f;cases c;simp[binOp,Op.intDiv,f,eO,e]
  all_goals
   have e:k=k':=by simp_all
   subst e c;simp[binOp,Op.intArith,Op.intCmp,Op.intBits,eO]
 ·cases op<;>simp only[xC,p5]at c<;>first
   |(subst c;simp only[eO,V];done)
   |(
         split at c
         · cases c
         · cases c;simp only[eO,V])

theorem zlO{x y:List UInt8}(c:zuM op x y=aa v) :
  ∃u,(do eqGuard op t ox oy (.string ⟨x.toArray⟩) (.string ⟨y.toArray⟩);binOp op t (.string ⟨x.toArray⟩) (.string ⟨y.toArray⟩):Sem Value).run P w=.ok u w/\V g v u:=by
 refine⟨eO v,?_,?_⟩
 ·simp only[eqGuard_at_string];cases op<;>simp only[zuM,p5,reduceCtorEq]at c
  case add =>
   split at c
   ·rename_i e;cases c;have f:¬((9223372036854775807:Int)<(x.length:Int)+(y.length:Int)):=by simp only[maxLen]at e;omega
    simp[binOp,Op.stringOp,zfj,f,eO];rfl
   ·cases c
  all_goals
   subst c;simp[binOp,Op.stringOp,eO]
 ·cases op<;>simp only[zuM,p5,reduceCtorEq]at c<;>first
   |(subst c;simp only[eO,V];done)
   |(
         split at c
         · rename_i e;cases c;simp only[eO,V];exact⟨trivial,by simp_all⟩
         · cases c)

theorem zmy(hd:P.underlying t=aa d){a b:AV}{x y:Value}(c:V g a x)(e:V g b y){r:Bool}(i:aP d a b=aa r)(D:Nat):(Op.equalIn (D+1) t x y).run P w=.ok r w:=by
 unfold aP at i;split at i<;>first
  |(
       cases i;simp only[V]at c e
       first
         |(subst c e;simp[Op.equalIn,yn hd];done)
         |(obtain⟨_,_,rfl⟩:=c;subst e;simp[Op.equalIn,yn hd];done)
         |(obtain⟨_,_,rfl⟩:=e;subst c;simp[Op.equalIn,yn hd];done)
         |(obtain⟨_,_,rfl,_⟩:=c;subst e;simp[Op.equalIn,yn hd];done)
         |(obtain⟨_,_,rfl,_⟩:=e;subst c;simp[Op.equalIn,yn hd];done)
         |(obtain⟨_,_,_,rfl,_⟩:=c;subst e;simp[Op.equalIn,yn hd];done)
         |(
      obtain⟨_,_,rfl,_,_,f⟩:=c;subst e;rcases f with f|⟨_,_,rfl,_⟩
      ·cases f
      ·simp[Op.equalIn,yn hd])
         |(
      obtain⟨_,_,rfl,_,_,f,_⟩:=c;subst e;rcases f with f|⟨_,_,rfl,_⟩
      ·cases f
      ·simp[Op.equalIn,yn hd]))
  |cases i

theorem zpi(l:V g a x)(k:V g b y){r:Bool}(f:c8 P t a b=aa r):(Op.equalIn 10000 t x y).run P w=.ok r w:=by
 unfold c8 at f;split at f
 ·rename_i cs ds;split at f
  ·rename_i z;split at f
   ·rename_i A c;simp only[V]at l k;obtain⟨us,rfl,o⟩:=l;obtain⟨vs,rfl,p⟩:=k;have q:=z.2;rcases hd:P.underlying t with _|d
    ·simp_all
    ·cases d<;>simp[hd,yd]at q
     ·rename_i n e;simp only[wP,zpF,hd,Option.none_or]at c;split at c
      ·rename_i j i u hi;split at c
       ·rename_i hs;cases c;rw[show(10000:Nat)=9999+1 from rfl,run_equalIn_array w 9999 us vs hd hi,List.range_eq_range'];exact zf6 (by simp[wP,u]) hi hs o p n 0 (by simp_all) 9999 (by omega)
       ·cases c
      ·cases c
     ·rename_i fs;have m:P.fieldsOf t=fs:=by simp[Program.fieldsOf,hd]
      simp only[wP,zpF,hd,Option.or_none]at c;split at c
      ·cases c
      ·rename_i s;rw[show(10000:Nat)=9999+1 from rfl,run_equalIn_struct w 9999 t _ _ (by simp_all) (by simp_all),m];exact eqF (eqE 5) fs.toList 0 c o p (by simp_all) 9999 (by omega)
   ·cases f
  ·cases f
 ·split at f
  ·rename_i hd;cases f;simp only[V]at l k;subst l k;exact run_equalIn_bool w 9999 t _ _ hd
  ·cases f
 ·split at f
  ·rename_i d hd;exact zmy hd l k f 9999
  ·cases f

theorem zqf(c:V g a x)(e:V g b y){r:Bool}(i:c8 P t a b=aa r) :
  (do eqGuard .eql t ox oy x y;binOp .eql t x y:Sem Value).run P w=.ok (.bool r) w/\(do eqGuard .neq t ox oy x y;binOp .neq t x y:Sem Value).run P w=.ok (.bool !r) w:=by
 have f:=zpi (w:=w) c e i;unfold c8 at i;split at i
 ·split at i
  ·rename_i j;simp only[V]at c e;obtain⟨us,rfl,_⟩:=c;obtain⟨vs,rfl,_⟩:=e;simp[run_eqGuard_agg w _ t ox oy us vs j.1,run_eql_struct,run_neq_struct,f]
  ·cases i
 ·simp only[V]at c e;subst c e;simp[eqGuard_at_bool,binOp,Op.equal,Op.maxDepth,f]
 ·split at i
  ·unfold aP at i;split at i<;>first
    |(cases i;done)
    |(
           simp only[V]at c e
           first
             |(subst c e;simp[eqGuard,binOp,Op.equal,Op.maxDepth,f];done)
             |(obtain⟨_,_,rfl⟩:=c;subst e;simp[eqGuard,binOp,Op.equal,Op.maxDepth,f];done)
             |(obtain⟨_,_,rfl⟩:=e;subst c;simp[eqGuard,binOp,Op.equal,Op.maxDepth,f];done)
             |(obtain⟨_,_,rfl,_⟩:=c;subst e;simp[eqGuard,binOp,Op.equal,Op.maxDepth,f];done)
             |(obtain⟨_,_,rfl,_⟩:=e;subst c;simp[eqGuard,binOp,Op.equal,Op.maxDepth,f];done)
             |(obtain⟨_,_,_,rfl,_⟩:=c;subst e;simp[eqGuard,binOp,Op.equal,Op.maxDepth,f];done)
             |(obtain⟨A,C,k,_⟩:=c;subst e;rw[k]at f ⊢;revert f;generalize List.length _=n;intro f;simp[eqGuard,binOp,Op.equal,Op.maxDepth,f];done))
  ·cases i

theorem zm6(f:V g a x)(i:V g b y)(c:zxl P op t oy a b=aa v) :
  ∃u,(do eqGuard op t ox oy x y;binOp op t x y:Sem Value).run P w=.ok u w/\V g v u:=by
 unfold zxl at c;split at c
 ·rename_i hd;simp only[V]at f i;subst f i;have e:(Op.equalIn 10000 t .nilIface .nilIface).run P w=.ok true w:=(show ∀D,(Op.equalIn (D+1) t .nilIface .nilIface).run P w=.ok true w from λD=>by simp[Op.equalIn,yn hd]) 9999;split at c
  ·cases c;exact⟨.bool true,by simp[eqGuard,binOp,Op.equal,Op.maxDepth,e],by simp only[V]⟩
  ·cases c;exact⟨.bool false,by simp[eqGuard,binOp,Op.equal,Op.maxDepth,e],by simp only[V]⟩
  ·cases c
 ·rename_i hd;simp only[V]at f i;obtain⟨u,rfl,_⟩:=f;subst i;rename_i j _ _;have e:(Op.equalIn 10000 t (.iface j u) .nilIface).run P w=.ok false w:=(show ∀D,(Op.equalIn (D+1) t (.iface j u) .nilIface).run P w=.ok false w from λD=>by simp[Op.equalIn,yn hd]) 9999;split at c
  ·cases c;exact⟨.bool false,by simp[eqGuard,binOp,Op.equal,Op.maxDepth,e],by simp only[V]⟩
  ·cases c;exact⟨.bool true,by simp[eqGuard,binOp,Op.equal,Op.maxDepth,e],by simp only[V]⟩
  ·cases c
 ·cases c

theorem zk3{h:AH}(u:V g a x)(s:V g b y){S:AV->AH->Prop}(l:mU P op t h a b=aa S) :
  ∃r,(do eqGuard op t ox oy x y;binOp op t x y:Sem Value).run P w=.ok (.bool r) w/\S (.bool r) h:=by
 have p:∀(D:Nat)(es:List (List AV)) (i:Option Addr) (c:Nat) (e:TypeId),P.underlying t=aa (.slice e)->(es=[] \/ ∃b o,i=aa ⟨b,o,none⟩)->∃r,(Op.equalIn (D+1) t (.slice i es.length c) (.slice none 0 0)).run P w=.ok r w/\(r=true->es=[]):=by
  intro D es i c e j f;cases i with
  |none =>
   rcases f with rfl|⟨_,_,h⟩
   ·exact⟨true,by simp[Op.equalIn,yn j],λ_=>rfl⟩
   ·cases h
  |some i=>exact⟨false,by simp[Op.equalIn,yn j],λh=>by cases h⟩
 have key:∀(es:List (List AV)) (i:Option Addr) (c:Nat) (e:TypeId),P.underlying t=aa (.slice e)->(es=[] \/ ∃b o,i=aa ⟨b,o,none⟩)->∃r,(Op.equalIn 10000 t (.slice i es.length c) (.slice none 0 0)).run P w=.ok r w/\(r=true->es=[]):=λes i c e j f=>p 9999 es i c e j f;unfold mU at l;split at l
 ·rename_i k es;simp only[V]at u s;obtain⟨i,c,rfl,_,_,f⟩:=u;subst s;split at l
  ·rename_i e j;obtain⟨r,n,m⟩:=key es i c e j (f.imp id λ⟨b,o,h,_⟩=>⟨b,o,h⟩);cases l;exact⟨r,by simp[eqGuard,binOp,Op.equal,Op.maxDepth,n],rfl,r,rfl,m⟩
  ·rename_i e j;obtain⟨r,n,m⟩:=key es i c e j (f.imp id λ⟨b,o,h,_⟩=>⟨b,o,h⟩);cases l;exact⟨!r,by simp[eqGuard,binOp,Op.equal,Op.maxDepth,n],rfl,r,rfl,m⟩
  ·cases l
 ·rename_i q k es;simp only[V]at u s;obtain⟨i,c,rfl,_,_,f,_⟩:=u;subst s;split at l
  ·rename_i e j;obtain⟨r,n,m⟩:=key es i c e j (f.imp id λ⟨b,o,h,_⟩=>⟨b,o,h⟩);cases l;exact⟨r,by simp[eqGuard,binOp,Op.equal,Op.maxDepth,n],rfl,r,rfl,m⟩
  ·rename_i e j;obtain⟨r,n,m⟩:=key es i c e j (f.imp id λ⟨b,o,h,_⟩=>⟨b,o,h⟩);cases l;exact⟨!r,by simp[eqGuard,binOp,Op.equal,Op.maxDepth,n],rfl,r,rfl,m⟩
  ·cases l
 ·cases l
theorem znN(e:V g a x)(f:V g b y)(c:yL P op t a b=aa v) :
  ∃u,(do eqGuard op t ox oy x y;binOp op t x y:Sem Value).run P w=.ok u w/\V g v u:=by
 unfold yL at c;split at c
 ·split at c
  ·rename_i i;simp only[V]at e f;subst e f;exact zmZ i c
  ·cases c
 ·simp only[V]at e f;obtain⟨rfl,_⟩:=e;obtain⟨rfl,_⟩:=f;exact zlO c
 ·split at c
  ·rcases hr:c8 P t a b with _|r
   ·simp_all
   ·simp[hr]at c;subst c;exact⟨_,(zqf e f hr).1,by simp only[V]⟩
  ·rcases hr:c8 P t a b with _|r
   ·simp_all
   ·simp[hr]at c;subst c;exact⟨_,(zqf e f hr).2,by simp only[V]⟩
  ·cases c

theorem zn3{op:UnOp}(e:V g a x)(c:aUn op a=aa v):∃u,(Op.unary op x).run P w=.ok u w/\V g v u:=by
 unfold aUn at c;split at c
 ·simp only[V]at e;subst e;split at c
  ·cases c;exact⟨_,rfl,by simp only[V]⟩
  ·cases c;exact⟨_,rfl,by simp only[V]⟩
  ·cases c
 ·simp only[V]at e;subst e;split at c
  ·cases c;exact⟨_,by rfl,by simp only[V]⟩
  ·cases c
 ·cases c

theorem zgh{s:TypeId}{ds:TypeDesc}(hs:P.underlying s=aa ds)(hd:P.underlying t=aa d){a v:AV}{x:Value}(e:V g a x)(c:zcz d a=aa v) :
  ∃u,(convert s t x).run P w=.ok u w/\V g v u:=by
 unfold zcz at c;split at c
 ·simp only[V]at e;subst e;split at c
  ·cases c;exact⟨_,by simp[convert,yn hs,yn hd,Conv.intToInt];rfl,by simp only[V]⟩
  ·cases c
 ·simp only[V]at e;obtain⟨rfl,f⟩:=e;split at c
  ·cases c;exact⟨_,by simp[convert,yn hs,yn hd];rfl,by simp only[V];exact⟨trivial,f⟩⟩
  ·cases c
 ·cases c

theorem zfL(f:P.underlying t=aa .string){s:List UInt8}{x:Value}(c:V g (.str s) x) :
  (Builtin.len_ #[t] ty #[x]).run P w=.ok (.int .i64 s.length) w/\s.length<=maxLen:=by
 simp only[V]at c;obtain⟨rfl,e⟩:=c;exact⟨by simp[Builtin.len_,yn f,zfj,goInt],e⟩
theorem zhh{e:TypeId}(i:P.underlying t=aa (.slice e)){a:AV}{x:Value}(c:V g a x){n:Nat}(f:zpM a=aa n) :
  (Builtin.len_ #[t] ty #[x]).run P w=.ok (.int .i64 n) w/\n<=maxLen:=by
 unfold zpM at f;split at f<;>first
  |(
       cases f;simp only[V]at c
       first
         |(obtain⟨_,_,rfl,k,j,_⟩:=c;exact⟨by simp[Builtin.len_,yn i,goInt],by omega⟩)
         |(obtain⟨_,_,_,rfl,k,j⟩:=c;exact⟨by simp[Builtin.len_,yn i,goInt],by omega⟩)
         |(subst c;exact⟨by simp[Builtin.len_,yn i,goInt],by simp⟩))
  |cases f

theorem VA.flatten{z:List AV}{c:List Value}(h:VA g z c):∀n,VA g (List.replicate n z).flatten (List.replicate n c).flatten
 |0=>by rfl
 |n+1=>by
  simp only[jU,lO];exact VA.append h (VA.flatten h n)
theorem px(c:Array Value):∀n:Nat,(List.range (n*c.size)).map (λi=>c[i % c.size]!)=(List.replicate n c.toList).flatten
 |0=>by simp
 |n+1=>by
  rw[ju,gO,List.range_add,lZ,jU,lO,<- px c n,kY];congr 1
  ·apply List.ext_getElem
   ·simp
   ·intro i f e;simp at f e;simp[gu e,e]
  ·simp_all

theorem zdQ{c:Nat->Option (Nat×Nat)}:∀{parts:List (Nat×AV)} {cs out:List AV},qJ c cs parts=aa out->out.length=cs.length
 |[],cs,out,h=>by simp only[qJ,p5]at h;rw[h]
 |(i,v)::r,cs,out,h=>by
  simp only[qJ]at h;split at h
  ·split at h
   ·rename_i e;rw[zdQ h];simp[yX];omega
   ·cases h
  ·cases h
theorem zb7(r:Rel B w0 g h w){t e:TypeId}{n:Nat}{i:TypeInfo}{z cs out:List AV}{env:List AV}{a:Act}(he:VL g env a.tmps.toList){parts:Array (Nat×Operand)}(L:(parts.all λp=>yo p.2)=true)
  (Q:P.underlying t=aa (.slice e)) (hi:P.info? e=aa i) (X:yY P e=aa z) (f:0<i.size) (Y:n*i.size<=65536) (q:z.length=i.size)
  (A:qJ (λj=>aa (j*i.size,i.size)) ((List.replicate n z).flatten) (xS P (.slice e) env parts)=aa cs) (N:xO cs=aa out) :
  ∃u w' g',(Instr.buildSlice t n (parts.map λ(i,x)=>(i,a.eval x))).run P w=.ok u w'/\g.le g'/\Rel B w0 g' h w'/\V g' (.gW none i.size (rows i.size n out)) u:=by
 obtain⟨i',F,c,I,s⟩:=qX (g:=g) X;rw[hi]at c;injection c with c;subst c;have K:F.cells.size=i.size:=by rw[<- q,s.length];rfl
 rcases iD n with rfl|Z
 ·-- empty
  simp only[List.replicate_zero,iT]at A;rcases hp:xS P (.slice e) env parts with _|⟨⟨j,v⟩,rest⟩
  ·have H:parts=#[]:=by
    have:parts.toList=[]:=by simpa[xS]using hp
    simp_all
   subst H;refine⟨.slice (aa ⟨w.heap.size,0,none⟩) 0 0,w.alloc (.cells #[] e),g,by simp[Instr.buildSlice,yn Q,wF hi,Instr.fill,newRow];congr 2;apply gE;simp,Gh.le.refl g,r.eS _,?_⟩;simp only[rows,V]
   simp_all
  ·rw[hp]at A;simp only[qJ]at A
   grind
 ·have M:¬(n*i.size=0):=by
   have:=iW Z f;omega
  obtain⟨U,R⟩:=ny (P:=P) (d:=.slice e) he L;have D:=VA.flatten s n;obtain⟨xs,J,G⟩:=rm (place':=λj=>aa (j*i.size,i.size)) (λi x h=>h) (us:=(Array.range (n*i.size)).map (F.cells[· % F.cells.size]!))
   (by rw[<- K,ik,iE,px];exact D) U R A
  have l:=tV G N;have o:out.length=n*i.size:=by
   rw[tW N,zdQ A];simp[q]
  have T:xs.size=n*i.size:=by rw[<- o,l.length];rfl
  have C:=run_buildSlice w t e n _ xs i F Q hi I (by omega) M J;have S:=r.newRow xs e xs.size;have E:=g.dF w.heap.size λj=>if j<xs.size then xs[j]? else none
  obtain⟨e1,O,e3⟩:=np (k:=i.size) n out o;refine⟨_,_,_,C,E,S,?_⟩;simp only[V];refine⟨aa ⟨w.heap.size,0,none⟩,n,by rw[O],by omega,by simp only[maxLen];have:=iH n f;omega,.inr ⟨w.heap.size,0,rfl,?_⟩,by rw[O]⟩;refine eo.2 ⟨e3,?_⟩;rw[e1];refine VC.bv (l.mono E _ _) (rt N) λj u W=>?_;have hj:j<xs.size:=by
   grind
  have m:g.Φ w.heap.size j=none:=by
   rcases he':g.Φ w.heap.size j with _|v
   ·rfl
   ·exact absurd (r.em he') (ji _)
  simp only[Gh.cW,oS,l8,m,nK hj]
  grind
end
end Go.Vv
namespace Go.Vv
open Go Go.RowKit Go.Lib
variable{kt t et:TypeId}{a b m:AV}{x y mv kv xv:Value}{r:Bool}{h':AH}
section
variable{P:Program}{w:World}{g:Gh}{h:AH}{B:Nat}{w0:World}

theorem og{k:Kd}{a b:AV}{x y:Value}(ha:V g a x)(hb:V g b y)(hr:m5 k a b=aa true):x=y/\∀n,Instr.sameBits n x x=true:=by
 unfold m5 at hr;split at hr
 ·simp only[V]at ha hb;simp at hr;subst ha hb hr;exact⟨rfl,λn=>by unfold Instr.sameBits;cases n<;>simp⟩
 ·split at hr
  ·rename_i hk;simp only[V]at ha hb;simp at hr;subst ha hb hr hk;exact⟨rfl,λn=>by unfold Instr.sameBits;cases n<;>simp⟩
  ·cases hr
 ·simp only[V]at ha hb;simp at hr;subst hr;exact⟨by simp_all,λn=>by rw[ha.1];unfold Instr.sameBits;cases n<;>exact lG (α:=Array UInt8) _⟩
 ·cases hr
theorem zkk:∀{d:List Kd}{a5 bs:List AV} {xs c:List Value},VA g a5 xs->VA g bs c->sN d a5 bs=aa true->xs=c/\∀n,(xs.zip xs).all (λ(x,y)=>Instr.sameBits n x y)=true
 |[],[],[],xs,c,ha,hb,_=>by
  simp only[VA]at ha hb
  simp_all
 |k::d,a::a5,b::bs,xs,c,ha,hb,hr=>by
  simp only[VA]at ha hb;obtain⟨x,e,rfl,⟨_,l⟩,f⟩:=ha;obtain⟨y,s,rfl,⟨_,u⟩,j⟩:=hb;simp only[sN]at hr;split at hr
  ·rename_i p q o i;simp only[p5,tx]at hr;obtain⟨rfl,rfl⟩:=hr;obtain⟨rfl,z⟩:=og l u o;obtain⟨rfl,v⟩:=zkk f j i
   simp_all
  ·cases hr
 |[],[],_::_,_,_,_,_,hr=>by simp[sN]at hr
 |[],_::_,_,_,_,_,_,hr=>by simp[sN]at hr
 |_::_,[],_,_,_,_,_,hr=>by simp[sN]at hr
 |_::_,_::_,[],_,_,_,_,hr=>by simp[sN]at hr

theorem zfT(d:V g a x)(e:V g b y)(c:xp P kt a b=aa true):x=y/\Instr.sameBits 10000 x x=true:=by
 unfold xp at c;split at c
 ·exact⟨(og d e c).1,(og d e c).2 _⟩
 ·exact⟨(og d e c).1,(og d e c).2 _⟩
 ·exact⟨(og d e c).1,(og d e c).2 _⟩
 ·split at c
  ·split at c
   ·simp only[V]at d e;obtain⟨us,rfl,j⟩:=d;obtain⟨vs,rfl,f⟩:=e;obtain⟨i,k⟩:=zkk j f c;have:us=vs:=gE i;subst this;refine⟨rfl,?_⟩;rw[show(10000:Nat)=9999+1 from rfl];unfold Instr.sameBits
    simp_all
   ·cases c
  ·cases c
 ·cases c

def CkE(P:Program)(w:World)(d:Nat):Prop:=∀{t:TypeId}{ks:List Kd} {i:TypeInfo},wP P d t=aa ks->P.info? t=aa i->i.size=ks.length->∀{xs:Array Value}{off:Nat},off+ks.length<=xs.size->∀(b:Bool) D,d<=D ->
  ∃u,(part t xs off).run P w=.ok u w/\(Instr.checkKey b D t u).run P w=.ok () w
theorem ckF{d:Nat}(E:CkE P w d)(b:Bool):∀(fs:List Field)(acc:Nat) {ks:List Kd},zcU P d fs acc=aa ks->∀{xs:Array Value},acc+ks.length<=xs.size->∀D,d<=D ->
  (forIn fs PUnit.unit fun (f : Field) (_ : PUnit) => (if f.name≠ "_" then(part f.type xs f.offset) >>= fun u => Instr.checkKey b D f.type u >>= fun _ => pure (ForInStep.yield PUnit.unit)else pure (ForInStep.yield PUnit.unit) : Sem (ForInStep PUnit))).run P w = .ok PUnit.unit w
 |[],acc,ks,h,xs,hx,D,_=>by simp
 |f::fs,acc,ks,h,xs,hx,D,hD=>by
  simp only[zcU,py]at h;split at h
  ·rename_i hf;split at h
   ·rename_i k1 i hk1 hi;split at h
    ·rename_i hsz;split at h
     ·rename_i k2 hk2;cases h;simp only[oA]at hx;obtain⟨u,e1,e2⟩:=E hk1 hi hsz (xs:=xs) (off:=acc) (by omega) b D hD;have e4:=ckF E b fs (acc+i.size) hk2 (xs:=xs) (by omega) D hD
      simp_all
     ·cases h
    ·cases h
   ·cases h
  ·cases h
theorem ckE:∀(d:Nat),CkE P w d:=by
 intro d
 induction d with
 |zero=>intro t n i h;simp[wP]at h
 |succ d ih =>
  intro t n i h hi o xs off v b D q;obtain⟨D,rfl⟩:∃D',D=D'+1:=⟨D-1,by omega⟩
  have one:∀(dd:TypeDesc),n.length=1->P.underlying t=aa dd->yd dd=false->(∀u,(Instr.checkKey b (D+1) t u).run P w=.ok () w)->∃u,(part t xs off).run P w=.ok u w/\(Instr.checkKey b (D+1) t u).run P w=.ok () w:=by
   intro dd s f p l;have k:off<xs.size:=by omega
   exact⟨xs[off],by simp[part,ry f,p,k],l _⟩
  simp only[wP]at h;split at h
  ·rename_i c;cases h;exact one _ rfl c rfl λu=>by simp[Instr.checkKey,run_underlying c]
  ·rename_i j c;cases h;exact one _ rfl c rfl λu=>by simp[Instr.checkKey,run_underlying c]
  ·rename_i c;cases h;exact one _ rfl c rfl λu=>by simp[Instr.checkKey,run_underlying c]
  ·rename_i fs c;split at h
   ·cases h
   ·have e:(part t xs off).run P w=.ok (.agg (xs.extract off (off+i.size))) w:=by simp[part,ry c,yd,wF hi]
    refine⟨_,e,?_⟩;have:=ckF ih b fs.toList 0 h (xs:=xs.extract off (off+i.size)) (by simp;omega) D (by omega);simp only[Instr.checkKey,Sem.run_bind,run_underlying c,Result.andThen_ok]
    simp_all
  ·cases h
theorem zrA{k:AV}(f:V g k x)(d:xp P kt k k=aa r)(b:Bool)(D:Nat)(l:5<=D):(Instr.checkKey b (D+1) kt x).run P w=.ok () w:=by
 unfold xp at d;split at d
 ·rename_i e;simp[Instr.checkKey,run_underlying e]
 ·rename_i e;simp[Instr.checkKey,run_underlying e]
 ·rename_i e;simp[Instr.checkKey,run_underlying e]
 ·rename_i fs e;split at d
  ·rename_i cs ds;split at d
   ·rename_i i c;simp only[V]at f;obtain⟨us,rfl,j⟩:=f;have n:i.length<=us.size:=by
     obtain⟨_,_,_,_,_,o,_⟩:=mK i (ls:=[]) (by simpa using d);have:=j.f8.length
     simp_all
    simp only[wP,e]at c;split at c
    ·cases c
    ·have:=ckF (P:=P) (w:=w) (ckE 5) b fs.toList 0 c (xs:=us) (by omega) D l;simp only[Instr.checkKey,Sem.run_bind,run_underlying e,Result.andThen_ok]
     simp_all
   ·cases d
  ·cases d
 ·cases d
theorem zmX{k:AV}(c:V g k x)(d:xp P kt k k=aa r)(b:Bool):(Instr.checkKey b 10000 kt x).run P w=.ok () w:=zrA c d b 9999 (by omega)
theorem zp9(f:V g a x)(i:V g b y)(c:xp P kt a b=aa r):(Op.equal kt x y).run P w=.ok r w:=by
 unfold Op.equal;show(Op.equalIn 10000 kt x y).run P w=.ok r w;rw[show(10000:Nat)=9999+1 from rfl];unfold xp at c;split at c
 ·rename_i e;exact zf7 f i c e 9999
 ·rename_i e;exact zf7 f i c ⟨_,e⟩ 9999
 ·rename_i e;exact zf7 f i c e 9999
 ·rename_i fs e;split at c
  ·split at c
   ·rename_i o d;simp only[V]at f i;obtain⟨us,rfl,n⟩:=f;obtain⟨vs,rfl,l⟩:=i;have j:P.fieldsOf kt=fs:=by simp[Program.fieldsOf,e]
    simp only[wP,e]at d;split at d
    ·cases d
    ·rename_i k;rw[run_equalIn_struct w 9999 kt _ _ (by simp_all) (by simp_all),j];exact eqF (eqE 5) fs.toList 0 d n l (by simp_all) 9999 (by omega)
   ·cases c
  ·cases c
 ·cases c

theorem zjw{d:TypeDesc}(hd:P.underlying kt=aa d){a b:AV}{x y:Value}{r:Bool}(f:V g a x)(e:V g b y)(j:xp P kt a b=aa r){l:Bool}(hs:Instr.sameNow d x y=aa l):l=r:=by
 have one:∀{k:Kd},m5 k a b=aa r->l=r:=by
  intro k c;unfold m5 at c;split at c
  ·simp only[V]at f e;subst f e;cases c;cases d<;>simp[Instr.sameNow]at hs
   simp_all
  ·split at c
   ·rename_i o;simp only[V]at f e;subst f e o;cases c;cases d<;>simp[Instr.sameNow]at hs
    simp_all
   ·cases c
  ·simp only[V]at f e;obtain⟨rfl,_⟩:=f;obtain⟨rfl,_⟩:=e;cases c;cases d<;>simp[Instr.sameNow]at hs;rw[<- hs];have:∀i s2:List UInt8,((⟨i.toArray⟩:ByteArray)==⟨s2.toArray⟩)=(i==s2):=λi s2=>by
    have:((⟨i.toArray⟩:ByteArray)==⟨s2.toArray⟩)=(i.toArray==s2.toArray):=rfl
    simp_all
   simp_all
  ·cases c
 unfold xp at j;rw[hd]at j;split at j
 ·grind
 ·grind
 ·grind
 ·rename_i fs n;injection n with n;subst n;simp[Instr.sameNow]at hs
 ·cases j
theorem zeH{kt:TypeId}{d:TypeDesc}(hd:P.underlying kt=aa d){k:AV}{x:Value}(f:V g k x):∀{es:List (AV×AV)} {ents:List MapEntry} {i:Nat} {res:Option (Nat×AV)},ME g es ents->sK P kt k es i=aa res ->
  ∃r,(Instr.findAsking kt x ents i).run P w=.ok r w/\(∀n,Instr.findNow d x ents i=aa n->n=r) /\
   (match res with
       |none=>r=none
       |some (j,v)=>∃m e,j=i+m/\ents[m]?=aa e/\(∃o,es[m]?=aa (o,v)/\xp P kt k o=aa true/\V g o e.key)/\e.key=x/\V g v e.val/\r=aa (j,e.val))
 |[],ents,i,res,hm,hf=>by
  simp only[ME]at hm;subst hm;simp only[sK,p5]at hf;subst hf;exact⟨none,rfl,λn h=>by simp[Instr.findNow]at h;exact h.symm,rfl⟩
 |(o,v)::es,ents,i,res,hm,hf=>by
  simp only[ME]at hm;obtain⟨e,s,rfl,l,u,D⟩:=hm;simp only[sK]at hf;split at hf
  ·rename_i c;cases hf;obtain⟨E,_⟩:=zfT f l c;refine⟨aa (i,e.val),by simp[Instr.findAsking,zp9 (w:=w) f l c],λn h=>?_,0,e,rfl,rfl,⟨o,rfl,c,l⟩,E.symm,u,rfl⟩;simp only[Instr.findNow]at h;split at h
   ·simp_all
   ·rename_i hs;exact absurd (zjw hd f l c hs) (by simp)
   ·cases h
  ·rename_i c;obtain⟨r,k1,k2,k3⟩:=zeH hd f D hf;refine⟨r,by simp[Instr.findAsking,zp9 (w:=w) f l c,k1],λn h=>?_,?_⟩
   ·simp only[Instr.findNow]at h;split at h
    ·rename_i hs;exact absurd (zjw hd f l c hs) (by simp)
    ·simp_all
    ·cases h
   ·cases res with
    |none=>exact k3
    |some p =>
     obtain⟨m,z,F,H,⟨q,G,C⟩,A⟩:=k3;exact⟨m+1,z,by omega,by simp_all,⟨q,by simp_all,C⟩,A⟩
  ·cases hf
theorem od{k:AV}(i:V g k x){es:List (AV×AV)}{ents:List MapEntry}{res:Option (Nat×AV)}(f:ME g es ents)(l:sK P kt k es 0=aa res)(o:(P.underlying kt).isSome) :
  (match res with
       |none=>(Instr.findKey kt x ents).run P w=.ok none w
       |some (j,v)=>∃e,ents[j]?=aa e/\(∃c,es[j]?=aa (c,v)/\xp P kt k c=aa true/\V g c e.key)/\e.key=x/\V g v e.val/\(Instr.findKey kt x ents).run P w=.ok (aa (j,e.val)) w):=by
 obtain⟨d,hd⟩:=iy.1 o;obtain⟨r,n,p,q⟩:=zeH (w:=w) hd i f l;have key:(Instr.findKey kt x ents).run P w=.ok r w:=by
  simp only[Instr.findKey,Sem.run_bind,run_underlying hd,Result.andThen_ok];split
  ·simp_all
  ·exact n
 grind
theorem mz(c:xp P kt a b=aa r):(P.underlying kt).isSome:=by
 unfold xp at c
 grind
theorem zdO{z:AV}(c:zpJ P t=aa z):∃u,(zeroValue t).run P w=.ok u w/\V g z u:=by
 unfold zpJ at c;split at c
 ·rename_i i hi;split at c
  ·rename_i u k;split at c
   ·rename_i e;refine⟨u,by simp[zeroValue,run_typeInfo w hi,k],?_⟩;have d:=V.cv (g:=g) e;split at c
    ·rename_i cs l;cases c;rw[l]at d;simp only[V]at d ⊢;obtain⟨vs,j,f⟩:=d;exact⟨vs,j,f.fix⟩
    ·cases c;exact d.w5
   ·cases c
  ·cases c
 ·cases c

theorem ME.len:∀{es:List (AV×AV)} {ents:List MapEntry},ME g es ents->ents.length=es.length
 |[],_,h=>by simp only[ME]at h;subst h;rfl
 |(_,_)::r,_,h=>by
  simp only[ME]at h;obtain⟨e,s,rfl,_,_,c⟩:=h;simp[c.len]
theorem ME.push:∀{es:List (AV×AV)} {ents:List MapEntry} {k v:AV} {e:MapEntry},ME g es ents->V g k e.key->V g v e.val->ME g (es++[(k,v)]) (ents++[e])
 |[],_,k,v,e,h,hk,hv=>by simp only[ME]at h;subst h;simp only[ll,ME];exact⟨e,[],rfl,hk,hv,rfl⟩
 |(_,_)::r,_,k,v,e,h,hk,hv=>by
  simp only[ME]at h;obtain⟨f,s,rfl,d,c,i⟩:=h;simp only[kc,ME];exact⟨f,s++[e],rfl,d,c,i.push hk hv⟩
theorem ME.put:∀{es:List (AV×AV)} {ents:List MapEntry} (j:Nat) {k v:AV} {e:MapEntry},ME g es ents->V g k e.key->V g v e.val->ME g (es.set j (k,v)) (ents.set j e)
 |[],_,j,k,v,e,h,hk,hv=>by simp only[ME]at h;subst h;simp[ME]
 |(_,_)::r,_,j,k,v,e,h,hk,hv=>by
  simp only[ME]at h;obtain⟨i,s,rfl,f,d,c⟩:=h;cases j with
  |zero=>simp only[kJ,ME];exact⟨e,s,rfl,hk,hv,c⟩
  |succ j=>simp only[kj,ME];exact⟨i,s.set j e,rfl,f,d,c.put j hk hv⟩
theorem ME.aD:∀{es:List (AV×AV)} {ents:List MapEntry} {j:Nat} {p:AV×AV},ME g es ents->es[j]?=aa p->∃e,ents[j]?=aa e/\V g p.1 e.key/\V g p.2 e.val
 |[],_,j,p,h,hp=>by simp at hp
 |(_,_)::r,_,j,p,h,hp=>by
  simp only[ME]at h;obtain⟨i,s,rfl,d,c,f⟩:=h;cases j with
  |zero=>simp at hp;subst hp;exact⟨i,rfl,d,c⟩
  |succ j=>simpa using f.aD (by simp_all)

theorem V.zc1{a:AV}{v:Value}(h:V g a v):V g a.zc1 v:=by
 unfold AV.zc1;split
 ·simp only[V]at h ⊢
  grind
 ·exact h
theorem VA.zc1:∀{a5:List AV}{vs:List Value},VA g a5 vs->VA g (a5.map AV.zc1) vs
 |[],_,h=>by simpa using h
 |a::r,_,h=>by
  simp only[VA]at h;obtain⟨v,s,rfl,⟨h0,d⟩,c⟩:=h;simp only[m4,VA];exact⟨v,s,rfl,⟨by cases a<;>first|exact h0|rfl,d.zc1⟩,VA.zc1 c⟩
theorem V.cV{a:AV}{v:Value}(h:V g a v):V g a.cV v:=by
 unfold AV.cV;split
 ·simp only[V]at h ⊢;obtain⟨vs,e,c⟩:=h;exact⟨vs,e,c.zc1⟩
 ·exact h
theorem mH{z:AV}(c:ut P t=aa z):∃u,(zeroValue t).run P w=.ok u w/\V g z u:=by
 unfold ut at c;rw[j7]at c;obtain⟨y,e,rfl⟩:=c;obtain⟨u,d,f⟩:=zdO (w:=w) (g:=g) e;exact⟨u,d,f.cV⟩
theorem zhd{ok:Bool}{k v:AV}(r:Rel B w0 g h w)(D:P.underlying t=aa (.map kt et))(A:V g m mv)(q:V g k kv)(d:oV P h kt et ok m k=aa v) :
  ∃u,(Instr.lookup t mv kv ok).run P w=.ok u w/\V g v u:=by
 unfold oV at d;split at d
 case isFalse=>cases d
 rename_i f;have F:=λb=>zmX (w:=w) q f b;have i:∀{x:AV}{u:Value} (b:Bool),V g x u->V g (t6 ok x b) (if ok then .tuple #[u,.bool b]else u):=λ{x u} b H=>by
  unfold t6;cases ok
  ·exact H
  ·simp only[oS,V];exact⟨_,rfl,by simp only[VL];exact⟨_,_,rfl,H,_,_,rfl,by simp only[V],rfl⟩⟩
 split at d
 ·simp only[V]at A;subst A;rcases s:ut P et with _|z
  ·simp_all
  ·simp[s]at d;subst d;obtain⟨u,E,C⟩:=mH (w:=w) (g:=g) s;have G:(Instr.findKey kt kv []).run P w=.ok none w:=by
    have:=od (w:=w) (es:=[]) (ents:=[]) (res:=none) q rfl rfl (mz f);omega
   exact⟨_,by simp[Instr.lookup,run_underlying D,F,G,E],i false C⟩
 ·rename_i id;simp only[V]at A;obtain⟨c,L,rfl⟩:=A;split at d
  ·rename_i es cl I;obtain⟨_,_,⟨ents,n,p,o,_⟩,_⟩:=r.g7 id c _ L I;split at d
   ·rename_i j x l;cases d;obtain⟨e,M,_,N,K,J⟩:=od (w:=w) q o l (mz f);exact⟨_,by simp[Instr.lookup,run_underlying D,MapKept.run_getObj_map p,F,J],i true K⟩
   ·rename_i z l s;cases d;have G:=od (w:=w) q o l (mz f);obtain⟨u,E,C⟩:=mH (w:=w) (g:=g) s;exact⟨_,by simp[Instr.lookup,run_underlying D,MapKept.run_getObj_map p,F,G,E],i false C⟩
   ·cases d
  ·cases d
 ·cases d

theorem zaw{α:Type}{a:Array α}{i:Nat}{f:α->α}{e:α}(h:a.toList[i]?=aa e):(a.modify i f).toList=a.toList.set i (f e):=by
 apply lT
 grind
theorem zhm(h:Instr.sameBits 10000 x x=true):(Instr.keyThatStays x x).run P w=.ok x w:=by simp[Instr.keyThatStays,h]
theorem Rel.cD(r:Rel B w0 g h w){id c:Nat}{k:q6}(s:g.σ[id]?=aa c)(j:h.g7 id=aa k)(hd:k≠.dead){es:List (AV×AV)}{cl:Nat}{ents:Array MapEntry}{n:Nat}{o:Obj}(l:w.heap[c]?=aa o)(p:ME g es ents.toList)
  (f:cl=0->n=ents.size/\∀(i:Nat)(e:MapEntry),ents[i]?=aa e->e.born=i):Rel B w0 g (h.put id (.q7 es cl)) { w with heap:=w.heap.setIfInBounds c (.map ents n) }:=by
 have d:c<w.heap.size:=(l5.1 l).1;refine r.putObj s j hd rfl rfl rfl (by simp) (λb q=>by grind) ?_;exact⟨ents,n,by simp[d],p,f⟩

theorem zod{w:World}{c:Nat}{o:Obj}(h:w.heap[c]?=aa o):({ w with heap:=w.heap.setIfInBounds c o }:World)=w:=by
 have:w.heap.setIfInBounds c o=w.heap:=by
  grind
 rw[this]

theorem ziT{k v:AV}(r:Rel B w0 g h w)(J:P.underlying t=aa (.map kt et))(O:V g m mv)(s:V g k kv)(f:zhW P h kt et m k=aa (v,h')) :
  ∃u w',(Instr.mapEntry t mv kv).run P w=.ok u w'/\V g v u/\Rel B w0 g h' w':=by
 unfold zhW at f;split at f
 case isFalse=>cases f
 rename_i l;have M:=λb=>zmX (w:=w) s l b;split at f
 ·rename_i id;simp only[V]at O;obtain⟨c,Q,rfl⟩:=O;split at f
  ·rename_i es K;obtain⟨_,_,⟨ents,n,d,o,H⟩,_⟩:=r.g7 id c _ Q K;obtain⟨N,p⟩:=H rfl;split at f
   ·rename_i j x q;cases f;obtain⟨e,F,_,L,W,S⟩:=od (w:=w) s o q (mz l);have hs:=zhm (P:=P) (w:=w) (zfT s s l).2;have A:ents[j]?=aa e:=by simp_all
    have C:(ents.modify j λe=>{ e with key:=kv })=ents:=by
     apply gE;rw[zaw F];apply lT;intro i;rw[List.getElem?_set];split
     ·rename_i E;subst E;rw[nK (tu.1 F).1,F,<- L]
     ·rfl
    refine⟨.tuple #[e.val,goInt e.born],w,?_,?_,r⟩
    ·have D:(setObj c (.map (ents.modify j λe=>{ e with key:=kv }) n)).run P w=.ok () w:=by
      rw[C,MapKept.run_setObj_map _ d,zod d]
     simp[Instr.mapEntry,run_underlying J,MapKept.run_getObj_map d,M,S,A,L,hs,D]
    ·simp only[V];exact⟨_,rfl,by simp only[VL];exact⟨_,_,rfl,W,_,_,rfl,by simp only[V,p j e A];rfl,rfl⟩⟩
   ·rename_i z q T;cases f;have U:=od (w:=w) s o q (mz l);obtain⟨u,R,I⟩:=mH (w:=w) (g:=g) T;have G:ents.size=es.length:=by have:=o.len;simpa using this
    refine⟨.tuple #[u,goInt n],{ w with heap:=w.heap.setIfInBounds c (.map (ents.push { key:=kv,val:=u,born:=n }) (n+1)) },?_,?_,?_⟩
    ·simp[Instr.mapEntry,run_underlying J,MapKept.run_getObj_map d,M,U,R,MapKept.run_setObj_map _ d]
    ·simp only[V];exact⟨_,rfl,by simp only[VL];exact⟨_,_,rfl,I,_,_,rfl,by simp only[V,N,G];rfl,rfl⟩⟩
    ·refine r.cD Q K (by simp) d (by rw[Array.toList_push];exact o.push s I) λ_=>⟨by simp[N],λi e hi=>?_⟩
     grind
   ·cases f
  ·cases f
 ·cases f
theorem zb6{s x:AV}{C:Value}(r:Rel B w0 g h w)(D:V g m mv)(hs:V g s C)(H:V g x xv)(d:pb h m s x=aa h') :
  ∃w',(Instr.entryStore t mv C xv).run P w=.ok () w'/\Rel B w0 g h' w':=by
 unfold pb at d;split at d
 ·rename_i id L q;simp only[V]at D hs;obtain⟨c,E,rfl⟩:=D;subst hs;split at d
  ·rename_i es A;obtain⟨_,_,⟨ents,n,k,o,v⟩,_⟩:=r.g7 id c _ E A;obtain⟨I,f⟩:=v rfl;split at d
   ·rename_i h0;split at d
    ·rename_i p G;cases d;obtain⟨e,F,K,N⟩:=o.aD G;have u:ents[q.toNat]?=aa e:=by simp_all
     have l:=(l5.1 u).1;have z:ents.findIdx? (λe=>(e.born:Int)==q)=aa q.toNat:=by
      rw[Array.findIdx?_eq_some_iff_getElem];refine⟨l,?_,λj J=>?_⟩
      ·grind
      ·have:=f j _ (lE (Nat.lt_trans J l))
       grind
     refine⟨{ w with heap:=w.heap.setIfInBounds c (.map (ents.modify q.toNat λe=>{ e with val:=xv }) n) },?_,?_⟩
     ·simp[Instr.entryStore,MapKept.run_getObj_map k,asInt,asIntOf,z,MapKept.run_setObj_map _ k]
     ·refine r.cD E A (by simp) k (by rw[zaw F];exact o.put _ K H.cV) λ_=>⟨by simp[I],λi M hi=>?_⟩
      grind
    ·cases d
   ·cases d
  ·cases d
 ·cases d
theorem zg9{k x:AV}(r:Rel B w0 g h w)(v:P.underlying t=aa (.map kt et))(C:V g m mv)(o:V g k kv)(A:V g x xv)(f:zbJ P h kt m k x=aa h') :
  ∃w',(Instr.mapUpdate t mv kv xv).run P w=.ok () w'/\Rel B w0 g h' w':=by
 unfold zbJ at f;split at f
 case isFalse=>cases f
 rename_i i;have z:=λb=>zmX (w:=w) o i b;split at f
 ·rename_i id;simp only[V]at C;obtain⟨c,u,rfl⟩:=C;split at f
  ·rename_i es cl s;obtain⟨_,_,⟨ents,n,d,l,H⟩,_⟩:=r.g7 id c _ u s;split at f
   ·rename_i j I p;cases f;obtain⟨e,D,_,E,J,F⟩:=od (w:=w) o l p (mz i);have hs:=zhm (P:=P) (w:=w) (zfT o o i).2;have q:ents[j]?=aa e:=by simp_all
    refine⟨{ w with heap:=w.heap.setIfInBounds c (.map (ents.modify j λe=>{ e with key:=kv,val:=xv }) n) },?_,?_⟩
    ·simp[Instr.mapUpdate,run_underlying v,MapKept.run_getObj_map d,z,F,q,E,hs,MapKept.run_setObj_map _ d]
    ·refine r.cD u s (by simp) d (by rw[zaw D];exact l.put _ o A.cV) λh0=>?_
     grind
   ·rename_i p;cases f;have G:=od (w:=w) o l p (mz i);refine⟨{ w with heap:=w.heap.setIfInBounds c (.map (ents.push { key:=kv,val:=xv,born:=n }) (n+1)) },?_,?_⟩
    ·simp[Instr.mapUpdate,run_underlying v,MapKept.run_getObj_map d,z,G,MapKept.run_setObj_map _ d]
    ·refine r.cD u s (by simp) d (by rw[Array.toList_push];exact l.push o A.cV) λh0=>?_
     grind
   ·cases f
  ·cases f
 ·cases f
end
end Go.Vv
namespace Go.Vv
open Go Go.RowKit Go.Lib
section
variable{P:Program}{w:World}{g:Gh}{h:AH}{B:Nat}{w0:World}

def tC(P:Program)(B:Nat)(w0:World)(g:Gh)(a:Act)(o:Oper)(w:World)(v:AV)(h':AH):Prop :=
 ∃u w' g',((execOp a.eval o).run P w=.ok (.value u) w' \/ ((execOp a.eval o).run P w=.ok .skip w'/\u=undef))/\g.le g'/\Rel B w0 g' h' w'/\V g' v u

def Fits(P:Program)(B:Nat)(w0:World)(g:Gh)(a:Act)(o:Oper)(w:World):Res->Prop
 |.ok v h'=>tC P B w0 g a o w v h'
 |.len n v h'=>n<=maxLen/\tC P B w0 g a o w v h'
 |.call f args=>∃vs:Array Value,(execOp a.eval o).run P w=(callFunc f vs).run P w/\VL g args vs.toList
 |.round id args=>∃(c:Nat)(vs:Array Value),g.σ[id]?=aa c/\(execOp a.eval o).run P w=(Instr.yield c vs).run P w/\VL g args vs.toList
 |.any S=>∃v h',S v h'/\tC P B w0 g a o w v h'
 |.fail=>True

theorem Fits.oo{a:Act}{o:Oper}{x:Option AV}(b:∀v,x=aa v->tC P B w0 g a o w v h):Fits P B w0 g a o w (oo h x):=by
 cases x with
 |none=>trivial
 |some v=>exact b v rfl

theorem VO.ev{env:List AV}{a:Act}(b:VL g env a.tmps.toList){x:Option Operand}(c:x.all yo=true):VO g (x.map (ev env)) (x.map a.eval):=by
 cases x with
 |none=>rfl
 |some x=>exact⟨_,rfl,V.ev b (by simp_all)⟩
theorem VL.evs{env:List AV}{a:Act}(b:VL g env a.tmps.toList):∀{xs:List Operand},xs.all yo=true->VL g (xs.map (ev env)) (xs.map a.eval)
 |[],_=>by simp[VL]
 |x::r,h=>by
  simp only[l7,tx]at h;simp only[m4];exact VL.cons (V.ev b h.1) (VL.evs b h.2)
theorem VL.dV{env:List AV}{a:Act}(b:VL g env a.tmps.toList):∀{xs:List Operand}{ts:List TypeId},xs.all yo=true->xs.length=ts.length->VL g ((xs.zip ts).map λp=>w5 P p.2 (ev env p.1)) (xs.map a.eval)
 |[],_,_,_=>by simp[VL]
 |x::r,[],_,h=>by simp at h
 |x::r,t::ts,h,hl=>by
  simp only[l7,tx]at h;simp only[ga,m4];exact VL.cons (V.ev b h.1).w5 (VL.dV b h.2 (by simp_all))

theorem V.e8{t:TypeId}{x:Option AV}{v:AV}(b:x.map (Vv.w5 P t)=aa v):∃a,x=aa a/\v=Vv.w5 P t a:=by
 cases x with
 |none=>cases b
 |some a=>injection b with b;exact⟨a,rfl,b.symm⟩

theorem zbA:∀s:List UInt8,(s.map λb=>[AV.int .u8 b.toNat]).flatten=s.map λb=>AV.int .u8 b.toNat
 |[]=>rfl
 |b::r=>by simp only[m4,lO,zbA r];rfl
theorem zkx:∀s:List UInt8,VA g (s.map λb=>AV.int .u8 b.toNat) (s.map λb=>Value.int .u8 b.toNat)
 |[]=>by simp[VA]
 |b::r=>by simp only[m4,VA];exact⟨_,_,rfl,⟨rfl,by simp only[V]⟩,zkx r⟩

theorem zjT(mx:Bool):∀{r:List AV}{a v:AV} {x:Value} {xs:List Value},V g a x->VL g r xs->aMM mx a r=aa v->∃u,(xs.foldlM (if mx then Builtin.max2 else Builtin.min2) x).run P w=.ok u w/\V g v u:=by
 intro r
 induction r with
 |nil =>
  intro a v x xs i d c;simp only[VL]at d;subst d;simp only[aMM,p5]at c
  simp_all
 |cons b r ih =>
  intro a v x xs i d c;simp only[VL]at d;obtain⟨y,p,rfl,j,d⟩:=d;unfold aMM at c;split at c
  ·simp_all
  ·rename_i k n k' m rest f;cases f;split at c
   ·rename_i o;subst o;simp only[V]at i j;subst i j;obtain⟨u,e,l⟩:=ih (x:=.int k (if mx then(if m > n then m else n)else(if m<n then m else n))) (by simp only[V]) d c;refine⟨u,?_,l⟩;rw[List.foldlM_cons];cases mx
    ·simp only[s5,mb,Builtin.min2]at e ⊢;exact e
    ·simp only[oS,Builtin.max2]at e ⊢;exact e
   ·cases c
  ·cases c
theorem zhH(r:Rel B w0 g h w){a:Act}{env:List AV}(N:VL g env a.tmps.toList){o:Oper}{c:Call}(ho:o.op=.call c){b:Builtin}(hc:c.callee=.builtin b)(hok:c.args.all yo=true) :
  Fits P B w0 g a o w (uu P h b c.argTypes.toList (c.args.toList.map (ev env))):=by
 have f:∀(bb:Builtin),b=bb->(execOp a.eval o).run P w=(builtin bb c.argTypes o.type (c.args.map λ|.const _=>true|_=>false) (c.args.map a.eval)).run P w:=by
  intro bb Z;subst Z;simp only[execOp,ho,resolve,hc,Sem.run_bind,Sem.run_pure,Result.andThen_ok,invoke];rfl
 have I:c.args.toList.all yo=true:=by simp_all
 unfold uu;split
 ·rename_i t x hts has;have C:c.argTypes=#[t]:=by grind
  obtain⟨m,D,rfl⟩:∃m,c.args=#[m]/\x=ev env m:=by
   rcases S:c.args.toList with _|⟨y,_|⟨z,rest⟩⟩<;>simp[S]at has
   grind
  have O:=V.ev N (x:=m) (by simp_all);split
  ·rename_i E;split
   ·rename_i s hx;rw[hx]at O;obtain⟨k,p⟩:=zfL (P:=P) (w:=w) (ty:=o.type) E O;refine⟨p,.int .i64 s.length,w,g,.inl ?_,Gh.le.refl g,r,by simp only[V]⟩;rw[f .len rfl,C,D];simp[builtin,k]
   ·trivial
  ·rename_i e E;split
   ·rename_i n hn;obtain⟨k,p⟩:=zhh (P:=P) (w:=w) (ty:=o.type) E O hn;refine⟨p,.int .i64 n,w,g,.inl ?_,Gh.le.refl g,r,by simp only[V]⟩;rw[f .len rfl,C,D];simp[builtin,k]
   ·trivial
  ·rename_i kt et E;split
   ·rename_i id hx;split
    ·rename_i es cl Z;rw[hx]at O;simp only[V]at O;obtain⟨c0,hc0,hv0⟩:=O;obtain⟨_,_,⟨ents,n,hb1,hb2,_⟩,_⟩:=r.g7 id c0 _ hc0 Z;refine⟨_,_,⟨rfl,rfl⟩,.int .i64 es.length,w,g,.inl ?_,Gh.le.refl g,r,by simp only[V]⟩;rw[f .len rfl,C,D];have hsz:ents.size=es.length:=by have:=hb2.len;simpa using this
     simp[builtin,hv0,Builtin.len_,run_underlying E,MapKept.run_getObj_map hb1,hsz,goInt]
    ·trivial
   ·trivial
  ·trivial
 ·rename_i t u s x hts has;have C:c.argTypes=#[t,u]:=by grind
  obtain⟨M,m,D,rfl,rfl⟩:∃M m,c.args=#[M,m]/\s=ev env M/\x=ev env m:=by
   rcases S:c.args.toList with _|⟨y,_|⟨z,_|⟨q,rest⟩⟩⟩<;>simp[S]at has
   grind
  have H:yo M=true/\yo m=true:=by simp_all
  have hVs:=(V.ev N H.1).w5 (P:=P) (t:=t);have F:=(V.ev N H.2).w5 (P:=P) (t:=u);have J:∀(e:TypeId)(Y:TypeDesc),P.underlying t=aa (.slice e)->P.underlying u=aa Y->zhX Y ->
    Fits P B w0 g a o w (match P.info? e with
     |some i=>if i.bytes<=65536/\0<i.size/\(i.zero.map (·.cells.size))=aa i.size then(match oU i.size (w5 P u (ev env m))with
      |some G=>ovh (pq h i.size (w5 P t (ev env M)) G)
      |none=>.fail)else .fail
     |none=>.fail):=by
   intro e Y Q E hdu;split
   ·rename_i i hi;split
    ·rename_i hc1;obtain⟨hby,hpos,hzz⟩:=hc1;obtain⟨z,hz,hzs⟩:∃z,i.zero=aa z/\z.cells.size=i.size:=by
      simp_all
     split
     ·rename_i G d;rcases hap:pq h i.size (w5 P t (ev env M)) G with _|⟨s',h'⟩
      ·trivial
      ·show tC P B w0 g a o w s' h';have K:∀(A:List Value),(∀e∈G,e.length=i.size)->VA g G.flatten A->G.flatten.all AV.pure=true ->
         (∀W:World,(∀a v,w.cell? a=aa v->W.cell? a=aa v)->dw P i.size G.length (a.eval m) A W)->tC P B w0 g a o w s' h':=by
        intro A S hva hpu hn;obtain⟨v,w',g',k,p,h3,h4⟩:=zhP (ty:=o.type) r Q E hdu hi hz hzs hby hVs S hva hpu hn hap;refine⟨v,w',g',.inl ?_,p,h3,h4⟩;rw[f .append rfl,C,D];simp[builtin,k]
       have fP:∀(es:List (List AV)) (R:Option Addr) (c:Nat),a.eval m=.slice R es.length c->(es=[] \/ ∃b o,R=aa ⟨b,o,none⟩/\VE g b i.size o es)->G=es->tC P B w0 g a o w s' h':=by
        rintro es R c L hes rfl
        rcases hes with rfl|⟨b,oo,rfl,hve⟩
        ·refine K [] (by simp) (by simp[VA]) rfl λW _=>⟨by rw[L];rfl,?_⟩
         rw[L];cases R with
         |none=>simp[Builtin.firstCells]
         |some R=>simp[Builtin.firstCells,loadCells,loadCellsFrom]
        ·obtain⟨k,p⟩:=eo.1 hve;obtain⟨us,U,hup,hΦ⟩:=p.aq;refine K us k U hup λW hW=>?_;rw[L];refine dw.slice (by rw[<- U.length,xg k]) λj v T=>?_;rw[vm];exact hW _ _ (r.eK _ _ _ (hΦ j v T))
       generalize hgx:w5 P u (ev env m)=xx at d F;unfold oU at d;split at d
       ·split at d
        ·rename_i X;cases d;subst X;simp only[V]at F
         grind
        ·cases d
       ·split at d
        ·rename_i X;cases d;subst X;simp only[V]at F
         grind
        ·cases d
       ·rename_i s;split at d
        ·rename_i X;cases d;simp only[V]at F;obtain⟨k,p⟩:=F;refine K (strCells ⟨s.toArray⟩) (λe N=>?_) ?_ (by rw[zbA,List.all_map];exact oB.2 λ_ _=>rfl) λW _=>?_
         ·grind
         ·rw[zbA];exact zkx s
         ·rw[k];have:=dw.str (P:=P) (size:=i.size) (s:=⟨s.toArray⟩) (w:=W);rw[zfj]at this
          simp_all
        ·cases d
       ·cases d
     ·trivial
    ·trivial
   ·trivial
  split
  ·rename_i e e' Q E;exact J e _ Q E (.inr ⟨_,rfl⟩)
  ·rename_i e Q E;exact J e _ Q E (.inl rfl)
  ·trivial
 ·rename_i x rs has;refine Fits.oo λv T=>?_;have l:=VL.evs N (xs:=c.args.toList) I;rw[has]at l;simp only[VL]at l;obtain⟨y,G,d,hy,hr⟩:=l;obtain⟨u,k,p⟩:=zjT (P:=P) (w:=w) false hy hr T;refine⟨u,w,g,.inl ?_,Gh.le.refl g,r,p⟩;rw[f .min rfl];simp only[s5,mb]at k;simp[builtin,Builtin.min_,d,k]
 ·rename_i x rs has;refine Fits.oo λv T=>?_;have l:=VL.evs N (xs:=c.args.toList) I;rw[has]at l;simp only[VL]at l;obtain⟨y,G,d,hy,hr⟩:=l;obtain⟨u,k,p⟩:=zjT (P:=P) (w:=w) true hy hr T;refine⟨u,w,g,.inl ?_,Gh.le.refl g,r,p⟩;rw[f .max rfl];simp only[oS]at k;simp[builtin,Builtin.max_,d,k]
 ·trivial
end
end Go.Vv
