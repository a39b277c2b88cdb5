/- Maps, proved. -/
import Derived.Test.YtonoilllklmacaaGreatVvF
import Derived.MapKept
import Derived.Carry
import Derived.Lib.OthersKept
set_option linter.all false
namespace Go.Vv
open Go Go.RowKit Go.Lib
variable {kt t et:TypeId} {a b k m:AV} {x y mv kv xv:Value} {r:Bool} {h':AH}
section
variable {P:Program} {w:World} {g:Gh} {h:AH} {B:Nat} {w0:World}

theorem eq1_same {k:Kd} {a b:AV} {x y:Value} (ha:V g a x) (hb:V g b y) (hr:aEq1 k a b=some true):x=y/\∀n,Instr.sameBits n x x=true:=by
 unfold aEq1 at hr;split at hr
 ·simp only [V] at ha hb;simp at hr;subst ha hb hr;exact ⟨rfl,λn=>by unfold Instr.sameBits;cases n <;> simp⟩
 ·split at hr
  ·rename_i hk;simp only [V] at ha hb;simp at hr;subst ha hb hr hk;exact ⟨rfl,λn=>by unfold Instr.sameBits;cases n <;> simp⟩
  ·cases hr
 ·simp only [V] at ha hb;simp at hr;subst hr;exact ⟨by simp_all,λn=>by rw [ha.1];unfold Instr.sameBits;cases n <;> exact uW (α:=Array UInt8) _⟩
 ·cases hr
theorem eqL_same:∀{d:List Kd} {a5 bs:List AV} {xs c:List Value},VA g a5 xs->VA g bs c->aEqL d a5 bs=some true->xs=c/\∀n,(xs.zip xs).all (λ(x,y)=>Instr.sameBits n x y)=true
 | [],[],[],xs,c,ha,hb,_=>by
  simp only [VA] at ha hb
  simp_all
 | k::d,a::a5,b::bs,xs,c,ha,hb,hr=>by
  simp only [VA] at ha hb;obtain ⟨x,e,rfl,⟨_,l⟩,f⟩:=ha;obtain ⟨y,s,rfl,⟨_,u⟩,j⟩:=hb;simp only [aEqL] at hr;split at hr
  ·rename_i p q o i;simp only [ui,ud] at hr;obtain ⟨rfl,rfl⟩:=hr;obtain ⟨rfl,z⟩:=eq1_same l u o;obtain ⟨rfl,v⟩:=eqL_same f j i
   simp_all
  ·cases hr
 | [],[],_::_,_,_,_,_,hr=>by simp [aEqL] at hr
 | [],_::_,_,_,_,_,_,hr=>by simp [aEqL] at hr
 | _::_,[],_,_,_,_,_,hr=>by simp [aEqL] at hr
 | _::_,_::_,[],_,_,_,_,hr=>by simp [aEqL] at hr

theorem key_same (d:V g a x) (e:V g b y) (c:xe P kt a b=some true):x=y/\Instr.sameBits 10000 x x=true:=by
 unfold xe at c;split at c
 ·exact ⟨(eq1_same d e c).1,(eq1_same d e c).2 _⟩
 ·exact ⟨(eq1_same d e c).1,(eq1_same d e c).2 _⟩
 ·exact ⟨(eq1_same d e c).1,(eq1_same d e c).2 _⟩
 ·split at c
  ·split at c
   ·simp only [V] at d e;obtain ⟨us,rfl,j⟩:=d;obtain ⟨vs,rfl,f⟩:=e;obtain ⟨i,l⟩:=eqL_same j f c;have:us=vs:=ph i;subst this;refine ⟨rfl,?_⟩;rw [show (10000:Nat)=9999+1 from rfl];unfold Instr.sameBits
    simp_all
   ·cases c
  ·cases c
 ·cases c

def CkE (P:Program) (w:World) (d:Nat):Prop:=∀{t:TypeId} {ks:List Kd} {i:TypeInfo},wh P d t=some ks->P.info? t=some i->i.size=ks.length->∀{xs:Array Value} {off:Nat},off+ks.length<=xs.size->∀(b:Bool) D,d<=D ->
  ∃u,(part t xs off).run P w=.ok u w/\(Instr.checkKey b D t u).run P w=.ok () w
theorem ckF {d:Nat} (E:CkE P w d) (b:Bool):∀(fs:List Field) (acc:Nat) {ks:List Kd},plainFs P d fs acc=some ks->∀{xs:Array Value},acc+ks.length<=xs.size->∀D,d<=D ->
  (forIn fs PUnit.unit fun (f : Field) (_ : PUnit) => (if f.name ≠ "_" then (part f.type xs f.offset) >>= fun u => Instr.checkKey b D f.type u >>= fun _ => pure (ForInStep.yield PUnit.unit) else pure (ForInStep.yield PUnit.unit) : Sem (ForInStep PUnit))).run P w = .ok PUnit.unit w
 | [],acc,ks,h,xs,hx,D,_=>by simp
 | f::fs,acc,ks,h,xs,hx,D,hD=>by
  simp only [plainFs,plainFsOf] at h;split at h
  ·rename_i hf;split at h
   ·rename_i k1 i hk1 hi;split at h
    ·rename_i hsz;split at h
     ·rename_i k2 hk2;cases h;simp only [uq] at hx;obtain ⟨u,e1,e2⟩:=E hk1 hi hsz (xs:=xs) (off:=acc) (by omega) b D hD;have e4:=ckF E b fs (acc+i.size) hk2 (xs:=xs) (by omega) D hD
      simp_all
     ·cases h
    ·cases h
   ·cases h
  ·cases h
theorem ckE:∀(d:Nat),CkE P w d:=by
 intro d
 induction d with
 | zero=>intro t o i h;simp [wh] at h
 | succ d ih =>
  intro t o i h hi p xs off z b D s;obtain ⟨D,rfl⟩:∃D',D=D'+1:=⟨D - 1,by omega⟩
  have one:∀(dd:TypeDesc),o.length=1->P.underlying t=some dd->yA dd=false->(∀u,(Instr.checkKey b (D+1) t u).run P w=.ok () w)->∃u,(part t xs off).run P w=.ok u w/\(Instr.checkKey b (D+1) t u).run P w=.ok () w:=by
   intro dd v f q n;have l:off < xs.size:=by omega
   exact ⟨xs[off],by simp [part,run_agg f,q,l],n _⟩
  simp only [wh] at h;split at h
  ·rename_i c;cases h;exact one _ rfl c rfl λu=>by simp [Instr.checkKey,run_underlying c]
  ·rename_i j c;cases h;exact one _ rfl c rfl λu=>by simp [Instr.checkKey,run_underlying c]
  ·rename_i c;cases h;exact one _ rfl c rfl λu=>by simp [Instr.checkKey,run_underlying c]
  ·rename_i fs c;split at h
   ·cases h
   ·have e:(part t xs off).run P w=.ok (.agg (xs.extract off (off+i.size))) w:=by simp [part,run_agg c,yA,xy hi]
    refine ⟨_,e,?_⟩;have:=ckF ih b fs.toList 0 h (xs:=xs.extract off (off+i.size)) (by simp;omega) D (by omega);simp only [Instr.checkKey,Sem.run_bind,run_underlying c,Result.andThen_ok]
    simp_all
  ·cases h
theorem key_okD (f:V g k x) (d:xe P kt k k=some r) (b:Bool) (D:Nat) (l:5<=D):(Instr.checkKey b (D+1) kt x).run P w=.ok () w:=by
 unfold xe at d;split at d
 ·rename_i e;simp [Instr.checkKey,run_underlying e]
 ·rename_i e;simp [Instr.checkKey,run_underlying e]
 ·rename_i e;simp [Instr.checkKey,run_underlying e]
 ·rename_i fs e;split at d
  ·rename_i cs ds;split at d
   ·rename_i i c;simp only [V] at f;obtain ⟨us,rfl,j⟩:=f;have n:i.length<=us.size:=by
     obtain ⟨_,_,_,_,_,o,_⟩:=aEqL_split i (ls:=[]) (by simpa using d);have:=j.toVL.length
     simp_all
    simp only [wh,e] at c;split at c
    ·cases c
    ·have:=ckF (P:=P) (w:=w) (ckE 5) b fs.toList 0 c (xs:=us) (by omega) D l;simp only [Instr.checkKey,Sem.run_bind,run_underlying e,Result.andThen_ok]
     simp_all
   ·cases d
  ·cases d
 ·cases d
theorem key_ok (c:V g k x) (d:xe P kt k k=some r) (b:Bool):(Instr.checkKey b 10000 kt x).run P w=.ok () w:=key_okD c d b 9999 (by omega)
theorem key_eq (f:V g a x) (i:V g b y) (c:xe P kt a b=some r):(Op.equal kt x y).run P w=.ok r w:=by
 unfold Op.equal;show (Op.equalIn 10000 kt x y).run P w=.ok r w;rw [show (10000:Nat)=9999+1 from rfl];unfold xe at c;split at c
 ·rename_i e;exact eq1_run f i c e 9999
 ·rename_i e;exact eq1_run f i c ⟨_,e⟩ 9999
 ·rename_i e;exact eq1_run f i c e 9999
 ·rename_i fs e;split at c
  ·split at c
   ·rename_i p d;simp only [V] at f i;obtain ⟨us,rfl,o⟩:=f;obtain ⟨vs,rfl,n⟩:=i;have j:P.fieldsOf kt=fs:=by simp [Program.fieldsOf,e]
    simp only [wh,e] at d;split at d
    ·cases d
    ·rename_i l;rw [run_equalIn_struct w 9999 kt _ _ (by simp_all) (by simp_all),j];exact eqF (eqE 5) fs.toList 0 d o n (by simp_all) 9999 (by omega)
   ·cases c
  ·cases c
 ·cases c

theorem same_now {d:TypeDesc} (hd:P.underlying kt=some d) {a b:AV} {x y:Value} {r:Bool} (f:V g a x) (e:V g b y) (l:xe P kt a b=some r) {n:Bool} (hs:Instr.sameNow d x y=some n):n=r:=by
 have one:∀{k:Kd},aEq1 k a b=some r->n=r:=by
  intro k c;unfold aEq1 at c;split at c
  ·simp only [V] at f e;subst f e;cases c;cases d <;> simp [Instr.sameNow] at hs
   simp_all
  ·split at c
   ·rename_i p;simp only [V] at f e;subst f e p;cases c;cases d <;> simp [Instr.sameNow] at hs
    simp_all
   ·cases c
  ·simp only [V] at f e;obtain ⟨rfl,_⟩:=f;obtain ⟨rfl,_⟩:=e;cases c;cases d <;> simp [Instr.sameNow] at hs;rw [<- hs];have:∀j i:List UInt8,((⟨j.toArray⟩:ByteArray)==⟨i.toArray⟩)=(j==i):=λj i=>by
    have:((⟨j.toArray⟩:ByteArray)==⟨i.toArray⟩)=(j.toArray==i.toArray):=rfl
    simp_all
   simp_all
  ·cases c
 unfold xe at l;rw [hd] at l;split at l
 ·grind
 ·grind
 ·grind
 ·rename_i fs o;injection o with o;subst o;simp [Instr.sameNow] at hs
 ·cases l
theorem find_sound {kt:TypeId} {d:TypeDesc} (hd:P.underlying kt=some d) {k:AV} {x:Value} (f:V g k x):∀{es:List (AV×AV)} {ents:List MapEntry} {i:Nat} {res:Option (Nat×AV)},ME g es ents->aFind P kt k es i=some res ->
  ∃r,(Instr.findAsking kt x ents i).run P w=.ok r w/\(∀n,Instr.findNow d x ents i=some n->n=r) /\
   (match res with
       | none=>r=none
       | some (j,v)=>∃m e,j=i+m/\ents[m]?=some e/\(∃o,es[m]?=some (o,v)/\xe P kt k o=some true/\V g o e.key)/\e.key=x/\V g v e.val/\r=some (j,e.val))
 | [],ents,i,res,hm,hf=>by
  simp only [ME] at hm;subst hm;simp only [aFind,ui] at hf;subst hf;exact ⟨none,rfl,λn h=>by simp [Instr.findNow] at h;exact h.symm,rfl⟩
 | (o,v)::es,ents,i,res,hm,hf=>by
  simp only [ME] at hm;obtain ⟨e,s,rfl,l,A,F⟩:=hm;simp only [aFind] at hf;split at hf
  ·rename_i c;cases hf;obtain ⟨G,_⟩:=key_same f l c;refine ⟨some (i,e.val),by simp [Instr.findAsking,key_eq (w:=w) f l c],λn h=>?_,0,e,rfl,rfl,⟨o,rfl,c,l⟩,G.symm,A,rfl⟩;simp only [Instr.findNow] at h;split at h
   ·simp_all
   ·rename_i hs;exact absurd (same_now hd f l c hs) (by simp)
   ·cases h
  ·rename_i c;obtain ⟨r,z,k2,u⟩:=find_sound hd f F hf;refine ⟨r,by simp [Instr.findAsking,key_eq (w:=w) f l c,z],λn h=>?_,?_⟩
   ·simp only [Instr.findNow] at h;split at h
    ·rename_i hs;exact absurd (same_now hd f l c hs) (by simp)
    ·simp_all
    ·cases h
   ·cases res with
    | none=>exact u
    | some p =>
     obtain ⟨m,C,H,J,⟨q,I,E⟩,D⟩:=u;exact ⟨m+1,C,by omega,by simp_all,⟨q,by simp_all,E⟩,D⟩
  ·cases hf
theorem find_run (i:V g k x) {es:List (AV×AV)} {ents:List MapEntry} {res:Option (Nat×AV)} (f:ME g es ents) (l:aFind P kt k es 0=some res) (o:(P.underlying kt).isSome) :
  (match res with
       | none=>(Instr.findKey kt x ents).run P w=.ok none w
       | some (j,v)=>∃e,ents[j]?=some e/\(∃c,es[j]?=some (c,v)/\xe P kt k c=some true/\V g c e.key)/\e.key=x/\V g v e.val/\(Instr.findKey kt x ents).run P w=.ok (some (j,e.val)) w):=by
 obtain ⟨d,hd⟩:=pt.1 o;obtain ⟨r,n,p,q⟩:=find_sound (w:=w) hd i f l;have key:(Instr.findKey kt x ents).run P w=.ok r w:=by
  simp only [Instr.findKey,Sem.run_bind,run_underlying hd,Result.andThen_ok];split
  ·simp_all
  ·exact n
 grind
theorem key_und (c:xe P kt a b=some r):(P.underlying kt).isSome:=by
 unfold xe at c
 grind
theorem aZero_sound {z:AV} (c:aZero P t=some z):∃u,(zeroValue t).run P w=.ok u w/\V g z u:=by
 unfold aZero at c;split at c
 ·rename_i i hi;split at c
  ·rename_i u l;split at c
   ·rename_i e;refine ⟨u,by simp [zeroValue,run_typeInfo w hi,l],?_⟩;have d:=V.cv (g:=g) e;split at c
    ·rename_i cs hc;cases c;rw [hc] at d;simp only [V] at d ⊢;obtain ⟨vs,j,f⟩:=d;exact ⟨vs,j,f.fix⟩
    ·cases c;exact d.tyfix
   ·cases c
  ·cases c
 ·cases c

theorem ME.len:∀{es:List (AV×AV)} {ents:List MapEntry},ME g es ents->ents.length=es.length
 | [],_,h=>by simp only [ME] at h;subst h;rfl
 | (_,_)::r,_,h=>by
  simp only [ME] at h;obtain ⟨e,s,rfl,_,_,c⟩:=h;simp [c.len]
theorem ME.push:∀{es:List (AV×AV)} {ents:List MapEntry} {k v:AV} {e:MapEntry},ME g es ents->V g k e.key->V g v e.val->ME g (es++[(k,v)]) (ents++[e])
 | [],_,k,v,e,h,hk,hv=>by simp only [ME] at h;subst h;simp only [uI,ME];exact ⟨e,[],rfl,hk,hv,rfl⟩
 | (_,_)::r,_,k,v,e,h,hk,hv=>by
  simp only [ME] at h;obtain ⟨f,s,rfl,d,c,i⟩:=h;simp only [tP,ME];exact ⟨f,s++[e],rfl,d,c,i.push hk hv⟩
theorem ME.put:∀{es:List (AV×AV)} {ents:List MapEntry} (j:Nat) {k v:AV} {e:MapEntry},ME g es ents->V g k e.key->V g v e.val->ME g (es.set j (k,v)) (ents.set j e)
 | [],_,j,k,v,e,h,hk,hv=>by simp only [ME] at h;subst h;simp [ME]
 | (_,_)::r,_,j,k,v,e,h,hk,hv=>by
  simp only [ME] at h;obtain ⟨i,s,rfl,f,d,c⟩:=h;cases j with
  | zero=>simp only [uf,ME];exact ⟨e,s,rfl,hk,hv,c⟩
  | succ j=>simp only [ue,ME];exact ⟨i,s.set j e,rfl,f,d,c.put j hk hv⟩
theorem ME.getE:∀{es:List (AV×AV)} {ents:List MapEntry} {j:Nat} {p:AV×AV},ME g es ents->es[j]?=some p->∃e,ents[j]?=some e/\V g p.1 e.key/\V g p.2 e.val
 | [],_,j,p,h,hp=>by simp at hp
 | (_,_)::r,_,j,p,h,hp=>by
  simp only [ME] at h;obtain ⟨i,s,rfl,d,c,f⟩:=h;cases j with
  | zero=>simp at hp;subst hp;exact ⟨i,rfl,d,c⟩
  | succ j=>simpa using f.getE (by simp_all)

theorem V.zc1 {a:AV} {v:Value} (h:V g a v):V g a.zc1 v:=by
 unfold AV.zc1;split
 ·simp only [V] at h ⊢
  grind
 ·exact h
theorem VA.zc1:∀{a5:List AV} {vs:List Value},VA g a5 vs->VA g (a5.map AV.zc1) vs
 | [],_,h=>by simpa using h
 | a::r,_,h=>by
  simp only [VA] at h;obtain ⟨v,s,rfl,⟨h0,d⟩,c⟩:=h;simp only [uw,VA];exact ⟨v,s,rfl,⟨by cases a <;> first | exact h0 | rfl,d.zc1⟩,VA.zc1 c⟩
theorem V.zcl {a:AV} {v:Value} (h:V g a v):V g a.zcl v:=by
 unfold AV.zcl;split
 ·simp only [V] at h ⊢;obtain ⟨vs,e,c⟩:=h;exact ⟨vs,e,c.zc1⟩
 ·exact h
theorem aZeroM_sound {z:AV} (c:aZeroM P t=some z):∃u,(zeroValue t).run P w=.ok u w/\V g z u:=by
 unfold aZeroM at c;rw [sd] at c;obtain ⟨y,e,rfl⟩:=c;obtain ⟨u,d,f⟩:=aZero_sound (w:=w) (g:=g) e;exact ⟨u,d,f.zcl⟩
theorem lookup_sound {ok:Bool} {v:AV} (r:Rel B w0 g h w) (D:P.underlying t=some (.map kt et)) (A:V g m mv) (q:V g k kv) (d:aLookup P h kt et ok m k=some v) :
  ∃u,(Instr.lookup t mv kv ok).run P w=.ok u w/\V g v u:=by
 unfold aLookup at d;split at d
 case isFalse=>cases d
 rename_i f;have F:=λb=>key_ok (w:=w) q f b;have i:∀{x:AV} {u:Value} (b:Bool),V g x u->V g (withOk ok x b) (if ok then .tuple #[u,.bool b] else u):=λ{x u} b H=>by
  unfold withOk;cases ok
  ·exact H
  ·simp only [ut,V];exact ⟨_,rfl,by simp only [VL];exact ⟨_,_,rfl,H,_,_,rfl,by simp only [V],rfl⟩⟩
 split at d
 ·simp only [V] at A;subst A;rcases s:aZeroM P et with _ | z
  ·simp_all
  ·simp [s] at d;subst d;obtain ⟨u,E,C⟩:=aZeroM_sound (w:=w) (g:=g) s;have G:(Instr.findKey kt kv []).run P w=.ok none w:=by
    have:=find_run (w:=w) (es:=[]) (ents:=[]) (res:=none) q rfl rfl (key_und f);omega
   exact ⟨_,by simp [Instr.lookup,run_underlying D,F,G,E],i false C⟩
 ·rename_i id;simp only [V] at A;obtain ⟨c,hc,rfl⟩:=A;split at d
  ·rename_i es N I;obtain ⟨_,_,⟨ents,n,p,o,_⟩,_⟩:=r.blk id c _ hc I;split at d
   ·rename_i j x l;cases d;obtain ⟨e,L,_,M,K,J⟩:=find_run (w:=w) q o l (key_und f);exact ⟨_,by simp [Instr.lookup,run_underlying D,MapKept.run_getObj_map p,F,J],i true K⟩
   ·rename_i z l s;cases d;have G:=find_run (w:=w) q o l (key_und f);obtain ⟨u,E,C⟩:=aZeroM_sound (w:=w) (g:=g) s;exact ⟨_,by simp [Instr.lookup,run_underlying D,MapKept.run_getObj_map p,F,G,E],i false C⟩
   ·cases d
  ·cases d
 ·cases d

theorem modify_list {α:Type} {a:Array α} {i:Nat} {f:α->α} {e:α} (h:a.toList[i]?=some e):(a.modify i f).toList=a.toList.set i (f e):=by
 apply uZ
 grind
theorem keeps_run (h:Instr.sameBits 10000 x x=true):(Instr.keyThatStays x x).run P w=.ok x w:=by simp [Instr.keyThatStays,h]
theorem Rel.mapPut (r:Rel B w0 g h w) {id c:Nat} {k:Blk} (hc:g.σ[id]?=some c) (l:h.blk id=some k) (hd:k ≠ .dead) {es:List (AV×AV)} {j:Nat} {ents:Array MapEntry} {n:Nat} {o:Obj} (p:w.heap[c]?=some o) (q:ME g es ents.toList)
  (f:j=0->n=ents.size/\∀(i:Nat) (e:MapEntry),ents[i]?=some e->e.born=i):Rel B w0 g (h.put id (.mapo es j)) { w with heap:=w.heap.setIfInBounds c (.map ents n) }:=by
 have d:c < w.heap.size:=(uN.1 p).1;refine r.putObj hc l hd rfl rfl rfl (by simp) (λb s=>by grind) ?_;exact ⟨ents,n,by simp [d],q,f⟩

theorem set_same {w:World} {c:Nat} {o:Obj} (h:w.heap[c]?=some o):({ w with heap:=w.heap.setIfInBounds c o }:World)=w:=by
 have:w.heap.setIfInBounds c o=w.heap:=by
  grind
 rw [this]

theorem entry_sound {v:AV} (r:Rel B w0 g h w) (J:P.underlying t=some (.map kt et)) (O:V g m mv) (s:V g k kv) (f:aEntry P h kt et m k=some (v,h')) :
  ∃u w',(Instr.mapEntry t mv kv).run P w=.ok u w'/\V g v u/\Rel B w0 g h' w':=by
 unfold aEntry at f;split at f
 case isFalse=>cases f
 rename_i l;have M:=λb=>key_ok (w:=w) s l b;split at f
 ·rename_i id;simp only [V] at O;obtain ⟨c,hc,rfl⟩:=O;split at f
  ·rename_i es K;obtain ⟨_,_,⟨ents,n,d,o,H⟩,_⟩:=r.blk id c _ hc K;obtain ⟨N,p⟩:=H rfl;split at f
   ·rename_i j x q;cases f;obtain ⟨e,F,_,L,U,R⟩:=find_run (w:=w) s o q (key_und l);have hs:=keeps_run (P:=P) (w:=w) (key_same s s l).2;have A:ents[j]?=some e:=by simp_all
    have C:(ents.modify j λe=>{ e with key:=kv })=ents:=by
     apply ph;rw [modify_list F];apply uZ;intro i;rw [List.getElem?_set];split
     ·rename_i E;subst E;rw [uz (uc.1 F).1,F,<- L]
     ·rfl
    refine ⟨.tuple #[e.val,goInt e.born],w,?_,?_,r⟩
    ·have D:(setObj c (.map (ents.modify j λe=>{ e with key:=kv }) n)).run P w=.ok () w:=by
      rw [C,MapKept.run_setObj_map _ d,set_same d]
     simp [Instr.mapEntry,run_underlying J,MapKept.run_getObj_map d,M,R,A,L,hs,D]
    ·simp only [V];exact ⟨_,rfl,by simp only [VL];exact ⟨_,_,rfl,U,_,_,rfl,by simp only [V,p j e A];rfl,rfl⟩⟩
   ·rename_i z q S;cases f;have T:=find_run (w:=w) s o q (key_und l);obtain ⟨u,Q,I⟩:=aZeroM_sound (w:=w) (g:=g) S;have G:ents.size=es.length:=by have:=o.len;simpa using this
    refine ⟨.tuple #[u,goInt n],{ w with heap:=w.heap.setIfInBounds c (.map (ents.push { key:=kv,val:=u,born:=n }) (n+1)) },?_,?_,?_⟩
    ·simp [Instr.mapEntry,run_underlying J,MapKept.run_getObj_map d,M,T,Q,MapKept.run_setObj_map _ d]
    ·simp only [V];exact ⟨_,rfl,by simp only [VL];exact ⟨_,_,rfl,I,_,_,rfl,by simp only [V,N,G];rfl,rfl⟩⟩
    ·refine r.mapPut hc K (by simp) d (by rw [Array.toList_push];exact o.push s I) λ_=>⟨by simp [N],λi e hi=>?_⟩
     grind
   ·cases f
  ·cases f
 ·cases f
theorem entryStore_sound {s x:AV} {D:Value} (r:Rel B w0 g h w) (E:V g m mv) (hs:V g s D) (H:V g x xv) (d:aEntryStore h m s x=some h') :
  ∃w',(Instr.entryStore t mv D xv).run P w=.ok () w'/\Rel B w0 g h' w':=by
 unfold aEntryStore at d;split at d
 ·rename_i id L u;simp only [V] at E hs;obtain ⟨c,hc,rfl⟩:=E;subst hs;split at d
  ·rename_i es C;obtain ⟨_,_,⟨ents,n,l,q,z⟩,_⟩:=r.blk id c _ hc C;obtain ⟨I,f⟩:=z rfl;split at d
   ·rename_i h0;split at d
    ·rename_i p G;cases d;obtain ⟨e,F,K,N⟩:=q.getE G;have v:ents[u.toNat]?=some e:=by simp_all
     have o:=(uN.1 v).1;have A:ents.findIdx? (λe=>(e.born:Int)==u)=some u.toNat:=by
      rw [Array.findIdx?_eq_some_iff_getElem];refine ⟨o,?_,λj J=>?_⟩
      ·grind
      ·have:=f j _ (uO (Nat.lt_trans J o))
       grind
     refine ⟨{ w with heap:=w.heap.setIfInBounds c (.map (ents.modify u.toNat λe=>{ e with val:=xv }) n) },?_,?_⟩
     ·simp [Instr.entryStore,MapKept.run_getObj_map l,asInt,asIntOf,A,MapKept.run_setObj_map _ l]
     ·refine r.mapPut hc C (by simp) l (by rw [modify_list F];exact q.put _ K H.zcl) λ_=>⟨by simp [I],λi M hi=>?_⟩
      grind
    ·cases d
   ·cases d
  ·cases d
 ·cases d
theorem mapPut_sound {x:AV} (r:Rel B w0 g h w) (u:P.underlying t=some (.map kt et)) (A:V g m mv) (o:V g k kv) (z:V g x xv) (f:aMapPut P h kt m k x=some h') :
  ∃w',(Instr.mapUpdate t mv kv xv).run P w=.ok () w'/\Rel B w0 g h' w':=by
 unfold aMapPut at f;split at f
 case isFalse=>cases f
 rename_i i;have v:=λb=>key_ok (w:=w) o i b;split at f
 ·rename_i id;simp only [V] at A;obtain ⟨c,hc,rfl⟩:=A;split at f
  ·rename_i es J s;obtain ⟨_,_,⟨ents,n,d,l,G⟩,_⟩:=r.blk id c _ hc s;split at f
   ·rename_i j H p;cases f;obtain ⟨e,C,_,D,I,E⟩:=find_run (w:=w) o l p (key_und i);have hs:=keeps_run (P:=P) (w:=w) (key_same o o i).2;have q:ents[j]?=some e:=by simp_all
    refine ⟨{ w with heap:=w.heap.setIfInBounds c (.map (ents.modify j λe=>{ e with key:=kv,val:=xv }) n) },?_,?_⟩
    ·simp [Instr.mapUpdate,run_underlying u,MapKept.run_getObj_map d,v,E,q,D,hs,MapKept.run_setObj_map _ d]
    ·refine r.mapPut hc s (by simp) d (by rw [modify_list C];exact l.put _ o z.zcl) λh0=>?_
     grind
   ·rename_i p;cases f;have F:=find_run (w:=w) o l p (key_und i);refine ⟨{ w with heap:=w.heap.setIfInBounds c (.map (ents.push { key:=kv,val:=xv,born:=n }) (n+1)) },?_,?_⟩
    ·simp [Instr.mapUpdate,run_underlying u,MapKept.run_getObj_map d,v,F,MapKept.run_setObj_map _ d]
    ·refine r.mapPut hc s (by simp) d (by rw [Array.toList_push];exact l.push o z.zcl) λh0=>?_
     grind
   ·cases f
  ·cases f
 ·cases f
end
end Go.Vv
namespace Go.Vv
open Go Go.RowKit Go.Lib
section
variable {P:Program} {w:World} {g:Gh} {h:AH} {B:Nat} {w0:World}

def qi (P:Program) (B:Nat) (w0:World) (g:Gh) (a:Act) (o:Oper) (w:World) (v:AV) (h':AH):Prop :=
 ∃u w' g',((execOp a.eval o).run P w=.ok (.value u) w' \/ ((execOp a.eval o).run P w=.ok .skip w'/\u=undef))/\g.le g'/\Rel B w0 g' h' w'/\V g' v u

def Fits (P:Program) (B:Nat) (w0:World) (g:Gh) (a:Act) (o:Oper) (w:World):Res->Prop
 | .ok v h'=>qi P B w0 g a o w v h'
 | .len n v h'=>n<=maxLen/\qi P B w0 g a o w v h'
 | .call f args=>∃vs:Array Value,(execOp a.eval o).run P w=(callFunc f vs).run P w/\VL g args vs.toList
 | .round id args=>∃(c:Nat) (vs:Array Value),g.σ[id]?=some c/\(execOp a.eval o).run P w=(Instr.yield c vs).run P w/\VL g args vs.toList
 | .any S=>∃v h',S v h'/\qi P B w0 g a o w v h'
 | .fail=>True

theorem Fits.oo {a:Act} {o:Oper} {x:Option AV} (b:∀v,x=some v->qi P B w0 g a o w v h):Fits P B w0 g a o w (oo h x):=by
 cases x with
 | none=>trivial
 | some v=>exact b v rfl

theorem VO.ev {env:List AV} {a:Act} (b:VL g env a.tmps.toList) {x:Option Operand} (c:x.all yv=true):VO g (x.map (ev env)) (x.map a.eval):=by
 cases x with
 | none=>rfl
 | some x=>exact ⟨_,rfl,V.ev b (by simp_all)⟩
theorem VL.evs {env:List AV} {a:Act} (b:VL g env a.tmps.toList):∀{xs:List Operand},xs.all yv=true->VL g (xs.map (ev env)) (xs.map a.eval)
 | [],_=>by simp [VL]
 | x::r,h=>by
  simp only [tf,ud] at h;simp only [uw];exact VL.cons (V.ev b h.1) (VL.evs b h.2)
theorem VL.evs_fix {env:List AV} {a:Act} (b:VL g env a.tmps.toList):∀{xs:List Operand} {ts:List TypeId},xs.all yv=true->xs.length=ts.length->VL g ((xs.zip ts).map λp=>tyfix P p.2 (ev env p.1)) (xs.map a.eval)
 | [],_,_,_=>by simp [VL]
 | x::r,[],_,h=>by simp at h
 | x::r,t::ts,h,hl=>by
  simp only [tf,ud] at h;simp only [List.zip_cons_cons,uw];exact VL.cons (V.ev b h.1).tyfix (VL.evs_fix b h.2 (by simp_all))

theorem V.map_tyfix {t:TypeId} {x:Option AV} {v:AV} (a:x.map (Vv.tyfix P t)=some v):∃v',x=some v'/\v=Vv.tyfix P t v':=by
 cases x with
 | none=>cases a
 | some v'=>injection a with a;exact ⟨v',rfl,a.symm⟩

theorem bytes_flat:∀s:List UInt8,(s.map λb=>[AV.int .u8 b.toNat]).flatten=s.map λb=>AV.int .u8 b.toNat
 | []=>rfl
 | b::r=>by simp only [uw,uU,bytes_flat r];rfl
theorem bytes_VA:∀s:List UInt8,VA g (s.map λb=>AV.int .u8 b.toNat) (s.map λb=>Value.int .u8 b.toNat)
 | []=>by simp [VA]
 | b::r=>by simp only [uw,VA];exact ⟨_,_,rfl,⟨rfl,by simp only [V]⟩,bytes_VA r⟩

theorem mm_sound (mx:Bool):∀{r:List AV} {a v:AV} {x:Value} {xs:List Value},V g a x->VL g r xs->aMM mx a r=some v->∃u,(xs.foldlM (if mx then Builtin.max2 else Builtin.min2) x).run P w=.ok u w/\V g v u:=by
 intro r
 induction r with
 | nil =>
  intro a v x xs i d c;simp only [VL] at d;subst d;simp only [aMM,ui] at c
  simp_all
 | cons b r ih =>
  intro a v x xs i d c;simp only [VL] at d;obtain ⟨y,p,rfl,j,d⟩:=d;unfold aMM at c;split at c
  ·simp_all
  ·rename_i k n k' m rest f;cases f;split at c
   ·rename_i o;subst o;simp only [V] at i j;subst i j;obtain ⟨u,e,l⟩:=ih (x:=.int k (if mx then (if m > n then m else n) else (if m < n then m else n))) (by simp only [V]) d c;refine ⟨u,?_,l⟩;rw [List.foldlM_cons];cases mx
    ·simp only [um,uJ,Builtin.min2] at e ⊢;exact e
    ·simp only [ut,Builtin.max2] at e ⊢;exact e
   ·cases c
  ·cases c
theorem builtin_fits (r:Rel B w0 g h w) {a:Act} {env:List AV} (O:VL g env a.tmps.toList) {o:Oper} {c:Call} (ho:o.op=.call c) {b:Builtin} (hc:c.callee=.builtin b) (hok:c.args.all yv=true) :
  Fits P B w0 g a o w (aBuiltin P h b c.argTypes.toList (c.args.toList.map (ev env))):=by
 have f:∀(bb:Builtin),b=bb->(execOp a.eval o).run P w=(builtin bb c.argTypes o.type (c.args.map λ| .const _=>true | _=>false) (c.args.map a.eval)).run P w:=by
  intro bb Z;subst Z;simp only [execOp,ho,resolve,hc,Sem.run_bind,Sem.run_pure,Result.andThen_ok,invoke];rfl
 have J:c.args.toList.all yv=true:=by simp_all
 unfold aBuiltin;split
 ·rename_i t x hts has;have D:c.argTypes=#[t]:=by grind
  obtain ⟨p,E,rfl⟩:∃p,c.args=#[p]/\x=ev env p:=by
   rcases T:c.args.toList with _ | ⟨y,_ | ⟨z,rest⟩⟩ <;> simp [T] at has
   grind
  have Q:=V.ev O (x:=p) (by simp_all);split
  ·rename_i F;split
   ·rename_i s hx;rw [hx] at Q;obtain ⟨k,A⟩:=len_str_sound (P:=P) (w:=w) (ty:=o.type) F Q;refine ⟨A,.int .i64 s.length,w,g,.inl ?_,Gh.le.refl g,r,by simp only [V]⟩;rw [f .len rfl,D,E];simp [builtin,k]
   ·trivial
  ·rename_i e F;split
   ·rename_i n hn;obtain ⟨k,A⟩:=len_sl_sound (P:=P) (w:=w) (ty:=o.type) F Q hn;refine ⟨A,.int .i64 n,w,g,.inl ?_,Gh.le.refl g,r,by simp only [V]⟩;rw [f .len rfl,D,E];simp [builtin,k]
   ·trivial
  ·rename_i kt et F;split
   ·rename_i id hx;split
    ·rename_i es cl Z;rw [hx] at Q;simp only [V] at Q;obtain ⟨c0,hc0,hv0⟩:=Q;obtain ⟨_,_,⟨ents,n,hb1,hb2,_⟩,_⟩:=r.blk id c0 _ hc0 Z;refine ⟨_,_,⟨rfl,rfl⟩,.int .i64 es.length,w,g,.inl ?_,Gh.le.refl g,r,by simp only [V]⟩;rw [f .len rfl,D,E];have hsz:ents.size=es.length:=by have:=hb2.len;simpa using this
     simp [builtin,hv0,Builtin.len_,run_underlying F,MapKept.run_getObj_map hb1,hsz,goInt]
    ·trivial
   ·trivial
  ·trivial
 ·rename_i t u s x hts has;have D:c.argTypes=#[t,u]:=by grind
  obtain ⟨N,p,E,rfl,rfl⟩:∃N p,c.args=#[N,p]/\s=ev env N/\x=ev env p:=by
   rcases T:c.args.toList with _ | ⟨y,_ | ⟨z,_ | ⟨q,rest⟩⟩⟩ <;> simp [T] at has
   grind
  have H:yv N=true/\yv p=true:=by simp_all
  have hVs:=(V.ev O H.1).tyfix (P:=P) (t:=t);have m:=(V.ev O H.2).tyfix (P:=P) (t:=u);have K:∀(e:TypeId) (Y:TypeDesc),P.underlying t=some (.slice e)->P.underlying u=some Y->NotInt Y ->
    Fits P B w0 g a o w (match P.info? e with
     | some i=>if i.bytes<=65536/\0 < i.size/\(i.zero.map (·.cells.size))=some i.size then (match aNews i.size (tyfix P u (ev env p)) with
      | some G=>ovh (aAppend h i.size (tyfix P t (ev env N)) G)
      | none=>.fail) else .fail
     | none=>.fail):=by
   intro e Y R F hdu;split
   ·rename_i i hi;split
    ·rename_i hc1;obtain ⟨hby,hpos,hzz⟩:=hc1;obtain ⟨z,hz,hzs⟩:∃z,i.zero=some z/\z.cells.size=i.size:=by
      simp_all
     split
     ·rename_i G d;rcases hap:aAppend h i.size (tyfix P t (ev env N)) G with _ | ⟨s',h'⟩
      ·trivial
      ·show qi P B w0 g a o w s' h';have L:∀(C:List Value),(∀e ∈ G,e.length=i.size)->VA g G.flatten C->G.flatten.all AV.pure=true ->
         (∀W:World,(∀a v,w.cell? a=some v->W.cell? a=some v)->News P i.size G.length (a.eval p) C W)->qi P B w0 g a o w s' h':=by
        intro C T hva hpu hn;obtain ⟨v,w',g',k,A,h3,h4⟩:=append_sound (ty:=o.type) r R F hdu hi hz hzs hby hVs T hva hpu hn hap;refine ⟨v,w',g',.inl ?_,A,h3,h4⟩;rw [f .append rfl,D,E];simp [builtin,k]
       have slc:∀(es:List (List AV)) (S:Option Addr) (c:Nat),a.eval p=.slice S es.length c->(es=[] \/ ∃b o,S=some ⟨b,o,none⟩/\VE g b i.size o es)->G=es->qi P B w0 g a o w s' h':=by
        rintro es S c M hes rfl
        rcases hes with rfl | ⟨b,oo,rfl,hve⟩
        ·refine L [] (by simp) (by simp [VA]) rfl λW _=>⟨by rw [M];rfl,?_⟩
         rw [M];cases S with
         | none=>simp [Builtin.firstCells]
         | some S=>simp [Builtin.firstCells,loadCells,loadCellsFrom]
        ·obtain ⟨k,A⟩:=VE_iff.1 hve;obtain ⟨us,X,hup,hΦ⟩:=A.toVA;refine L us k X hup λW hW=>?_;rw [M];refine News.slice (by rw [<- X.length,yT k]) λj v U=>?_;rw [wi];exact hW _ _ (r.phi _ _ _ (hΦ j v U))
       generalize hgx:tyfix P u (ev env p)=xx at d m;unfold aNews at d;split at d
       ·split at d
        ·rename_i I;cases d;subst I;simp only [V] at m
         grind
        ·cases d
       ·split at d
        ·rename_i I;cases d;subst I;simp only [V] at m
         grind
        ·cases d
       ·split at d
        ·rename_i I;cases d;subst I;simp only [V] at m
         grind
        ·cases d
       ·split at d
        ·rename_i I;cases d;subst I;simp only [V] at m
         grind
        ·cases d
       ·rename_i s;split at d
        ·rename_i I;cases d;simp only [V] at m;obtain ⟨k,A⟩:=m;refine L (strCells ⟨s.toArray⟩) (λe O=>?_) ?_ (by rw [bytes_flat,List.all_map];exact ur.2 λ_ _=>rfl) λW _=>?_
         ·grind
         ·rw [bytes_flat];exact bytes_VA s
         ·rw [k];have:=News.str (P:=P) (size:=i.size) (s:=⟨s.toArray⟩) (w:=W);rw [str_size] at this
          simp_all
        ·cases d
       ·cases d
     ·trivial
    ·trivial
   ·trivial
  split
  ·rename_i e e' R F;exact K e _ R F (.inr ⟨_,rfl⟩)
  ·rename_i e R F;exact K e _ R F (.inl rfl)
  ·trivial
 ·rename_i x rs has;refine Fits.oo λv U=>?_;have l:=VL.evs O (xs:=c.args.toList) J;rw [has] at l;simp only [VL] at l;obtain ⟨y,G,d,hy,hr⟩:=l;obtain ⟨u,k,A⟩:=mm_sound (P:=P) (w:=w) false hy hr U;refine ⟨u,w,g,.inl ?_,Gh.le.refl g,r,A⟩;rw [f .min rfl];simp only [um,uJ] at k;simp [builtin,Builtin.min_,d,k]
 ·rename_i x rs has;refine Fits.oo λv U=>?_;have l:=VL.evs O (xs:=c.args.toList) J;rw [has] at l;simp only [VL] at l;obtain ⟨y,G,d,hy,hr⟩:=l;obtain ⟨u,k,A⟩:=mm_sound (P:=P) (w:=w) true hy hr U;refine ⟨u,w,g,.inl ?_,Gh.le.refl g,r,A⟩;rw [f .max rfl];simp only [ut] at k;simp [builtin,Builtin.max_,d,k]
 ·trivial
end
end Go.Vv
namespace Go.Vv
open Go Go.RowKit Go.Lib
section
variable {P:Program} {w:World} {g:Gh} {h:AH} {B:Nat} {w0:World}

theorem stay {a:Act} {o:Oper} (r:Rel B w0 g h w) {v:AV} {u:Value} (h1:(execOp a.eval o).run P w=.ok (.value u) w) (h2:V g v u):qi P B w0 g a o w v h:=⟨u,w,g,.inl h1,Gh.le.refl g,r,h2⟩

theorem recv_sound (r:Rel B w0 g h w) {t:TypeId} {v b:AV} {u:Value} {name:String} {f:FuncId} (hr:aRecv P h t v name=some (f,b)) (hv:V g v u) (args:Array Value) :
  ∃x,(callMethod (.iface t u) name args).run P w=(callFunc f (#[x]++args)).run P w/\V g b x:=by
 unfold aRecv at hr;split at hr
 case h_2=>cases hr
 rename_i i hi;split at hr
 case h_2=>cases hr
 rename_i m hm;split at hr
 case isFalse=>cases hr
 rename_i hp;have hp':m.path=#[]:=by simp_all
 rw [Array.find?_toList] at hm;have key : ∀ x p, (receiverAt t (.val u) p (some ((name.splitOn ".").getLastD name))).run P w = .ok x w → m.func = some (f, p) →
   (callMethod (.iface t u) name args).run P w=(callFunc f (#[x]++args)).run P w:=λx p hx hf=>by
  have hn:P.types.size+Made.depth=(P.types.size+99)+1:=rfl;simp only [callMethod,Sem.run_bind,run_program,Result.andThen_ok];rw [hn];generalize P.types.size+99=n;rw [method];have hti:(typeInfo t).run P w=.ok i w:=by simp [typeInfo,hi]
  simp only [Sem.run_bind,hti,Result.andThen_ok,hm,hp',hf];have h0:(follow (#[]:Array FieldStep).toList t (.val u)).run P w=.ok (t,.val u) w:=rfl
  simp_all
 split at hr
 case h_2=>cases hr
 rename_i f' p hf;split at hr
 ·rename_i e ht;simp only [ui,t6] at hr;obtain ⟨rfl,rfl⟩:=hr;exact ⟨u,key u _ (by simp [receiverAt,run_underlying ht,Place.get]) hf,hv⟩
 ·rename_i e ht;split at hr
  ·rename_i id off d j hd hj;rw [sd] at hr;obtain ⟨x,hx,hr⟩:=hr;simp only [t6] at hr;obtain ⟨rfl,rfl⟩:=hr;obtain ⟨y,h1,h2⟩:=load_sound r hd hj hv hx;simp only [V] at hv;obtain ⟨c,hc,rfl⟩:=hv;refine ⟨y,key y _ ?_ hf,h2.tyfix⟩;simp only [Instr.loadAt,Instr.sureAddr] at h1;have hw : ∀ nm, (Builtin.ssaWrapNilChk_ #[t] t #[.pointer (some ⟨c, off, none⟩), strVal "", strVal nm]).run P w = .ok (.pointer (some ⟨c, off, none⟩)) w := fun _ => rfl;simp only [receiverAt,Sem.run_bind,run_underlying ht,Result.andThen_ok,Place.get,Sem.run_pure,hw,asAddr]
   simp_all
  ·cases hr
 ·rename_i d hne ht;simp only [ui,t6] at hr;obtain ⟨rfl,rfl⟩:=hr;refine ⟨u,key u _ ?_ hf,hv⟩;simp only [receiverAt,Sem.run_bind,run_underlying ht,Result.andThen_ok];rfl
 ·cases hr
theorem astep_fits (r:Rel B w0 g h w) {a:Act} {env:List AV} (D:VL g env a.tmps.toList) (o:Oper):Fits P B w0 g a o w (zF P o env h):=by
 unfold zF;split
 ·-- move
  rename_i x C;split
  ·rename_i A;exact stay r (by simp [execOp,C]) (V.ev D A).tyfix
  ·trivial
 ·-- assign
  rename_i x C;split
  ·rename_i A;exact stay r (by simp [execOp,C]) (V.ev D A).tyfix
  ·trivial
 ·-- pick
  rename_i c x y C;split
  ·rename_i A;simp only [ud] at A;split
   ·rename_i t ht;have hc:=V.ev D A.2;rw [ht] at hc;simp only [V] at hc;refine stay r (u:=if t then a.eval x else a.eval y) (by simp [execOp,C,hc,asBool]) ?_;cases t
    ·exact V.ev D A.1.2
    ·exact V.ev D A.1.1
   ·trivial
  ·trivial
 ·-- alloc
  rename_i t C;split
  ·rename_i cs X;obtain ⟨i,z,hi,hzz,hva⟩:=wW (g:=g) X;have hsl:=r.slen;refine ⟨.pointer (some ⟨w.heap.size,0,none⟩),w.alloc (.cells z.cells t),g.addS w.heap.size,.inl ?_,g.le_addS _,r.newCells t hva,?_⟩
   ·simp [execOp,C,Instr.alloc,run_zero hi hzz,newVar,newRow]
   ·simp only [V,Gh.addS]
    simp_all
  ·trivial
 ·-- box
  rename_i t x C;split
  ·rename_i A;split
   ·rename_i cs hc;have hva:=((V.ev D A).tyfix (P:=P) (t:=t)).cells hc;have hsl:=r.slen;refine ⟨.pointer (some ⟨w.heap.size,0,none⟩),w.alloc (.cells (a.eval x).cells t),g.addS w.heap.size,.inl ?_,g.le_addS _,r.newCells t hva,?_⟩
    ·simp [execOp,C,Instr.box,newVar,newRow]
    ·simp only [V,Gh.addS]
     simp_all
   ·trivial
  ·trivial
 ·-- build
  rename_i t parts C;split
  ·rename_i A;have R:∀out,(∃u,(Instr.build t (parts.map λ(i,x)=>(i,a.eval x))).run P w=.ok u w/\V g (.agg out) u)->qi P B w0 g a o w (.agg out) h:=by
    rintro out ⟨u,E,G⟩
    exact stay r (by simp [execOp,C,E]) G
   split
   ·rename_i fs z I X;split
    ·rename_i pl hpl;refine Fits.oo λv H=>?_;rcases T:qd (λi=>pl[i]?) z (xA P (.struct fs) env parts) with _ | out
     ·simp_all
     ·simp [T] at H;subst H;exact R out (build_sound D A X (.inl ⟨fs,pl,I,hpl,T⟩))
    ·trivial
   ·rename_i n e z I X;split
    ·rename_i j hj;refine Fits.oo λv H=>?_;rcases T:qd (λi=>some (i * j.size,j.size)) z (xA P (.array n e) env parts) with _ | out
     ·simp_all
     ·simp [T] at H;subst H;exact R out (build_sound D A X (.inr ⟨n,e,j,I,hj,T⟩))
    ·trivial
   ·trivial
  ·trivial
 ·-- load
  rename_i t x C;split
  ·rename_i d i hd hi;refine Fits.oo λv H=>?_;obtain ⟨v',J,rfl⟩:=V.map_tyfix H;obtain ⟨u,E,G⟩:=load_sound r hd hi (p:=ev env x) (pv:=a.eval x) (by
    cases x with
    | tmp t=>exact V.ev D rfl
    | const c =>
     -- a constant is no address
     simp only [ev] at J;exfalso;unfold aLoad at J;unfold cv at J;split at J <;> first
      | (rename_i hh;split at hh <;> first | cases hh | (unfold cv1 at hh;split at hh <;> cases hh))
      | cases J
    | global n=>exact V.ev D rfl
    | func f=>exact V.ev D rfl) J
   exact stay r (by simp [execOp,C,E]) G.tyfix
  ·trivial
 ·-- store
  rename_i t x y C;split
  ·rename_i A;split
   ·rename_i i hi;rcases hs:aStore h i.size (ev env x) (tyfix P t (ev env y)) with _ | h'
    ·trivial
    ·show qi P B w0 g a o w aundef h';have hp:V g (ev env x) (a.eval x):=by
      cases x with
      | tmp t=>exact V.ev D rfl
      | const c =>
       simp only [ev] at hs;exfalso;unfold aStore at hs;unfold cv at hs;split at hs <;> first
        | (rename_i hh _;split at hh <;> first | cases hh | (unfold cv1 at hh;split at hh <;> cases hh))
        | cases hs
      | global n=>exact V.ev D rfl
      | func f=>exact V.ev D rfl
     obtain ⟨w',E,G⟩:=store_sound r hi hp (V.ev D A).tyfix hs;exact ⟨undef,w',g,.inr ⟨by simp [execOp,C,E],rfl⟩,Gh.le.refl g,G,V.ofUndef⟩
   ·trivial
  ·trivial
 ·-- nilCheck
  rename_i x C;split
  ·rename_i A;have F:=V.ev D A;split
   ·rename_i id off L;rw [L] at F;have N:=F;simp only [V] at F;obtain ⟨c,hc,O⟩:=F;exact stay r (u:=a.eval x) (by simp [execOp,C,O]) N
   ·rename_i cs L;rw [L] at F;have N:=F;simp only [V] at F;obtain ⟨b,oo,O,_⟩:=F;exact stay r (u:=a.eval x) (by simp [execOp,C,O]) N
   ·rename_i id q k n p L;rw [L] at F;have N:=F;simp only [V] at F;obtain ⟨b,oo,O,_⟩:=F;exact stay r (u:=a.eval x) (by simp [execOp,C,O]) N
   ·rename_i m L;rw [L] at F;have N:=F;simp only [V] at F;obtain ⟨b,oo,O,_⟩:=F;exact stay r (u:=a.eval x) (by simp [execOp,C,O]) N
   ·rename_i f a5 bs L;rw [L] at F;have N:=F;simp only [V] at F;obtain ⟨fs,cs,O,_⟩:=F;exact stay r (u:=a.eval x) (by simp [execOp,C,O]) N
   ·trivial
  ·trivial
 ·-- binOp
  rename_i op t x y yt C;split
  ·rename_i A;simp only [ud] at A;split
   ·rename_i S hS;obtain ⟨b,E,G⟩:=nilq_sound (w:=w) (ox:=x) (oy:=y) (V.ev D A.1) (V.ev D A.2) hS;exact ⟨_,_,G,stay r (u:=.bool b) (by simp only [execOp,C,Sem.run_bind] at E ⊢;rw [E];rfl) (by simp only [V])⟩
   refine Fits.oo λv H=>?_;obtain ⟨u,E,G⟩:∃u,(do eqGuard op t x y (a.eval x) (a.eval y);binOp op t (a.eval x) (a.eval y):Sem Value).run P w=.ok u w/\V g v u:=by
    rcases Option.or_eq_some_iff.1 H with H | ⟨_,H⟩
    ·exact bin_sound (V.ev D A.1) (V.ev D A.2) H
    ·exact ifc_sound (V.ev D A.1) (V.ev D A.2) H
   exact stay r (by simp only [execOp,C,Sem.run_bind] at E ⊢;rw [E];rfl) G
  ·trivial
 ·-- unOp
  rename_i op t x C;split
  ·rename_i A;refine Fits.oo λv H=>?_;obtain ⟨u,E,G⟩:=un_sound (P:=P) (w:=w) (V.ev D A) H;exact stay r (by simp [execOp,C,E]) G
  ·trivial
 ·-- convert
  rename_i s t x C;split
  ·rename_i A;split
   ·rename_i ds d hs hd;refine Fits.oo λv H=>?_;obtain ⟨u,E,G⟩:=convert_sound (w:=w) hs hd (V.ev D A) H;exact stay r (by simp [execOp,C,E]) G
   ·trivial
  ·trivial
 ·-- makeFunc
  rename_i f a5 bs C;split
  ·rename_i A;simp only [ud] at A;refine stay r (u:=.func f (a5.map a.eval) (bs.map a.eval)) (by simp [execOp,C,Instr.makeFunc]) ?_;simp only [V];exact ⟨_,_,rfl,by simpa using VL.evs D (by simp_all),by simpa using VL.evs D (by simp_all)⟩
  ·trivial
 ·-- slice
  rename_i t x lo hi mx C;split
  ·rename_i A;simp only [ud] at A;obtain ⟨⟨⟨hok1,M⟩,Z⟩,Y⟩:=A;have F:=V.ev D hok1;have R:∀v,(∃y,(Instr.sliceAt t (a.eval x) (lo.map a.eval) (hi.map a.eval) (mx.map a.eval)).run P w=.ok y w/\V g v y)->qi P B w0 g a o w v h:=by
    rintro v ⟨u,E,G⟩
    exact stay r (by simp [execOp,C,E]) G
   split
   ·rename_i I;split
    ·rename_i s hs;rw [hs] at F;exact Fits.oo λv H=>R v (slice_str_sound I F (VO.ev D M) (VO.ev D Z) (VO.ev D Y) H)
    ·trivial
   ·rename_i e I;split
    ·rename_i i hi';have W:=F.tyfix (P:=P) (t:=t);split
     ·rename_i k es hs;rw [hs] at W;split
      ·rename_i hk;subst hk;refine Fits.oo λv H=>R v ?_;simp only [V] at W;obtain ⟨ad,c,K,E,G,Q⟩:=W;rw [K];exact slice_sl_sound I hi' E G Q (λh=>by cases h) (VO.ev D M) (VO.ev D Z) (VO.ev D Y) H
      ·trivial
     ·rename_i q k es hs;rw [hs] at W;split
      ·rename_i hk;subst hk;refine Fits.oo λv H=>R v ?_;simp only [V] at W;obtain ⟨ad,c,K,E,G,Q,h4⟩:=W;rw [K];refine slice_sl_sound I hi' E G Q (λh=>?_) (VO.ev D M) (VO.ev D Z) (VO.ev D Y) H
       simp_all
      ·trivial
     ·trivial
    ·trivial
   ·rename_i n e I;split
    ·rename_i i hi';split
     ·rename_i id off kl l hs hlo;split
      ·rename_i hc;obtain ⟨h0,E,hm⟩:=hc;rw [hs] at F;simp only [V] at F;obtain ⟨c,hσ,K⟩:=F;obtain ⟨U,rfl,hl⟩:∃U,lo=some U/\ev env U=.int kl l:=by
        cases lo with
        | none=>cases hlo
        | some U=>exact ⟨U,rfl,by simpa using hlo⟩
       have hV3:=V.ev D (by simpa using M:yv U=true);rw [hl] at hV3;simp only [V] at hV3;have hal:P.arrayLen t=n:=by simp [Program.arrayLen,I]
       have hel:P.elem t=e:=by simp [Program.elem,I]
       have:=run_sliceAt_array_l (P:=P) w t ⟨c,off,none⟩ (by rw [hal,hel];exact I) kl l h0 (by rw [hal];omega);rw [hel,hal,xy hi',Result.andThen_ok] at this;refine stay r (u:=slicedAt ⟨c,off,none⟩ l.toNat n n i.size) (by simp [execOp,C,K,hV3,this]) ?_;simp only [V,slicedAt,uM (show ¬ n=l.toNat by omega)];exact ⟨c,n - l.toNat,hσ,by simp [Addr.add],by omega,by omega⟩
      ·trivial
     ·trivial
    ·trivial
   ·trivial
  ·trivial
 ·-- fieldAddr
  rename_i t x f C;split
  ·rename_i off u T;split
   ·rename_i i hi;split
    ·trivial
    ·rename_i X;simp only [not_or,Bool.not_eq_false] at X;refine Fits.oo λv H=>?_;obtain ⟨y,E,G⟩:=fieldAddr_sound (w:=w) T hi X.1 (V.ev D X.2) H;exact stay r (by simp [execOp,C,E]) G
   ·trivial
  ·trivial
 ·-- field
  rename_i t x f C;split
  ·rename_i off u T;split
   ·rename_i d i hd hi;split
    ·rename_i A;refine Fits.oo λv H=>?_;obtain ⟨v',J,rfl⟩:=V.map_tyfix H;obtain ⟨y,E,G⟩:=field_sound (w:=w) T hd hi (V.ev D A) J;exact stay r (by simp [execOp,C,E]) G.tyfix
    ·trivial
   ·trivial
  ·trivial
 ·-- indexAddr
  rename_i t x i C;split
  ·rename_i A;simp only [ud] at A;split
   ·rename_i e I;split
    ·rename_i j hj;refine Fits.oo λv H=>?_;obtain ⟨y,E,G⟩:=indexAddr_slice_sound (w:=w) I hj (V.ev D A.1) (V.ev D A.2) H;exact stay r (by simp [execOp,C,E]) G
    ·trivial
   ·rename_i n e I;split
    ·rename_i j hj;refine Fits.oo λv H=>?_;obtain ⟨y,E,G⟩:=indexAddr_array_sound (w:=w) I hj (V.ev D A.1) (V.ev D A.2) H;exact stay r (by simp [execOp,C,E]) G
    ·trivial
   ·trivial
  ·trivial
 ·-- index
  rename_i t x i C;split
  ·rename_i A;simp only [ud] at A;split
   ·rename_i I;refine Fits.oo λv H=>?_;obtain ⟨y,E,G⟩:=index_str_sound (w:=w) I (V.ev D A.1) (V.ev D A.2) H;exact stay r (by simp [execOp,C,E]) G
   ·rename_i n e I;split
    ·rename_i d j hd hj;refine Fits.oo λv H=>?_;obtain ⟨v',J,rfl⟩:=V.map_tyfix H;obtain ⟨y,E,G⟩:=index_agg_sound (w:=w) I hd hj (V.ev D A.1) (V.ev D A.2) J;exact stay r (by simp [execOp,C,E]) G.tyfix
    ·trivial
   ·trivial
  ·trivial
 ·-- extract
  rename_i t i C;split
  ·rename_i A;have F:=V.ev D A;split
   ·rename_i vs L;rw [L] at F;refine Fits.oo λv H=>?_;obtain ⟨v',J,rfl⟩:=V.map_tyfix H;simp only [V] at F;obtain ⟨us,I,hVL⟩:=F;obtain ⟨u,E,G⟩:=hVL.get _ _ J;rw [uF] at E;exact stay r (by simp [execOp,C,I,Instr.extract,E]) G.tyfix
   ·trivial
  ·trivial
 ·-- buildSlice
  rename_i t n parts C;split
  ·rename_i A;split
   ·rename_i e I;split
    ·rename_i i z hi X;split
     ·rename_i hc;split
      ·rename_i cs T;split
       ·rename_i out hcl;obtain ⟨u,w',g',E,G,Q,h4⟩:=buildSlice_sound r D A I hi X hc.1 hc.2.1 hc.2.2 T hcl;exact ⟨u,w',g',.inl (by simp [execOp,C,E]),G,Q,h4⟩
       ·trivial
      ·trivial
     ·trivial
    ·trivial
   ·trivial
  ·trivial
 ·-- call
  rename_i c C;split
  ·rename_i A;simp only [ud,rR] at A;split
   ·rename_i b hc;exact builtin_fits r D C hc A.1
   ·rename_i f hc;split
    ·trivial
    ·rename_i T;have F:=V.ev D (x:=f) (by simp_all);split
     ·rename_i gg first caps L
      rw [L] at F;simp only [V] at F;obtain ⟨fs,cs,K,E,G⟩:=F;refine ⟨fs++c.args.map a.eval++cs,?_,?_⟩
      ·simp [execOp,C,resolve,hc,K,Deferred.ofValue,invoke]
      ·simp only [tw];have Q:=VL.evs_fix (P:=P) D (xs:=c.args.toList) (ts:=c.argTypes.toList) (by grind) (by simp_all);exact VL.append (VL.append E (by simp_all)) G
     ·rename_i id L;rw [L] at F;simp only [V] at F;obtain ⟨cc,hc1,K⟩:=F;refine ⟨cc,c.args.map a.eval,hc1,?_,?_⟩
      ·simp [execOp,C,resolve,hc,K,Deferred.ofValue,invoke]
      ·have Q:=VL.evs_fix (P:=P) D (xs:=c.args.toList) (ts:=c.argTypes.toList) (by grind) (by simp_all)
       simp_all
     ·trivial
   ·rename_i x name hc;split
    ·trivial
    ·rename_i T;have F:=V.ev D (x:=x) (by simp_all);split
     ·rename_i t v L;rw [L] at F;simp only [V] at F;obtain ⟨u,K,H⟩:=F;split
      ·rename_i gg b hr;obtain ⟨y,E,G⟩:=recv_sound r hr H (c.args.map a.eval);refine ⟨#[y]++c.args.map a.eval,?_,?_⟩
       ·have hx2:((#[Value.iface t u]++c.args.map a.eval).extract 1 (#[Value.iface t u]++c.args.map a.eval).size)=c.args.map a.eval:=by
         simp_all
        have hx1:(#[Value.iface t u]++c.args.map a.eval)[0]?=some (.iface t u):=by
         rw [<- uF];simp
        rw [<- E];simp only [execOp,C,resolve,hc,K,Sem.run_bind,Sem.run_pure,Result.andThen_ok,invoke]
        grind
       ·have Q:=VL.evs_fix (P:=P) D (xs:=c.args.toList) (ts:=c.argTypes.toList) (by grind) (by simp_all);simp only [tw,tP,uI];exact VL.cons G (by simp_all)
      ·trivial
     ·trivial
  ·trivial
 ·-- range
  rename_i t x C;split
  ·rename_i A;split
   ·rename_i s I L;have F:=V.ev D A;rw [L] at F;simp only [V] at F;have hsl:g.σ.length=h.blks.length:=r.slen;refine ⟨.pointer (some ⟨w.heap.size,0,none⟩),w.alloc (.stringIter ⟨s.toArray⟩ 0),g.addS w.heap.size,.inl ?_,g.le_addS _,r.newBlk _ _ (heap_alloc_new w _),?_⟩
    ·have:=run_range_string (P:=P) w t ⟨s.toArray⟩ I;simp [execOp,C,F.1,this,World.iter]
    ·simp only [V,Gh.addS]
     simp_all
   ·trivial
  ·trivial
 ·-- next
  rename_i x str C;split
  ·rename_i A;simp only [ud] at A;have F:=V.ev D A.1;unfold aNext;split
   ·rename_i id L;rw [L] at F;simp only [V] at F;obtain ⟨c,hc,hpv⟩:=F;split
    ·rename_i s pos hb;obtain ⟨hB,hlt,M,_⟩:=r.blk id c _ hc hb;have hk:w.heap[c]?=some (.stringIter ⟨s.toArray⟩ pos):=M;have hsz:(⟨s.toArray⟩:ByteArray).size=s.length:=by rfl
     split
     ·rename_i hp;have E:=run_next_any_at (P:=P) w c ⟨s.toArray⟩ pos o.type hk (by omega);refine ⟨_,_,g,.inl (by simp only [execOp,C,A.2,hpv,Sem.run_bind,E,Result.andThen_ok,Sem.run_pure];rfl),Gh.le.refl g,?_,?_⟩
      ·exact r.putObj hc hb (by simp) rfl rfl rfl (iterAt_size _ _ _ _) (λb hb'=>iterAt_other w c b _ _ hb') (iterAt_heap w c _ pos _ hk)
      ·simp only [V];refine ⟨_,rfl,?_⟩;simp only [VL];exact ⟨_,_,rfl,by simp only [V],_,_,rfl,by simp only [V],_,_,rfl,by rfl,rfl⟩
     ·rename_i hp;have E:=run_next_end_at (P:=P) w c ⟨s.toArray⟩ pos o.type hk (by omega);refine stay r (u:=.tuple #[.bool false]) (by simp only [execOp,C,A.2,hpv,Sem.run_bind,E,Result.andThen_ok,Sem.run_pure]) ?_;simp only [V];exact ⟨_,rfl,by simp only [VL];exact ⟨_,_,rfl,by simp only [V],rfl⟩⟩
    ·trivial
   ·trivial
  ·trivial
 ·-- makeMap
  rename_i t C;have hsl:g.σ.length=h.blks.length:=r.slen;refine ⟨.map (some w.heap.size),w.alloc (.map #[] 0),g.addS w.heap.size,.inl ?_,g.le_addS _,r.newBlk _ _ ⟨#[],0,heap_alloc_new w _,by simp [ME],λ_=>⟨rfl,λi e h=>by simp at h⟩⟩,?_⟩
  ·simp [execOp,C,run_makeMap]
  ·simp only [V,Gh.addS]
   simp_all
 ·-- lookup
  rename_i t x i ok C;split
  ·rename_i A;simp only [ud] at A;split
   ·rename_i kt et I;refine Fits.oo λv H=>?_;obtain ⟨u,E,G⟩:=lookup_sound r I (V.ev D A.1) (V.ev D A.2) H;exact stay r (by simp [execOp,C,E]) G
   ·trivial
  ·trivial
 ·-- mapEntry
  rename_i t x i C;split
  ·rename_i A;simp only [ud] at A;split
   ·rename_i kt et I;rcases hs:aEntry P h kt et (ev env x) (ev env i) with _ | ⟨v,h'⟩
    ·trivial
    ·obtain ⟨u,w',E,G,Q⟩:=entry_sound r I (V.ev D A.1) (V.ev D A.2) hs;exact ⟨u,w',g,.inl (by simp [execOp,C,E]),Gh.le.refl g,Q,G⟩
   ·trivial
  ·trivial
 ·-- entryStore
  rename_i t x i y C;split
  ·rename_i A;simp only [ud] at A;rcases hs:aEntryStore h (ev env x) (ev env i) (ev env y) with _ | h'
   ·trivial
   ·obtain ⟨w',E,Q⟩:=entryStore_sound (P:=P) (t:=t) r (V.ev D A.1.1) (V.ev D A.1.2) (V.ev D A.2) hs;exact ⟨undef,w',g,.inr ⟨by simp [execOp,C,E],rfl⟩,Gh.le.refl g,Q,V.ofUndef⟩
  ·trivial
 ·-- mapUpdate
  rename_i t x i y C;split
  ·rename_i A;simp only [ud] at A;split
   ·rename_i kt et I;rcases hs:aMapPut P h kt (ev env x) (ev env i) (ev env y) with _ | h'
    ·trivial
    ·obtain ⟨w',E,Q⟩:=mapPut_sound r I (V.ev D A.1.1) (V.ev D A.1.2) (V.ev D A.2) hs;exact ⟨undef,w',g,.inr ⟨by simp [execOp,C,E],rfl⟩,Gh.le.refl g,Q,V.ofUndef⟩
   ·trivial
  ·trivial
 ·trivial
end
end Go.Vv
namespace Go.Vv
open Go Go.RowKit Go.Lib
variable {n:Nat}

mutual
def AV.low (n m:Nat):AV->Bool
 | .ptr id _ | .msl _ id _ _ | .map id | .yld id=>decide (id < n)
 | .osl (some t) _ _=>decide (t < m)
 | .rsl _ t _ _ | .rptr _ t _ _ _ | .rsuf _ t _ _ _=>decide (t < m)
 | .fn _ a b=>zR n m a&&zR n m b
 | .iface _ v=>v.low n m
 | .agg cs=>zR n m cs
 | .tup vs=>zR n m vs
 | _=>true
def zR (n m:Nat):List AV->Bool
 | []=>true
 | a::r=>a.low n m&&zR n m r
end
theorem AV.low_of_pure {m:Nat} {a:AV} (h:a.pure=true):a.low n m=true:=by
 unfold AV.pure at h;split at h <;> first | rfl | cases h

def Gh.cut (g:Gh) (n m:Nat):Gh:={ g with σ:=g.σ.take n,τ:=g.τ.take m }
theorem take_sub {α:Type} {l:List α} {i:Nat} {x:α} (e:(l.take n)[i]?=some x):l[i]?=some x:=by
 grind
theorem x9 {α:Type} {l:List α} {i:Nat} {x:α} (h:i < n) (e:l[i]?=some x):(l.take n)[i]?=some x:=by simp_all

mutual
theorem V.cut {g:Gh} {n m:Nat}:∀(a:AV) (v:Value),a.low n m=true->V g a v->V (g.cut n m) a v
 | .bool _,_,_,hv=>by simpa only [V] using hv
 | .int _ _,_,_,hv=>by simpa only [V] using hv
 | .str _,_,_,hv=>by simpa only [V] using hv
 | .nilp,_,_,hv=>by simpa only [V] using hv
 | .nilm,_,_,hv=>by simpa only [V] using hv
 | .nilf,_,_,hv=>by simpa only [V] using hv
 | .nili,_,_,hv=>by simpa only [V] using hv
 | .nilsl,_,_,hv=>by simpa only [V] using hv
 | .ptr id off,_,hl,hv=>by
  simp only [V] at hv ⊢;simp only [AV.low,uk] at hl;obtain ⟨c,hc,e⟩:=hv;exact ⟨c,x9 hl hc,e⟩
 | .fptr cs,_,_,hv=>by
  simp only [V] at hv ⊢;obtain ⟨b,o,e,hc⟩:=hv;exact ⟨b,o,e,VC.cut b o cs hc⟩
 | .sl k es,_,_,hv=>by
  simp only [V] at hv ⊢;obtain ⟨a,c,e,d,i,j⟩:=hv;exact ⟨a,c,e,d,i,j.imp id λ⟨b,o,e,hh⟩=>⟨b,o,e,VE.cut b k o es hh⟩⟩
 | .osl q k es,_,hl,hv=>by
  simp only [V] at hv ⊢;obtain ⟨a,c,e,d,i,j,w⟩:=hv;refine ⟨a,c,e,d,i,j.imp id λ⟨b,o,e,hh⟩=>⟨b,o,e,VE.cut b k o es hh⟩,?_⟩;cases q with
  | none=>exact w
  | some id =>
   simp only [AV.low,uk] at hl;obtain ⟨t,l,y⟩:=w;exact ⟨t,x9 hl l,y⟩
 | .msl _ id _ _,_,hl,hv=>by
  simp only [V] at hv ⊢;simp only [AV.low,uk] at hl;obtain ⟨c,cap,hc,e⟩:=hv;exact ⟨c,cap,x9 hl hc,e⟩
 | .rsl _ _ _ _,_,hl,hv=>by
  simp only [V] at hv ⊢;simp only [AV.low,uk] at hl;obtain ⟨a,c,e,d,i,t,l,j⟩:=hv;exact ⟨a,c,e,d,i,t,x9 hl l,j⟩
 | .rsuf _ _ _ _ _,_,hl,hv=>by
  simp only [V] at hv ⊢;simp only [AV.low,uk] at hl;obtain ⟨a,c,e,d,t,l,j⟩:=hv;exact ⟨a,c,e,d,t,x9 hl l,j⟩
 | .rptr _ _ _ _ _,_,hl,hv=>by
  simp only [V] at hv ⊢;simp only [AV.low,uk] at hl;obtain ⟨b,q,e,t,l,j⟩:=hv;exact ⟨b,q,e,t,x9 hl l,j⟩
 | .map id,_,hl,hv=>by
  simp only [V] at hv ⊢;simp only [AV.low,uk] at hl;obtain ⟨c,hc,e⟩:=hv;exact ⟨c,x9 hl hc,e⟩
 | .fn f a5 bs,_,hl,hv=>by
  simp only [V] at hv ⊢;simp only [AV.low,ud] at hl;obtain ⟨fs,cs,e,d,i⟩:=hv;exact ⟨fs,cs,e,VL.cut a5 _ hl.1 d,VL.cut bs _ hl.2 i⟩
 | .iface t x,_,hl,hv=>by
  simp only [V] at hv ⊢;simp only [AV.low] at hl;obtain ⟨u,e,d⟩:=hv;exact ⟨u,e,V.cut x u hl d⟩
 | .agg cs,_,hl,hv=>by
  simp only [V] at hv ⊢;simp only [AV.low] at hl;obtain ⟨vs,e,d⟩:=hv;exact ⟨vs,e,VA.cut cs _ hl d⟩
 | .tup xs,_,hl,hv=>by
  simp only [V] at hv ⊢;simp only [AV.low] at hl;obtain ⟨vs,e,d⟩:=hv;exact ⟨vs,e,VL.cut xs _ hl d⟩
 | .glob _,_,_,hv=>by simpa only [V] using hv
 | .yld id,_,hl,hv=>by
  simp only [V] at hv ⊢;simp only [AV.low,uk] at hl;obtain ⟨c,hc,e⟩:=hv;exact ⟨c,x9 hl hc,e⟩
 | .bsl k es,_,_,hv=>by
  simp only [V] at hv ⊢;obtain ⟨a,c,e,d,i,j⟩:=hv;exact ⟨a,c,e,d,i,j.imp id λ⟨b,o,e,hh,p⟩=>⟨b,o,e,VE.cut b k o es hh,p⟩⟩
 | .nsl k es,_,_,hv=>by
  simp only [V] at hv ⊢;obtain ⟨a,c,e,d,i,j⟩:=hv;exact ⟨a,c,e,d,i,j.imp id λ⟨b,o,e,hh,p⟩=>⟨b,o,e,VE.cut b k o es hh,p⟩⟩
 | .hsl k es,_,_,hv=>by
  simp only [V] at hv ⊢;obtain ⟨a,c,e,d,i,j⟩:=hv;exact ⟨a,c,e,d,i,j.imp id λ⟨b,o,e,hh⟩=>⟨b,o,e,VEh.cut b k o es hh⟩⟩
 | .hfp cs,_,_,hv=>by
  simp only [V] at hv ⊢;obtain ⟨b,o,e,hc⟩:=hv;exact ⟨b,o,e,VCh.cut b o cs hc⟩
 | .hol _,_,_,hv=>by simpa only [V] using hv
 | .any,_,_,_=>by simp only [V]
 | .opq,_,_,hv=>by simpa only [V] using hv
theorem VL.cut {g:Gh} {n m:Nat}:∀(a5:List AV) (vs:List Value),zR n m a5=true->VL g a5 vs->VL (g.cut n m) a5 vs
 | [],_,_,hv=>by simpa only [VL] using hv
 | a::r,_,hl,hv=>by
  simp only [VL] at hv ⊢;simp only [zR,ud] at hl;obtain ⟨v,s,e,d,i⟩:=hv;exact ⟨v,s,e,V.cut a v hl.1 d,VL.cut r s hl.2 i⟩
theorem VA.cut {g:Gh} {n m:Nat}:∀(a5:List AV) (vs:List Value),zR n m a5=true->VA g a5 vs->VA (g.cut n m) a5 vs
 | [],_,_,hv=>by simpa only [VA] using hv
 | a::r,_,hl,hv=>by
  simp only [VA] at hv ⊢;simp only [zR,ud] at hl;obtain ⟨v,s,e,⟨h0,d⟩,i⟩:=hv;exact ⟨v,s,e,⟨h0,V.cut a v hl.1 d⟩,VA.cut r s hl.2 i⟩
theorem VC.cut {g:Gh} {n m:Nat} (b:Nat):∀(o:Nat) (a5:List AV),VC g b o a5->VC (g.cut n m) b o a5
 | _,[],_=>by simp only [VC]
 | o,a::r,hv=>by
  simp only [VC] at hv ⊢;obtain ⟨⟨v,h0,d,i⟩,j⟩:=hv;exact ⟨⟨v,h0,d,V.cut a v (AV.low_of_pure d) i⟩,VC.cut b (o+1) r j⟩
theorem VE.cut {g:Gh} {n m:Nat} (b k:Nat):∀(o:Nat) (a5:List (List AV)),VE g b k o a5->VE (g.cut n m) b k o a5
 | _,[],_=>by simp only [VE]
 | o,e::r,hv=>by
  simp only [VE] at hv ⊢;obtain ⟨⟨h0,d⟩,i⟩:=hv;exact ⟨⟨h0,VC.cut b o e d⟩,VE.cut b k (o+k) r i⟩
theorem VCh.cut {g:Gh} {n m:Nat} (b:Nat):∀(o:Nat) (a5:List AV),VCh g b o a5->VCh (g.cut n m) b o a5
 | _,[],_=>by simp only [VCh]
 | o,a::r,hv=>by
  simp only [VCh] at hv ⊢;obtain ⟨d,j⟩:=hv;exact ⟨d.imp (λh=>by cases a <;> exact h) λ⟨v,h0,d,i⟩=>⟨v,h0,d,V.cut a v (AV.low_of_pure d) i⟩,VCh.cut b (o+1) r j⟩
theorem VEh.cut {g:Gh} {n m:Nat} (b k:Nat):∀(o:Nat) (a5:List (List AV)),VEh g b k o a5->VEh (g.cut n m) b k o a5
 | _,[],_=>by simp only [VEh]
 | o,e::r,hv=>by
  simp only [VEh] at hv ⊢;obtain ⟨⟨h0,d⟩,i⟩:=hv;exact ⟨⟨h0,VCh.cut b o e d⟩,VEh.cut b k (o+k) r i⟩
end

mutual
theorem V.isLow {g:Gh}:∀(a:AV) (v:Value),V g a v->a.low g.σ.length g.τ.length=true
 | .ptr id off,_,hv=>by
  simp only [V] at hv;obtain ⟨c,hc,_⟩:=hv;simpa [AV.low] using (uc.1 hc).1
 | .msl _ id _ _,_,hv=>by
  simp only [V] at hv;obtain ⟨c,cap,hc,_⟩:=hv;simpa [AV.low] using (uc.1 hc).1
 | .map id,_,hv=>by
  simp only [V] at hv;obtain ⟨c,hc,_⟩:=hv;simpa [AV.low] using (uc.1 hc).1
 | .yld id,_,hv=>by
  simp only [V] at hv;obtain ⟨c,hc,_⟩:=hv;simpa [AV.low] using (uc.1 hc).1
 | .osl q k es,_,hv=>by
  simp only [V] at hv;obtain ⟨a,c,e,d,j,l,m⟩:=hv;cases q with
  | none=>rfl
  | some id =>
   obtain ⟨t,h,_⟩:=m;simpa [AV.low] using (uc.1 h).1
 | .rsl _ i k n,_,hv=>by
  simp only [V] at hv;obtain ⟨a,c,e,d,j,t,h,l⟩:=hv;simpa [AV.low] using (uc.1 h).1
 | .rsuf _ i k n p,_,hv=>by
  simp only [V] at hv;obtain ⟨a,c,e,d,t,h,l⟩:=hv;simpa [AV.low] using (uc.1 h).1
 | .rptr _ i k n p,_,hv=>by
  simp only [V] at hv;obtain ⟨b,q,e,t,h,l⟩:=hv;simpa [AV.low] using (uc.1 h).1
 | .fn f a5 bs,_,hv=>by
  simp only [V] at hv;obtain ⟨fs,cs,e,d,j⟩:=hv;simp [AV.low,VL.isLow a5 _ d,VL.isLow bs _ j]
 | .iface t x,_,hv=>by
  simp only [V] at hv;obtain ⟨u,e,d⟩:=hv;simp [AV.low,V.isLow x u d]
 | .agg cs,_,hv=>by
  simp only [V] at hv;obtain ⟨vs,e,d⟩:=hv;simp [AV.low,VL.isLow cs _ d.toVL]
 | .tup xs,_,hv=>by
  simp only [V] at hv;obtain ⟨vs,e,d⟩:=hv;simp [AV.low,VL.isLow xs _ d]
 | .bool _,_,_ | .int _ _,_,_ | .str _,_,_ | .nilp,_,_ | .nilm,_,_ | .nilf,_,_ | .nili,_,_ | .nilsl,_,_ | .fptr _,_,_ | .sl _ _,_,_ | .glob _,_,_ | .any,_,_ | .opq,_,_ | .bsl _ _,_,_ | .nsl _ _,_,_ | .hsl _ _,_,_ | .hfp _,_,_ | .hol _,_,_=>rfl
theorem VL.isLow {g:Gh}:∀(a5:List AV) (vs:List Value),VL g a5 vs->zR g.σ.length g.τ.length a5=true
 | [],_,_=>rfl
 | a::r,_,hv=>by
  simp only [VL] at hv;obtain ⟨v,s,e,d,j⟩:=hv;simp [zR,V.isLow a v d,VL.isLow r s j]
end

def Blk.low (n m:Nat):Blk->Bool
 | .cells cs=>zR n m cs
 | .mapo es _=>es.all λp=>p.1.low n m&&p.2.low n m
 | .loop _ _ env _ _ _=>zR n m env
 | .row t _ _=>decide (t < m)
 | .miter id _ _=>decide (id < n)
 | .bld _ x=>x.low n m
 | _=>true

theorem ME.cut {g:Gh} {n m:Nat}:∀(a5:List (AV×AV)) (vs:List MapEntry),(a5.all λp=>p.1.low n m&&p.2.low n m)=true->ME g a5 vs->ME (g.cut n m) a5 vs
 | [],_,_,hv=>by simpa only [ME] using hv
 | (k,x)::r,_,hl,hv=>by
  simp only [ME] at hv ⊢;simp only [tf,ud] at hl;obtain ⟨e,s,rfl,b,a,c⟩:=hv;exact ⟨e,s,rfl,V.cut k _ hl.1.1 b,V.cut x _ hl.1.2 a,ME.cut r s hl.2 c⟩
theorem ME.isLow {g:Gh}:∀(a5:List (AV×AV)) (vs:List MapEntry),ME g a5 vs->(a5.all λp=>p.1.low g.σ.length g.τ.length&&p.2.low g.σ.length g.τ.length)=true
 | [],_,_=>rfl
 | (k,x)::r,_,hv=>by
  simp only [ME] at hv;obtain ⟨e,s,rfl,b,a,c⟩:=hv;simp [V.isLow k _ b,V.isLow x _ a,ME.isLow r s c]
theorem BlkOk.cut {g:Gh} {w:World} {c n m:Nat} {k:Blk} (h:k.low n m=true) (f:BlkOk g w c k):BlkOk (g.cut n m) w c k:=by
 cases k with
 | cells cs=>obtain ⟨vs,t,e,b⟩:=f;exact ⟨vs,t,e,VA.cut _ _ h b⟩
 | bld T x=>obtain ⟨a,v,e,b,i,l⟩:=f;exact ⟨a,v,e,b,i,V.cut _ _ h l⟩
 | siter s pos=>exact f
 | mapo es clock=>obtain ⟨ents,n,e,b,i⟩:=f;exact ⟨ents,n,e,ME.cut _ _ h b,i⟩
 | loop st pe env ps assign body=>obtain ⟨fn,tmps,d,e,b⟩:=f;exact ⟨fn,tmps,d,e,VL.cut _ _ h b⟩
 | row _ _ _=>exact f
 | miter id n2 seen=>obtain ⟨j,e,b⟩:=f;exact ⟨j,x9 (by simpa [Blk.low] using h) e,b⟩
 | miter0=>exact f
 | other=>trivial
 | dead=>trivial
theorem BlkOk.isLow {g:Gh} {w:World} {c:Nat} {k:Blk} (e:BlkOk g w c k):k.low g.σ.length g.τ.length=true:=by
 cases k with
 | cells cs=>obtain ⟨vs,t,f,b⟩:=e;exact VL.isLow _ _ b.toVL
 | bld T x=>obtain ⟨a,v,f,b,i,h⟩:=e;exact V.isLow _ _ h
 | siter s pos=>rfl
 | mapo es clock=>obtain ⟨ents,n,f,b,_⟩:=e;exact ME.isLow _ _ b
 | loop st pe env ps assign body=>obtain ⟨fn,tmps,d,f,b⟩:=e;exact VL.isLow _ _ b
 | row _ _ _=>exact e.elim
 | miter id n seen=>obtain ⟨m,f,b⟩:=e;simpa [Blk.low] using (uc.1 f).1
 | miter0=>rfl
 | other=>rfl
 | dead=>rfl
theorem vW {n m:Nat}:∀{a5:List AV},a5.all AV.pure=true->zR n m a5=true
 | [],_=>rfl
 | a::r,h=>by
  simp only [tf,ud] at h;simp [zR,AV.low_of_pure h.1,vW h.2]
theorem RowB.cut {g:Gh} {w:World} {n m:Nat} {k:Blk} (r:k.low n m=true) (a:RowB g w k):RowB (g.cut n m) w k:=by
 cases k with
 | row i k es =>
  obtain ⟨t,p,f,s,l,c,u⟩:=a;refine ⟨t,x9 (by simpa [Blk.low] using r) p,f,s,l,c,u.imp (λh=>h) ?_⟩
  rintro ⟨b,o,e,cs,ty,d,k2,j,v,q⟩
  exact ⟨b,o,e,cs,ty,d,k2,VA.cut _ _ (vW c) j,v,q⟩
 | dead=>trivial
 | _=>exact a.elim
theorem RowB.isLow {g:Gh} {w:World} {k:Blk} (a:RowB g w k):k.low g.σ.length g.τ.length=true:=by
 cases k with
 | row i k es =>
  obtain ⟨t,b,_⟩:=a;simpa [Blk.low] using (uc.1 b).1
 | dead=>rfl
 | _=>exact a.elim
theorem Rel.isLow {B:Nat} {w0 w:World} {g:Gh} {h:AH} (r:Rel B w0 g h w) {i:Nat} {k:Blk} (a:h.blks[i]?=some k):k.low g.σ.length g.τ.length=true:=by
 have b:i < g.σ.length:=by rw [r.slen];exact (uc.1 a).1
 rcases hc:g.σ[i] with _ | c
 ·exact (r.row i k (by simp_all) a).isLow
 ·exact (r.blk i c k (by simp_all) a).2.2.1.isLow
def AH.cut (h:AH) (n m:Nat):AH:={ blks:=h.blks.take n,toks:=h.toks.take m }

theorem Rel.cut {B:Nat} {w0 w:World} {g:Gh} {h:AH} (r:Rel B w0 g h w) (n m:Nat) (u:∀(i:Nat) (k:Blk),i < n->h.blks[i]?=some k->k.low n m=true):Rel B w0 (g.cut n m) (h.cut n m) w :=
 by
 refine ⟨r.below,r.bsz,r.phi,by simp [Gh.cut,AH.cut,r.slen],λi c k hc d=>?_,by simp [Gh.cut,AH.cut,r.tlen],λi t e=>?_,λi j c hi a=>?_,λi j t t' b x y hi a q z=>?_,λi c j t b x hi a q=>?_,λc hc=>⟨(r.dfr c hc).1,(r.dfr c hc).2.1,λi hi=>by
  simp only [Gh.cut] at hi;rw [uu] at hi;split at hi
  ·exact (r.dfr c hc).2.2 i hi
  ·cases hi⟩,λi k hi d=>?_,λi j t k k' es es' hi a=>?_,λb x f=>(r.nb b x f).mono λ_ _ s=>⟨rfl,⟨λi hi=>s.1 i (take_sub hi),s.2.1,λi t y e=>s.2.2 i t y (take_sub e)⟩,λ_ h=>h⟩,r.ob,λb f=>⟨λi hi=>(r.oa b f).1 i (take_sub hi),(r.oa b f).2.1,λi t y e=>(r.oa b f).2.2 i t y (take_sub e)⟩⟩
 ·simp only [Gh.cut,AH.cut] at hc d;rw [uu] at hc d;split at hc
  ·rename_i hi;rw [uz hi] at d;obtain ⟨p,o,A,v⟩:=r.blk i c k hc d;exact ⟨p,o,A.cut (u i k hi d),v⟩
  ·cases hc
 ·simp only [Gh.cut,AH.cut] at e ⊢;rw [uu] at e;split at e
  ·rename_i hi;obtain ⟨p,o⟩:=r.tok i t e;exact ⟨x9 hi p,o⟩
  ·cases e
 ·simp only [Gh.cut] at hi a;rw [uu] at hi a;split at hi
  ·split at a
   ·exact r.sinj i j c hi a
   ·cases a
  ·cases hi
 ·simp only [Gh.cut] at hi a;rw [uu] at hi a;split at hi
  ·split at a
   ·exact r.tinj i j t t' b x y hi a q z
   ·cases a
  ·cases hi
 ·simp only [Gh.cut] at hi a;rw [uu] at hi a;split at hi
  ·split at a
   ·exact r.sep i c j t b x hi a q
   ·cases a
  ·cases hi
 ·simp only [Gh.cut,AH.cut] at hi d;rw [uu] at hi d;split at hi
  ·rename_i l;rw [uz l] at d;exact (r.row i k hi d).cut (u i k l d)
  ·cases hi
 ·simp only [AH.cut] at hi a;rw [uu] at hi a;split at hi
  ·split at a
   ·exact r.rinj _ _ _ _ _ _ _ hi a
   ·cases a
  ·cases hi

theorem Gh.le_cut {g g':Gh} (h:g.le g'):g.le (g'.cut g.σ.length g.τ.length) :=
 ⟨h.phi,λi c e=>x9 (uc.1 e).1 (h.sig i c e),λi t e=>by
  obtain ⟨t',b,a,d⟩:=h.tau i t e;exact ⟨t',x9 (uc.1 e).1 b,a,d⟩,h.del,h.new,h.old⟩
mutual
theorem AV.low_mono {n m c:Nat} (h:m<=c):∀a:AV,a.low n m=true->a.low n c=true
 | .bool _,_ | .int _ _,_ | .str _,_ | .nilp,_ | .nilm,_ | .nilf,_ | .nili,_ | .nilsl,_ | .fptr _,_ | .sl _ _,_ | .glob _,_ | .any,_ | .opq,_ | .bsl _ _,_ | .nsl _ _,_ | .hsl _ _,_ | .hfp _,_ | .hol _,_=>rfl
 | .osl none _ _,_=>rfl
 | .osl (some t) _ _,hl=>by simp only [AV.low,uk] at hl ⊢;omega
 | .ptr _ _,hl=>hl
 | .msl _ _ _ _,hl=>hl
 | .rsl _ _ _ _,hl=>by simp only [AV.low,uk] at hl ⊢;omega
 | .rsuf _ _ _ _ _,hl=>by simp only [AV.low,uk] at hl ⊢;omega
 | .rptr _ _ _ _ _,hl=>by simp only [AV.low,uk] at hl ⊢;omega
 | .map _,hl=>hl
 | .yld _,hl=>hl
 | .fn _ a b,hl=>by
  simp only [AV.low,ud] at hl ⊢;exact ⟨lowL_mono h a hl.1,lowL_mono h b hl.2⟩
 | .iface _ v,hl=>by simp only [AV.low] at hl ⊢;exact AV.low_mono h v hl
 | .agg cs,hl=>by simp only [AV.low] at hl ⊢;exact lowL_mono h cs hl
 | .tup cs,hl=>by simp only [AV.low] at hl ⊢;exact lowL_mono h cs hl
theorem lowL_mono {n m c:Nat} (h:m<=c):∀l:List AV,zR n m l=true->zR n c l=true
 | [],_=>rfl
 | a::r,hl=>by
  simp only [zR,ud] at hl ⊢;exact ⟨AV.low_mono h a hl.1,lowL_mono h r hl.2⟩
end
theorem Blk.low_mono {n m d:Nat} (h:m<=d):∀b:Blk,b.low n m=true->b.low n d=true
 | .cells cs,hl=>lowL_mono h cs hl
 | .bld _ x,hl=>AV.low_mono h x hl
 | .mapo es c,hl=>by
  simp only [Blk.low,ur,ud] at hl ⊢;exact λp a=>⟨AV.low_mono h _ (hl p a).1,AV.low_mono h _ (hl p a).2⟩
 | .loop _ _ env _ _ _,hl=>lowL_mono h env hl
 | .row _ _ _,hl=>by simp only [Blk.low,uk] at hl ⊢;omega
 | .miter _ _ _,hl=>hl
 | .siter _ _,_ | .miter0,_ | .other,_ | .dead,_=>rfl
theorem Gh.le_cut2 {g g':Gh} (h:g.le g') {n m:Nat} (j:g.σ.length<=n) (a:g.τ.length<=m):g.le (g'.cut n m) :=
 ⟨h.phi,λi c e=>x9 (si (uc.1 e).1 j) (h.sig i c e),λi t e=>by
  obtain ⟨t',d,b,f⟩:=h.tau i t e;exact ⟨t',x9 (si (uc.1 e).1 a) d,b,f⟩,h.del,h.new,h.old⟩
end Go.Vv
