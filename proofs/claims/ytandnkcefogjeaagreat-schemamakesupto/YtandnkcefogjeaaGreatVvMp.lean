/- Maps, proved. -/
import Derived.Test.YtandnkcefogjeaaGreatVvI
import Derived.MapKept
import Derived.Carry
namespace Go.Vv
open Go Go.RowKit Go.Lib
section
variable {P:Program} {w:World} {g:Gh} {h:AH} {B:Nat} {w0:World}

theorem eq1_same {k:Kd} {a b:AV} {x y:Value} (ha:V g a x) (hb:V g b y) (hr:aEq1 k a b=some true):x=y/\∀n,Instr.sameBits n x x=true:=by
 unfold aEq1 at hr;split at hr
 ·simp only [V] at ha hb;simp at hr;subst ha hb hr;exact ⟨rfl,λn=>by unfold Instr.sameBits;cases n <;> simp⟩
 ·split at hr
  ·rename_i hk;simp only [V] at ha hb;simp at hr;subst ha hb hr hk;exact ⟨rfl,λn=>by unfold Instr.sameBits;cases n <;> simp⟩
  ·cases hr
 ·simp only [V] at ha hb;simp at hr;subst hr;exact ⟨by rw [ha.1,hb.1],λn=>by rw [ha.1];unfold Instr.sameBits;cases n <;> exact beq_self_eq_true (α:=Array UInt8) _⟩
 ·cases hr
theorem eqL_same:∀{e:List Kd} {d bs:List AV} {xs c:List Value},VA g d xs->VA g bs c->aEqL e d bs=some true->xs=c/\∀n,(xs.zip xs).all (λ(x,y)=>Instr.sameBits n x y)=true
 | [],[],[],xs,c,ha,hb,_=>by
  simp only [VA] at ha hb;subst ha hb;exact ⟨rfl,λ_=>rfl⟩
 | k::e,a::d,b::bs,xs,c,ha,hb,hr=>by
  simp only [VA] at ha hb;obtain ⟨x,i,rfl,⟨_,l⟩,s⟩:=ha;obtain ⟨y,t,rfl,⟨_,j⟩,f⟩:=hb;simp only [aEqL] at hr;split at hr
  ·rename_i p q u o;simp only [Option.some.injEq,Bool.and_eq_true] at hr;obtain ⟨rfl,rfl⟩:=hr;obtain ⟨rfl,m⟩:=eq1_same l j u;obtain ⟨rfl,r⟩:=eqL_same s f o;exact ⟨rfl,λn=>by simp only [List.zip_cons_cons,List.all_cons,m n,r n,Bool.and_self]⟩
  ·cases hr
 | [],[],_::_,_,_,_,_,hr=>by simp [aEqL] at hr
 | [],_::_,_,_,_,_,_,hr=>by simp [aEqL] at hr
 | _::_,[],_,_,_,_,_,hr=>by simp [aEqL] at hr
 | _::_,_::_,[],_,_,_,_,hr=>by simp [aEqL] at hr

theorem key_same {l:TypeId} {a b:AV} {x y:Value} (d:V g a x) (e:V g b y) (c:yQ P l a b=some true):x=y/\Instr.sameBits 10000 x x=true:=by
 unfold yQ at c;split at c
 ·exact ⟨(eq1_same d e c).1,(eq1_same d e c).2 _⟩
 ·exact ⟨(eq1_same d e c).1,(eq1_same d e c).2 _⟩
 ·exact ⟨(eq1_same d e c).1,(eq1_same d e c).2 _⟩
 ·split at c
  ·split at c
   ·simp only [V] at d e;obtain ⟨us,rfl,j⟩:=d;obtain ⟨vs,rfl,i⟩:=e;obtain ⟨k,f⟩:=eqL_same j i c;have:us=vs:=Array.ext' k;subst this;refine ⟨rfl,?_⟩;rw [show (10000:Nat)=9999+1 from rfl];unfold Instr.sameBits;simp only [beq_self_eq_true,Bool.true_and];exact f 9999
   ·cases c
  ·cases c
 ·cases c

def CkE (P:Program) (w:World) (d:Nat):Prop:=∀{t:TypeId} {ks:List Kd} {i:TypeInfo},wq P d t=some ks->P.info? t=some i->i.size=ks.length->∀{xs:Array Value} {off:Nat},off+ks.length<=xs.size->∀(b:Bool) D,d<=D ->
  ∃u,(part t xs off).run P w=.ok u w/\(Instr.checkKey b D t u).run P w=.ok () w
theorem ckF {d:Nat} (E:CkE P w d) (b:Bool):∀(fs:List Field) (acc:Nat) {ks:List Kd},plainFs P d fs acc=some ks->∀{xs:Array Value},acc+ks.length<=xs.size->∀D,d<=D ->
  (forIn fs PUnit.unit fun (f : Field) (_ : PUnit) => (if f.name ≠ "_" then (part f.type xs f.offset) >>= fun u => Instr.checkKey b D f.type u >>= fun _ => pure (ForInStep.yield PUnit.unit) else pure (ForInStep.yield PUnit.unit) : Sem (ForInStep PUnit))).run P w = .ok PUnit.unit w
 | [],acc,ks,h,xs,hx,D,_=>by simp
 | f::fs,acc,ks,h,xs,hx,D,hD=>by
  simp only [plainFs,plainFsOf] at h;split at h
  ·rename_i hf;split at h
   ·rename_i k1 i hk1 hi;split at h
    ·rename_i hsz;split at h
     ·rename_i k2 hk2;cases h;simp only [List.length_append] at hx;obtain ⟨u,e1,e2⟩:=E hk1 hi hsz (xs:=xs) (off:=acc) (by omega) b D hD;have e4:=ckF E b fs (acc+i.size) hk2 (xs:=xs) (by omega) D hD;simp only [List.forIn_cons,Sem.run_bind,hf.1,ne_eq,not_false_eq_true,if_true,hf.2,e1,e2,Result.andThen_ok,Sem.run_pure];exact e4
     ·cases h
    ·cases h
   ·cases h
  ·cases h
theorem ckE:∀(d:Nat),CkE P w d:=by
 intro d
 induction d with
 | zero=>intro t l i h;simp [wq] at h
 | succ d ih =>
  intro t l i h hi m xs off p b D q;obtain ⟨D,rfl⟩:∃D',D=D'+1:=⟨D - 1,by omega⟩
  have one:∀(dd:TypeDesc),l.length=1->P.underlying t=some dd->z7 dd=false->(∀u,(Instr.checkKey b (D+1) t u).run P w=.ok () w)->∃u,(part t xs off).run P w=.ok u w/\(Instr.checkKey b (D+1) t u).run P w=.ok () w:=by
   intro dd o f n k;have c:off < xs.size:=by omega
   exact ⟨xs[off],by simp [part,run_agg f,n,c],k _⟩
  simp only [wq] at h;split at h
  ·rename_i a;cases h;exact one _ rfl a rfl λu=>by simp [Instr.checkKey,run_underlying a]
  ·rename_i j a;cases h;exact one _ rfl a rfl λu=>by simp [Instr.checkKey,run_underlying a]
  ·rename_i a;cases h;exact one _ rfl a rfl λu=>by simp [Instr.checkKey,run_underlying a]
  ·rename_i fs a;split at h
   ·cases h
   ·have e:(part t xs off).run P w=.ok (.agg (xs.extract off (off+i.size))) w:=by simp [part,run_agg a,z7,xP hi]
    refine ⟨_,e,?_⟩;have:=ckF ih b fs.toList 0 h (xs:=xs.extract off (off+i.size)) (by simp;omega) D (by omega);simp only [Instr.checkKey,Sem.run_bind,run_underlying a,Result.andThen_ok];rw [<- Array.forIn_toList];refine (congrArg (λr=>Result.andThen r _) this).trans ?_;simp
  ·cases h
theorem key_okD {i:TypeId} {k:AV} {x:Value} {r:Bool} (e:V g k x) (d:yQ P i k k=some r) (b:Bool) (D:Nat) (l:5<=D):(Instr.checkKey b (D+1) i x).run P w=.ok () w:=by
 unfold yQ at d;split at d
 ·rename_i c;simp [Instr.checkKey,run_underlying c]
 ·rename_i c;simp [Instr.checkKey,run_underlying c]
 ·rename_i c;simp [Instr.checkKey,run_underlying c]
 ·rename_i fs c;split at d
  ·rename_i cs ds;split at d
   ·rename_i f a;simp only [V] at e;obtain ⟨us,rfl,j⟩:=e;have n:f.length<=us.size:=by
     obtain ⟨_,_,_,_,_,m,_⟩:=aEqL_split f (ls:=[]) (by simpa using d);have:=j.toVL.length;simp at this;omega
    simp only [wq,c] at a;split at a
    ·cases a
    ·have:=ckF (P:=P) (w:=w) (ckE 5) b fs.toList 0 a (xs:=us) (by omega) D l;simp only [Instr.checkKey,Sem.run_bind,run_underlying c,Result.andThen_ok];rw [<- Array.forIn_toList];refine (congrArg (λr=>Result.andThen r _) this).trans ?_;simp
   ·cases d
  ·cases d
 ·cases d
theorem key_ok {a:TypeId} {k:AV} {x:Value} {r:Bool} (c:V g k x) (d:yQ P a k k=some r) (b:Bool):(Instr.checkKey b 10000 a x).run P w=.ok () w:=key_okD c d b 9999 (by omega)
theorem key_eq {k:TypeId} {a b:AV} {x y:Value} {r:Bool} (j:V g a x) (i:V g b y) (c:yQ P k a b=some r):(Op.equal k x y).run P w=.ok r w:=by
 unfold Op.equal;show (Op.equalIn 10000 k x y).run P w=.ok r w;rw [show (10000:Nat)=9999+1 from rfl];unfold yQ at c;split at c
 ·rename_i d;exact eq1_run j i c d 9999
 ·rename_i d;exact eq1_run j i c ⟨_,d⟩ 9999
 ·rename_i d;exact eq1_run j i c d 9999
 ·rename_i fs d;split at c
  ·split at c
   ·rename_i o e;simp only [V] at j i;obtain ⟨us,rfl,m⟩:=j;obtain ⟨vs,rfl,n⟩:=i;have f:P.fieldsOf k=fs:=by simp [Program.fieldsOf,d]
    simp only [wq,d] at e;split at e
    ·cases e
    ·rename_i l;rw [run_equalIn_struct w 9999 k _ _ (by rw [f];exact d) (by simpa using l),f];exact eqF (eqE 5) fs.toList 0 e m n (by simpa using c) 9999 (by omega)
   ·cases c
  ·cases c
 ·cases c

theorem same_now {n:TypeId} {d:TypeDesc} (hd:P.underlying n=some d) {a b:AV} {x y:Value} {r:Bool} (i:V g a x) (f:V g b y) (e:yQ P n a b=some r) {m:Bool} (hs:Instr.sameNow d x y=some m):m=r:=by
 have one:∀{k:Kd},aEq1 k a b=some r->m=r:=by
  intro k c;unfold aEq1 at c;split at c
  ·simp only [V] at i f;subst i f;cases c;cases d <;> simp [Instr.sameNow] at hs;exact hs.symm
  ·split at c
   ·rename_i o;simp only [V] at i f;subst i f o;cases c;cases d <;> simp [Instr.sameNow] at hs;exact hs.symm
   ·cases c
  ·simp only [V] at i f;obtain ⟨rfl,_⟩:=i;obtain ⟨rfl,_⟩:=f;cases c;cases d <;> simp [Instr.sameNow] at hs;rw [<- hs];have:∀j s2:List UInt8,((⟨j.toArray⟩:ByteArray)==⟨s2.toArray⟩)=(j==s2):=λj s2=>by
    have:((⟨j.toArray⟩:ByteArray)==⟨s2.toArray⟩)=(j.toArray==s2.toArray):=rfl;rw [this];simp
   exact this _ _
  ·cases c
 unfold yQ at e;rw [hd] at e;split at e
 ·exact one e
 ·exact one e
 ·exact one e
 ·rename_i fs l;injection l with l;subst l;simp [Instr.sameNow] at hs
 ·cases e
theorem find_sound {n:TypeId} {d:TypeDesc} (hd:P.underlying n=some d) {k:AV} {x:Value} (b:V g k x):∀{es:List (AV×AV)} {ents:List MapEntry} {i:Nat} {res:Option (Nat×AV)},ME g es ents->aFind P n k es i=some res ->
  ∃r,(Instr.findAsking n x ents i).run P w=.ok r w/\(∀l,Instr.findNow d x ents i=some l->l=r) /\
   (match res with
       | none=>r=none
       | some (j,v)=>∃m e,j=i+m/\ents[m]?=some e/\(∃f,es[m]?=some (f,v)/\yQ P n k f=some true/\V g f e.key)/\e.key=x/\V g v e.val/\r=some (j,e.val))
 | [],ents,i,res,hm,hf=>by
  simp only [ME] at hm;subst hm;simp only [aFind,Option.some.injEq] at hf;subst hf;exact ⟨none,rfl,λl h=>by simp [Instr.findNow] at h;exact h.symm,rfl⟩
 | (f,v)::es,ents,i,res,hm,hf=>by
  simp only [ME] at hm;obtain ⟨e,s,rfl,c,F,u⟩:=hm;simp only [aFind] at hf;split at hf
  ·rename_i a;cases hf;obtain ⟨C,_⟩:=key_same b c a;refine ⟨some (i,e.val),by simp [Instr.findAsking,key_eq (w:=w) b c a],λl h=>?_,0,e,rfl,rfl,⟨f,rfl,a,c⟩,C.symm,F,rfl⟩;simp only [Instr.findNow] at h;split at h
   ·injection h with h;exact h.symm
   ·rename_i hs;exact absurd (same_now hd b c a hs) (by simp)
   ·cases h
  ·rename_i a;obtain ⟨r,y,G,q⟩:=find_sound hd b u hf;refine ⟨r,by simp [Instr.findAsking,key_eq (w:=w) b c a,y],λl h=>?_,?_⟩
   ·simp only [Instr.findNow] at h;split at h
    ·rename_i hs;exact absurd (same_now hd b c a hs) (by simp)
    ·exact G _ h
    ·cases h
   ·cases res with
    | none=>exact q
    | some p =>
     obtain ⟨m,D,H,t,⟨o,E,A⟩,z⟩:=q;exact ⟨m+1,D,by omega,by simpa using t,⟨o,by simpa using E,A⟩,z⟩
  ·cases hf
theorem find_run {a:TypeId} {k:AV} {x:Value} (o:V g k x) {es:List (AV×AV)} {ents:List MapEntry} {res:Option (Nat×AV)} (u:ME g es ents) (y:aFind P a k es 0=some res) (i:(P.underlying a).isSome) :
  (match res with
       | none=>(Instr.findKey a x ents).run P w=.ok none w
       | some (j,v)=>∃e,ents[j]?=some e/\(∃c,es[j]?=some (c,v)/\yQ P a k c=some true/\V g c e.key)/\e.key=x/\V g v e.val/\(Instr.findKey a x ents).run P w=.ok (some (j,e.val)) w):=by
 obtain ⟨d,hd⟩:=Option.isSome_iff_exists.1 i;obtain ⟨r,s,C,f⟩:=find_sound (w:=w) hd o u y;have key:(Instr.findKey a x ents).run P w=.ok r w:=by
  simp only [Instr.findKey,Sem.run_bind,run_underlying hd,Result.andThen_ok];split
  ·rename_i E A;rw [C _ A];rfl
  ·exact s
 cases res with
 | none=>subst f;exact key
 | some p =>
  obtain ⟨m,e,D,l,z,q,n,t⟩:=f;have b:p.1=m:=by omega
  subst t;exact ⟨e,by rw [b];exact l,by rw [b];exact z,q,n,key⟩
theorem key_und {c:TypeId} {a b:AV} {r:Bool} (e:yQ P c a b=some r):(P.underlying c).isSome:=by
 unfold yQ at e;cases h:P.underlying c with
 | none=>simp [h] at e
 | some d=>rfl
theorem aZero_sound {t:TypeId} {z:AV} (a:aZero P t=some z):∃u,(zeroValue t).run P w=.ok u w/\V g z u:=by
 unfold aZero at a;split at a
 ·rename_i i hi;split at a
  ·rename_i u e;split at a
   ·rename_i c;refine ⟨u,by simp [zeroValue,run_typeInfo w hi,e],?_⟩;have b:=V.cv (g:=g) c;split at a
    ·rename_i cs j;cases a;rw [j] at b;simp only [V] at b ⊢;obtain ⟨vs,d,f⟩:=b;exact ⟨vs,d,f.fix⟩
    ·cases a;exact b.tyfix
   ·cases a
  ·cases a
 ·cases a

theorem ME.len:∀{es:List (AV×AV)} {ents:List MapEntry},ME g es ents->ents.length=es.length
 | [],_,h=>by simp only [ME] at h;subst h;rfl
 | (_,_)::r,_,h=>by
  simp only [ME] at h;obtain ⟨e,s,rfl,_,_,a⟩:=h;simp [a.len]
theorem ME.push:∀{es:List (AV×AV)} {ents:List MapEntry} {k v:AV} {e:MapEntry},ME g es ents->V g k e.key->V g v e.val->ME g (es++[(k,v)]) (ents++[e])
 | [],_,k,v,e,h,hk,hv=>by simp only [ME] at h;subst h;simp only [List.nil_append,ME];exact ⟨e,[],rfl,hk,hv,rfl⟩
 | (_,_)::r,_,k,v,e,h,hk,hv=>by
  simp only [ME] at h;obtain ⟨a,s,rfl,b,c,d⟩:=h;simp only [List.cons_append,ME];exact ⟨a,s++[e],rfl,b,c,d.push hk hv⟩
theorem ME.put:∀{es:List (AV×AV)} {ents:List MapEntry} (j:Nat) {k v:AV} {e:MapEntry},ME g es ents->V g k e.key->V g v e.val->ME g (es.set j (k,v)) (ents.set j e)
 | [],_,j,k,v,e,h,hk,hv=>by simp only [ME] at h;subst h;simp [ME]
 | (_,_)::r,_,j,k,v,e,h,hk,hv=>by
  simp only [ME] at h;obtain ⟨b,s,rfl,c,d,a⟩:=h;cases j with
  | zero=>simp only [List.set_cons_zero,ME];exact ⟨e,s,rfl,hk,hv,a⟩
  | succ j=>simp only [List.set_cons_succ,ME];exact ⟨b,s.set j e,rfl,c,d,a.put j hk hv⟩
theorem ME.getE:∀{es:List (AV×AV)} {ents:List MapEntry} {j:Nat} {p:AV×AV},ME g es ents->es[j]?=some p->∃e,ents[j]?=some e/\V g p.1 e.key/\V g p.2 e.val
 | [],_,j,p,h,hp=>by simp at hp
 | (_,_)::r,_,j,p,h,hp=>by
  simp only [ME] at h;obtain ⟨a,s,rfl,b,c,d⟩:=h;cases j with
  | zero=>simp at hp;subst hp;exact ⟨a,rfl,b,c⟩
  | succ j=>simpa using d.getE (by simpa using hp)

theorem V.zc1 {a:AV} {v:Value} (h:V g a v):V g a.zc1 v:=by
 unfold AV.zc1;split
 ·simp only [V] at h ⊢;obtain ⟨x,c,e,b,d,f,_⟩:=h;exact ⟨x,c,e,b,d,f⟩
 ·exact h
theorem VA.zc1:∀{b:List AV} {vs:List Value},VA g b vs->VA g (b.map AV.zc1) vs
 | [],_,h=>by simpa using h
 | a::r,_,h=>by
  simp only [VA] at h;obtain ⟨v,s,rfl,⟨h0,c⟩,d⟩:=h;simp only [List.map_cons,VA];exact ⟨v,s,rfl,⟨by cases a <;> first | exact h0 | rfl,c.zc1⟩,VA.zc1 d⟩
theorem V.zcl {a:AV} {v:Value} (h:V g a v):V g a.zcl v:=by
 unfold AV.zcl;split
 ·simp only [V] at h ⊢;obtain ⟨vs,e,b⟩:=h;exact ⟨vs,e,b.zc1⟩
 ·exact h
theorem aZeroM_sound {t:TypeId} {z:AV} (a:aZeroM P t=some z):∃u,(zeroValue t).run P w=.ok u w/\V g z u:=by
 unfold aZeroM at a;rw [Option.map_eq_some_iff] at a;obtain ⟨y,b,rfl⟩:=a;obtain ⟨u,c,d⟩:=aZero_sound (w:=w) (g:=g) b;exact ⟨u,c,d.zcl⟩
theorem lookup_sound {t G y:TypeId} {ok:Bool} {m k v:AV} {H kv:Value} (r:Rel B w0 g h w) (D:P.underlying t=some (.map G y)) (s:V g m H) (q:V g k kv) (a:aLookup P h G y ok m k=some v) :
  ∃u,(Instr.lookup t H kv ok).run P w=.ok u w/\V g v u:=by
 unfold aLookup at a;split at a
 case isFalse=>cases a
 rename_i d;have E:=λb=>key_ok (w:=w) q d b;have i:∀{x:AV} {u:Value} (b:Bool),V g x u->V g (withOk ok x b) (if ok then .tuple #[u,.bool b] else u):=λ{x u} b I=>by
  unfold withOk;cases ok
  ·exact I
  ·simp only [if_true,V];exact ⟨_,rfl,by simp only [VL];exact ⟨_,_,rfl,I,_,_,rfl,by simp only [V],rfl⟩⟩
 split at a
 ·simp only [V] at s;subst s;rcases p:aZeroM P y with _ | z
  ·simp [p] at a
  ·simp [p] at a;subst a;obtain ⟨u,A,F⟩:=aZeroM_sound (w:=w) (g:=g) p;have C:(Instr.findKey G kv []).run P w=.ok none w:=by
    have:=find_run (w:=w) (es:=[]) (ents:=[]) (res:=none) q rfl rfl (key_und d);exact this
   exact ⟨_,by simp [Instr.lookup,run_underlying D,E,C,A],i false F⟩
 ·rename_i id;simp only [V] at s;obtain ⟨c,M,rfl⟩:=s;split at a
  ·rename_i es O L;obtain ⟨_,_,⟨ents,n,o,l,_⟩,_⟩:=r.blk id c _ M L;split at a
   ·rename_i j x f;cases a;obtain ⟨e,N,_,Q,K,J⟩:=find_run (w:=w) q l f (key_und d);exact ⟨_,by simp [Instr.lookup,run_underlying D,MapKept.run_getObj_map o,E,J],i true K⟩
   ·rename_i z f p;cases a;have C:=find_run (w:=w) q l f (key_und d);obtain ⟨u,A,F⟩:=aZeroM_sound (w:=w) (g:=g) p;exact ⟨_,by simp [Instr.lookup,run_underlying D,MapKept.run_getObj_map o,E,C,A],i false F⟩
   ·cases a
  ·cases a
 ·cases a

theorem modify_list {α:Type} {a:Array α} {i:Nat} {f:α->α} {e:α} (h:a.toList[i]?=some e):(a.modify i f).toList=a.toList.set i (f e):=by
 apply List.ext_getElem?;intro j;rw [Array.getElem?_toList,Array.getElem?_modify,List.getElem?_set];have hi:i < a.toList.length:=(List.getElem?_eq_some_iff.1 h).1;split
 ·rename_i b;subst b;rw [Array.getElem?_toList] at h;simp only [h,hi,if_true,Option.map_some]
 ·simp
theorem keeps_run {x:Value} (h:Instr.sameBits 10000 x x=true):(Instr.keyThatStays x x).run P w=.ok x w:=by simp [Instr.keyThatStays,h]
theorem Rel.mapPut (r:Rel B w0 g h w) {id c:Nat} {k:Blk} (q:g.σ[id]?=some c) (l:h.blk id=some k) (hd:k ≠ .dead) {es:List (AV×AV)} {j:Nat} {ents:Array MapEntry} {n:Nat} {o:Obj} (p:w.heap[c]?=some o) (m:ME g es ents.toList)
  (d:j=0->n=ents.size/\∀(i:Nat) (e:MapEntry),ents[i]?=some e->e.born=i):Rel B w0 g (h.put id (.mapo es j)) { w with heap:=w.heap.setIfInBounds c (.map ents n) }:=by
 have a:c < w.heap.size:=(Array.getElem?_eq_some_iff.1 p).1;refine r.putObj q l hd rfl rfl rfl (by simp) (λb f=>by simp [Array.getElem?_setIfInBounds_ne (Ne.symm f)]) ?_;exact ⟨ents,n,by simp [a],m,d⟩

theorem set_same {w:World} {c:Nat} {o:Obj} (h:w.heap[c]?=some o):({ w with heap:=w.heap.setIfInBounds c o }:World)=w:=by
 have:w.heap.setIfInBounds c o=w.heap:=by
  apply Array.ext_getElem?;intro i;by_cases hi:c=i
  ·subst hi;have a:c < w.heap.size:=(Array.getElem?_eq_some_iff.1 h).1;rw [h];simp [a]
  ·rw [Array.getElem?_setIfInBounds_ne hi]
 rw [this]

theorem entry_sound {t R J:TypeId} {m k v:AV} {H:AH} {I kv:Value} (r:Rel B w0 g h w) (M:P.underlying t=some (.map R J)) (L:V g m I) (s:V g k kv) (d:aEntry P h R J m k=some (v,H)) :
  ∃u w',(Instr.mapEntry t I kv).run P w=.ok u w'/\V g v u/\Rel B w0 g H w':=by
 unfold aEntry at d;split at d
 case isFalse=>cases d
 rename_i o;have O:=λb=>key_ok (w:=w) s o b;split at d
 ·rename_i id;simp only [V] at L;obtain ⟨c,S,rfl⟩:=L;split at d
  ·rename_i es K;obtain ⟨_,_,⟨ents,n,a,l,G⟩,_⟩:=r.blk id c _ S K;obtain ⟨F,f⟩:=G rfl;split at d
   ·rename_i j x q;cases d;obtain ⟨e,D,_,N,U,T⟩:=find_run (w:=w) s l q (key_und o);have hs:=keeps_run (P:=P) (w:=w) (key_same s s o).2;have y:ents[j]?=some e:=by rw [<- Array.getElem?_toList];exact D
    have C:(ents.modify j λe=>{ e with key:=kv })=ents:=by
     apply Array.ext';rw [modify_list D];apply List.ext_getElem?;intro i;rw [List.getElem?_set];split
     ·rename_i p;subst p;rw [if_pos (List.getElem?_eq_some_iff.1 D).1,D,<- N]
     ·rfl
    refine ⟨.tuple #[e.val,goInt e.born],w,?_,?_,r⟩
    ·have A:(setObj c (.map (ents.modify j λe=>{ e with key:=kv }) n)).run P w=.ok () w:=by
      rw [C,MapKept.run_setObj_map _ a,set_same a]
     simp [Instr.mapEntry,run_underlying M,MapKept.run_getObj_map a,O,T,y,N,hs,A]
    ·simp only [V];exact ⟨_,rfl,by simp only [VL];exact ⟨_,_,rfl,U,_,_,rfl,by simp only [V,f j e y];rfl,rfl⟩⟩
   ·rename_i z q Y;cases d;have X:=find_run (w:=w) s l q (key_und o);obtain ⟨u,W,Q⟩:=aZeroM_sound (w:=w) (g:=g) Y;have E:ents.size=es.length:=by have:=l.len;simpa using this
    refine ⟨.tuple #[u,goInt n],{ w with heap:=w.heap.setIfInBounds c (.map (ents.push { key:=kv,val:=u,born:=n }) (n+1)) },?_,?_,?_⟩
    ·simp [Instr.mapEntry,run_underlying M,MapKept.run_getObj_map a,O,X,W,MapKept.run_setObj_map _ a]
    ·simp only [V];exact ⟨_,rfl,by simp only [VL];exact ⟨_,_,rfl,Q,_,_,rfl,by simp only [V,F,E];rfl,rfl⟩⟩
    ·refine r.mapPut S K (by simp) a (by rw [Array.toList_push];exact l.push s Q) λ_=>⟨by simp [F],λi e hi=>?_⟩
     rw [Array.getElem?_push] at hi;split at hi
     ·rename_i p;injection hi with hi;subst hi;simp [F,p]
     ·exact f i e hi
   ·cases d
  ·cases d
 ·cases d
theorem entryStore_sound {t:TypeId} {m s x:AV} {y:AH} {z C v:Value} (r:Rel B w0 g h w) (E:V g m z) (hs:V g s C) (H:V g x v) (b:aEntryStore h m s x=some y) :
  ∃w',(Instr.entryStore t z C v).run P w=.ok () w'/\Rel B w0 g y w':=by
 unfold aEntryStore at b;split at b
 ·rename_i id M nn;simp only [V] at E hs;obtain ⟨c,F,rfl⟩:=E;subst hs;split at b
  ·rename_i es D;obtain ⟨_,_,⟨ents,n,k,l,u⟩,_⟩:=r.blk id c _ F D;obtain ⟨K,a⟩:=u rfl;split at b
   ·rename_i h0;split at b
    ·rename_i p L;cases b;obtain ⟨e,A,G,N⟩:=l.getE L;have f:ents[nn.toNat]?=some e:=by rw [<- Array.getElem?_toList];exact A
     have d:=(Array.getElem?_eq_some_iff.1 f).1;have q:ents.findIdx? (λe=>(e.born:Int)==nn)=some nn.toNat:=by
      rw [Array.findIdx?_eq_some_iff_getElem];refine ⟨d,?_,λj I=>?_⟩
      ·have:=a nn.toNat _ (Array.getElem?_eq_getElem d);rw [this];simp;omega
      ·have:=a j _ (Array.getElem?_eq_getElem (Nat.lt_trans I d));rw [this];simp;omega
     refine ⟨{ w with heap:=w.heap.setIfInBounds c (.map (ents.modify nn.toNat λe=>{ e with val:=v }) n) },?_,?_⟩
     ·simp [Instr.entryStore,MapKept.run_getObj_map k,asInt,asIntOf,q,MapKept.run_setObj_map _ k]
     ·refine r.mapPut F D (by simp) k (by rw [modify_list A];exact l.put _ G H.zcl) λ_=>⟨by simp [K],λi J hi=>?_⟩
      rw [Array.getElem?_modify] at hi;split at hi
      ·rename_i o;subst o;rw [f] at hi;simp at hi;subst hi;exact a _ e f
      ·exact a i J hi
    ·cases b
   ·cases b
  ·cases b
 ·cases b
theorem mapPut_sound {t K M:TypeId} {m k x:AV} {D:AH} {E kv z:Value} (r:Rel B w0 g h w) (I:P.underlying t=some (.map K M)) (H:V g m E) (p:V g k kv) (G:V g x z) (f:aMapPut P h K m k x=some D) :
  ∃w',(Instr.mapUpdate t E kv z).run P w=.ok () w'/\Rel B w0 g D w':=by
 unfold aMapPut at f;split at f
 case isFalse=>cases f
 rename_i o;have J:=λb=>key_ok (w:=w) p o b;split at f
 ·rename_i id;simp only [V] at H;obtain ⟨c,C,rfl⟩:=H;split at f
  ·rename_i es T A;obtain ⟨_,_,⟨ents,n,d,l,v⟩,_⟩:=r.blk id c _ C A;split at f
   ·rename_i j R u;cases f;obtain ⟨e,F,_,Q,S,L⟩:=find_run (w:=w) p l u (key_und o);have hs:=keeps_run (P:=P) (w:=w) (key_same p p o).2;have s:ents[j]?=some e:=by rw [<- Array.getElem?_toList];exact F
    refine ⟨{ w with heap:=w.heap.setIfInBounds c (.map (ents.modify j λe=>{ e with key:=kv,val:=z }) n) },?_,?_⟩
    ·simp [Instr.mapUpdate,run_underlying I,MapKept.run_getObj_map d,J,L,s,Q,hs,MapKept.run_setObj_map _ d]
    ·refine r.mapPut C A (by simp) d (by rw [modify_list F];exact l.put _ p G.zcl) λh0=>?_;obtain ⟨y,a⟩:=v h0;refine ⟨by simp [y],λi O hi=>?_⟩;rw [Array.getElem?_modify] at hi;split at hi
     ·rename_i q;subst q;rw [s] at hi;simp at hi;subst hi;exact a _ e s
     ·exact a i O hi
   ·rename_i u;cases f;have N:=find_run (w:=w) p l u (key_und o);refine ⟨{ w with heap:=w.heap.setIfInBounds c (.map (ents.push { key:=kv,val:=z,born:=n }) (n+1)) },?_,?_⟩
    ·simp [Instr.mapUpdate,run_underlying I,MapKept.run_getObj_map d,J,N,MapKept.run_setObj_map _ d]
    ·refine r.mapPut C A (by simp) d (by rw [Array.toList_push];exact l.push p G.zcl) λh0=>?_;obtain ⟨y,a⟩:=v h0;refine ⟨by simp [y],λi e hi=>?_⟩;rw [Array.getElem?_push] at hi;split at hi
     ·rename_i q;injection hi with hi;subst hi;simp [y,q]
     ·exact a i e hi
   ·cases f
  ·cases f
 ·cases f
end
end Go.Vv
