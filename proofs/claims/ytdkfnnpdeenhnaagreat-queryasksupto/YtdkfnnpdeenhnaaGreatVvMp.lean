/- Maps, proved. -/
import Derived.Test.YtdkfnnpdeenhnaaGreatVvI
import Derived.MapKept
import Derived.Carry
namespace Go.Vv
open Go Go.RowKit Go.Lib
section
variable {P:Program} {w:World} {g:Gh} {h:AH} {B:Nat} {w0:World}

theorem qB {k:Kd} {a b:AV} {x y:Value} (ha:V g a x) (hb:V g b y) (hr:aEq1 k a b=some true):x=y/\∀n,Instr.sameBits n x x=true:=by
 unfold aEq1 at hr;split at hr
 ·simp only [V] at ha hb;simp at hr;subst ha hb hr;exact ⟨rfl,λn=>by unfold Instr.sameBits;cases n <;> simp⟩
 ·split at hr
  ·rename_i hk;simp only [V] at ha hb;simp at hr;subst ha hb hr hk;exact ⟨rfl,λn=>by unfold Instr.sameBits;cases n <;> simp⟩
  ·cases hr
 ·simp only [V] at ha hb;simp at hr;subst hr;exact ⟨by rw [ha.1,hb.1],λn=>by rw [ha.1];unfold Instr.sameBits;cases n <;> exact beq_self_eq_true (α:=Array UInt8) _⟩
 ·cases hr
theorem eqL_same:∀{f:List Kd} {d e:List AV} {xs c:List Value},VA g d xs->VA g e c->w7 f d e=some true->xs=c/\∀n,(xs.zip xs).all (λ(x,y)=>Instr.sameBits n x y)=true
 | [],[],[],xs,c,ha,hb,_=>by
  simp only [VA] at ha hb;subst ha hb;exact ⟨rfl,λ_=>rfl⟩
 | k::f,a::d,b::e,xs,c,ha,hb,hr=>by
  simp only [VA] at ha hb;obtain ⟨x,m,rfl,⟨_,u⟩,r⟩:=ha;obtain ⟨y,t,rfl,⟨_,l⟩,s⟩:=hb;simp only [w7] at hr;split at hr
  ·rename_i p q j i;simp only [Option.some.injEq,Bool.and_eq_true] at hr;obtain ⟨rfl,rfl⟩:=hr;obtain ⟨rfl,v⟩:=qB u l j;obtain ⟨rfl,o⟩:=eqL_same r s i;exact ⟨rfl,λn=>by simp only [List.zip_cons_cons,List.all_cons,v n,o n,Bool.and_self]⟩
  ·cases hr
 | [],[],_::_,_,_,_,_,hr=>by simp [w7] at hr
 | [],_::_,_,_,_,_,_,hr=>by simp [w7] at hr
 | _::_,[],_,_,_,_,_,hr=>by simp [w7] at hr
 | _::_,_::_,[],_,_,_,_,hr=>by simp [w7] at hr

theorem key_same {i:TypeId} {a b:AV} {x y:Value} (e:V g a x) (d:V g b y) (c:yj P i a b=some true):x=y/\Instr.sameBits 10000 x x=true:=by
 unfold yj at c;split at c
 ·exact ⟨(qB e d c).1,(qB e d c).2 _⟩
 ·exact ⟨(qB e d c).1,(qB e d c).2 _⟩
 ·exact ⟨(qB e d c).1,(qB e d c).2 _⟩
 ·split at c
  ·split at c
   ·simp only [V] at e d;obtain ⟨us,rfl,j⟩:=e;obtain ⟨vs,rfl,f⟩:=d;obtain ⟨k,l⟩:=eqL_same j f c;have:us=vs:=Array.ext' k;subst this;refine ⟨rfl,?_⟩;rw [show (10000:Nat)=9999+1 from rfl];unfold Instr.sameBits;simp only [beq_self_eq_true,Bool.true_and];exact l 9999
   ·cases c
  ·cases c
 ·cases c

def CkE (P:Program) (w:World) (d:Nat):Prop:=∀{t:TypeId} {ks:List Kd} {i:TypeInfo},yN P d t=some ks->P.info? t=some i->i.size=ks.length->∀{xs:Array Value} {off:Nat},off+ks.length<=xs.size->∀(b:Bool) D,d<=D ->
  ∃u,(part t xs off).run P w=.ok u w/\(Instr.checkKey b D t u).run P w=.ok () w
theorem ckF {d:Nat} (E:CkE P w d) (b:Bool):∀(fs:List Field) (acc:Nat) {ks:List Kd},plainFs P d fs acc=some ks->∀{xs:Array Value},acc+ks.length<=xs.size->∀D,d<=D ->
  (forIn fs PUnit.unit fun (f : Field) (_ : PUnit) => (if f.name ≠ "_" then (part f.type xs f.offset) >>= fun u => Instr.checkKey b D f.type u >>= fun _ => pure (ForInStep.yield PUnit.unit) else pure (ForInStep.yield PUnit.unit) : Sem (ForInStep PUnit))).run P w = .ok PUnit.unit w
 | [],acc,ks,h,xs,hx,D,_=>by simp
 | f::fs,acc,ks,h,xs,hx,D,hD=>by
  simp only [plainFs,qc] at h;split at h
  ·rename_i hf;split at h
   ·rename_i k1 i hk1 hi;split at h
    ·rename_i hsz;split at h
     ·rename_i k2 hk2;cases h;simp only [List.length_append] at hx;obtain ⟨u,e1,e2⟩:=E hk1 hi hsz (xs:=xs) (off:=acc) (by omega) b D hD;have e4:=ckF E b fs (acc+i.size) hk2 (xs:=xs) (by omega) D hD;simp only [List.forIn_cons,Sem.run_bind,hf.1,ne_eq,not_false_eq_true,if_true,hf.2,e1,e2,Result.andThen_ok,Sem.run_pure];exact e4
     ·cases h
    ·cases h
   ·cases h
  ·cases h
theorem ckE:∀(d:Nat),CkE P w d:=by
 intro d
 induction d with
 | zero=>intro t l i h;simp [yN] at h
 | succ d ih =>
  intro t l i h hi n xs off p b D o;obtain ⟨D,rfl⟩:∃D',D=D'+1:=⟨D - 1,by omega⟩
  have one:∀(dd:TypeDesc),l.length=1->P.underlying t=some dd->zK dd=false->(∀u,(Instr.checkKey b (D+1) t u).run P w=.ok () w)->∃u,(part t xs off).run P w=.ok u w/\(Instr.checkKey b (D+1) t u).run P w=.ok () w:=by
   intro dd q k m e;have f:off < xs.size:=by omega
   exact ⟨xs[off],by simp [part,vu k,m,f],e _⟩
  simp only [yN] at h;split at h
  ·rename_i a;cases h;exact one _ rfl a rfl λu=>by simp [Instr.checkKey,run_underlying a]
  ·rename_i j a;cases h;exact one _ rfl a rfl λu=>by simp [Instr.checkKey,run_underlying a]
  ·rename_i a;cases h;exact one _ rfl a rfl λu=>by simp [Instr.checkKey,run_underlying a]
  ·rename_i fs a;split at h
   ·cases h
   ·have c:(part t xs off).run P w=.ok (.agg (xs.extract off (off+i.size))) w:=by simp [part,vu a,zK,yV hi]
    refine ⟨_,c,?_⟩;have:=ckF ih b fs.toList 0 h (xs:=xs.extract off (off+i.size)) (by simp;omega) D (by omega);simp only [Instr.checkKey,Sem.run_bind,run_underlying a,Result.andThen_ok];rw [<- Array.forIn_toList];refine (congrArg (λr=>Result.andThen r _) this).trans ?_;simp
  ·cases h
theorem key_okD {e:TypeId} {k:AV} {x:Value} {r:Bool} (i:V g k x) (c:yj P e k k=some r) (b:Bool) (D:Nat) (j:5<=D):(Instr.checkKey b (D+1) e x).run P w=.ok () w:=by
 unfold yj at c;split at c
 ·rename_i d;simp [Instr.checkKey,run_underlying d]
 ·rename_i d;simp [Instr.checkKey,run_underlying d]
 ·rename_i d;simp [Instr.checkKey,run_underlying d]
 ·rename_i fs d;split at c
  ·rename_i cs ds;split at c
   ·rename_i f a;simp only [V] at i;obtain ⟨us,rfl,l⟩:=i;have n:f.length<=us.size:=by
     obtain ⟨_,_,_,_,_,m,_⟩:=aEqL_split f (ls:=[]) (by simpa using c);have:=l.toVL.length;simp at this;omega
    simp only [yN,d] at a;split at a
    ·cases a
    ·have:=ckF (P:=P) (w:=w) (ckE 5) b fs.toList 0 a (xs:=us) (by omega) D j;simp only [Instr.checkKey,Sem.run_bind,run_underlying d,Result.andThen_ok];rw [<- Array.forIn_toList];refine (congrArg (λr=>Result.andThen r _) this).trans ?_;simp
   ·cases c
  ·cases c
 ·cases c
theorem key_ok {a:TypeId} {k:AV} {x:Value} {r:Bool} (d:V g k x) (c:yj P a k k=some r) (b:Bool):(Instr.checkKey b 10000 a x).run P w=.ok () w:=key_okD d c b 9999 (by omega)
theorem key_eq {k:TypeId} {a b:AV} {x y:Value} {r:Bool} (i:V g a x) (f:V g b y) (c:yj P k a b=some r):(Op.equal k x y).run P w=.ok r w:=by
 unfold Op.equal;show (Op.equalIn 10000 k x y).run P w=.ok r w;rw [show (10000:Nat)=9999+1 from rfl];unfold yj at c;split at c
 ·rename_i e;exact eq1_run i f c e 9999
 ·rename_i e;exact eq1_run i f c ⟨_,e⟩ 9999
 ·rename_i e;exact eq1_run i f c e 9999
 ·rename_i fs e;split at c
  ·split at c
   ·rename_i o d;simp only [V] at i f;obtain ⟨us,rfl,m⟩:=i;obtain ⟨vs,rfl,n⟩:=f;have j:P.fieldsOf k=fs:=by simp [Program.fieldsOf,e]
    simp only [yN,e] at d;split at d
    ·cases d
    ·rename_i l;rw [run_equalIn_struct w 9999 k _ _ (by rw [j];exact e) (by simpa using l),j];exact eqF (eqE 5) fs.toList 0 d m n (by simpa using c) 9999 (by omega)
   ·cases c
  ·cases c
 ·cases c

theorem same_now {o:TypeId} {d:TypeDesc} (hd:P.underlying o=some d) {a b:AV} {x y:Value} {r:Bool} (i:V g a x) (f:V g b y) (e:yj P o a b=some r) {m:Bool} (hs:Instr.sameNow d x y=some m):m=r:=by
 have one:∀{k:Kd},aEq1 k a b=some r->m=r:=by
  intro k c;unfold aEq1 at c;split at c
  ·simp only [V] at i f;subst i f;cases c;cases d <;> simp [Instr.sameNow] at hs;exact hs.symm
  ·split at c
   ·rename_i p;simp only [V] at i f;subst i f p;cases c;cases d <;> simp [Instr.sameNow] at hs;exact hs.symm
   ·cases c
  ·simp only [V] at i f;obtain ⟨rfl,_⟩:=i;obtain ⟨rfl,_⟩:=f;cases c;cases d <;> simp [Instr.sameNow] at hs;rw [<- hs];have:∀j l:List UInt8,((⟨j.toArray⟩:ByteArray)==⟨l.toArray⟩)=(j==l):=λj l=>by
    have:((⟨j.toArray⟩:ByteArray)==⟨l.toArray⟩)=(j.toArray==l.toArray):=rfl;rw [this];simp
   exact this _ _
  ·cases c
 unfold yj at e;rw [hd] at e;split at e
 ·exact one e
 ·exact one e
 ·exact one e
 ·rename_i fs n;injection n with n;subst n;simp [Instr.sameNow] at hs
 ·cases e
theorem find_sound {n:TypeId} {d:TypeDesc} (hd:P.underlying n=some d) {k:AV} {x:Value} (c:V g k x):∀{es:List (AV×AV)} {ents:List MapEntry} {i:Nat} {res:Option (Nat×AV)},ME g es ents->w6 P n k es i=some res ->
  ∃r,(Instr.findAsking n x ents i).run P w=.ok r w/\(∀l,Instr.findNow d x ents i=some l->l=r) /\
   (match res with
       | none=>r=none
       | some (j,v)=>∃m e,j=i+m/\ents[m]?=some e/\(∃f,es[m]?=some (f,v)/\yj P n k f=some true/\V g f e.key)/\e.key=x/\V g v e.val/\r=some (j,e.val))
 | [],ents,i,res,hm,hf=>by
  simp only [ME] at hm;subst hm;simp only [w6,Option.some.injEq] at hf;subst hf;exact ⟨none,rfl,λl h=>by simp [Instr.findNow] at h;exact h.symm,rfl⟩
 | (f,v)::es,ents,i,res,hm,hf=>by
  simp only [ME] at hm;obtain ⟨e,s,rfl,b,E,A⟩:=hm;simp only [w6] at hf;split at hf
  ·rename_i a;cases hf;obtain ⟨z,_⟩:=key_same c b a;refine ⟨some (i,e.val),by simp [Instr.findAsking,key_eq (w:=w) c b a],λl h=>?_,0,e,rfl,rfl,⟨f,rfl,a,b⟩,z.symm,E,rfl⟩;simp only [Instr.findNow] at h;split at h
   ·injection h with h;exact h.symm
   ·rename_i hs;exact absurd (same_now hd c b a hs) (by simp)
   ·cases h
  ·rename_i a;obtain ⟨r,t,F,q⟩:=find_sound hd c A hf;refine ⟨r,by simp [Instr.findAsking,key_eq (w:=w) c b a,t],λl h=>?_,?_⟩
   ·simp only [Instr.findNow] at h;split at h
    ·rename_i hs;exact absurd (same_now hd c b a hs) (by simp)
    ·exact F _ h
    ·cases h
   ·cases res with
    | none=>exact q
    | some p =>
     obtain ⟨m,u,H,G,⟨o,C,D⟩,y⟩:=q;exact ⟨m+1,u,by omega,by simpa using G,⟨o,by simpa using C,D⟩,y⟩
  ·cases hf
theorem qA {a:TypeId} {k:AV} {x:Value} (C:V g k x) {es:List (AV×AV)} {ents:List MapEntry} {res:Option (Nat×AV)} (l:ME g es ents) (o:w6 P a k es 0=some res) (A:(P.underlying a).isSome) :
  (match res with
       | none=>(Instr.findKey a x ents).run P w=.ok none w
       | some (j,v)=>∃e,ents[j]?=some e/\(∃c,es[j]?=some (c,v)/\yj P a k c=some true/\V g c e.key)/\e.key=x/\V g v e.val/\(Instr.findKey a x ents).run P w=.ok (some (j,e.val)) w):=by
 obtain ⟨d,hd⟩:=Option.isSome_iff_exists.1 A;obtain ⟨r,z,t,f⟩:=find_sound (w:=w) hd C l o;have key:(Instr.findKey a x ents).run P w=.ok r w:=by
  simp only [Instr.findKey,Sem.run_bind,run_underlying hd,Result.andThen_ok];split
  ·rename_i D q;rw [t _ q];rfl
  ·exact z
 cases res with
 | none=>subst f;exact key
 | some p =>
  obtain ⟨m,e,E,y,n,s,i,u⟩:=f;have b:p.1=m:=by omega
  subst u;exact ⟨e,by rw [b];exact y,by rw [b];exact n,s,i,key⟩
theorem key_und {c:TypeId} {a b:AV} {r:Bool} (e:yj P c a b=some r):(P.underlying c).isSome:=by
 unfold yj at e;cases h:P.underlying c with
 | none=>simp [h] at e
 | some d=>rfl
theorem aZero_sound {t:TypeId} {z:AV} (a:aZero P t=some z):∃u,(zeroValue t).run P w=.ok u w/\V g z u:=by
 unfold aZero at a;split at a
 ·rename_i i hi;split at a
  ·rename_i u e;split at a
   ·rename_i c;refine ⟨u,by simp [zeroValue,run_typeInfo w hi,e],?_⟩;have b:=V.cv (g:=g) c;split at a
    ·rename_i cs j;cases a;rw [j] at b;simp only [V] at b ⊢;obtain ⟨vs,d,f⟩:=b;exact ⟨vs,d,f.fix⟩
    ·cases a;exact b.tyfix
   ·cases a
  ·cases a
 ·cases a

theorem ME.len:∀{es:List (AV×AV)} {ents:List MapEntry},ME g es ents->ents.length=es.length
 | [],_,h=>by simp only [ME] at h;subst h;rfl
 | (_,_)::r,_,h=>by
  simp only [ME] at h;obtain ⟨e,s,rfl,_,_,a⟩:=h;simp [a.len]
theorem ME.push:∀{es:List (AV×AV)} {ents:List MapEntry} {k v:AV} {e:MapEntry},ME g es ents->V g k e.key->V g v e.val->ME g (es++[(k,v)]) (ents++[e])
 | [],_,k,v,e,h,hk,hv=>by simp only [ME] at h;subst h;simp only [List.nil_append,ME];exact ⟨e,[],rfl,hk,hv,rfl⟩
 | (_,_)::r,_,k,v,e,h,hk,hv=>by
  simp only [ME] at h;obtain ⟨a,s,rfl,b,c,d⟩:=h;simp only [List.cons_append,ME];exact ⟨a,s++[e],rfl,b,c,d.push hk hv⟩
theorem ME.put:∀{es:List (AV×AV)} {ents:List MapEntry} (j:Nat) {k v:AV} {e:MapEntry},ME g es ents->V g k e.key->V g v e.val->ME g (es.set j (k,v)) (ents.set j e)
 | [],_,j,k,v,e,h,hk,hv=>by simp only [ME] at h;subst h;simp [ME]
 | (_,_)::r,_,j,k,v,e,h,hk,hv=>by
  simp only [ME] at h;obtain ⟨b,s,rfl,c,d,a⟩:=h;cases j with
  | zero=>simp only [List.set_cons_zero,ME];exact ⟨e,s,rfl,hk,hv,a⟩
  | succ j=>simp only [List.set_cons_succ,ME];exact ⟨b,s.set j e,rfl,c,d,a.put j hk hv⟩
theorem ME.getE:∀{es:List (AV×AV)} {ents:List MapEntry} {j:Nat} {p:AV×AV},ME g es ents->es[j]?=some p->∃e,ents[j]?=some e/\V g p.1 e.key/\V g p.2 e.val
 | [],_,j,p,h,hp=>by simp at hp
 | (_,_)::r,_,j,p,h,hp=>by
  simp only [ME] at h;obtain ⟨a,s,rfl,b,c,d⟩:=h;cases j with
  | zero=>simp at hp;subst hp;exact ⟨a,rfl,b,c⟩
  | succ j=>simpa using d.getE (by simpa using hp)

theorem V.zc1 {a:AV} {v:Value} (h:V g a v):V g a.zc1 v:=by
 unfold AV.zc1;split
 ·simp only [V] at h ⊢;obtain ⟨x,c,e,d,f,b,_⟩:=h;exact ⟨x,c,e,d,f,b⟩
 ·exact h
theorem VA.zc1:∀{b:List AV} {vs:List Value},VA g b vs->VA g (b.map AV.zc1) vs
 | [],_,h=>by simpa using h
 | a::r,_,h=>by
  simp only [VA] at h;obtain ⟨v,s,rfl,⟨h0,c⟩,d⟩:=h;simp only [List.map_cons,VA];exact ⟨v,s,rfl,⟨by cases a <;> first | exact h0 | rfl,c.zc1⟩,VA.zc1 d⟩
theorem V.zcl {a:AV} {v:Value} (h:V g a v):V g a.zcl v:=by
 unfold AV.zcl;split
 ·simp only [V] at h ⊢;obtain ⟨vs,e,b⟩:=h;exact ⟨vs,e,b.zc1⟩
 ·exact h
theorem aZeroM_sound {t:TypeId} {z:AV} (a:vT P t=some z):∃u,(zeroValue t).run P w=.ok u w/\V g z u:=by
 unfold vT at a;rw [Option.map_eq_some_iff] at a;obtain ⟨y,c,rfl⟩:=a;obtain ⟨u,d,b⟩:=aZero_sound (w:=w) (g:=g) c;exact ⟨u,d,b.zcl⟩
theorem lookup_sound {t C G:TypeId} {ok:Bool} {m k v:AV} {I kv:Value} (r:Rel B w0 g h w) (E:P.underlying t=some (.map C G)) (q:V g m I) (s:V g k kv) (a:aLookup P h C G ok m k=some v) :
  ∃u,(Instr.lookup t I kv ok).run P w=.ok u w/\V g v u:=by
 unfold aLookup at a;split at a
 case isFalse=>cases a
 rename_i d;have A:=λb=>key_ok (w:=w) s d b;have i:∀{x:AV} {u:Value} (b:Bool),V g x u->V g (qh ok x b) (if ok then .tuple #[u,.bool b] else u):=λ{x u} b H=>by
  unfold qh;cases ok
  ·exact H
  ·simp only [if_true,V];exact ⟨_,rfl,by simp only [VL];exact ⟨_,_,rfl,H,_,_,rfl,by simp only [V],rfl⟩⟩
 split at a
 ·simp only [V] at q;subst q;rcases l:vT P G with _ | z
  ·simp [l] at a
  ·simp [l] at a;subst a;obtain ⟨u,F,D⟩:=aZeroM_sound (w:=w) (g:=g) l;have y:(Instr.findKey C kv []).run P w=.ok none w:=by
    have:=qA (w:=w) (es:=[]) (ents:=[]) (res:=none) s rfl rfl (key_und d);exact this
   exact ⟨_,by simp [Instr.lookup,run_underlying E,A,y,F],i false D⟩
 ·rename_i id;simp only [V] at q;obtain ⟨c,M,rfl⟩:=q;split at a
  ·rename_i es O K;obtain ⟨_,_,⟨ents,n,p,o,_⟩,_⟩:=r.blk id c _ M K;split at a
   ·rename_i j x f;cases a;obtain ⟨e,Q,_,N,L,J⟩:=qA (w:=w) s o f (key_und d);exact ⟨_,by simp [Instr.lookup,run_underlying E,MapKept.run_getObj_map p,A,J],i true L⟩
   ·rename_i z f l;cases a;have y:=qA (w:=w) s o f (key_und d);obtain ⟨u,F,D⟩:=aZeroM_sound (w:=w) (g:=g) l;exact ⟨_,by simp [Instr.lookup,run_underlying E,MapKept.run_getObj_map p,A,y,F],i false D⟩
   ·cases a
  ·cases a
 ·cases a

theorem modify_list {α:Type} {a:Array α} {i:Nat} {f:α->α} {e:α} (h:a.toList[i]?=some e):(a.modify i f).toList=a.toList.set i (f e):=by
 apply List.ext_getElem?;intro j;rw [Array.getElem?_toList,Array.getElem?_modify,List.getElem?_set];have hi:i < a.toList.length:=(List.getElem?_eq_some_iff.1 h).1;split
 ·rename_i b;subst b;rw [Array.getElem?_toList] at h;simp only [h,hi,if_true,Option.map_some]
 ·simp
theorem keeps_run {x:Value} (h:Instr.sameBits 10000 x x=true):(Instr.keyThatStays x x).run P w=.ok x w:=by simp [Instr.keyThatStays,h]
theorem Rel.mapPut (r:Rel B w0 g h w) {id c:Nat} {k:Blk} (q:g.σ[id]?=some c) (l:h.blk id=some k) (hd:k ≠ .dead) {es:List (AV×AV)} {j:Nat} {ents:Array MapEntry} {n:Nat} {o:Obj} (p:w.heap[c]?=some o) (m:ME g es ents.toList)
  (d:j=0->n=ents.size/\∀(i:Nat) (e:MapEntry),ents[i]?=some e->e.born=i):Rel B w0 g (h.put id (.mapo es j)) { w with heap:=w.heap.setIfInBounds c (.map ents n) }:=by
 have f:c < w.heap.size:=(Array.getElem?_eq_some_iff.1 p).1;refine r.putObj q l hd rfl rfl rfl (by simp) (λb a=>by simp [Array.getElem?_setIfInBounds_ne (Ne.symm a)]) ?_;exact ⟨ents,n,by simp [f],m,d⟩

theorem set_same {w:World} {c:Nat} {o:Obj} (h:w.heap[c]?=some o):({ w with heap:=w.heap.setIfInBounds c o }:World)=w:=by
 have:w.heap.setIfInBounds c o=w.heap:=by
  apply Array.ext_getElem?;intro i;by_cases hi:c=i
  ·subst hi;have a:c < w.heap.size:=(Array.getElem?_eq_some_iff.1 h).1;rw [h];simp [a]
  ·rw [Array.getElem?_setIfInBounds_ne hi]
 rw [this]

theorem entry_sound {t L S:TypeId} {m k v:AV} {O:AH} {N kv:Value} (r:Rel B w0 g h w) (Q:P.underlying t=some (.map L S)) (I:V g m N) (s:V g k kv) (d:aEntry P h L S m k=some (v,O)) :
  ∃u w',(Instr.mapEntry t N kv).run P w=.ok u w'/\V g v u/\Rel B w0 g O w':=by
 unfold aEntry at d;split at d
 case isFalse=>cases d
 rename_i l;have K:=λb=>key_ok (w:=w) s l b;split at d
 ·rename_i id;simp only [V] at I;obtain ⟨c,R,rfl⟩:=I;split at d
  ·rename_i es H;obtain ⟨_,_,⟨ents,n,a,o,E⟩,_⟩:=r.blk id c _ R H;obtain ⟨F,f⟩:=E rfl;split at d
   ·rename_i j x p;cases d;obtain ⟨e,D,_,J,X,T⟩:=qA (w:=w) s o p (key_und l);have hs:=keeps_run (P:=P) (w:=w) (key_same s s l).2;have A:ents[j]?=some e:=by rw [<- Array.getElem?_toList];exact D
    have C:(ents.modify j λe=>{ e with key:=kv })=ents:=by
     apply Array.ext';rw [modify_list D];apply List.ext_getElem?;intro i;rw [List.getElem?_set];split
     ·rename_i q;subst q;rw [if_pos (List.getElem?_eq_some_iff.1 D).1,D,<- J]
     ·rfl
    refine ⟨.tuple #[e.val,goInt e.born],w,?_,?_,r⟩
    ·have y:(setObj c (.map (ents.modify j λe=>{ e with key:=kv }) n)).run P w=.ok () w:=by
      rw [C,MapKept.run_setObj_map _ a,set_same a]
     simp [Instr.mapEntry,run_underlying Q,MapKept.run_getObj_map a,K,T,A,J,hs,y]
    ·simp only [V];exact ⟨_,rfl,by simp only [VL];exact ⟨_,_,rfl,X,_,_,rfl,by simp only [V,f j e A];rfl,rfl⟩⟩
   ·rename_i z p W;cases d;have U:=qA (w:=w) s o p (key_und l);obtain ⟨u,Y,M⟩:=aZeroM_sound (w:=w) (g:=g) W;have G:ents.size=es.length:=by have:=o.len;simpa using this
    refine ⟨.tuple #[u,goInt n],{ w with heap:=w.heap.setIfInBounds c (.map (ents.push { key:=kv,val:=u,born:=n }) (n+1)) },?_,?_,?_⟩
    ·simp [Instr.mapEntry,run_underlying Q,MapKept.run_getObj_map a,K,U,Y,MapKept.run_setObj_map _ a]
    ·simp only [V];exact ⟨_,rfl,by simp only [VL];exact ⟨_,_,rfl,M,_,_,rfl,by simp only [V,F,G];rfl,rfl⟩⟩
    ·refine r.mapPut R H (by simp) a (by rw [Array.toList_push];exact o.push s M) λ_=>⟨by simp [F],λi e hi=>?_⟩
     rw [Array.getElem?_push] at hi;split at hi
     ·rename_i q;injection hi with hi;subst hi;simp [F,q]
     ·exact f i e hi
   ·cases d
  ·cases d
 ·cases d
theorem entryStore_sound {t:TypeId} {m s x:AV} {E:AH} {C A v:Value} (r:Rel B w0 g h w) (z:V g m C) (hs:V g s A) (J:V g x v) (b:vN h m s x=some E) :
  ∃w',(Instr.entryStore t C A v).run P w=.ok () w'/\Rel B w0 g E w':=by
 unfold vN at b;split at b
 ·rename_i id N nn;simp only [V] at z hs;obtain ⟨c,F,rfl⟩:=z;subst hs;split at b
  ·rename_i es y;obtain ⟨_,_,⟨ents,n,k,l,o⟩,_⟩:=r.blk id c _ F y;obtain ⟨K,a⟩:=o rfl;split at b
   ·rename_i h0;split at b
    ·rename_i p H;cases b;obtain ⟨e,D,L,M⟩:=l.getE H;have d:ents[nn.toNat]?=some e:=by rw [<- Array.getElem?_toList];exact D
     have f:=(Array.getElem?_eq_some_iff.1 d).1;have q:ents.findIdx? (λe=>(e.born:Int)==nn)=some nn.toNat:=by
      rw [Array.findIdx?_eq_some_iff_getElem];refine ⟨f,?_,λj I=>?_⟩
      ·have:=a nn.toNat _ (Array.getElem?_eq_getElem f);rw [this];simp;omega
      ·have:=a j _ (Array.getElem?_eq_getElem (Nat.lt_trans I f));rw [this];simp;omega
     refine ⟨{ w with heap:=w.heap.setIfInBounds c (.map (ents.modify nn.toNat λe=>{ e with val:=v }) n) },?_,?_⟩
     ·simp [Instr.entryStore,MapKept.run_getObj_map k,asInt,asIntOf,q,MapKept.run_setObj_map _ k]
     ·refine r.mapPut F y (by simp) k (by rw [modify_list D];exact l.put _ L J.zcl) λ_=>⟨by simp [K],λi G hi=>?_⟩
      rw [Array.getElem?_modify] at hi;split at hi
      ·rename_i u;subst u;rw [d] at hi;simp at hi;subst hi;exact a _ e d
      ·exact a i G hi
    ·cases b
   ·cases b
  ·cases b
 ·cases b
theorem mapPut_sound {t F Q:TypeId} {m k x:AV} {J:AH} {H kv y:Value} (r:Rel B w0 g h w) (K:P.underlying t=some (.map F Q)) (D:V g m H) (u:V g k kv) (G:V g x y) (f:aMapPut P h F m k x=some J) :
  ∃w',(Instr.mapUpdate t H kv y).run P w=.ok () w'/\Rel B w0 g J w':=by
 unfold aMapPut at f;split at f
 case isFalse=>cases f
 rename_i l;have E:=λb=>key_ok (w:=w) u l b;split at f
 ·rename_i id;simp only [V] at D;obtain ⟨c,C,rfl⟩:=D;split at f
  ·rename_i es T A;obtain ⟨_,_,⟨ents,n,d,o,v⟩,_⟩:=r.blk id c _ C A;split at f
   ·rename_i j R p;cases f;obtain ⟨e,I,_,N,S,L⟩:=qA (w:=w) u o p (key_und l);have hs:=keeps_run (P:=P) (w:=w) (key_same u u l).2;have s:ents[j]?=some e:=by rw [<- Array.getElem?_toList];exact I
    refine ⟨{ w with heap:=w.heap.setIfInBounds c (.map (ents.modify j λe=>{ e with key:=kv,val:=y }) n) },?_,?_⟩
    ·simp [Instr.mapUpdate,run_underlying K,MapKept.run_getObj_map d,E,L,s,N,hs,MapKept.run_setObj_map _ d]
    ·refine r.mapPut C A (by simp) d (by rw [modify_list I];exact o.put _ u G.zcl) λh0=>?_;obtain ⟨z,a⟩:=v h0;refine ⟨by simp [z],λi M hi=>?_⟩;rw [Array.getElem?_modify] at hi;split at hi
     ·rename_i q;subst q;rw [s] at hi;simp at hi;subst hi;exact a _ e s
     ·exact a i M hi
   ·rename_i p;cases f;have O:=qA (w:=w) u o p (key_und l);refine ⟨{ w with heap:=w.heap.setIfInBounds c (.map (ents.push { key:=kv,val:=y,born:=n }) (n+1)) },?_,?_⟩
    ·simp [Instr.mapUpdate,run_underlying K,MapKept.run_getObj_map d,E,O,MapKept.run_setObj_map _ d]
    ·refine r.mapPut C A (by simp) d (by rw [Array.toList_push];exact o.push u G.zcl) λh0=>?_;obtain ⟨z,a⟩:=v h0;refine ⟨by simp [z],λi e hi=>?_⟩;rw [Array.getElem?_push] at hi;split at hi
     ·rename_i q;injection hi with hi;subst hi;simp [z,q]
     ·exact a i e hi
   ·cases f
  ·cases f
 ·cases f
end
end Go.Vv
