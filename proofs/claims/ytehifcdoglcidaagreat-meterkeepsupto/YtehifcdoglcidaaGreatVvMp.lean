/- Maps, proved. -/
import Derived.Test.YtehifcdoglcidaaGreatVvI
import Derived.MapKept
import Derived.Carry
namespace Go.Vv
open Go Go.RowKit Go.Lib
section
variable {P:Program} {w:World} {g:Gh} {h:AH} {B:Nat} {w0:World}

theorem eq1_same {k:Kd} {a b:AV} {x y:Value} (ha:V g a x) (hb:V g b y) (hr:aEq1 k a b=some true):x=y/\∀n,Instr.sameBits n x x=true:=by
 unfold aEq1 at hr;split at hr
 ·simp only [V] at ha hb;simp at hr;subst ha hb hr;exact ⟨rfl,λn=>by unfold Instr.sameBits;cases n <;> simp⟩
 ·split at hr
  ·rename_i hk;simp only [V] at ha hb;simp at hr;subst ha hb hr hk;exact ⟨rfl,λn=>by unfold Instr.sameBits;cases n <;> simp⟩
  ·cases hr
 ·simp only [V] at ha hb;simp at hr;subst hr;exact ⟨by rw [ha.1,hb.1],λn=>by rw [ha.1];unfold Instr.sameBits;cases n <;> exact beq_self_eq_true (α:=Array UInt8) _⟩
 ·cases hr
theorem eqL_same:∀{e:List Kd} {d bs:List AV} {xs c:List Value},VA g d xs->VA g bs c->qm e d bs=some true->xs=c/\∀n,(xs.zip xs).all (λ(x,y)=>Instr.sameBits n x y)=true
 | [],[],[],xs,c,ha,hb,_=>by
  simp only [VA] at ha hb;subst ha hb;exact ⟨rfl,λ_=>rfl⟩
 | k::e,a::d,b::bs,xs,c,ha,hb,hr=>by
  simp only [VA] at ha hb;obtain ⟨x,f,rfl,⟨_,u⟩,s⟩:=ha;obtain ⟨y,i,rfl,⟨_,j⟩,l⟩:=hb;simp only [qm] at hr;split at hr
  ·rename_i p q r o;simp only [Option.some.injEq,Bool.and_eq_true] at hr;obtain ⟨rfl,rfl⟩:=hr;obtain ⟨rfl,m⟩:=eq1_same u j r;obtain ⟨rfl,t⟩:=eqL_same s l o;exact ⟨rfl,λn=>by simp only [List.zip_cons_cons,List.all_cons,m n,t n,Bool.and_self]⟩
  ·cases hr
 | [],[],_::_,_,_,_,_,hr=>by simp [qm] at hr
 | [],_::_,_,_,_,_,_,hr=>by simp [qm] at hr
 | _::_,[],_,_,_,_,_,hr=>by simp [qm] at hr
 | _::_,_::_,[],_,_,_,_,hr=>by simp [qm] at hr

theorem key_same {f:TypeId} {a b:AV} {x y:Value} (e:V g a x) (d:V g b y) (c:yI P f a b=some true):x=y/\Instr.sameBits 10000 x x=true:=by
 unfold yI at c;split at c
 ·exact ⟨(eq1_same e d c).1,(eq1_same e d c).2 _⟩
 ·exact ⟨(eq1_same e d c).1,(eq1_same e d c).2 _⟩
 ·exact ⟨(eq1_same e d c).1,(eq1_same e d c).2 _⟩
 ·split at c
  ·split at c
   ·simp only [V] at e d;obtain ⟨us,rfl,i⟩:=e;obtain ⟨vs,rfl,j⟩:=d;obtain ⟨l,k⟩:=eqL_same i j c;have:us=vs:=Array.ext' l;subst this;refine ⟨rfl,?_⟩;rw [show (10000:Nat)=9999+1 from rfl];unfold Instr.sameBits;simp only [beq_self_eq_true,Bool.true_and];exact k 9999
   ·cases c
  ·cases c
 ·cases c

def CkE (P:Program) (w:World) (d:Nat):Prop:=∀{t:TypeId} {ks:List Kd} {i:TypeInfo},xB P d t=some ks->P.info? t=some i->i.size=ks.length->∀{xs:Array Value} {off:Nat},off+ks.length<=xs.size->∀(b:Bool) D,d<=D ->
  ∃u,(part t xs off).run P w=.ok u w/\(Instr.checkKey b D t u).run P w=.ok () w
theorem ckF {d:Nat} (E:CkE P w d) (b:Bool):∀(fs:List Field) (acc:Nat) {ks:List Kd},plainFs P d fs acc=some ks->∀{xs:Array Value},acc+ks.length<=xs.size->∀D,d<=D ->
  (forIn fs PUnit.unit fun (f : Field) (_ : PUnit) => (if f.name ≠ "_" then (part f.type xs f.offset) >>= fun u => Instr.checkKey b D f.type u >>= fun _ => pure (ForInStep.yield PUnit.unit) else pure (ForInStep.yield PUnit.unit) : Sem (ForInStep PUnit))).run P w = .ok PUnit.unit w
 | [],acc,ks,h,xs,hx,D,_=>by simp
 | f::fs,acc,ks,h,xs,hx,D,hD=>by
  simp only [plainFs,plainFsOf] at h;split at h
  ·rename_i hf;split at h
   ·rename_i k1 i hk1 hi;split at h
    ·rename_i hsz;split at h
     ·rename_i k2 hk2;cases h;simp only [List.length_append] at hx;obtain ⟨u,e1,e2⟩:=E hk1 hi hsz (xs:=xs) (off:=acc) (by omega) b D hD;have e4:=ckF E b fs (acc+i.size) hk2 (xs:=xs) (by omega) D hD;simp only [List.forIn_cons,Sem.run_bind,hf.1,ne_eq,not_false_eq_true,if_true,hf.2,e1,e2,Result.andThen_ok,Sem.run_pure];exact e4
     ·cases h
    ·cases h
   ·cases h
  ·cases h
theorem ckE:∀(d:Nat),CkE P w d:=by
 intro d
 induction d with
 | zero=>intro t l i h;simp [xB] at h
 | succ d ih =>
  intro t l i h hi m xs off o b D q;obtain ⟨D,rfl⟩:∃D',D=D'+1:=⟨D - 1,by omega⟩
  have one:∀(dd:TypeDesc),l.length=1->P.underlying t=some dd->zS dd=false->(∀u,(Instr.checkKey b (D+1) t u).run P w=.ok () w)->∃u,(part t xs off).run P w=.ok u w/\(Instr.checkKey b (D+1) t u).run P w=.ok () w:=by
   intro dd p e n k;have c:off < xs.size:=by omega
   exact ⟨xs[off],by simp [part,qM e,n,c],k _⟩
  simp only [xB] at h;split at h
  ·rename_i a;cases h;exact one _ rfl a rfl λu=>by simp [Instr.checkKey,run_underlying a]
  ·rename_i j a;cases h;exact one _ rfl a rfl λu=>by simp [Instr.checkKey,run_underlying a]
  ·rename_i a;cases h;exact one _ rfl a rfl λu=>by simp [Instr.checkKey,run_underlying a]
  ·rename_i fs a;split at h
   ·cases h
   ·have f:(part t xs off).run P w=.ok (.agg (xs.extract off (off+i.size))) w:=by simp [part,qM a,zS,xJ hi]
    refine ⟨_,f,?_⟩;have:=ckF ih b fs.toList 0 h (xs:=xs.extract off (off+i.size)) (by simp;omega) D (by omega);simp only [Instr.checkKey,Sem.run_bind,run_underlying a,Result.andThen_ok];rw [<- Array.forIn_toList];refine (congrArg (λr=>Result.andThen r _) this).trans ?_;simp
  ·cases h
theorem key_okD {f:TypeId} {k:AV} {x:Value} {r:Bool} (i:V g k x) (c:yI P f k k=some r) (b:Bool) (D:Nat) (l:5<=D):(Instr.checkKey b (D+1) f x).run P w=.ok () w:=by
 unfold yI at c;split at c
 ·rename_i d;simp [Instr.checkKey,run_underlying d]
 ·rename_i d;simp [Instr.checkKey,run_underlying d]
 ·rename_i d;simp [Instr.checkKey,run_underlying d]
 ·rename_i fs d;split at c
  ·rename_i cs ds;split at c
   ·rename_i e a;simp only [V] at i;obtain ⟨us,rfl,j⟩:=i;have m:e.length<=us.size:=by
     obtain ⟨_,_,_,_,_,n,_⟩:=aEqL_split e (ls:=[]) (by simpa using c);have:=j.toVL.length;simp at this;omega
    simp only [xB,d] at a;split at a
    ·cases a
    ·have:=ckF (P:=P) (w:=w) (ckE 5) b fs.toList 0 a (xs:=us) (by omega) D l;simp only [Instr.checkKey,Sem.run_bind,run_underlying d,Result.andThen_ok];rw [<- Array.forIn_toList];refine (congrArg (λr=>Result.andThen r _) this).trans ?_;simp
   ·cases c
  ·cases c
 ·cases c
theorem key_ok {a:TypeId} {k:AV} {x:Value} {r:Bool} (c:V g k x) (d:yI P a k k=some r) (b:Bool):(Instr.checkKey b 10000 a x).run P w=.ok () w:=key_okD c d b 9999 (by omega)
theorem key_eq {j:TypeId} {a b:AV} {x y:Value} {r:Bool} (k:V g a x) (i:V g b y) (c:yI P j a b=some r):(Op.equal j x y).run P w=.ok r w:=by
 unfold Op.equal;show (Op.equalIn 10000 j x y).run P w=.ok r w;rw [show (10000:Nat)=9999+1 from rfl];unfold yI at c;split at c
 ·rename_i d;exact eq1_run k i c d 9999
 ·rename_i d;exact eq1_run k i c ⟨_,d⟩ 9999
 ·rename_i d;exact eq1_run k i c d 9999
 ·rename_i fs d;split at c
  ·split at c
   ·rename_i o e;simp only [V] at k i;obtain ⟨us,rfl,m⟩:=k;obtain ⟨vs,rfl,n⟩:=i;have f:P.fieldsOf j=fs:=by simp [Program.fieldsOf,d]
    simp only [xB,d] at e;split at e
    ·cases e
    ·rename_i l;rw [run_equalIn_struct w 9999 j _ _ (by rw [f];exact d) (by simpa using l),f];exact eqF (eqE 5) fs.toList 0 e m n (by simpa using c) 9999 (by omega)
   ·cases c
  ·cases c
 ·cases c

theorem same_now {o:TypeId} {d:TypeDesc} (hd:P.underlying o=some d) {a b:AV} {x y:Value} {r:Bool} (i:V g a x) (f:V g b y) (e:yI P o a b=some r) {n:Bool} (hs:Instr.sameNow d x y=some n):n=r:=by
 have one:∀{k:Kd},aEq1 k a b=some r->n=r:=by
  intro k c;unfold aEq1 at c;split at c
  ·simp only [V] at i f;subst i f;cases c;cases d <;> simp [Instr.sameNow] at hs;exact hs.symm
  ·split at c
   ·rename_i p;simp only [V] at i f;subst i f p;cases c;cases d <;> simp [Instr.sameNow] at hs;exact hs.symm
   ·cases c
  ·simp only [V] at i f;obtain ⟨rfl,_⟩:=i;obtain ⟨rfl,_⟩:=f;cases c;cases d <;> simp [Instr.sameNow] at hs;rw [<- hs];have:∀j l:List UInt8,((⟨j.toArray⟩:ByteArray)==⟨l.toArray⟩)=(j==l):=λj l=>by
    have:((⟨j.toArray⟩:ByteArray)==⟨l.toArray⟩)=(j.toArray==l.toArray):=rfl;rw [this];simp
   exact this _ _
  ·cases c
 unfold yI at e;rw [hd] at e;split at e
 ·exact one e
 ·exact one e
 ·exact one e
 ·rename_i fs m;injection m with m;subst m;simp [Instr.sameNow] at hs
 ·cases e
theorem find_sound {n:TypeId} {d:TypeDesc} (hd:P.underlying n=some d) {k:AV} {x:Value} (c:V g k x):∀{es:List (AV×AV)} {ents:List MapEntry} {i:Nat} {res:Option (Nat×AV)},ME g es ents->ql P n k es i=some res ->
  ∃r,(Instr.findAsking n x ents i).run P w=.ok r w/\(∀l,Instr.findNow d x ents i=some l->l=r) /\
   (match res with
       | none=>r=none
       | some (j,v)=>∃m e,j=i+m/\ents[m]?=some e/\(∃f,es[m]?=some (f,v)/\yI P n k f=some true/\V g f e.key)/\e.key=x/\V g v e.val/\r=some (j,e.val))
 | [],ents,i,res,hm,hf=>by
  simp only [ME] at hm;subst hm;simp only [ql,Option.some.injEq] at hf;subst hf;exact ⟨none,rfl,λl h=>by simp [Instr.findNow] at h;exact h.symm,rfl⟩
 | (f,v)::es,ents,i,res,hm,hf=>by
  simp only [ME] at hm;obtain ⟨e,s,rfl,b,E,y⟩:=hm;simp only [ql] at hf;split at hf
  ·rename_i a;cases hf;obtain ⟨F,_⟩:=key_same c b a;refine ⟨some (i,e.val),by simp [Instr.findAsking,key_eq (w:=w) c b a],λl h=>?_,0,e,rfl,rfl,⟨f,rfl,a,b⟩,F.symm,E,rfl⟩;simp only [Instr.findNow] at h;split at h
   ·injection h with h;exact h.symm
   ·rename_i hs;exact absurd (same_now hd c b a hs) (by simp)
   ·cases h
  ·rename_i a;obtain ⟨r,D,z,q⟩:=find_sound hd c y hf;refine ⟨r,by simp [Instr.findAsking,key_eq (w:=w) c b a,D],λl h=>?_,?_⟩
   ·simp only [Instr.findNow] at h;split at h
    ·rename_i hs;exact absurd (same_now hd c b a hs) (by simp)
    ·exact z _ h
    ·cases h
   ·cases res with
    | none=>exact q
    | some p =>
     obtain ⟨m,G,H,t,⟨o,C,u⟩,A⟩:=q;exact ⟨m+1,G,by omega,by simpa using t,⟨o,by simpa using C,u⟩,A⟩
  ·cases hf
theorem find_run {a:TypeId} {k:AV} {x:Value} (A:V g k x) {es:List (AV×AV)} {ents:List MapEntry} {res:Option (Nat×AV)} (C:ME g es ents) (y:ql P a k es 0=some res) (q:(P.underlying a).isSome) :
  (match res with
       | none=>(Instr.findKey a x ents).run P w=.ok none w
       | some (j,v)=>∃e,ents[j]?=some e/\(∃c,es[j]?=some (c,v)/\yI P a k c=some true/\V g c e.key)/\e.key=x/\V g v e.val/\(Instr.findKey a x ents).run P w=.ok (some (j,e.val)) w):=by
 obtain ⟨d,hd⟩:=Option.isSome_iff_exists.1 q;obtain ⟨r,l,z,f⟩:=find_sound (w:=w) hd A C y;have key:(Instr.findKey a x ents).run P w=.ok r w:=by
  simp only [Instr.findKey,Sem.run_bind,run_underlying hd,Result.andThen_ok];split
  ·rename_i D i;rw [z _ i];rfl
  ·exact l
 cases res with
 | none=>subst f;exact key
 | some p =>
  obtain ⟨m,e,E,o,t,n,s,u⟩:=f;have b:p.1=m:=by omega
  subst u;exact ⟨e,by rw [b];exact o,by rw [b];exact t,n,s,key⟩
theorem key_und {c:TypeId} {a b:AV} {r:Bool} (e:yI P c a b=some r):(P.underlying c).isSome:=by
 unfold yI at e;cases h:P.underlying c with
 | none=>simp [h] at e
 | some d=>rfl
theorem aZero_sound {t:TypeId} {z:AV} (a:aZero P t=some z):∃u,(zeroValue t).run P w=.ok u w/\V g z u:=by
 unfold aZero at a;split at a
 ·rename_i i hi;split at a
  ·rename_i u e;split at a
   ·rename_i c;refine ⟨u,by simp [zeroValue,run_typeInfo w hi,e],?_⟩;have b:=V.cv (g:=g) c;split at a
    ·rename_i cs f;cases a;rw [f] at b;simp only [V] at b ⊢;obtain ⟨vs,j,d⟩:=b;exact ⟨vs,j,d.fix⟩
    ·cases a;exact b.tyfix
   ·cases a
  ·cases a
 ·cases a

theorem ME.len:∀{es:List (AV×AV)} {ents:List MapEntry},ME g es ents->ents.length=es.length
 | [],_,h=>by simp only [ME] at h;subst h;rfl
 | (_,_)::r,_,h=>by
  simp only [ME] at h;obtain ⟨e,s,rfl,_,_,a⟩:=h;simp [a.len]
theorem ME.push:∀{es:List (AV×AV)} {ents:List MapEntry} {k v:AV} {e:MapEntry},ME g es ents->V g k e.key->V g v e.val->ME g (es++[(k,v)]) (ents++[e])
 | [],_,k,v,e,h,hk,hv=>by simp only [ME] at h;subst h;simp only [List.nil_append,ME];exact ⟨e,[],rfl,hk,hv,rfl⟩
 | (_,_)::r,_,k,v,e,h,hk,hv=>by
  simp only [ME] at h;obtain ⟨d,s,rfl,c,b,a⟩:=h;simp only [List.cons_append,ME];exact ⟨d,s++[e],rfl,c,b,a.push hk hv⟩
theorem ME.put:∀{es:List (AV×AV)} {ents:List MapEntry} (j:Nat) {k v:AV} {e:MapEntry},ME g es ents->V g k e.key->V g v e.val->ME g (es.set j (k,v)) (ents.set j e)
 | [],_,j,k,v,e,h,hk,hv=>by simp only [ME] at h;subst h;simp [ME]
 | (_,_)::r,_,j,k,v,e,h,hk,hv=>by
  simp only [ME] at h;obtain ⟨d,s,rfl,c,b,a⟩:=h;cases j with
  | zero=>simp only [List.set_cons_zero,ME];exact ⟨e,s,rfl,hk,hv,a⟩
  | succ j=>simp only [List.set_cons_succ,ME];exact ⟨d,s.set j e,rfl,c,b,a.put j hk hv⟩
theorem ME.getE:∀{es:List (AV×AV)} {ents:List MapEntry} {j:Nat} {p:AV×AV},ME g es ents->es[j]?=some p->∃e,ents[j]?=some e/\V g p.1 e.key/\V g p.2 e.val
 | [],_,j,p,h,hp=>by simp at hp
 | (_,_)::r,_,j,p,h,hp=>by
  simp only [ME] at h;obtain ⟨d,s,rfl,c,b,a⟩:=h;cases j with
  | zero=>simp at hp;subst hp;exact ⟨d,rfl,c,b⟩
  | succ j=>simpa using a.getE (by simpa using hp)

theorem V.zc1 {a:AV} {v:Value} (h:V g a v):V g a.zc1 v:=by
 unfold AV.zc1;split
 ·simp only [V] at h ⊢;obtain ⟨x,c,e,f,d,b,_⟩:=h;exact ⟨x,c,e,f,d,b⟩
 ·exact h
theorem VA.zc1:∀{b:List AV} {vs:List Value},VA g b vs->VA g (b.map AV.zc1) vs
 | [],_,h=>by simpa using h
 | a::r,_,h=>by
  simp only [VA] at h;obtain ⟨v,s,rfl,⟨h0,d⟩,c⟩:=h;simp only [List.map_cons,VA];exact ⟨v,s,rfl,⟨by cases a <;> first | exact h0 | rfl,d.zc1⟩,VA.zc1 c⟩
theorem V.zcl {a:AV} {v:Value} (h:V g a v):V g a.zcl v:=by
 unfold AV.zcl;split
 ·simp only [V] at h ⊢;obtain ⟨vs,e,b⟩:=h;exact ⟨vs,e,b.zc1⟩
 ·exact h
theorem aZeroM_sound {t:TypeId} {z:AV} (a:aZeroM P t=some z):∃u,(zeroValue t).run P w=.ok u w/\V g z u:=by
 unfold aZeroM at a;rw [Option.map_eq_some_iff] at a;obtain ⟨y,d,rfl⟩:=a;obtain ⟨u,c,b⟩:=aZero_sound (w:=w) (g:=g) d;exact ⟨u,c,b.zcl⟩
theorem lookup_sound {t F y:TypeId} {ok:Bool} {m k v:AV} {H kv:Value} (r:Rel B w0 g h w) (D:P.underlying t=some (.map F y)) (s:V g m H) (q:V g k kv) (a:aLookup P h F y ok m k=some v) :
  ∃u,(Instr.lookup t H kv ok).run P w=.ok u w/\V g v u:=by
 unfold aLookup at a;split at a
 case isFalse=>cases a
 rename_i d;have C:=λb=>key_ok (w:=w) q d b;have f:∀{x:AV} {u:Value} (b:Bool),V g x u->V g (withOk ok x b) (if ok then .tuple #[u,.bool b] else u):=λ{x u} b I=>by
  unfold withOk;cases ok
  ·exact I
  ·simp only [if_true,V];exact ⟨_,rfl,by simp only [VL];exact ⟨_,_,rfl,I,_,_,rfl,by simp only [V],rfl⟩⟩
 split at a
 ·simp only [V] at s;subst s;rcases p:aZeroM P y with _ | z
  ·simp [p] at a
  ·simp [p] at a;subst a;obtain ⟨u,A,G⟩:=aZeroM_sound (w:=w) (g:=g) p;have E:(Instr.findKey F kv []).run P w=.ok none w:=by
    have:=find_run (w:=w) (es:=[]) (ents:=[]) (res:=none) q rfl rfl (key_und d);exact this
   exact ⟨_,by simp [Instr.lookup,run_underlying D,C,E,A],f false G⟩
 ·rename_i id;simp only [V] at s;obtain ⟨c,M,rfl⟩:=s;split at a
  ·rename_i es N L;obtain ⟨_,_,⟨ents,n,o,l,_⟩,_⟩:=r.blk id c _ M L;split at a
   ·rename_i j x i;cases a;obtain ⟨e,Q,_,O,J,K⟩:=find_run (w:=w) q l i (key_und d);exact ⟨_,by simp [Instr.lookup,run_underlying D,MapKept.run_getObj_map o,C,K],f true J⟩
   ·rename_i z i p;cases a;have E:=find_run (w:=w) q l i (key_und d);obtain ⟨u,A,G⟩:=aZeroM_sound (w:=w) (g:=g) p;exact ⟨_,by simp [Instr.lookup,run_underlying D,MapKept.run_getObj_map o,C,E,A],f false G⟩
   ·cases a
  ·cases a
 ·cases a

theorem modify_list {α:Type} {a:Array α} {i:Nat} {f:α->α} {e:α} (h:a.toList[i]?=some e):(a.modify i f).toList=a.toList.set i (f e):=by
 apply List.ext_getElem?;intro j;rw [Array.getElem?_toList,Array.getElem?_modify,List.getElem?_set];have hi:i < a.toList.length:=(List.getElem?_eq_some_iff.1 h).1;split
 ·rename_i b;subst b;rw [Array.getElem?_toList] at h;simp only [h,hi,if_true,Option.map_some]
 ·simp
theorem keeps_run {x:Value} (h:Instr.sameBits 10000 x x=true):(Instr.keyThatStays x x).run P w=.ok x w:=by simp [Instr.keyThatStays,h]
theorem Rel.mapPut (r:Rel B w0 g h w) {id c:Nat} {k:Blk} (p:g.σ[id]?=some c) (m:h.blk id=some k) (hd:k ≠ .dead) {es:List (AV×AV)} {j:Nat} {ents:Array MapEntry} {n:Nat} {o:Obj} (l:w.heap[c]?=some o) (q:ME g es ents.toList)
  (f:j=0->n=ents.size/\∀(i:Nat) (e:MapEntry),ents[i]?=some e->e.born=i):Rel B w0 g (h.put id (.mapo es j)) { w with heap:=w.heap.setIfInBounds c (.map ents n) }:=by
 have a:c < w.heap.size:=(Array.getElem?_eq_some_iff.1 l).1;refine r.putObj p m hd rfl rfl rfl (by simp) (λb d=>by simp [Array.getElem?_setIfInBounds_ne (Ne.symm d)]) ?_;exact ⟨ents,n,by simp [a],q,f⟩

theorem set_same {w:World} {c:Nat} {o:Obj} (h:w.heap[c]?=some o):({ w with heap:=w.heap.setIfInBounds c o }:World)=w:=by
 have:w.heap.setIfInBounds c o=w.heap:=by
  apply Array.ext_getElem?;intro i;by_cases hi:c=i
  ·subst hi;have a:c < w.heap.size:=(Array.getElem?_eq_some_iff.1 h).1;rw [h];simp [a]
  ·rw [Array.getElem?_setIfInBounds_ne hi]
 rw [this]

theorem entry_sound {t N I:TypeId} {m k v:AV} {Q:AH} {H kv:Value} (r:Rel B w0 g h w) (K:P.underlying t=some (.map N I)) (S:V g m H) (s:V g k kv) (d:aEntry P h N I m k=some (v,Q)) :
  ∃u w',(Instr.mapEntry t H kv).run P w=.ok u w'/\V g v u/\Rel B w0 g Q w':=by
 unfold aEntry at d;split at d
 case isFalse=>cases d
 rename_i o;have J:=λb=>key_ok (w:=w) s o b;split at d
 ·rename_i id;simp only [V] at S;obtain ⟨c,R,rfl⟩:=S;split at d
  ·rename_i es M;obtain ⟨_,_,⟨ents,n,a,l,G⟩,_⟩:=r.blk id c _ R M;obtain ⟨E,f⟩:=G rfl;split at d
   ·rename_i j x q;cases d;obtain ⟨e,D,_,L,U,X⟩:=find_run (w:=w) s l q (key_und o);have hs:=keeps_run (P:=P) (w:=w) (key_same s s o).2;have C:ents[j]?=some e:=by rw [<- Array.getElem?_toList];exact D
    have A:(ents.modify j λe=>{ e with key:=kv })=ents:=by
     apply Array.ext';rw [modify_list D];apply List.ext_getElem?;intro i;rw [List.getElem?_set];split
     ·rename_i p;subst p;rw [if_pos (List.getElem?_eq_some_iff.1 D).1,D,<- L]
     ·rfl
    refine ⟨.tuple #[e.val,goInt e.born],w,?_,?_,r⟩
    ·have y:(setObj c (.map (ents.modify j λe=>{ e with key:=kv }) n)).run P w=.ok () w:=by
      rw [A,MapKept.run_setObj_map _ a,set_same a]
     simp [Instr.mapEntry,run_underlying K,MapKept.run_getObj_map a,J,X,C,L,hs,y]
    ·simp only [V];exact ⟨_,rfl,by simp only [VL];exact ⟨_,_,rfl,U,_,_,rfl,by simp only [V,f j e C];rfl,rfl⟩⟩
   ·rename_i z q W;cases d;have Y:=find_run (w:=w) s l q (key_und o);obtain ⟨u,T,O⟩:=aZeroM_sound (w:=w) (g:=g) W;have F:ents.size=es.length:=by have:=l.len;simpa using this
    refine ⟨.tuple #[u,goInt n],{ w with heap:=w.heap.setIfInBounds c (.map (ents.push { key:=kv,val:=u,born:=n }) (n+1)) },?_,?_,?_⟩
    ·simp [Instr.mapEntry,run_underlying K,MapKept.run_getObj_map a,J,Y,T,MapKept.run_setObj_map _ a]
    ·simp only [V];exact ⟨_,rfl,by simp only [VL];exact ⟨_,_,rfl,O,_,_,rfl,by simp only [V,E,F];rfl,rfl⟩⟩
    ·refine r.mapPut R M (by simp) a (by rw [Array.toList_push];exact l.push s O) λ_=>⟨by simp [E],λi e hi=>?_⟩
     rw [Array.getElem?_push] at hi;split at hi
     ·rename_i p;injection hi with hi;subst hi;simp [E,p]
     ·exact f i e hi
   ·cases d
  ·cases d
 ·cases d
theorem entryStore_sound {t:TypeId} {m s x:AV} {D:AH} {y C u:Value} (r:Rel B w0 g h w) (F:V g m y) (hs:V g s C) (H:V g x u) (b:aEntryStore h m s x=some D) :
  ∃w',(Instr.entryStore t y C u).run P w=.ok () w'/\Rel B w0 g D w':=by
 unfold aEntryStore at b;split at b
 ·rename_i id M nn;simp only [V] at F hs;obtain ⟨c,E,rfl⟩:=F;subst hs;split at b
  ·rename_i es z;obtain ⟨_,_,⟨ents,n,f,l,o⟩,_⟩:=r.blk id c _ E z;obtain ⟨G,a⟩:=o rfl;split at b
   ·rename_i h0;split at b
    ·rename_i p K;cases b;obtain ⟨e,A,J,N⟩:=l.getE K;have k:ents[nn.toNat]?=some e:=by rw [<- Array.getElem?_toList];exact A
     have d:=(Array.getElem?_eq_some_iff.1 k).1;have v:ents.findIdx? (λe=>(e.born:Int)==nn)=some nn.toNat:=by
      rw [Array.findIdx?_eq_some_iff_getElem];refine ⟨d,?_,λj I=>?_⟩
      ·have:=a nn.toNat _ (Array.getElem?_eq_getElem d);rw [this];simp;omega
      ·have:=a j _ (Array.getElem?_eq_getElem (Nat.lt_trans I d));rw [this];simp;omega
     refine ⟨{ w with heap:=w.heap.setIfInBounds c (.map (ents.modify nn.toNat λe=>{ e with val:=u }) n) },?_,?_⟩
     ·simp [Instr.entryStore,MapKept.run_getObj_map f,asInt,asIntOf,v,MapKept.run_setObj_map _ f]
     ·refine r.mapPut E z (by simp) f (by rw [modify_list A];exact l.put _ J H.zcl) λ_=>⟨by simp [G],λi L hi=>?_⟩
      rw [Array.getElem?_modify] at hi;split at hi
      ·rename_i q;subst q;rw [k] at hi;simp at hi;subst hi;exact a _ e k
      ·exact a i L hi
    ·cases b
   ·cases b
  ·cases b
 ·cases b
theorem mapPut_sound {t I L:TypeId} {m k x:AV} {J:AH} {D kv z:Value} (r:Rel B w0 g h w) (G:P.underlying t=some (.map I L)) (K:V g m D) (s:V g k kv) (E:V g x z) (f:aMapPut P h I m k x=some J) :
  ∃w',(Instr.mapUpdate t D kv z).run P w=.ok () w'/\Rel B w0 g J w':=by
 unfold aMapPut at f;split at f
 case isFalse=>cases f
 rename_i o;have F:=λb=>key_ok (w:=w) s o b;split at f
 ·rename_i id;simp only [V] at K;obtain ⟨c,C,rfl⟩:=K;split at f
  ·rename_i es T A;obtain ⟨_,_,⟨ents,n,d,l,v⟩,_⟩:=r.blk id c _ C A;split at f
   ·rename_i j R u;cases f;obtain ⟨e,H,_,N,S,M⟩:=find_run (w:=w) s l u (key_und o);have hs:=keeps_run (P:=P) (w:=w) (key_same s s o).2;have p:ents[j]?=some e:=by rw [<- Array.getElem?_toList];exact H
    refine ⟨{ w with heap:=w.heap.setIfInBounds c (.map (ents.modify j λe=>{ e with key:=kv,val:=z }) n) },?_,?_⟩
    ·simp [Instr.mapUpdate,run_underlying G,MapKept.run_getObj_map d,F,M,p,N,hs,MapKept.run_setObj_map _ d]
    ·refine r.mapPut C A (by simp) d (by rw [modify_list H];exact l.put _ s E.zcl) λh0=>?_;obtain ⟨y,a⟩:=v h0;refine ⟨by simp [y],λi Q hi=>?_⟩;rw [Array.getElem?_modify] at hi;split at hi
     ·rename_i q;subst q;rw [p] at hi;simp at hi;subst hi;exact a _ e p
     ·exact a i Q hi
   ·rename_i u;cases f;have O:=find_run (w:=w) s l u (key_und o);refine ⟨{ w with heap:=w.heap.setIfInBounds c (.map (ents.push { key:=kv,val:=z,born:=n }) (n+1)) },?_,?_⟩
    ·simp [Instr.mapUpdate,run_underlying G,MapKept.run_getObj_map d,F,O,MapKept.run_setObj_map _ d]
    ·refine r.mapPut C A (by simp) d (by rw [Array.toList_push];exact l.push s E.zcl) λh0=>?_;obtain ⟨y,a⟩:=v h0;refine ⟨by simp [y],λi e hi=>?_⟩;rw [Array.getElem?_push] at hi;split at hi
     ·rename_i q;injection hi with hi;subst hi;simp [y,q]
     ·exact a i e hi
   ·cases f
  ·cases f
 ·cases f
end
end Go.Vv
