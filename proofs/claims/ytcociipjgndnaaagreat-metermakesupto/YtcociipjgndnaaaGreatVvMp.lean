/- Maps, proved. -/
import Derived.Test.YtcociipjgndnaaaGreatVvI
import Derived.MapKept
import Derived.Carry
namespace Go.Vv
open Go Go.RowKit Go.Lib
section
variable {P:Program} {w:World} {g:Gh} {h:AH} {B:Nat} {w0:World}

theorem eq1_same {k:Kd} {a b:AV} {x y:Value} (ha:V g a x) (hb:V g b y) (hr:aEq1 k a b=some true):x=y/\∀n,Instr.sameBits n x x=true:=by
 unfold aEq1 at hr;split at hr
 ·simp only [V] at ha hb;simp at hr;subst ha hb hr;exact ⟨rfl,λn=>by unfold Instr.sameBits;cases n <;> simp⟩
 ·split at hr
  ·rename_i hk;simp only [V] at ha hb;simp at hr;subst ha hb hr hk;exact ⟨rfl,λn=>by unfold Instr.sameBits;cases n <;> simp⟩
  ·cases hr
 ·simp only [V] at ha hb;simp at hr;subst hr;exact ⟨by rw [ha.1,hb.1],λn=>by rw [ha.1];unfold Instr.sameBits;cases n <;> exact u2 (α:=Array UInt8) _⟩
 ·cases hr
theorem eqL_same:∀{e:List Kd} {d bs:List AV} {xs c:List Value},VA g d xs->VA g bs c->aEqL e d bs=some true->xs=c/\∀n,(xs.zip xs).all (λ(x,y)=>Instr.sameBits n x y)=true
 | [],[],[],xs,c,ha,hb,_=>by
  simp only [VA] at ha hb;subst ha hb;exact ⟨rfl,λ_=>rfl⟩
 | k::e,a::d,b::bs,xs,c,ha,hb,hr=>by
  simp only [VA] at ha hb;obtain ⟨x,o,rfl,⟨_,u⟩,i⟩:=ha;obtain ⟨y,r,rfl,⟨_,t⟩,l⟩:=hb;simp only [aEqL] at hr;split at hr
  ·rename_i p q s m;simp only [un,ud] at hr;obtain ⟨rfl,rfl⟩:=hr;obtain ⟨rfl,f⟩:=eq1_same u t s;obtain ⟨rfl,j⟩:=eqL_same i l m;exact ⟨rfl,λn=>by simp only [r6,tc,f n,j n,u5]⟩
  ·cases hr
 | [],[],_::_,_,_,_,_,hr=>by simp [aEqL] at hr
 | [],_::_,_,_,_,_,_,hr=>by simp [aEqL] at hr
 | _::_,[],_,_,_,_,_,hr=>by simp [aEqL] at hr
 | _::_,_::_,[],_,_,_,_,hr=>by simp [aEqL] at hr

theorem key_same {j:TypeId} {a b:AV} {x y:Value} (d:V g a x) (e:V g b y) (c:xe P j a b=some true):x=y/\Instr.sameBits 10000 x x=true:=by
 unfold xe at c;split at c
 ·exact ⟨(eq1_same d e c).1,(eq1_same d e c).2 _⟩
 ·exact ⟨(eq1_same d e c).1,(eq1_same d e c).2 _⟩
 ·exact ⟨(eq1_same d e c).1,(eq1_same d e c).2 _⟩
 ·split at c
  ·split at c
   ·simp only [V] at d e;obtain ⟨us,rfl,l⟩:=d;obtain ⟨vs,rfl,k⟩:=e;obtain ⟨f,i⟩:=eqL_same l k c;have:us=vs:=sD f;subst this;refine ⟨rfl,?_⟩;rw [show (10000:Nat)=9999+1 from rfl];unfold Instr.sameBits;simp only [u2,uX];exact i 9999
   ·cases c
  ·cases c
 ·cases c

def CkE (P:Program) (w:World) (d:Nat):Prop:=∀{t:TypeId} {ks:List Kd} {i:TypeInfo},wc P d t=some ks->P.info? t=some i->i.size=ks.length->∀{xs:Array Value} {off:Nat},off+ks.length<=xs.size->∀(b:Bool) D,d<=D ->
  ∃u,(part t xs off).run P w=.ok u w/\(Instr.checkKey b D t u).run P w=.ok () w
theorem ckF {d:Nat} (E:CkE P w d) (b:Bool):∀(fs:List Field) (acc:Nat) {ks:List Kd},plainFs P d fs acc=some ks->∀{xs:Array Value},acc+ks.length<=xs.size->∀D,d<=D ->
  (forIn fs PUnit.unit fun (f : Field) (_ : PUnit) => (if f.name ≠ "_" then (part f.type xs f.offset) >>= fun u => Instr.checkKey b D f.type u >>= fun _ => pure (ForInStep.yield PUnit.unit) else pure (ForInStep.yield PUnit.unit) : Sem (ForInStep PUnit))).run P w = .ok PUnit.unit w
 | [],acc,ks,h,xs,hx,D,_=>by simp
 | f::fs,acc,ks,h,xs,hx,D,hD=>by
  simp only [plainFs,plainFsOf] at h;split at h
  ·rename_i hf;split at h
   ·rename_i k1 i hk1 hi;split at h
    ·rename_i hsz;split at h
     ·rename_i k2 hk2;cases h;simp only [uo] at hx;obtain ⟨u,e1,e2⟩:=E hk1 hi hsz (xs:=xs) (off:=acc) (by omega) b D hD;have e4:=ckF E b fs (acc+i.size) hk2 (xs:=xs) (by omega) D hD;simp only [List.forIn_cons,Sem.run_bind,hf.1,oA,pi,ut,hf.2,e1,e2,Result.andThen_ok,Sem.run_pure];exact e4
     ·cases h
    ·cases h
   ·cases h
  ·cases h
theorem ckE:∀(d:Nat),CkE P w d:=by
 intro d
 induction d with
 | zero=>intro t l i h;simp [wc] at h
 | succ d ih =>
  intro t l i h hi n xs off o b D p;obtain ⟨D,rfl⟩:∃D',D=D'+1:=⟨D - 1,by omega⟩
  have one:∀(dd:TypeDesc),l.length=1->P.underlying t=some dd->yh dd=false->(∀u,(Instr.checkKey b (D+1) t u).run P w=.ok () w)->∃u,(part t xs off).run P w=.ok u w/\(Instr.checkKey b (D+1) t u).run P w=.ok () w:=by
   intro dd q f m e;have c:off < xs.size:=by omega
   exact ⟨xs[off],by simp [part,run_agg f,m,c],e _⟩
  simp only [wc] at h;split at h
  ·rename_i a;cases h;exact one _ rfl a rfl λu=>by simp [Instr.checkKey,run_underlying a]
  ·rename_i j a;cases h;exact one _ rfl a rfl λu=>by simp [Instr.checkKey,run_underlying a]
  ·rename_i a;cases h;exact one _ rfl a rfl λu=>by simp [Instr.checkKey,run_underlying a]
  ·rename_i fs a;split at h
   ·cases h
   ·have k:(part t xs off).run P w=.ok (.agg (xs.extract off (off+i.size))) w:=by simp [part,run_agg a,yh,x6 hi]
    refine ⟨_,k,?_⟩;have:=ckF ih b fs.toList 0 h (xs:=xs.extract off (off+i.size)) (by simp;omega) D (by omega);simp only [Instr.checkKey,Sem.run_bind,run_underlying a,Result.andThen_ok];rw [<- Array.forIn_toList];refine (congrArg (λr=>Result.andThen r _) this).trans ?_;simp
  ·cases h
theorem key_okD {f:TypeId} {k:AV} {x:Value} {r:Bool} (i:V g k x) (d:xe P f k k=some r) (b:Bool) (D:Nat) (l:5<=D):(Instr.checkKey b (D+1) f x).run P w=.ok () w:=by
 unfold xe at d;split at d
 ·rename_i c;simp [Instr.checkKey,run_underlying c]
 ·rename_i c;simp [Instr.checkKey,run_underlying c]
 ·rename_i c;simp [Instr.checkKey,run_underlying c]
 ·rename_i fs c;split at d
  ·rename_i cs ds;split at d
   ·rename_i e a;simp only [V] at i;obtain ⟨us,rfl,j⟩:=i;have m:e.length<=us.size:=by
     obtain ⟨_,_,_,_,_,n,_⟩:=aEqL_split e (ls:=[]) (by simpa using d);have:=j.toVL.length;simp at this;omega
    simp only [wc,c] at a;split at a
    ·cases a
    ·have:=ckF (P:=P) (w:=w) (ckE 5) b fs.toList 0 a (xs:=us) (by omega) D l;simp only [Instr.checkKey,Sem.run_bind,run_underlying c,Result.andThen_ok];rw [<- Array.forIn_toList];refine (congrArg (λr=>Result.andThen r _) this).trans ?_;simp
   ·cases d
  ·cases d
 ·cases d
theorem key_ok {a:TypeId} {k:AV} {x:Value} {r:Bool} (c:V g k x) (d:xe P a k k=some r) (b:Bool):(Instr.checkKey b 10000 a x).run P w=.ok () w:=key_okD c d b 9999 (by omega)
theorem key_eq {k:TypeId} {a b:AV} {x y:Value} {r:Bool} (j:V g a x) (f:V g b y) (c:xe P k a b=some r):(Op.equal k x y).run P w=.ok r w:=by
 unfold Op.equal;show (Op.equalIn 10000 k x y).run P w=.ok r w;rw [show (10000:Nat)=9999+1 from rfl];unfold xe at c;split at c
 ·rename_i e;exact eq1_run j f c e 9999
 ·rename_i e;exact eq1_run j f c ⟨_,e⟩ 9999
 ·rename_i e;exact eq1_run j f c e 9999
 ·rename_i fs e;split at c
  ·split at c
   ·rename_i o d;simp only [V] at j f;obtain ⟨us,rfl,m⟩:=j;obtain ⟨vs,rfl,n⟩:=f;have i:P.fieldsOf k=fs:=by simp [Program.fieldsOf,e]
    simp only [wc,e] at d;split at d
    ·cases d
    ·rename_i l;rw [run_equalIn_struct w 9999 k _ _ (by rw [i];exact e) (by simpa using l),i];exact eqF (eqE 5) fs.toList 0 d m n (by simpa using c) 9999 (by omega)
   ·cases c
  ·cases c
 ·cases c

theorem same_now {m:TypeId} {d:TypeDesc} (hd:P.underlying m=some d) {a b:AV} {x y:Value} {r:Bool} (i:V g a x) (f:V g b y) (e:xe P m a b=some r) {j:Bool} (hs:Instr.sameNow d x y=some j):j=r:=by
 have one:∀{k:Kd},aEq1 k a b=some r->j=r:=by
  intro k c;unfold aEq1 at c;split at c
  ·simp only [V] at i f;subst i f;cases c;cases d <;> simp [Instr.sameNow] at hs;exact hs.symm
  ·split at c
   ·rename_i n;simp only [V] at i f;subst i f n;cases c;cases d <;> simp [Instr.sameNow] at hs;exact hs.symm
   ·cases c
  ·simp only [V] at i f;obtain ⟨rfl,_⟩:=i;obtain ⟨rfl,_⟩:=f;cases c;cases d <;> simp [Instr.sameNow] at hs;rw [<- hs];have:∀s1 s2:List UInt8,((⟨s1.toArray⟩:ByteArray)==⟨s2.toArray⟩)=(s1==s2):=λs1 s2=>by
    have:((⟨s1.toArray⟩:ByteArray)==⟨s2.toArray⟩)=(s1.toArray==s2.toArray):=rfl;rw [this];simp
   exact this _ _
  ·cases c
 unfold xe at e;rw [hd] at e;split at e
 ·exact one e
 ·exact one e
 ·exact one e
 ·rename_i fs l;injection l with l;subst l;simp [Instr.sameNow] at hs
 ·cases e
theorem find_sound {n:TypeId} {d:TypeDesc} (hd:P.underlying n=some d) {k:AV} {x:Value} (c:V g k x):∀{es:List (AV×AV)} {ents:List MapEntry} {i:Nat} {res:Option (Nat×AV)},ME g es ents->aFind P n k es i=some res ->
  ∃r,(Instr.findAsking n x ents i).run P w=.ok r w/\(∀l,Instr.findNow d x ents i=some l->l=r) /\
   (match res with
       | none=>r=none
       | some (j,v)=>∃m e,j=i+m/\ents[m]?=some e/\(∃f,es[m]?=some (f,v)/\xe P n k f=some true/\V g f e.key)/\e.key=x/\V g v e.val/\r=some (j,e.val))
 | [],ents,i,res,hm,hf=>by
  simp only [ME] at hm;subst hm;simp only [aFind,un] at hf;subst hf;exact ⟨none,rfl,λl h=>by simp [Instr.findNow] at h;exact h.symm,rfl⟩
 | (f,v)::es,ents,i,res,hm,hf=>by
  simp only [ME] at hm;obtain ⟨e,s,rfl,b,A,G⟩:=hm;simp only [aFind] at hf;split at hf
  ·rename_i a;cases hf;obtain ⟨y,_⟩:=key_same c b a;refine ⟨some (i,e.val),by simp [Instr.findAsking,key_eq (w:=w) c b a],λl h=>?_,0,e,rfl,rfl,⟨f,rfl,a,b⟩,y.symm,A,rfl⟩;simp only [Instr.findNow] at h;split at h
   ·injection h with h;exact h.symm
   ·rename_i hs;exact absurd (same_now hd c b a hs) (by simp)
   ·cases h
  ·rename_i a;obtain ⟨r,C,t,q⟩:=find_sound hd c G hf;refine ⟨r,by simp [Instr.findAsking,key_eq (w:=w) c b a,C],λl h=>?_,?_⟩
   ·simp only [Instr.findNow] at h;split at h
    ·rename_i hs;exact absurd (same_now hd c b a hs) (by simp)
    ·exact t _ h
    ·cases h
   ·cases res with
    | none=>exact q
    | some p =>
     obtain ⟨m,z,H,F,⟨o,E,u⟩,D⟩:=q;exact ⟨m+1,z,by omega,by simpa using F,⟨o,by simpa using E,u⟩,D⟩
  ·cases hf
theorem find_run {a:TypeId} {k:AV} {x:Value} (z:V g k x) {es:List (AV×AV)} {ents:List MapEntry} {res:Option (Nat×AV)} (n:ME g es ents) (o:aFind P a k es 0=some res) (y:(P.underlying a).isSome) :
  (match res with
       | none=>(Instr.findKey a x ents).run P w=.ok none w
       | some (j,v)=>∃e,ents[j]?=some e/\(∃c,es[j]?=some (c,v)/\xe P a k c=some true/\V g c e.key)/\e.key=x/\V g v e.val/\(Instr.findKey a x ents).run P w=.ok (some (j,e.val)) w):=by
 obtain ⟨d,hd⟩:=pU.1 y;obtain ⟨r,C,q,f⟩:=find_sound (w:=w) hd z n o;have key:(Instr.findKey a x ents).run P w=.ok r w:=by
  simp only [Instr.findKey,Sem.run_bind,run_underlying hd,Result.andThen_ok];split
  ·rename_i E A;rw [q _ A];rfl
  ·exact C
 cases res with
 | none=>subst f;exact key
 | some p =>
  obtain ⟨m,e,D,u,t,l,s,i⟩:=f;have b:p.1=m:=by omega
  subst i;exact ⟨e,by rw [b];exact u,by rw [b];exact t,l,s,key⟩
theorem key_und {c:TypeId} {a b:AV} {r:Bool} (e:xe P c a b=some r):(P.underlying c).isSome:=by
 unfold xe at e;cases h:P.underlying c with
 | none=>simp [h] at e
 | some d=>rfl
theorem aZero_sound {t:TypeId} {z:AV} (a:aZero P t=some z):∃u,(zeroValue t).run P w=.ok u w/\V g z u:=by
 unfold aZero at a;split at a
 ·rename_i i hi;split at a
  ·rename_i u e;split at a
   ·rename_i c;refine ⟨u,by simp [zeroValue,run_typeInfo w hi,e],?_⟩;have b:=V.cv (g:=g) c;split at a
    ·rename_i cs f;cases a;rw [f] at b;simp only [V] at b ⊢;obtain ⟨vs,j,d⟩:=b;exact ⟨vs,j,d.fix⟩
    ·cases a;exact b.tyfix
   ·cases a
  ·cases a
 ·cases a

theorem ME.len:∀{es:List (AV×AV)} {ents:List MapEntry},ME g es ents->ents.length=es.length
 | [],_,h=>by simp only [ME] at h;subst h;rfl
 | (_,_)::r,_,h=>by
  simp only [ME] at h;obtain ⟨e,s,rfl,_,_,a⟩:=h;simp [a.len]
theorem ME.push:∀{es:List (AV×AV)} {ents:List MapEntry} {k v:AV} {e:MapEntry},ME g es ents->V g k e.key->V g v e.val->ME g (es++[(k,v)]) (ents++[e])
 | [],_,k,v,e,h,hk,hv=>by simp only [ME] at h;subst h;simp only [u6,ME];exact ⟨e,[],rfl,hk,hv,rfl⟩
 | (_,_)::r,_,k,v,e,h,hk,hv=>by
  simp only [ME] at h;obtain ⟨c,s,rfl,d,a,b⟩:=h;simp only [tS,ME];exact ⟨c,s++[e],rfl,d,a,b.push hk hv⟩
theorem ME.put:∀{es:List (AV×AV)} {ents:List MapEntry} (j:Nat) {k v:AV} {e:MapEntry},ME g es ents->V g k e.key->V g v e.val->ME g (es.set j (k,v)) (ents.set j e)
 | [],_,j,k,v,e,h,hk,hv=>by simp only [ME] at h;subst h;simp [ME]
 | (_,_)::r,_,j,k,v,e,h,hk,hv=>by
  simp only [ME] at h;obtain ⟨c,s,rfl,d,b,a⟩:=h;cases j with
  | zero=>simp only [uf,ME];exact ⟨e,s,rfl,hk,hv,a⟩
  | succ j=>simp only [ue,ME];exact ⟨c,s.set j e,rfl,d,b,a.put j hk hv⟩
theorem ME.getE:∀{es:List (AV×AV)} {ents:List MapEntry} {j:Nat} {p:AV×AV},ME g es ents->es[j]?=some p->∃e,ents[j]?=some e/\V g p.1 e.key/\V g p.2 e.val
 | [],_,j,p,h,hp=>by simp at hp
 | (_,_)::r,_,j,p,h,hp=>by
  simp only [ME] at h;obtain ⟨c,s,rfl,d,a,b⟩:=h;cases j with
  | zero=>simp at hp;subst hp;exact ⟨c,rfl,d,a⟩
  | succ j=>simpa using b.getE (by simpa using hp)

theorem V.zc1 {a:AV} {v:Value} (h:V g a v):V g a.zc1 v:=by
 unfold AV.zc1;split
 ·simp only [V] at h ⊢;obtain ⟨x,c,e,f,b,d,_⟩:=h;exact ⟨x,c,e,f,b,d⟩
 ·exact h
theorem VA.zc1:∀{b:List AV} {vs:List Value},VA g b vs->VA g (b.map AV.zc1) vs
 | [],_,h=>by simpa using h
 | a::r,_,h=>by
  simp only [VA] at h;obtain ⟨v,s,rfl,⟨h0,d⟩,c⟩:=h;simp only [uC,VA];exact ⟨v,s,rfl,⟨by cases a <;> first | exact h0 | rfl,d.zc1⟩,VA.zc1 c⟩
theorem V.zcl {a:AV} {v:Value} (h:V g a v):V g a.zcl v:=by
 unfold AV.zcl;split
 ·simp only [V] at h ⊢;obtain ⟨vs,e,b⟩:=h;exact ⟨vs,e,b.zc1⟩
 ·exact h
theorem aZeroM_sound {t:TypeId} {z:AV} (a:aZeroM P t=some z):∃u,(zeroValue t).run P w=.ok u w/\V g z u:=by
 unfold aZeroM at a;rw [sP] at a;obtain ⟨y,d,rfl⟩:=a;obtain ⟨u,b,c⟩:=aZero_sound (w:=w) (g:=g) d;exact ⟨u,b,c.zcl⟩
theorem lookup_sound {t G y:TypeId} {ok:Bool} {m k v:AV} {H kv:Value} (r:Rel B w0 g h w) (A:P.underlying t=some (.map G y)) (q:V g m H) (s:V g k kv) (a:aLookup P h G y ok m k=some v) :
  ∃u,(Instr.lookup t H kv ok).run P w=.ok u w/\V g v u:=by
 unfold aLookup at a;split at a
 case isFalse=>cases a
 rename_i d;have F:=λb=>key_ok (w:=w) s d b;have f:∀{x:AV} {u:Value} (b:Bool),V g x u->V g (withOk ok x b) (if ok then .tuple #[u,.bool b] else u):=λ{x u} b I=>by
  unfold withOk;cases ok
  ·exact I
  ·simp only [ut,V];exact ⟨_,rfl,by simp only [VL];exact ⟨_,_,rfl,I,_,_,rfl,by simp only [V],rfl⟩⟩
 split at a
 ·simp only [V] at q;subst q;rcases p:aZeroM P y with _ | z
  ·simp [p] at a
  ·simp [p] at a;subst a;obtain ⟨u,E,D⟩:=aZeroM_sound (w:=w) (g:=g) p;have C:(Instr.findKey G kv []).run P w=.ok none w:=by
    have:=find_run (w:=w) (es:=[]) (ents:=[]) (res:=none) s rfl rfl (key_und d);exact this
   exact ⟨_,by simp [Instr.lookup,run_underlying A,F,C,E],f false D⟩
 ·rename_i id;simp only [V] at q;obtain ⟨c,M,rfl⟩:=q;split at a
  ·rename_i es Q K;obtain ⟨_,_,⟨ents,n,l,o,_⟩,_⟩:=r.blk id c _ M K;split at a
   ·rename_i j x i;cases a;obtain ⟨e,N,_,O,J,L⟩:=find_run (w:=w) s o i (key_und d);exact ⟨_,by simp [Instr.lookup,run_underlying A,MapKept.run_getObj_map l,F,L],f true J⟩
   ·rename_i z i p;cases a;have C:=find_run (w:=w) s o i (key_und d);obtain ⟨u,E,D⟩:=aZeroM_sound (w:=w) (g:=g) p;exact ⟨_,by simp [Instr.lookup,run_underlying A,MapKept.run_getObj_map l,F,C,E],f false D⟩
   ·cases a
  ·cases a
 ·cases a

theorem modify_list {α:Type} {a:Array α} {i:Nat} {f:α->α} {e:α} (h:a.toList[i]?=some e):(a.modify i f).toList=a.toList.set i (f e):=by
 apply tu;intro j;rw [uv,sF,rj];have hi:i < a.toList.length:=(uc.1 h).1;split
 ·rename_i b;subst b;rw [uv] at h;simp only [h,hi,ut,u7]
 ·simp
theorem keeps_run {x:Value} (h:Instr.sameBits 10000 x x=true):(Instr.keyThatStays x x).run P w=.ok x w:=by simp [Instr.keyThatStays,h]
theorem Rel.mapPut (r:Rel B w0 g h w) {id c:Nat} {k:Blk} (q:g.σ[id]?=some c) (l:h.blk id=some k) (hd:k ≠ .dead) {es:List (AV×AV)} {j:Nat} {ents:Array MapEntry} {n:Nat} {o:Obj} (p:w.heap[c]?=some o) (m:ME g es ents.toList)
  (d:j=0->n=ents.size/\∀(i:Nat) (e:MapEntry),ents[i]?=some e->e.born=i):Rel B w0 g (h.put id (.mapo es j)) { w with heap:=w.heap.setIfInBounds c (.map ents n) }:=by
 have a:c < w.heap.size:=(uQ.1 p).1;refine r.putObj q l hd rfl rfl rfl (by simp) (λb f=>by simp [rn (Ne.symm f)]) ?_;exact ⟨ents,n,by simp [a],m,d⟩

theorem set_same {w:World} {c:Nat} {o:Obj} (h:w.heap[c]?=some o):({ w with heap:=w.heap.setIfInBounds c o }:World)=w:=by
 have:w.heap.setIfInBounds c o=w.heap:=by
  apply rf;intro i;by_cases hi:c=i
  ·subst hi;have a:c < w.heap.size:=(uQ.1 h).1;rw [h];simp [a]
  ·rw [rn hi]
 rw [this]

theorem entry_sound {t R K:TypeId} {m k v:AV} {M:AH} {H kv:Value} (r:Rel B w0 g h w) (L:P.underlying t=some (.map R K)) (J:V g m H) (s:V g k kv) (d:aEntry P h R K m k=some (v,M)) :
  ∃u w',(Instr.mapEntry t H kv).run P w=.ok u w'/\V g v u/\Rel B w0 g M w':=by
 unfold aEntry at d;split at d
 case isFalse=>cases d
 rename_i o;have Q:=λb=>key_ok (w:=w) s o b;split at d
 ·rename_i id;simp only [V] at J;obtain ⟨c,S,rfl⟩:=J;split at d
  ·rename_i es I;obtain ⟨_,_,⟨ents,n,a,l,G⟩,_⟩:=r.blk id c _ S I;obtain ⟨E,f⟩:=G rfl;split at d
   ·rename_i j x q;cases d;obtain ⟨e,D,_,O,T,X⟩:=find_run (w:=w) s l q (key_und o);have hs:=keeps_run (P:=P) (w:=w) (key_same s s o).2;have y:ents[j]?=some e:=by rw [<- uv];exact D
    have A:(ents.modify j λe=>{ e with key:=kv })=ents:=by
     apply sD;rw [modify_list D];apply tu;intro i;rw [rj];split
     ·rename_i p;subst p;rw [up (uc.1 D).1,D,<- O]
     ·rfl
    refine ⟨.tuple #[e.val,goInt e.born],w,?_,?_,r⟩
    ·have C:(setObj c (.map (ents.modify j λe=>{ e with key:=kv }) n)).run P w=.ok () w:=by
      rw [A,MapKept.run_setObj_map _ a,set_same a]
     simp [Instr.mapEntry,run_underlying L,MapKept.run_getObj_map a,Q,X,y,O,hs,C]
    ·simp only [V];exact ⟨_,rfl,by simp only [VL];exact ⟨_,_,rfl,T,_,_,rfl,by simp only [V,f j e y];rfl,rfl⟩⟩
   ·rename_i z q Y;cases d;have U:=find_run (w:=w) s l q (key_und o);obtain ⟨u,W,N⟩:=aZeroM_sound (w:=w) (g:=g) Y;have F:ents.size=es.length:=by have:=l.len;simpa using this
    refine ⟨.tuple #[u,goInt n],{ w with heap:=w.heap.setIfInBounds c (.map (ents.push { key:=kv,val:=u,born:=n }) (n+1)) },?_,?_,?_⟩
    ·simp [Instr.mapEntry,run_underlying L,MapKept.run_getObj_map a,Q,U,W,MapKept.run_setObj_map _ a]
    ·simp only [V];exact ⟨_,rfl,by simp only [VL];exact ⟨_,_,rfl,N,_,_,rfl,by simp only [V,E,F];rfl,rfl⟩⟩
    ·refine r.mapPut S I (by simp) a (by rw [Array.toList_push];exact l.push s N) λ_=>⟨by simp [E],λi e hi=>?_⟩
     rw [rq] at hi;split at hi
     ·rename_i p;injection hi with hi;subst hi;simp [E,p]
     ·exact f i e hi
   ·cases d
  ·cases d
 ·cases d
theorem entryStore_sound {t:TypeId} {m s x:AV} {D:AH} {y C o:Value} (r:Rel B w0 g h w) (A:V g m y) (hs:V g s C) (J:V g x o) (b:aEntryStore h m s x=some D) :
  ∃w',(Instr.entryStore t y C o).run P w=.ok () w'/\Rel B w0 g D w':=by
 unfold aEntryStore at b;split at b
 ·rename_i id M nn;simp only [V] at A hs;obtain ⟨c,F,rfl⟩:=A;subst hs;split at b
  ·rename_i es z;obtain ⟨_,_,⟨ents,n,k,l,u⟩,_⟩:=r.blk id c _ F z;obtain ⟨G,a⟩:=u rfl;split at b
   ·rename_i h0;split at b
    ·rename_i p L;cases b;obtain ⟨e,E,K,N⟩:=l.getE L;have d:ents[nn.toNat]?=some e:=by rw [<- uv];exact E
     have f:=(uQ.1 d).1;have v:ents.findIdx? (λe=>(e.born:Int)==nn)=some nn.toNat:=by
      rw [Array.findIdx?_eq_some_iff_getElem];refine ⟨f,?_,λj I=>?_⟩
      ·have:=a nn.toNat _ (uH f);rw [this];simp;omega
      ·have:=a j _ (uH (Nat.lt_trans I f));rw [this];simp;omega
     refine ⟨{ w with heap:=w.heap.setIfInBounds c (.map (ents.modify nn.toNat λe=>{ e with val:=o }) n) },?_,?_⟩
     ·simp [Instr.entryStore,MapKept.run_getObj_map k,asInt,asIntOf,v,MapKept.run_setObj_map _ k]
     ·refine r.mapPut F z (by simp) k (by rw [modify_list E];exact l.put _ K J.zcl) λ_=>⟨by simp [G],λi H hi=>?_⟩
      rw [sF] at hi;split at hi
      ·rename_i q;subst q;rw [d] at hi;simp at hi;subst hi;exact a _ e d
      ·exact a i H hi
    ·cases b
   ·cases b
  ·cases b
 ·cases b
theorem mapPut_sound {t K L:TypeId} {m k x:AV} {G:AH} {D kv z:Value} (r:Rel B w0 g h w) (F:P.underlying t=some (.map K L)) (E:V g m D) (u:V g k kv) (I:V g x z) (f:aMapPut P h K m k x=some G) :
  ∃w',(Instr.mapUpdate t D kv z).run P w=.ok () w'/\Rel B w0 g G w':=by
 unfold aMapPut at f;split at f
 case isFalse=>cases f
 rename_i o;have J:=λb=>key_ok (w:=w) u o b;split at f
 ·rename_i id;simp only [V] at E;obtain ⟨c,C,rfl⟩:=E;split at f
  ·rename_i es T A;obtain ⟨_,_,⟨ents,n,d,l,v⟩,_⟩:=r.blk id c _ C A;split at f
   ·rename_i j S s;cases f;obtain ⟨e,H,_,Q,R,O⟩:=find_run (w:=w) u l s (key_und o);have hs:=keeps_run (P:=P) (w:=w) (key_same u u o).2;have p:ents[j]?=some e:=by rw [<- uv];exact H
    refine ⟨{ w with heap:=w.heap.setIfInBounds c (.map (ents.modify j λe=>{ e with key:=kv,val:=z }) n) },?_,?_⟩
    ·simp [Instr.mapUpdate,run_underlying F,MapKept.run_getObj_map d,J,O,p,Q,hs,MapKept.run_setObj_map _ d]
    ·refine r.mapPut C A (by simp) d (by rw [modify_list H];exact l.put _ u I.zcl) λh0=>?_;obtain ⟨y,a⟩:=v h0;refine ⟨by simp [y],λi N hi=>?_⟩;rw [sF] at hi;split at hi
     ·rename_i q;subst q;rw [p] at hi;simp at hi;subst hi;exact a _ e p
     ·exact a i N hi
   ·rename_i s;cases f;have M:=find_run (w:=w) u l s (key_und o);refine ⟨{ w with heap:=w.heap.setIfInBounds c (.map (ents.push { key:=kv,val:=z,born:=n }) (n+1)) },?_,?_⟩
    ·simp [Instr.mapUpdate,run_underlying F,MapKept.run_getObj_map d,J,M,MapKept.run_setObj_map _ d]
    ·refine r.mapPut C A (by simp) d (by rw [Array.toList_push];exact l.push u I.zcl) λh0=>?_;obtain ⟨y,a⟩:=v h0;refine ⟨by simp [y],λi e hi=>?_⟩;rw [rq] at hi;split at hi
     ·rename_i q;injection hi with hi;subst hi;simp [y,q]
     ·exact a i e hi
   ·cases f
  ·cases f
 ·cases f
end
end Go.Vv
