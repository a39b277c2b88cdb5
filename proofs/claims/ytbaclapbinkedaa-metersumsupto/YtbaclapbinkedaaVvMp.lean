/- Maps, proved. -/
import Derived.Test.YtbaclapbinkedaaVvI
import Derived.MapKept
import Derived.Carry
namespace Go.Vv
open Go Go.RowKit Go.Lib
section
variable {P:Program} {w:World} {g:Gh} {h:AH} {B:Nat} {w0:World}

theorem eq1_same {k:Kd} {a b:AV} {x y:Value} (ha:V g a x) (hb:V g b y) (hr:aEq1 k a b=some true):x=y∧∀ n,Instr.sameBits n x x=true:=by
 unfold aEq1 at hr
 split at hr
 ·simp only [V] at ha hb
  simp at hr
  subst ha hb hr
  exact ⟨rfl,fun n=>by unfold Instr.sameBits;cases n <;> simp⟩
 ·split at hr
  ·rename_i hk
   simp only [V] at ha hb
   simp at hr
   subst ha hb hr hk
   exact ⟨rfl,fun n=>by unfold Instr.sameBits;cases n <;> simp⟩
  ·cases hr
 ·simp only [V] at ha hb
  simp at hr
  subst hr
  exact ⟨by rw [ha.1,hb.1],fun n=>by rw [ha.1];unfold Instr.sameBits;cases n <;> exact beq_self_eq_true (α:=Array UInt8) _⟩
 ·cases hr
theorem eqL_same:∀ {ks:List Kd} {as bs:List AV} {xs ys:List Value},VA g as xs→VA g bs ys→qW ks as bs=some true→xs=ys∧∀ n,(xs.zip xs).all (fun (x,y)=>Instr.sameBits n x y)=true
 | [],[],[],xs,ys,ha,hb,_=>by
  simp only [VA] at ha hb
  subst ha hb
  exact ⟨rfl,fun _=>rfl⟩
 | k::ks,a::as,b::bs,xs,ys,ha,hb,hr=>by
  simp only [VA] at ha hb
  obtain ⟨x,xs',rfl,⟨_,h1⟩,h2⟩:=ha
  obtain ⟨y,ys',rfl,⟨_,h3⟩,h4⟩:=hb
  simp only [qW] at hr
  split at hr
  ·rename_i p q hp hq
   simp only [Option.some.injEq,Bool.and_eq_true] at hr
   obtain ⟨rfl,rfl⟩:=hr
   obtain ⟨rfl,e1⟩:=eq1_same h1 h3 hp
   obtain ⟨rfl,e2⟩:=eqL_same h2 h4 hq
   exact ⟨rfl,fun n=>by simp only [List.zip_cons_cons,List.all_cons,e1 n,e2 n,Bool.and_self]⟩
  ·cases hr
 | [],[],_::_,_,_,_,_,hr=>by simp [qW] at hr
 | [],_::_,_,_,_,_,_,hr=>by simp [qW] at hr
 | _::_,[],_,_,_,_,_,hr=>by simp [qW] at hr
 | _::_,_::_,[],_,_,_,_,hr=>by simp [qW] at hr

theorem key_same {kt:TypeId} {a b:AV} {x y:Value} (ha:V g a x) (hb:V g b y) (hr:wG P kt a b=some true):x=y∧Instr.sameBits 10000 x x=true:=by
 unfold wG at hr
 split at hr
 ·exact ⟨(eq1_same ha hb hr).1,(eq1_same ha hb hr).2 _⟩
 ·exact ⟨(eq1_same ha hb hr).1,(eq1_same ha hb hr).2 _⟩
 ·exact ⟨(eq1_same ha hb hr).1,(eq1_same ha hb hr).2 _⟩
 ·split at hr
  ·split at hr
   ·simp only [V] at ha hb
    obtain ⟨us,rfl,hu⟩:=ha
    obtain ⟨vs,rfl,hv⟩:=hb
    obtain ⟨e1,e2⟩:=eqL_same hu hv hr
    have:us=vs:=Array.ext' e1
    subst this
    refine ⟨rfl,?_⟩
    rw [show (10000:Nat)=9999+1 from rfl]
    unfold Instr.sameBits
    simp only [beq_self_eq_true,Bool.true_and]
    exact e2 9999
   ·cases hr
  ·cases hr
 ·cases hr

def CkE (P:Program) (w:World) (d:Nat):Prop:=∀ {t:TypeId} {ks:List Kd} {i:TypeInfo},wp P d t=some ks→P.info? t=some i→i.size=ks.length→∀ {xs:Array Value} {off:Nat},off+ks.length≤xs.size→∀ (b:Bool) D,d≤D →
  ∃ u,(part t xs off).run P w=.ok u w∧(Instr.checkKey b D t u).run P w=.ok () w
theorem ckF {d:Nat} (E:CkE P w d) (b:Bool):∀ (fs:List Field) (acc:Nat) {ks:List Kd},plainFs P d fs acc=some ks→∀ {xs:Array Value},acc+ks.length≤xs.size→∀ D,d≤D →
  (forIn fs PUnit.unit fun (f : Field) (_ : PUnit) => (if f.name ≠ "_" then (part f.type xs f.offset) >>= fun u => Instr.checkKey b D f.type u >>= fun _ => pure (ForInStep.yield PUnit.unit) else pure (ForInStep.yield PUnit.unit) : Sem (ForInStep PUnit))).run P w = .ok PUnit.unit w
 | [],acc,ks,h,xs,hx,D,_=>by simp
 | f::fs,acc,ks,h,xs,hx,D,hD=>by
  simp only [plainFs,plainFsOf] at h
  split at h
  ·rename_i hf
   split at h
   ·rename_i k1 i hk1 hi
    split at h
    ·rename_i hsz
     split at h
     ·rename_i k2 hk2
      cases h
      simp only [List.length_append] at hx
      obtain ⟨u,e1,e2⟩:=E hk1 hi hsz (xs:=xs) (off:=acc) (by omega) b D hD
      have e4:=ckF E b fs (acc+i.size) hk2 (xs:=xs) (by omega) D hD
      simp only [List.forIn_cons,Sem.run_bind,hf.1,ne_eq,not_false_eq_true,if_true,hf.2,e1,e2,Result.andThen_ok,Sem.run_pure]
      exact e4
     ·cases h
    ·cases h
   ·cases h
  ·cases h
theorem ckE:∀ (d:Nat),CkE P w d:=by
 intro d
 induction d with
 | zero=>intro t ks i h;simp [wp] at h
 | succ d ih =>
  intro t ks i h hi hsz xs off hx b D hD
  obtain ⟨D,rfl⟩:∃ D',D=D'+1:=⟨D - 1,by omega⟩
  have one:∀ (dd:TypeDesc),ks.length=1→P.underlying t=some dd→yI dd=false→(∀ u,(Instr.checkKey b (D+1) t u).run P w=.ok () w)→∃ u,(part t xs off).run P w=.ok u w∧(Instr.checkKey b (D+1) t u).run P w=.ok () w:=by
   intro dd hk hdd hf hck
   have hlt:off < xs.size:=by omega
   exact ⟨xs[off],by simp [part,run_agg hdd,hf,hlt],hck _⟩
  simp only [wp] at h
  split at h
  ·rename_i hu;cases h;exact one _ rfl hu rfl fun u=>by simp [Instr.checkKey,run_underlying hu]
  ·rename_i j hu;cases h;exact one _ rfl hu rfl fun u=>by simp [Instr.checkKey,run_underlying hu]
  ·rename_i hu;cases h;exact one _ rfl hu rfl fun u=>by simp [Instr.checkKey,run_underlying hu]
  ·rename_i fs hu
   split at h
   ·cases h
   ·have hx':(part t xs off).run P w=.ok (.agg (xs.extract off (off+i.size))) w:=by simp [part,run_agg hu,yI,wN hi]
    refine ⟨_,hx',?_⟩
    have:=ckF ih b fs.toList 0 h (xs:=xs.extract off (off+i.size)) (by simp;omega) D (by omega)
    simp only [Instr.checkKey,Sem.run_bind,run_underlying hu,Result.andThen_ok]
    rw [← Array.forIn_toList]
    refine (congrArg (fun r=>Result.andThen r _) this).trans ?_
    simp
  ·cases h
theorem key_okD {kt:TypeId} {k:AV} {x:Value} {r:Bool} (hk:V g k x) (hr:wG P kt k k=some r) (b:Bool) (D:Nat) (hD:5≤D):(Instr.checkKey b (D+1) kt x).run P w=.ok () w:=by
 unfold wG at hr
 split at hr
 ·rename_i hu;simp [Instr.checkKey,run_underlying hu]
 ·rename_i hu;simp [Instr.checkKey,run_underlying hu]
 ·rename_i hu;simp [Instr.checkKey,run_underlying hu]
 ·rename_i fs hu
  split at hr
  ·rename_i cs ds
   split at hr
   ·rename_i ks hks
    simp only [V] at hk
    obtain ⟨us,rfl,hv⟩:=hk
    have hl:ks.length≤us.size:=by
     obtain ⟨_,_,_,_,_,h4,_⟩:=aEqL_split ks (ls:=[]) (by simpa using hr)
     have:=hv.toVL.length
     simp at this;omega
    simp only [wp,hu] at hks
    split at hks
    ·cases hks
    ·have:=ckF (P:=P) (w:=w) (ckE 5) b fs.toList 0 hks (xs:=us) (by omega) D hD
     simp only [Instr.checkKey,Sem.run_bind,run_underlying hu,Result.andThen_ok]
     rw [← Array.forIn_toList]
     refine (congrArg (fun r=>Result.andThen r _) this).trans ?_
     simp
   ·cases hr
  ·cases hr
 ·cases hr
theorem key_ok {kt:TypeId} {k:AV} {x:Value} {r:Bool} (hk:V g k x) (hr:wG P kt k k=some r) (b:Bool):(Instr.checkKey b 10000 kt x).run P w=.ok () w:=key_okD hk hr b 9999 (by omega)
theorem key_eq {kt:TypeId} {a b:AV} {x y:Value} {r:Bool} (ha:V g a x) (hb:V g b y) (hr:wG P kt a b=some r):(Op.equal kt x y).run P w=.ok r w:=by
 unfold Op.equal
 show (Op.equalIn 10000 kt x y).run P w=.ok r w
 rw [show (10000:Nat)=9999+1 from rfl]
 unfold wG at hr
 split at hr
 ·rename_i hu;exact eq1_run ha hb hr hu 9999
 ·rename_i hu;exact eq1_run ha hb hr ⟨_,hu⟩ 9999
 ·rename_i hu;exact eq1_run ha hb hr hu 9999
 ·rename_i fs hu
  split at hr
  ·split at hr
   ·rename_i ks hks
    simp only [V] at ha hb
    obtain ⟨us,rfl,hv⟩:=ha
    obtain ⟨vs,rfl,hw⟩:=hb
    have hfo:P.fieldsOf kt=fs:=by simp [Program.fieldsOf,hu]
    simp only [wp,hu] at hks
    split at hks
    ·cases hks
    ·rename_i hst
     rw [run_equalIn_struct w 9999 kt _ _ (by rw [hfo];exact hu) (by simpa using hst),hfo]
     exact eqF (eqE 5) fs.toList 0 hks hv hw (by simpa using hr) 9999 (by omega)
   ·cases hr
  ·cases hr
 ·cases hr

theorem same_now {kt:TypeId} {d:TypeDesc} (hd:P.underlying kt=some d) {a b:AV} {x y:Value} {r:Bool} (ha:V g a x) (hb:V g b y) (hr:wG P kt a b=some r) {r':Bool} (hs:Instr.sameNow d x y=some r'):r'=r:=by
 have one:∀ {k:Kd},aEq1 k a b=some r→r'=r:=by
  intro k h1
  unfold aEq1 at h1
  split at h1
  ·simp only [V] at ha hb
   subst ha hb
   cases h1
   cases d <;> simp [Instr.sameNow] at hs
   exact hs.symm
  ·split at h1
   ·rename_i hk
    simp only [V] at ha hb
    subst ha hb hk
    cases h1
    cases d <;> simp [Instr.sameNow] at hs
    exact hs.symm
   ·cases h1
  ·simp only [V] at ha hb
   obtain ⟨rfl,_⟩:=ha
   obtain ⟨rfl,_⟩:=hb
   cases h1
   cases d <;> simp [Instr.sameNow] at hs
   rw [← hs]
   have:∀ s1 s2:List UInt8,((⟨s1.toArray⟩:ByteArray)==⟨s2.toArray⟩)=(s1==s2):=fun s1 s2=>by
    have:((⟨s1.toArray⟩:ByteArray)==⟨s2.toArray⟩)=(s1.toArray==s2.toArray):=rfl
    rw [this];simp
   exact this _ _
  ·cases h1
 unfold wG at hr
 rw [hd] at hr
 split at hr
 ·exact one hr
 ·exact one hr
 ·exact one hr
 ·rename_i fs hu
  injection hu with hu
  subst hu
  simp [Instr.sameNow] at hs
 ·cases hr
theorem find_sound {kt:TypeId} {d:TypeDesc} (hd:P.underlying kt=some d) {k:AV} {x:Value} (hk:V g k x):∀ {es:List (AV×AV)} {ents:List MapEntry} {i:Nat} {res:Option (Nat×AV)},ME g es ents→aFind P kt k es i=some res →
  ∃ r,(Instr.findAsking kt x ents i).run P w=.ok r w∧(∀ r',Instr.findNow d x ents i=some r'→r'=r) ∧
   (match res with
       | none=>r=none
       | some (j,v)=>∃ m e,j=i+m∧ents[m]?=some e∧(∃ ke,es[m]?=some (ke,v)∧wG P kt k ke=some true∧V g ke e.key)∧e.key=x∧V g v e.val∧r=some (j,e.val))
 | [],ents,i,res,hm,hf=>by
  simp only [ME] at hm
  subst hm
  simp only [aFind,Option.some.injEq] at hf
  subst hf
  exact ⟨none,rfl,fun r' h=>by simp [Instr.findNow] at h;exact h.symm,rfl⟩
 | (ke,v)::es,ents,i,res,hm,hf=>by
  simp only [ME] at hm
  obtain ⟨e,s,rfl,h1,h2,h3⟩:=hm
  simp only [aFind] at hf
  split at hf
  ·rename_i hq
   cases hf
   obtain ⟨he,_⟩:=key_same hk h1 hq
   refine ⟨some (i,e.val),by simp [Instr.findAsking,key_eq (w:=w) hk h1 hq],fun r' h=>?_,0,e,rfl,rfl,⟨ke,rfl,hq,h1⟩,he.symm,h2,rfl⟩
   simp only [Instr.findNow] at h
   split at h
   ·injection h with h;exact h.symm
   ·rename_i hs;exact absurd (same_now hd hk h1 hq hs) (by simp)
   ·cases h
  ·rename_i hq
   obtain ⟨r,k1,k2,k3⟩:=find_sound hd hk h3 hf
   refine ⟨r,by simp [Instr.findAsking,key_eq (w:=w) hk h1 hq,k1],fun r' h=>?_,?_⟩
   ·simp only [Instr.findNow] at h
    split at h
    ·rename_i hs;exact absurd (same_now hd hk h1 hq hs) (by simp)
    ·exact k2 _ h
    ·cases h
   ·cases res with
    | none=>exact k3
    | some p =>
     obtain ⟨m,e',q1,q2,⟨ke',q3,q4⟩,q5⟩:=k3
     exact ⟨m+1,e',by omega,by simpa using q2,⟨ke',by simpa using q3,q4⟩,q5⟩
  ·cases hf
theorem find_run {kt:TypeId} {k:AV} {x:Value} (hk:V g k x) {es:List (AV×AV)} {ents:List MapEntry} {res:Option (Nat×AV)} (hm:ME g es ents) (hf:aFind P kt k es 0=some res) (hu:(P.underlying kt).isSome) :
  (match res with
       | none=>(Instr.findKey kt x ents).run P w=.ok none w
       | some (j,v)=>∃ e,ents[j]?=some e∧(∃ ke,es[j]?=some (ke,v)∧wG P kt k ke=some true∧V g ke e.key)∧e.key=x∧V g v e.val∧(Instr.findKey kt x ents).run P w=.ok (some (j,e.val)) w):=by
 obtain ⟨d,hd⟩:=Option.isSome_iff_exists.1 hu
 obtain ⟨r,h1,h2,h3⟩:=find_sound (w:=w) hd hk hm hf
 have key:(Instr.findKey kt x ents).run P w=.ok r w:=by
  simp only [Instr.findKey,Sem.run_bind,run_underlying hd,Result.andThen_ok]
  split
  ·rename_i r' hr
   rw [h2 _ hr];rfl
  ·exact h1
 cases res with
 | none=>subst h3;exact key
 | some p =>
  obtain ⟨m,e,q1,q2,q3,q4,q5,q6⟩:=h3
  have q1':p.1=m:=by omega
  subst q6
  exact ⟨e,by rw [q1'];exact q2,by rw [q1'];exact q3,q4,q5,key⟩
theorem key_und {kt:TypeId} {a b:AV} {r:Bool} (hr:wG P kt a b=some r):(P.underlying kt).isSome:=by
 unfold wG at hr
 cases h:P.underlying kt with
 | none=>simp [h] at hr
 | some d=>rfl
theorem aZero_sound {t:TypeId} {z:AV} (hz:aZero P t=some z):∃ u,(zeroValue t).run P w=.ok u w∧V g z u:=by
 unfold aZero at hz
 split at hz
 ·rename_i i hi
  split at hz
  ·rename_i u hu
   split at hz
   ·rename_i hok
    refine ⟨u,by simp [zeroValue,run_typeInfo w hi,hu],?_⟩
    have hV:=V.cv (g:=g) hok
    split at hz
    ·rename_i cs hc
     cases hz
     rw [hc] at hV
     simp only [V] at hV ⊢
     obtain ⟨vs,h1,h2⟩:=hV
     exact ⟨vs,h1,h2.fix⟩
    ·cases hz
     exact hV.tyfix
   ·cases hz
  ·cases hz
 ·cases hz

theorem ME.len:∀ {es:List (AV×AV)} {ents:List MapEntry},ME g es ents→ents.length=es.length
 | [],_,h=>by simp only [ME] at h;subst h;rfl
 | (_,_)::r,_,h=>by
  simp only [ME] at h
  obtain ⟨e,s,rfl,_,_,h3⟩:=h
  simp [h3.len]
theorem ME.push:∀ {es:List (AV×AV)} {ents:List MapEntry} {k v:AV} {e:MapEntry},ME g es ents→V g k e.key→V g v e.val→ME g (es++[(k,v)]) (ents++[e])
 | [],_,k,v,e,h,hk,hv=>by simp only [ME] at h;subst h;simp only [List.nil_append,ME];exact ⟨e,[],rfl,hk,hv,rfl⟩
 | (_,_)::r,_,k,v,e,h,hk,hv=>by
  simp only [ME] at h
  obtain ⟨e',s,rfl,h1,h2,h3⟩:=h
  simp only [List.cons_append,ME]
  exact ⟨e',s++[e],rfl,h1,h2,h3.push hk hv⟩
theorem ME.put:∀ {es:List (AV×AV)} {ents:List MapEntry} (j:Nat) {k v:AV} {e:MapEntry},ME g es ents→V g k e.key→V g v e.val→ME g (es.set j (k,v)) (ents.set j e)
 | [],_,j,k,v,e,h,hk,hv=>by simp only [ME] at h;subst h;simp [ME]
 | (_,_)::r,_,j,k,v,e,h,hk,hv=>by
  simp only [ME] at h
  obtain ⟨e',s,rfl,h1,h2,h3⟩:=h
  cases j with
  | zero=>simp only [List.set_cons_zero,ME];exact ⟨e,s,rfl,hk,hv,h3⟩
  | succ j=>simp only [List.set_cons_succ,ME];exact ⟨e',s.set j e,rfl,h1,h2,h3.put j hk hv⟩
theorem ME.getE:∀ {es:List (AV×AV)} {ents:List MapEntry} {j:Nat} {p:AV×AV},ME g es ents→es[j]?=some p→∃ e,ents[j]?=some e∧V g p.1 e.key∧V g p.2 e.val
 | [],_,j,p,h,hp=>by simp at hp
 | (_,_)::r,_,j,p,h,hp=>by
  simp only [ME] at h
  obtain ⟨e',s,rfl,h1,h2,h3⟩:=h
  cases j with
  | zero=>simp at hp;subst hp;exact ⟨e',rfl,h1,h2⟩
  | succ j=>simpa using h3.getE (by simpa using hp)

theorem V.zc1 {a:AV} {v:Value} (h:V g a v):V g a.zc1 v:=by
 unfold AV.zc1
 split
 ·simp only [V] at h ⊢
  obtain ⟨x,c,e,h1,h2,h3,_⟩:=h
  exact ⟨x,c,e,h1,h2,h3⟩
 ·exact h
theorem VA.zc1:∀ {as:List AV} {vs:List Value},VA g as vs→VA g (as.map AV.zc1) vs
 | [],_,h=>by simpa using h
 | a::r,_,h=>by
  simp only [VA] at h
  obtain ⟨v,s,rfl,⟨h0,h1⟩,h2⟩:=h
  simp only [List.map_cons,VA]
  exact ⟨v,s,rfl,⟨by cases a <;> first | exact h0 | rfl,h1.zc1⟩,VA.zc1 h2⟩
theorem V.zcl {a:AV} {v:Value} (h:V g a v):V g a.zcl v:=by
 unfold AV.zcl
 split
 ·simp only [V] at h ⊢
  obtain ⟨vs,e,h1⟩:=h
  exact ⟨vs,e,h1.zc1⟩
 ·exact h
theorem aZeroM_sound {t:TypeId} {z:AV} (hz:aZeroM P t=some z):∃ u,(zeroValue t).run P w=.ok u w∧V g z u:=by
 unfold aZeroM at hz
 rw [Option.map_eq_some_iff] at hz
 obtain ⟨y,h1,rfl⟩:=hz
 obtain ⟨u,h2,h3⟩:=aZero_sound (w:=w) (g:=g) h1
 exact ⟨u,h2,h3.zcl⟩
theorem lookup_sound {t kt et:TypeId} {ok:Bool} {m k v:AV} {mv kv:Value} (r:Rel B w0 g h w) (ht:P.underlying t=some (.map kt et)) (hm:V g m mv) (hk:V g k kv) (hl:aLookup P h kt et ok m k=some v) :
  ∃ u,(Instr.lookup t mv kv ok).run P w=.ok u w∧V g v u:=by
 unfold aLookup at hl
 split at hl
 case isFalse=>cases hl
 rename_i hkk
 have ck:=fun b=>key_ok (w:=w) hk hkk b
 have wok:∀ {x:AV} {u:Value} (b:Bool),V g x u→V g (withOk ok x b) (if ok then .tuple #[u,.bool b] else u):=fun {x u} b hx=>by
  unfold withOk
  cases ok
  ·exact hx
  ·simp only [if_true,V]
   exact ⟨_,rfl,by simp only [VL];exact ⟨_,_,rfl,hx,_,_,rfl,by simp only [V],rfl⟩⟩
 split at hl
 ·simp only [V] at hm
  subst hm
  rcases hz:aZeroM P et with _ | z
  ·simp [hz] at hl
  ·simp [hz] at hl
   subst hl
   obtain ⟨u,h1,h2⟩:=aZeroM_sound (w:=w) (g:=g) hz
   have hf:(Instr.findKey kt kv []).run P w=.ok none w:=by
    have:=find_run (w:=w) (es:=[]) (ents:=[]) (res:=none) hk rfl rfl (key_und hkk)
    exact this
   exact ⟨_,by simp [Instr.lookup,run_underlying ht,ck,hf,h1],wok false h2⟩
 ·rename_i id
  simp only [V] at hm
  obtain ⟨c,hc,rfl⟩:=hm
  split at hl
  ·rename_i es cl hb
   obtain ⟨_,_,⟨ents,n,hb1,hb2,_⟩,_⟩:=r.blk id c _ hc hb
   split at hl
   ·rename_i j x hfi
    cases hl
    obtain ⟨e,q1,_,q3,q4,q5⟩:=find_run (w:=w) hk hb2 hfi (key_und hkk)
    exact ⟨_,by simp [Instr.lookup,run_underlying ht,MapKept.run_getObj_map hb1,ck,q5],wok true q4⟩
   ·rename_i z hfi hz
    cases hl
    have hf:=find_run (w:=w) hk hb2 hfi (key_und hkk)
    obtain ⟨u,h1,h2⟩:=aZeroM_sound (w:=w) (g:=g) hz
    exact ⟨_,by simp [Instr.lookup,run_underlying ht,MapKept.run_getObj_map hb1,ck,hf,h1],wok false h2⟩
   ·cases hl
  ·cases hl
 ·cases hl

theorem modify_list {α:Type} {a:Array α} {i:Nat} {f:α→α} {e:α} (h:a.toList[i]?=some e):(a.modify i f).toList=a.toList.set i (f e):=by
 apply List.ext_getElem?
 intro j
 rw [Array.getElem?_toList,Array.getElem?_modify,List.getElem?_set]
 have hi:i < a.toList.length:=(List.getElem?_eq_some_iff.1 h).1
 split
 ·rename_i hij
  subst hij
  rw [Array.getElem?_toList] at h
  simp only [h,hi,if_true,Option.map_some]
 ·simp
theorem keeps_run {x:Value} (h:Instr.sameBits 10000 x x=true):(Instr.keyThatStays x x).run P w=.ok x w:=by simp [Instr.keyThatStays,h]
theorem Rel.mapPut (r:Rel B w0 g h w) {id c:Nat} {k:Blk} (hc:g.σ[id]?=some c) (hb:h.blk id=some k) (hd:k ≠ .dead) {es:List (AV×AV)} {cl:Nat} {ents:Array MapEntry} {n:Nat} {o:Obj} (ho:w.heap[c]?=some o) (hm:ME g es ents.toList)
  (hcl:cl=0→n=ents.size∧∀ (i:Nat) (e:MapEntry),ents[i]?=some e→e.born=i):Rel B w0 g (h.put id (.mapo es cl)) { w with heap:=w.heap.setIfInBounds c (.map ents n) }:=by
 have hlt:c < w.heap.size:=(Array.getElem?_eq_some_iff.1 ho).1
 refine r.putObj hc hb hd rfl rfl rfl (by simp) (fun b hb'=>by simp [Array.getElem?_setIfInBounds_ne (Ne.symm hb')]) ?_
 exact ⟨ents,n,by simp [hlt],hm,hcl⟩

theorem set_same {w:World} {c:Nat} {o:Obj} (h:w.heap[c]?=some o):({ w with heap:=w.heap.setIfInBounds c o }:World)=w:=by
 have:w.heap.setIfInBounds c o=w.heap:=by
  apply Array.ext_getElem?
  intro i
  by_cases hi:c=i
  ·subst hi
   have hlt:c < w.heap.size:=(Array.getElem?_eq_some_iff.1 h).1
   rw [h];simp [hlt]
  ·rw [Array.getElem?_setIfInBounds_ne hi]
 rw [this]

theorem entry_sound {t kt et:TypeId} {m k v:AV} {h':AH} {mv kv:Value} (r:Rel B w0 g h w) (ht:P.underlying t=some (.map kt et)) (hm:V g m mv) (hk:V g k kv) (hl:aEntry P h kt et m k=some (v,h')) :
  ∃ u w',(Instr.mapEntry t mv kv).run P w=.ok u w'∧V g v u∧Rel B w0 g h' w':=by
 unfold aEntry at hl
 split at hl
 case isFalse=>cases hl
 rename_i hkk
 have ck:=fun b=>key_ok (w:=w) hk hkk b
 split at hl
 ·rename_i id
  simp only [V] at hm
  obtain ⟨c,hc,rfl⟩:=hm
  split at hl
  ·rename_i es hb
   obtain ⟨_,_,⟨ents,n,hb1,hb2,hb3⟩,_⟩:=r.blk id c _ hc hb
   obtain ⟨hn,hborn⟩:=hb3 rfl
   split at hl
   ·rename_i j x hfi
    cases hl
    obtain ⟨e,q1,_,q3,q4,q5⟩:=find_run (w:=w) hk hb2 hfi (key_und hkk)
    have hs:=keeps_run (P:=P) (w:=w) (key_same hk hk hkk).2
    have q1':ents[j]?=some e:=by rw [← Array.getElem?_toList];exact q1
    have hmod:(ents.modify j fun e=>{ e with key:=kv })=ents:=by
     apply Array.ext'
     rw [modify_list q1]
     apply List.ext_getElem?
     intro i
     rw [List.getElem?_set]
     split
     ·rename_i hij
      subst hij
      rw [if_pos (List.getElem?_eq_some_iff.1 q1).1,q1,← q3]
     ·rfl
    refine ⟨.tuple #[e.val,goInt e.born],w,?_,?_,r⟩
    ·have hset:(setObj c (.map (ents.modify j fun e=>{ e with key:=kv }) n)).run P w=.ok () w:=by
      rw [hmod,MapKept.run_setObj_map _ hb1,set_same hb1]
     simp [Instr.mapEntry,run_underlying ht,MapKept.run_getObj_map hb1,ck,q5,q1',q3,hs,hset]
    ·simp only [V]
     exact ⟨_,rfl,by simp only [VL];exact ⟨_,_,rfl,q4,_,_,rfl,by simp only [V,hborn j e q1'];rfl,rfl⟩⟩
   ·rename_i z hfi hz
    cases hl
    have hf:=find_run (w:=w) hk hb2 hfi (key_und hkk)
    obtain ⟨u,h1,h2⟩:=aZeroM_sound (w:=w) (g:=g) hz
    have hsz:ents.size=es.length:=by have:=hb2.len;simpa using this
    refine ⟨.tuple #[u,goInt n],{ w with heap:=w.heap.setIfInBounds c (.map (ents.push { key:=kv,val:=u,born:=n }) (n+1)) },?_,?_,?_⟩
    ·simp [Instr.mapEntry,run_underlying ht,MapKept.run_getObj_map hb1,ck,hf,h1,MapKept.run_setObj_map _ hb1]
    ·simp only [V]
     exact ⟨_,rfl,by simp only [VL];exact ⟨_,_,rfl,h2,_,_,rfl,by simp only [V,hn,hsz];rfl,rfl⟩⟩
    ·refine r.mapPut hc hb (by simp) hb1 (by rw [Array.toList_push];exact hb2.push hk h2) fun _=>⟨by simp [hn],fun i e hi=>?_⟩
     rw [Array.getElem?_push] at hi
     split at hi
     ·rename_i hij
      injection hi with hi
      subst hi
      simp [hn,hij]
     ·exact hborn i e hi
   ·cases hl
  ·cases hl
 ·cases hl
theorem entryStore_sound {t:TypeId} {m s x:AV} {h':AH} {mv sv xv:Value} (r:Rel B w0 g h w) (hm:V g m mv) (hs:V g s sv) (hx:V g x xv) (hl:aEntryStore h m s x=some h') :
  ∃ w',(Instr.entryStore t mv sv xv).run P w=.ok () w'∧Rel B w0 g h' w':=by
 unfold aEntryStore at hl
 split at hl
 ·rename_i id kd nn
  simp only [V] at hm hs
  obtain ⟨c,hc,rfl⟩:=hm
  subst hs
  split at hl
  ·rename_i es hb
   obtain ⟨_,_,⟨ents,n,hb1,hb2,hb3⟩,_⟩:=r.blk id c _ hc hb
   obtain ⟨hn,hborn⟩:=hb3 rfl
   split at hl
   ·rename_i h0
    split at hl
    ·rename_i p hp
     cases hl
     obtain ⟨e,q1,q2,q3⟩:=hb2.getE hp
     have q1':ents[nn.toNat]?=some e:=by rw [← Array.getElem?_toList];exact q1
     have hlt:=(Array.getElem?_eq_some_iff.1 q1').1
     have hfi:ents.findIdx? (fun e=>(e.born:Int)==nn)=some nn.toNat:=by
      rw [Array.findIdx?_eq_some_iff_getElem]
      refine ⟨hlt,?_,fun j hj=>?_⟩
      ·have:=hborn nn.toNat _ (Array.getElem?_eq_getElem hlt)
       rw [this];simp;omega
      ·have:=hborn j _ (Array.getElem?_eq_getElem (Nat.lt_trans hj hlt))
       rw [this];simp;omega
     refine ⟨{ w with heap:=w.heap.setIfInBounds c (.map (ents.modify nn.toNat fun e=>{ e with val:=xv }) n) },?_,?_⟩
     ·simp [Instr.entryStore,MapKept.run_getObj_map hb1,asInt,asIntOf,hfi,MapKept.run_setObj_map _ hb1]
     ·refine r.mapPut hc hb (by simp) hb1 (by rw [modify_list q1];exact hb2.put _ q2 hx.zcl) fun _=>⟨by simp [hn],fun i e' hi=>?_⟩
      rw [Array.getElem?_modify] at hi
      split at hi
      ·rename_i hij
       subst hij
       rw [q1'] at hi
       simp at hi
       subst hi
       exact hborn _ e q1'
      ·exact hborn i e' hi
    ·cases hl
   ·cases hl
  ·cases hl
 ·cases hl
theorem mapPut_sound {t kt et:TypeId} {m k x:AV} {h':AH} {mv kv xv:Value} (r:Rel B w0 g h w) (ht:P.underlying t=some (.map kt et)) (hm:V g m mv) (hk:V g k kv) (hx:V g x xv) (hl:aMapPut P h kt m k x=some h') :
  ∃ w',(Instr.mapUpdate t mv kv xv).run P w=.ok () w'∧Rel B w0 g h' w':=by
 unfold aMapPut at hl
 split at hl
 case isFalse=>cases hl
 rename_i hkk
 have ck:=fun b=>key_ok (w:=w) hk hkk b
 split at hl
 ·rename_i id
  simp only [V] at hm
  obtain ⟨c,hc,rfl⟩:=hm
  split at hl
  ·rename_i es cl hb
   obtain ⟨_,_,⟨ents,n,hb1,hb2,hb3⟩,_⟩:=r.blk id c _ hc hb
   split at hl
   ·rename_i j x0 hfi
    cases hl
    obtain ⟨e,q1,_,q3,q4,q5⟩:=find_run (w:=w) hk hb2 hfi (key_und hkk)
    have hs:=keeps_run (P:=P) (w:=w) (key_same hk hk hkk).2
    have q1':ents[j]?=some e:=by rw [← Array.getElem?_toList];exact q1
    refine ⟨{ w with heap:=w.heap.setIfInBounds c (.map (ents.modify j fun e=>{ e with key:=kv,val:=xv }) n) },?_,?_⟩
    ·simp [Instr.mapUpdate,run_underlying ht,MapKept.run_getObj_map hb1,ck,q5,q1',q3,hs,MapKept.run_setObj_map _ hb1]
    ·refine r.mapPut hc hb (by simp) hb1 (by rw [modify_list q1];exact hb2.put _ hk hx.zcl) fun h0=>?_
     obtain ⟨hn,hborn⟩:=hb3 h0
     refine ⟨by simp [hn],fun i e' hi=>?_⟩
     rw [Array.getElem?_modify] at hi
     split at hi
     ·rename_i hij
      subst hij
      rw [q1'] at hi
      simp at hi
      subst hi
      exact hborn _ e q1'
     ·exact hborn i e' hi
   ·rename_i hfi
    cases hl
    have hf:=find_run (w:=w) hk hb2 hfi (key_und hkk)
    refine ⟨{ w with heap:=w.heap.setIfInBounds c (.map (ents.push { key:=kv,val:=xv,born:=n }) (n+1)) },?_,?_⟩
    ·simp [Instr.mapUpdate,run_underlying ht,MapKept.run_getObj_map hb1,ck,hf,MapKept.run_setObj_map _ hb1]
    ·refine r.mapPut hc hb (by simp) hb1 (by rw [Array.toList_push];exact hb2.push hk hx.zcl) fun h0=>?_
     obtain ⟨hn,hborn⟩:=hb3 h0
     refine ⟨by simp [hn],fun i e hi=>?_⟩
     rw [Array.getElem?_push] at hi
     split at hi
     ·rename_i hij
      injection hi with hi
      subst hi
      simp [hn,hij]
     ·exact hborn i e hi
   ·cases hl
  ·cases hl
 ·cases hl
end
end Go.Vv
