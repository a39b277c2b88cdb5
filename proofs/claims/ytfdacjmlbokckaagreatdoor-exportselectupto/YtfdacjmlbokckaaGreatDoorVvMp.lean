/- Maps, proved. -/
import Derived.Test.YtfdacjmlbokckaaGreatDoorVvF
import Derived.MapKept
import Derived.Carry
import Derived.Lib.OthersKept
set_option linter.all false
namespace Go.Vv
open Go Go.RowKit Go.Lib
section
variable {P:Program} {w:World} {g:Gh} {h:AH} {B:Nat} {w0:World}

theorem eq1_same {k:Kd} {a b:AV} {x y:Value} (ha:V g a x) (hb:V g b y) (hr:aEq1 k a b=some true):x=y∧∀ n,Instr.sameBits n x x=true:=by
 unfold aEq1 at hr
 split at hr
 ·simp only [V] at ha hb
  simp at hr
  subst ha hb hr
  exact ⟨rfl,fun n=>by unfold Instr.sameBits;cases n <;> simp⟩
 ·split at hr
  ·rename_i hk
   simp only [V] at ha hb
   simp at hr
   subst ha hb hr hk
   exact ⟨rfl,fun n=>by unfold Instr.sameBits;cases n <;> simp⟩
  ·cases hr
 ·simp only [V] at ha hb
  simp at hr
  subst hr
  exact ⟨by simp_all,fun n=>by rw [ha.1];unfold Instr.sameBits;cases n <;> exact beq_self_eq_true (α:=Array UInt8) _⟩
 ·cases hr
theorem eqL_same:∀ {ks:List Kd} {a5 bs:List AV} {xs ys:List Value},VA g a5 xs→VA g bs ys→qa ks a5 bs=some true→xs=ys∧∀ n,(xs.zip xs).all (fun (x,y)=>Instr.sameBits n x y)=true
 | [],[],[],xs,ys,ha,hb,_=>by
  simp only [VA] at ha hb
  simp_all
 | k::ks,a::a5,b::bs,xs,ys,ha,hb,hr=>by
  simp only [VA] at ha hb
  obtain ⟨x,xs',rfl,⟨_,h1⟩,h2⟩:=ha
  obtain ⟨y,ys',rfl,⟨_,h3⟩,h4⟩:=hb
  simp only [qa] at hr
  split at hr
  ·rename_i p q hp hq
   simp only [Option.some.injEq,Bool.and_eq_true] at hr
   obtain ⟨rfl,rfl⟩:=hr
   obtain ⟨rfl,e1⟩:=eq1_same h1 h3 hp
   obtain ⟨rfl,e2⟩:=eqL_same h2 h4 hq
   simp_all
  ·cases hr
 | [],[],_::_,_,_,_,_,hr=>by simp [qa] at hr
 | [],_::_,_,_,_,_,_,hr=>by simp [qa] at hr
 | _::_,[],_,_,_,_,_,hr=>by simp [qa] at hr
 | _::_,_::_,[],_,_,_,_,hr=>by simp [qa] at hr

theorem key_same {kt:TypeId} {a b:AV} {x y:Value} (ha:V g a x) (hb:V g b y) (hr:xM P kt a b=some true):x=y∧Instr.sameBits 10000 x x=true:=by
 unfold xM at hr
 split at hr
 ·exact ⟨(eq1_same ha hb hr).1,(eq1_same ha hb hr).2 _⟩
 ·exact ⟨(eq1_same ha hb hr).1,(eq1_same ha hb hr).2 _⟩
 ·exact ⟨(eq1_same ha hb hr).1,(eq1_same ha hb hr).2 _⟩
 ·split at hr
  ·split at hr
   ·simp only [V] at ha hb
    obtain ⟨us,rfl,hu⟩:=ha
    obtain ⟨vs,rfl,hv⟩:=hb
    obtain ⟨e1,e2⟩:=eqL_same hu hv hr
    have:us=vs:=Array.ext' e1
    subst this
    refine ⟨rfl,?_⟩
    rw [show (10000:Nat)=9999+1 from rfl]
    unfold Instr.sameBits
    simp_all
   ·cases hr
  ·cases hr
 ·cases hr

def CkE (P:Program) (w:World) (d:Nat):Prop:=∀ {t:TypeId} {ks:List Kd} {i:TypeInfo},xy P d t=some ks→P.info? t=some i→i.size=ks.length→∀ {xs:Array Value} {off:Nat},off+ks.length≤xs.size→∀ (b:Bool) D,d≤D →
  ∃ u,(part t xs off).run P w=.ok u w∧(Instr.checkKey b D t u).run P w=.ok () w
theorem ckF {d:Nat} (E:CkE P w d) (b:Bool):∀ (fs:List Field) (acc:Nat) {ks:List Kd},plainFs P d fs acc=some ks→∀ {xs:Array Value},acc+ks.length≤xs.size→∀ D,d≤D →
  (forIn fs PUnit.unit fun (f : Field) (_ : PUnit) => (if f.name ≠ "_" then (part f.type xs f.offset) >>= fun u => Instr.checkKey b D f.type u >>= fun _ => pure (ForInStep.yield PUnit.unit) else pure (ForInStep.yield PUnit.unit) : Sem (ForInStep PUnit))).run P w = .ok PUnit.unit w
 | [],acc,ks,h,xs,hx,D,_=>by simp
 | f::fs,acc,ks,h,xs,hx,D,hD=>by
  simp only [plainFs,plainFsOf] at h
  split at h
  ·rename_i hf
   split at h
   ·rename_i k1 i hk1 hi
    split at h
    ·rename_i hsz
     split at h
     ·rename_i k2 hk2
      cases h
      simp only [List.length_append] at hx
      obtain ⟨u,e1,e2⟩:=E hk1 hi hsz (xs:=xs) (off:=acc) (by omega) b D hD
      have e4:=ckF E b fs (acc+i.size) hk2 (xs:=xs) (by omega) D hD
      simp_all
     ·cases h
    ·cases h
   ·cases h
  ·cases h
theorem ckE:∀ (d:Nat),CkE P w d:=by
 intro d
 induction d with
 | zero=>intro t ks i h;simp [xy] at h
 | succ d ih =>
  intro t ks i h hi hsz xs off hx b D hD
  obtain ⟨D,rfl⟩:∃ D',D=D'+1:=⟨D - 1,by omega⟩
  have one:∀ (dd:TypeDesc),ks.length=1→P.underlying t=some dd→yq dd=false→(∀ u,(Instr.checkKey b (D+1) t u).run P w=.ok () w)→∃ u,(part t xs off).run P w=.ok u w∧(Instr.checkKey b (D+1) t u).run P w=.ok () w:=by
   intro dd hk hdd hf hck
   have hlt:off < xs.size:=by omega
   exact ⟨xs[off],by simp [part,qt hdd,hf,hlt],hck _⟩
  simp only [xy] at h
  split at h
  ·rename_i hu;cases h;exact one _ rfl hu rfl fun u=>by simp [Instr.checkKey,run_underlying hu]
  ·rename_i j hu;cases h;exact one _ rfl hu rfl fun u=>by simp [Instr.checkKey,run_underlying hu]
  ·rename_i hu;cases h;exact one _ rfl hu rfl fun u=>by simp [Instr.checkKey,run_underlying hu]
  ·rename_i fs hu
   split at h
   ·cases h
   ·have hx':(part t xs off).run P w=.ok (.agg (xs.extract off (off+i.size))) w:=by simp [part,qt hu,yq,xg hi]
    refine ⟨_,hx',?_⟩
    have:=ckF ih b fs.toList 0 h (xs:=xs.extract off (off+i.size)) (by simp;omega) D (by omega)
    simp only [Instr.checkKey,Sem.run_bind,run_underlying hu,Result.andThen_ok]
    simp_all
  ·cases h
theorem key_okD {kt:TypeId} {k:AV} {x:Value} {r:Bool} (hk:V g k x) (hr:xM P kt k k=some r) (b:Bool) (D:Nat) (hD:5≤D):(Instr.checkKey b (D+1) kt x).run P w=.ok () w:=by
 unfold xM at hr
 split at hr
 ·rename_i hu;simp [Instr.checkKey,run_underlying hu]
 ·rename_i hu;simp [Instr.checkKey,run_underlying hu]
 ·rename_i hu;simp [Instr.checkKey,run_underlying hu]
 ·rename_i fs hu
  split at hr
  ·rename_i cs ds
   split at hr
   ·rename_i ks hks
    simp only [V] at hk
    obtain ⟨us,rfl,hv⟩:=hk
    have hl:ks.length≤us.size:=by
     obtain ⟨_,_,_,_,_,h4,_⟩:=aEqL_split ks (ls:=[]) (by simpa using hr)
     have:=hv.toVL.length
     simp_all
    simp only [xy,hu] at hks
    split at hks
    ·cases hks
    ·have:=ckF (P:=P) (w:=w) (ckE 5) b fs.toList 0 hks (xs:=us) (by omega) D hD
     simp only [Instr.checkKey,Sem.run_bind,run_underlying hu,Result.andThen_ok]
     simp_all
   ·cases hr
  ·cases hr
 ·cases hr
theorem key_ok {kt:TypeId} {k:AV} {x:Value} {r:Bool} (hk:V g k x) (hr:xM P kt k k=some r) (b:Bool):(Instr.checkKey b 10000 kt x).run P w=.ok () w:=key_okD hk hr b 9999 (by omega)
theorem key_eq {kt:TypeId} {a b:AV} {x y:Value} {r:Bool} (ha:V g a x) (hb:V g b y) (hr:xM P kt a b=some r):(Op.equal kt x y).run P w=.ok r w:=by
 unfold Op.equal
 show (Op.equalIn 10000 kt x y).run P w=.ok r w
 rw [show (10000:Nat)=9999+1 from rfl]
 unfold xM at hr
 split at hr
 ·rename_i hu;exact eq1_run ha hb hr hu 9999
 ·rename_i hu;exact eq1_run ha hb hr ⟨_,hu⟩ 9999
 ·rename_i hu;exact eq1_run ha hb hr hu 9999
 ·rename_i fs hu
  split at hr
  ·split at hr
   ·rename_i ks hks
    simp only [V] at ha hb
    obtain ⟨us,rfl,hv⟩:=ha
    obtain ⟨vs,rfl,hw⟩:=hb
    have hfo:P.fieldsOf kt=fs:=by simp [Program.fieldsOf,hu]
    simp only [xy,hu] at hks
    split at hks
    ·cases hks
    ·rename_i hst
     rw [run_equalIn_struct w 9999 kt _ _ (by simp_all) (by simp_all),hfo]
     exact eqF (eqE 5) fs.toList 0 hks hv hw (by simp_all) 9999 (by omega)
   ·cases hr
  ·cases hr
 ·cases hr

theorem same_now {kt:TypeId} {d:TypeDesc} (hd:P.underlying kt=some d) {a b:AV} {x y:Value} {r:Bool} (ha:V g a x) (hb:V g b y) (hr:xM P kt a b=some r) {r':Bool} (hs:Instr.sameNow d x y=some r'):r'=r:=by
 have one:∀ {k:Kd},aEq1 k a b=some r→r'=r:=by
  intro k h1
  unfold aEq1 at h1
  split at h1
  ·simp only [V] at ha hb
   subst ha hb
   cases h1
   cases d <;> simp [Instr.sameNow] at hs
   simp_all
  ·split at h1
   ·rename_i hk
    simp only [V] at ha hb
    subst ha hb hk
    cases h1
    cases d <;> simp [Instr.sameNow] at hs
    simp_all
   ·cases h1
  ·simp only [V] at ha hb
   obtain ⟨rfl,_⟩:=ha
   obtain ⟨rfl,_⟩:=hb
   cases h1
   cases d <;> simp [Instr.sameNow] at hs
   rw [← hs]
   have:∀ s1 s2:List UInt8,((⟨s1.toArray⟩:ByteArray)==⟨s2.toArray⟩)=(s1==s2):=fun s1 s2=>by
    have:((⟨s1.toArray⟩:ByteArray)==⟨s2.toArray⟩)=(s1.toArray==s2.toArray):=rfl
    simp_all
   simp_all
  ·cases h1
 unfold xM at hr
 rw [hd] at hr
 split at hr
 ·grind
 ·grind
 ·grind
 ·rename_i fs hu
  injection hu with hu
  subst hu
  simp [Instr.sameNow] at hs
 ·cases hr
theorem find_sound {kt:TypeId} {d:TypeDesc} (hd:P.underlying kt=some d) {k:AV} {x:Value} (hk:V g k x):∀ {es:List (AV×AV)} {ents:List MapEntry} {i:Nat} {res:Option (Nat×AV)},ME g es ents→aFind P kt k es i=some res →
  ∃ r,(Instr.findAsking kt x ents i).run P w=.ok r w∧(∀ r',Instr.findNow d x ents i=some r'→r'=r) ∧
   (match res with
       | none=>r=none
       | some (j,v)=>∃ m e,j=i+m∧ents[m]?=some e∧(∃ ke,es[m]?=some (ke,v)∧xM P kt k ke=some true∧V g ke e.key)∧e.key=x∧V g v e.val∧r=some (j,e.val))
 | [],ents,i,res,hm,hf=>by
  simp only [ME] at hm
  subst hm
  simp only [aFind,Option.some.injEq] at hf
  subst hf
  exact ⟨none,rfl,fun r' h=>by simp [Instr.findNow] at h;exact h.symm,rfl⟩
 | (ke,v)::es,ents,i,res,hm,hf=>by
  simp only [ME] at hm
  obtain ⟨e,s,rfl,h1,h2,h3⟩:=hm
  simp only [aFind] at hf
  split at hf
  ·rename_i hq
   cases hf
   obtain ⟨he,_⟩:=key_same hk h1 hq
   refine ⟨some (i,e.val),by simp [Instr.findAsking,key_eq (w:=w) hk h1 hq],fun r' h=>?_,0,e,rfl,rfl,⟨ke,rfl,hq,h1⟩,he.symm,h2,rfl⟩
   simp only [Instr.findNow] at h
   split at h
   ·simp_all
   ·rename_i hs;exact absurd (same_now hd hk h1 hq hs) (by simp)
   ·cases h
  ·rename_i hq
   obtain ⟨r,k1,k2,k3⟩:=find_sound hd hk h3 hf
   refine ⟨r,by simp [Instr.findAsking,key_eq (w:=w) hk h1 hq,k1],fun r' h=>?_,?_⟩
   ·simp only [Instr.findNow] at h
    split at h
    ·rename_i hs;exact absurd (same_now hd hk h1 hq hs) (by simp)
    ·simp_all
    ·cases h
   ·cases res with
    | none=>exact k3
    | some p =>
     obtain ⟨m,e',q1,q2,⟨ke',q3,q4⟩,q5⟩:=k3
     exact ⟨m+1,e',by omega,by simp_all,⟨ke',by simp_all,q4⟩,q5⟩
  ·cases hf
theorem find_run {kt:TypeId} {k:AV} {x:Value} (hk:V g k x) {es:List (AV×AV)} {ents:List MapEntry} {res:Option (Nat×AV)} (hm:ME g es ents) (hf:aFind P kt k es 0=some res) (hu:(P.underlying kt).isSome) :
  (match res with
       | none=>(Instr.findKey kt x ents).run P w=.ok none w
       | some (j,v)=>∃ e,ents[j]?=some e∧(∃ ke,es[j]?=some (ke,v)∧xM P kt k ke=some true∧V g ke e.key)∧e.key=x∧V g v e.val∧(Instr.findKey kt x ents).run P w=.ok (some (j,e.val)) w):=by
 obtain ⟨d,hd⟩:=Option.isSome_iff_exists.1 hu
 obtain ⟨r,h1,h2,h3⟩:=find_sound (w:=w) hd hk hm hf
 have key:(Instr.findKey kt x ents).run P w=.ok r w:=by
  simp only [Instr.findKey,Sem.run_bind,run_underlying hd,Result.andThen_ok]
  split
  ·simp_all
  ·exact h1
 grind
theorem key_und {kt:TypeId} {a b:AV} {r:Bool} (hr:xM P kt a b=some r):(P.underlying kt).isSome:=by
 unfold xM at hr
 grind
theorem aZero_sound {t:TypeId} {z:AV} (hz:aZero P t=some z):∃ u,(zeroValue t).run P w=.ok u w∧V g z u:=by
 unfold aZero at hz
 split at hz
 ·rename_i i hi
  split at hz
  ·rename_i u hu
   split at hz
   ·rename_i hok
    refine ⟨u,by simp [zeroValue,run_typeInfo w hi,hu],?_⟩
    have hV:=V.cv (g:=g) hok
    split at hz
    ·rename_i cs hc
     cases hz
     rw [hc] at hV
     simp only [V] at hV ⊢
     obtain ⟨vs,h1,h2⟩:=hV
     exact ⟨vs,h1,h2.fix⟩
    ·cases hz
     exact hV.tyfix
   ·cases hz
  ·cases hz
 ·cases hz

theorem ME.len:∀ {es:List (AV×AV)} {ents:List MapEntry},ME g es ents→ents.length=es.length
 | [],_,h=>by simp only [ME] at h;subst h;rfl
 | (_,_)::r,_,h=>by
  simp only [ME] at h
  obtain ⟨e,s,rfl,_,_,h3⟩:=h
  simp [h3.len]
theorem ME.push:∀ {es:List (AV×AV)} {ents:List MapEntry} {k v:AV} {e:MapEntry},ME g es ents→V g k e.key→V g v e.val→ME g (es++[(k,v)]) (ents++[e])
 | [],_,k,v,e,h,hk,hv=>by simp only [ME] at h;subst h;simp only [List.nil_append,ME];exact ⟨e,[],rfl,hk,hv,rfl⟩
 | (_,_)::r,_,k,v,e,h,hk,hv=>by
  simp only [ME] at h
  obtain ⟨e',s,rfl,h1,h2,h3⟩:=h
  simp only [List.cons_append,ME]
  exact ⟨e',s++[e],rfl,h1,h2,h3.push hk hv⟩
theorem ME.put:∀ {es:List (AV×AV)} {ents:List MapEntry} (j:Nat) {k v:AV} {e:MapEntry},ME g es ents→V g k e.key→V g v e.val→ME g (es.set j (k,v)) (ents.set j e)
 | [],_,j,k,v,e,h,hk,hv=>by simp only [ME] at h;subst h;simp [ME]
 | (_,_)::r,_,j,k,v,e,h,hk,hv=>by
  simp only [ME] at h
  obtain ⟨e',s,rfl,h1,h2,h3⟩:=h
  cases j with
  | zero=>simp only [List.set_cons_zero,ME];exact ⟨e,s,rfl,hk,hv,h3⟩
  | succ j=>simp only [List.set_cons_succ,ME];exact ⟨e',s.set j e,rfl,h1,h2,h3.put j hk hv⟩
theorem ME.getE:∀ {es:List (AV×AV)} {ents:List MapEntry} {j:Nat} {p:AV×AV},ME g es ents→es[j]?=some p→∃ e,ents[j]?=some e∧V g p.1 e.key∧V g p.2 e.val
 | [],_,j,p,h,hp=>by simp at hp
 | (_,_)::r,_,j,p,h,hp=>by
  simp only [ME] at h
  obtain ⟨e',s,rfl,h1,h2,h3⟩:=h
  cases j with
  | zero=>simp at hp;subst hp;exact ⟨e',rfl,h1,h2⟩
  | succ j=>simpa using h3.getE (by simp_all)

theorem V.zc1 {a:AV} {v:Value} (h:V g a v):V g a.zc1 v:=by
 unfold AV.zc1
 split
 ·simp only [V] at h ⊢
  grind
 ·exact h
theorem VA.zc1:∀ {a5:List AV} {vs:List Value},VA g a5 vs→VA g (a5.map AV.zc1) vs
 | [],_,h=>by simpa using h
 | a::r,_,h=>by
  simp only [VA] at h
  obtain ⟨v,s,rfl,⟨h0,h1⟩,h2⟩:=h
  simp only [List.map_cons,VA]
  exact ⟨v,s,rfl,⟨by cases a <;> first | exact h0 | rfl,h1.zc1⟩,VA.zc1 h2⟩
theorem V.zcl {a:AV} {v:Value} (h:V g a v):V g a.zcl v:=by
 unfold AV.zcl
 split
 ·simp only [V] at h ⊢
  obtain ⟨vs,e,h1⟩:=h
  exact ⟨vs,e,h1.zc1⟩
 ·exact h
theorem aZeroM_sound {t:TypeId} {z:AV} (hz:aZeroM P t=some z):∃ u,(zeroValue t).run P w=.ok u w∧V g z u:=by
 unfold aZeroM at hz
 rw [Option.map_eq_some_iff] at hz
 obtain ⟨y,h1,rfl⟩:=hz
 obtain ⟨u,h2,h3⟩:=aZero_sound (w:=w) (g:=g) h1
 exact ⟨u,h2,h3.zcl⟩
theorem lookup_sound {t kt et:TypeId} {ok:Bool} {m k v:AV} {mv kv:Value} (r:Rel B w0 g h w) (ht:P.underlying t=some (.map kt et)) (hm:V g m mv) (hk:V g k kv) (hl:aLookup P h kt et ok m k=some v) :
  ∃ u,(Instr.lookup t mv kv ok).run P w=.ok u w∧V g v u:=by
 unfold aLookup at hl
 split at hl
 case isFalse=>cases hl
 rename_i hkk
 have ck:=fun b=>key_ok (w:=w) hk hkk b
 have wok:∀ {x:AV} {u:Value} (b:Bool),V g x u→V g (withOk ok x b) (if ok then .tuple #[u,.bool b] else u):=fun {x u} b hx=>by
  unfold withOk
  cases ok
  ·exact hx
  ·simp only [if_true,V]
   exact ⟨_,rfl,by simp only [VL];exact ⟨_,_,rfl,hx,_,_,rfl,by simp only [V],rfl⟩⟩
 split at hl
 ·simp only [V] at hm
  subst hm
  rcases hz:aZeroM P et with _ | z
  ·simp_all
  ·simp [hz] at hl
   subst hl
   obtain ⟨u,h1,h2⟩:=aZeroM_sound (w:=w) (g:=g) hz
   have hf:(Instr.findKey kt kv []).run P w=.ok none w:=by
    have:=find_run (w:=w) (es:=[]) (ents:=[]) (res:=none) hk rfl rfl (key_und hkk)
    omega
   exact ⟨_,by simp [Instr.lookup,run_underlying ht,ck,hf,h1],wok false h2⟩
 ·rename_i id
  simp only [V] at hm
  obtain ⟨c,hc,rfl⟩:=hm
  split at hl
  ·rename_i es cl hb
   obtain ⟨_,_,⟨ents,n,hb1,hb2,_⟩,_⟩:=r.blk id c _ hc hb
   split at hl
   ·rename_i j x hfi
    cases hl
    obtain ⟨e,q1,_,q3,q4,q5⟩:=find_run (w:=w) hk hb2 hfi (key_und hkk)
    exact ⟨_,by simp [Instr.lookup,run_underlying ht,MapKept.run_getObj_map hb1,ck,q5],wok true q4⟩
   ·rename_i z hfi hz
    cases hl
    have hf:=find_run (w:=w) hk hb2 hfi (key_und hkk)
    obtain ⟨u,h1,h2⟩:=aZeroM_sound (w:=w) (g:=g) hz
    exact ⟨_,by simp [Instr.lookup,run_underlying ht,MapKept.run_getObj_map hb1,ck,hf,h1],wok false h2⟩
   ·cases hl
  ·cases hl
 ·cases hl

theorem modify_list {α:Type} {a:Array α} {i:Nat} {f:α→α} {e:α} (h:a.toList[i]?=some e):(a.modify i f).toList=a.toList.set i (f e):=by
 apply List.ext_getElem?
 grind
theorem keeps_run {x:Value} (h:Instr.sameBits 10000 x x=true):(Instr.keyThatStays x x).run P w=.ok x w:=by simp [Instr.keyThatStays,h]
theorem Rel.mapPut (r:Rel B w0 g h w) {id c:Nat} {k:Blk} (hc:g.σ[id]?=some c) (hb:h.blk id=some k) (hd:k ≠ .dead) {es:List (AV×AV)} {cl:Nat} {ents:Array MapEntry} {n:Nat} {o:Obj} (ho:w.heap[c]?=some o) (hm:ME g es ents.toList)
  (hcl:cl=0→n=ents.size∧∀ (i:Nat) (e:MapEntry),ents[i]?=some e→e.born=i):Rel B w0 g (h.put id (.mapo es cl)) { w with heap:=w.heap.setIfInBounds c (.map ents n) }:=by
 have hlt:c < w.heap.size:=(Array.getElem?_eq_some_iff.1 ho).1
 refine r.putObj hc hb hd rfl rfl rfl (by simp) (fun b hb'=>by grind) ?_
 exact ⟨ents,n,by simp [hlt],hm,hcl⟩

theorem set_same {w:World} {c:Nat} {o:Obj} (h:w.heap[c]?=some o):({ w with heap:=w.heap.setIfInBounds c o }:World)=w:=by
 have:w.heap.setIfInBounds c o=w.heap:=by
  grind
 rw [this]

theorem entry_sound {t kt et:TypeId} {m k v:AV} {h':AH} {mv kv:Value} (r:Rel B w0 g h w) (ht:P.underlying t=some (.map kt et)) (hm:V g m mv) (hk:V g k kv) (hl:aEntry P h kt et m k=some (v,h')) :
  ∃ u w',(Instr.mapEntry t mv kv).run P w=.ok u w'∧V g v u∧Rel B w0 g h' w':=by
 unfold aEntry at hl
 split at hl
 case isFalse=>cases hl
 rename_i hkk
 have ck:=fun b=>key_ok (w:=w) hk hkk b
 split at hl
 ·rename_i id
  simp only [V] at hm
  obtain ⟨c,hc,rfl⟩:=hm
  split at hl
  ·rename_i es hb
   obtain ⟨_,_,⟨ents,n,hb1,hb2,hb3⟩,_⟩:=r.blk id c _ hc hb
   obtain ⟨hn,hborn⟩:=hb3 rfl
   split at hl
   ·rename_i j x hfi
    cases hl
    obtain ⟨e,q1,_,q3,q4,q5⟩:=find_run (w:=w) hk hb2 hfi (key_und hkk)
    have hs:=keeps_run (P:=P) (w:=w) (key_same hk hk hkk).2
    have q1':ents[j]?=some e:=by simp_all
    have hmod:(ents.modify j fun e=>{ e with key:=kv })=ents:=by
     apply Array.ext'
     rw [modify_list q1]
     apply List.ext_getElem?
     intro i
     rw [List.getElem?_set]
     split
     ·rename_i hij
      subst hij
      rw [if_pos (List.getElem?_eq_some_iff.1 q1).1,q1,← q3]
     ·rfl
    refine ⟨.tuple #[e.val,goInt e.born],w,?_,?_,r⟩
    ·have hset:(setObj c (.map (ents.modify j fun e=>{ e with key:=kv }) n)).run P w=.ok () w:=by
      rw [hmod,MapKept.run_setObj_map _ hb1,set_same hb1]
     simp [Instr.mapEntry,run_underlying ht,MapKept.run_getObj_map hb1,ck,q5,q1',q3,hs,hset]
    ·simp only [V]
     exact ⟨_,rfl,by simp only [VL];exact ⟨_,_,rfl,q4,_,_,rfl,by simp only [V,hborn j e q1'];rfl,rfl⟩⟩
   ·rename_i z hfi hz
    cases hl
    have hf:=find_run (w:=w) hk hb2 hfi (key_und hkk)
    obtain ⟨u,h1,h2⟩:=aZeroM_sound (w:=w) (g:=g) hz
    have hsz:ents.size=es.length:=by have:=hb2.len;simpa using this
    refine ⟨.tuple #[u,goInt n],{ w with heap:=w.heap.setIfInBounds c (.map (ents.push { key:=kv,val:=u,born:=n }) (n+1)) },?_,?_,?_⟩
    ·simp [Instr.mapEntry,run_underlying ht,MapKept.run_getObj_map hb1,ck,hf,h1,MapKept.run_setObj_map _ hb1]
    ·simp only [V]
     exact ⟨_,rfl,by simp only [VL];exact ⟨_,_,rfl,h2,_,_,rfl,by simp only [V,hn,hsz];rfl,rfl⟩⟩
    ·refine r.mapPut hc hb (by simp) hb1 (by rw [Array.toList_push];exact hb2.push hk h2) fun _=>⟨by simp [hn],fun i e hi=>?_⟩
     grind
   ·cases hl
  ·cases hl
 ·cases hl
theorem entryStore_sound {t:TypeId} {m s x:AV} {h':AH} {mv sv xv:Value} (r:Rel B w0 g h w) (hm:V g m mv) (hs:V g s sv) (hx:V g x xv) (hl:qO h m s x=some h') :
  ∃ w',(Instr.entryStore t mv sv xv).run P w=.ok () w'∧Rel B w0 g h' w':=by
 unfold qO at hl
 split at hl
 ·rename_i id kd nn
  simp only [V] at hm hs
  obtain ⟨c,hc,rfl⟩:=hm
  subst hs
  split at hl
  ·rename_i es hb
   obtain ⟨_,_,⟨ents,n,hb1,hb2,hb3⟩,_⟩:=r.blk id c _ hc hb
   obtain ⟨hn,hborn⟩:=hb3 rfl
   split at hl
   ·rename_i h0
    split at hl
    ·rename_i p hp
     cases hl
     obtain ⟨e,q1,q2,q3⟩:=hb2.getE hp
     have q1':ents[nn.toNat]?=some e:=by simp_all
     have hlt:=(Array.getElem?_eq_some_iff.1 q1').1
     have hfi:ents.findIdx? (fun e=>(e.born:Int)==nn)=some nn.toNat:=by
      rw [Array.findIdx?_eq_some_iff_getElem]
      refine ⟨hlt,?_,fun j hj=>?_⟩
      ·grind
      ·have:=hborn j _ (Array.getElem?_eq_getElem (Nat.lt_trans hj hlt))
       grind
     refine ⟨{ w with heap:=w.heap.setIfInBounds c (.map (ents.modify nn.toNat fun e=>{ e with val:=xv }) n) },?_,?_⟩
     ·simp [Instr.entryStore,MapKept.run_getObj_map hb1,asInt,asIntOf,hfi,MapKept.run_setObj_map _ hb1]
     ·refine r.mapPut hc hb (by simp) hb1 (by rw [modify_list q1];exact hb2.put _ q2 hx.zcl) fun _=>⟨by simp [hn],fun i e' hi=>?_⟩
      grind
    ·cases hl
   ·cases hl
  ·cases hl
 ·cases hl
theorem mapPut_sound {t kt et:TypeId} {m k x:AV} {h':AH} {mv kv xv:Value} (r:Rel B w0 g h w) (ht:P.underlying t=some (.map kt et)) (hm:V g m mv) (hk:V g k kv) (hx:V g x xv) (hl:aMapPut P h kt m k x=some h') :
  ∃ w',(Instr.mapUpdate t mv kv xv).run P w=.ok () w'∧Rel B w0 g h' w':=by
 unfold aMapPut at hl
 split at hl
 case isFalse=>cases hl
 rename_i hkk
 have ck:=fun b=>key_ok (w:=w) hk hkk b
 split at hl
 ·rename_i id
  simp only [V] at hm
  obtain ⟨c,hc,rfl⟩:=hm
  split at hl
  ·rename_i es cl hb
   obtain ⟨_,_,⟨ents,n,hb1,hb2,hb3⟩,_⟩:=r.blk id c _ hc hb
   split at hl
   ·rename_i j x0 hfi
    cases hl
    obtain ⟨e,q1,_,q3,q4,q5⟩:=find_run (w:=w) hk hb2 hfi (key_und hkk)
    have hs:=keeps_run (P:=P) (w:=w) (key_same hk hk hkk).2
    have q1':ents[j]?=some e:=by simp_all
    refine ⟨{ w with heap:=w.heap.setIfInBounds c (.map (ents.modify j fun e=>{ e with key:=kv,val:=xv }) n) },?_,?_⟩
    ·simp [Instr.mapUpdate,run_underlying ht,MapKept.run_getObj_map hb1,ck,q5,q1',q3,hs,MapKept.run_setObj_map _ hb1]
    ·refine r.mapPut hc hb (by simp) hb1 (by rw [modify_list q1];exact hb2.put _ hk hx.zcl) fun h0=>?_
     grind
   ·rename_i hfi
    cases hl
    have hf:=find_run (w:=w) hk hb2 hfi (key_und hkk)
    refine ⟨{ w with heap:=w.heap.setIfInBounds c (.map (ents.push { key:=kv,val:=xv,born:=n }) (n+1)) },?_,?_⟩
    ·simp [Instr.mapUpdate,run_underlying ht,MapKept.run_getObj_map hb1,ck,hf,MapKept.run_setObj_map _ hb1]
    ·refine r.mapPut hc hb (by simp) hb1 (by rw [Array.toList_push];exact hb2.push hk hx.zcl) fun h0=>?_
     grind
   ·cases hl
  ·cases hl
 ·cases hl
end
end Go.Vv
namespace Go.Vv
open Go Go.RowKit Go.Lib
section
variable {P:Program} {w:World} {g:Gh} {h:AH} {B:Nat} {w0:World}

def vp (P:Program) (B:Nat) (w0:World) (g:Gh) (a:Act) (o:Oper) (w:World) (v:AV) (h':AH):Prop :=
 ∃ u w' g',((execOp a.eval o).run P w=.ok (.value u) w' ∨ ((execOp a.eval o).run P w=.ok .skip w'∧u=undef))∧g.le g'∧Rel B w0 g' h' w'∧V g' v u

def Fits (P:Program) (B:Nat) (w0:World) (g:Gh) (a:Act) (o:Oper) (w:World):Res→Prop
 | .ok v h'=>vp P B w0 g a o w v h'
 | .len n v h'=>n≤maxLen∧vp P B w0 g a o w v h'
 | .call f args=>∃ vs:Array Value,(execOp a.eval o).run P w=(callFunc f vs).run P w∧VL g args vs.toList
 | .round id args=>∃ (c:Nat) (vs:Array Value),g.σ[id]?=some c∧(execOp a.eval o).run P w=(Instr.yield c vs).run P w∧VL g args vs.toList
 | .any S=>∃ v h',S v h'∧vp P B w0 g a o w v h'
 | .fail=>True

theorem Fits.oo {a:Act} {o:Oper} {x:Option AV} (hx:∀ v,x=some v→vp P B w0 g a o w v h):Fits P B w0 g a o w (oo h x):=by
 cases x with
 | none=>trivial
 | some v=>exact hx v rfl

theorem VO.ev {env:List AV} {a:Act} (he:VL g env a.tmps.toList) {x:Option Operand} (ho:x.all yo=true):VO g (x.map (ev env)) (x.map a.eval):=by
 cases x with
 | none=>rfl
 | some x=>exact ⟨_,rfl,V.ev he (by simp_all)⟩
theorem VL.evs {env:List AV} {a:Act} (he:VL g env a.tmps.toList):∀ {xs:List Operand},xs.all yo=true→VL g (xs.map (ev env)) (xs.map a.eval)
 | [],_=>by simp [VL]
 | x::r,h=>by
  simp only [List.all_cons,Bool.and_eq_true] at h
  simp only [List.map_cons]
  exact VL.cons (V.ev he h.1) (VL.evs he h.2)
theorem VL.evs_fix {env:List AV} {a:Act} (he:VL g env a.tmps.toList):∀ {xs:List Operand} {ts:List TypeId},xs.all yo=true→xs.length=ts.length→VL g ((xs.zip ts).map fun p=>tyfix P p.2 (ev env p.1)) (xs.map a.eval)
 | [],_,_,_=>by simp [VL]
 | x::r,[],_,h=>by simp at h
 | x::r,t::ts,h,hl=>by
  simp only [List.all_cons,Bool.and_eq_true] at h
  simp only [List.zip_cons_cons,List.map_cons]
  exact VL.cons (V.ev he h.1).tyfix (VL.evs_fix he h.2 (by simp_all))

theorem V.map_tyfix {t:TypeId} {x:Option AV} {v:AV} (hx:x.map (Vv.tyfix P t)=some v):∃ v',x=some v'∧v=Vv.tyfix P t v':=by
 cases x with
 | none=>cases hx
 | some v'=>injection hx with hx;exact ⟨v',rfl,hx.symm⟩

theorem qr:∀ s:List UInt8,(s.map fun b=>[AV.int .u8 b.toNat]).flatten=s.map fun b=>AV.int .u8 b.toNat
 | []=>rfl
 | b::r=>by simp only [List.map_cons,List.flatten_cons,qr r];rfl
theorem bytes_VA:∀ s:List UInt8,VA g (s.map fun b=>AV.int .u8 b.toNat) (s.map fun b=>Value.int .u8 b.toNat)
 | []=>by simp [VA]
 | b::r=>by simp only [List.map_cons,VA];exact ⟨_,_,rfl,⟨rfl,by simp only [V]⟩,bytes_VA r⟩

theorem mm_sound (mx:Bool):∀ {r:List AV} {a v:AV} {x:Value} {xs:List Value},V g a x→VL g r xs→aMM mx a r=some v→∃ u,(xs.foldlM (if mx then Builtin.max2 else Builtin.min2) x).run P w=.ok u w∧V g v u:=by
 intro r
 induction r with
 | nil =>
  intro a v x xs hx hl he
  simp only [VL] at hl
  subst hl
  simp only [aMM,Option.some.injEq] at he
  simp_all
 | cons b r ih =>
  intro a v x xs hx hl he
  simp only [VL] at hl
  obtain ⟨y,ys,rfl,hy,hl⟩:=hl
  unfold aMM at he
  split at he
  ·simp_all
  ·rename_i k n k' m rest heq
   cases heq
   split at he
   ·rename_i hk
    subst hk
    simp only [V] at hx hy
    subst hx hy
    obtain ⟨u,h1,h2⟩:=ih (x:=.int k (if mx then (if m > n then m else n) else (if m < n then m else n))) (by simp only [V]) hl he
    refine ⟨u,?_,h2⟩
    rw [List.foldlM_cons]
    cases mx
    ·simp only [Bool.false_eq_true,if_false,Builtin.min2] at h1 ⊢;exact h1
    ·simp only [if_true,Builtin.max2] at h1 ⊢;exact h1
   ·cases he
  ·cases he
theorem builtin_fits (r:Rel B w0 g h w) {a:Act} {env:List AV} (he:VL g env a.tmps.toList) {o:Oper} {c:Call} (ho:o.op=.call c) {b:Builtin} (hc:c.callee=.builtin b) (hok:c.args.all yo=true) :
  Fits P B w0 g a o w (qP P h b c.argTypes.toList (c.args.toList.map (ev env))):=by
 have hrun:∀ (bb:Builtin),b=bb→(execOp a.eval o).run P w=(builtin bb c.argTypes o.type (c.args.map fun | .const _=>true | _=>false) (c.args.map a.eval)).run P w:=by
  intro bb hb
  subst hb
  simp only [execOp,ho,resolve,hc,Sem.run_bind,Sem.run_pure,Result.andThen_ok,invoke]
  rfl
 have hall:c.args.toList.all yo=true:=by simp_all
 unfold qP
 split
 ·rename_i t x hts has
  have hta:c.argTypes=#[t]:=by grind
  obtain ⟨xo,hxo,rfl⟩:∃ xo,c.args=#[xo]∧x=ev env xo:=by
   rcases hl:c.args.toList with _ | ⟨y,_ | ⟨z,rest⟩⟩ <;> simp [hl] at has
   grind
  have hV:=V.ev he (x:=xo) (by simp_all)
  split
  ·rename_i hu
   split
   ·rename_i s hx
    rw [hx] at hV
    obtain ⟨h1,h2⟩:=len_str_sound (P:=P) (w:=w) (ty:=o.type) hu hV
    refine ⟨h2,.int .i64 s.length,w,g,.inl ?_,Gh.le.refl g,r,by simp only [V]⟩
    rw [hrun .len rfl,hta,hxo]
    simp [builtin,h1]
   ·trivial
  ·rename_i e hu
   split
   ·rename_i n hn
    obtain ⟨h1,h2⟩:=len_sl_sound (P:=P) (w:=w) (ty:=o.type) hu hV hn
    refine ⟨h2,.int .i64 n,w,g,.inl ?_,Gh.le.refl g,r,by simp only [V]⟩
    rw [hrun .len rfl,hta,hxo]
    simp [builtin,h1]
   ·trivial
  ·rename_i kt et hu
   split
   ·rename_i id hx
    split
    ·rename_i es cl hb
     rw [hx] at hV
     simp only [V] at hV
     obtain ⟨c0,hc0,hv0⟩:=hV
     obtain ⟨_,_,⟨ents,n,hb1,hb2,_⟩,_⟩:=r.blk id c0 _ hc0 hb
     refine ⟨_,_,⟨rfl,rfl⟩,.int .i64 es.length,w,g,.inl ?_,Gh.le.refl g,r,by simp only [V]⟩
     rw [hrun .len rfl,hta,hxo]
     have hsz:ents.size=es.length:=by have:=hb2.len;simpa using this
     simp [builtin,hv0,Builtin.len_,run_underlying hu,MapKept.run_getObj_map hb1,hsz,goInt]
    ·trivial
   ·trivial
  ·trivial
 ·rename_i t u s x hts has
  have hta:c.argTypes=#[t,u]:=by grind
  obtain ⟨so,xo,hxo,rfl,rfl⟩:∃ so xo,c.args=#[so,xo]∧s=ev env so∧x=ev env xo:=by
   rcases hl:c.args.toList with _ | ⟨y,_ | ⟨z,_ | ⟨q,rest⟩⟩⟩ <;> simp [hl] at has
   grind
  have hok2:yo so=true∧yo xo=true:=by simp_all
  have hVs:=(V.ev he hok2.1).tyfix (P:=P) (t:=t)
  have hVx:=(V.ev he hok2.2).tyfix (P:=P) (t:=u)
  have main:∀ (e:TypeId) (du:TypeDesc),P.underlying t=some (.slice e)→P.underlying u=some du→NotInt du →
    Fits P B w0 g a o w (match P.info? e with
     | some i=>if i.bytes≤65536∧0 < i.size∧(i.zero.map (·.cells.size))=some i.size then (match q7 i.size (tyfix P u (ev env xo)) with
      | some ys=>ovh (aAppend h i.size (tyfix P t (ev env so)) ys)
      | none=>.fail) else .fail
     | none=>.fail):=by
   intro e du ht hu hdu
   split
   ·rename_i i hi
    split
    ·rename_i hc1
     obtain ⟨hby,hpos,hzz⟩:=hc1
     obtain ⟨z,hz,hzs⟩:∃ z,i.zero=some z∧z.cells.size=i.size:=by
      simp_all
     split
     ·rename_i ys hys
      rcases hap:aAppend h i.size (tyfix P t (ev env so)) ys with _ | ⟨s',h'⟩
      ·trivial
      ·show vp P B w0 g a o w s' h'
       have fin:∀ (news:List Value),(∀ e ∈ ys,e.length=i.size)→VA g ys.flatten news→ys.flatten.all AV.pure=true →
         (∀ W:World,(∀ a v,w.cell? a=some v→W.cell? a=some v)→News P i.size ys.length (a.eval xo) news W)→vp P B w0 g a o w s' h':=by
        intro news hl hva hpu hn
        obtain ⟨v,w',g',h1,h2,h3,h4⟩:=append_sound (ty:=o.type) r ht hu hdu hi hz hzs hby hVs hl hva hpu hn hap
        refine ⟨v,w',g',.inl ?_,h2,h3,h4⟩
        rw [hrun .append rfl,hta,hxo]
        simp [builtin,h1]
       have slc:∀ (es:List (List AV)) (ad:Option Addr) (c:Nat),a.eval xo=.slice ad es.length c→(es=[] ∨ ∃ b o,ad=some ⟨b,o,none⟩∧VE g b i.size o es)→ys=es→vp P B w0 g a o w s' h':=by
        rintro es ad c hev hes rfl
        rcases hes with rfl | ⟨b,oo,rfl,hve⟩
        ·refine fin [] (by simp) (by simp [VA]) rfl fun W _=>⟨by rw [hev];rfl,?_⟩
         rw [hev]
         cases ad with
         | none=>simp [Builtin.firstCells]
         | some ad=>simp [Builtin.firstCells,loadCells,loadCellsFrom]
        ·obtain ⟨h1,h2⟩:=VE_iff.1 hve
         obtain ⟨us,hus,hup,hΦ⟩:=h2.toVA
         refine fin us h1 hus hup fun W hW=>?_
         rw [hev]
         refine News.slice (by rw [← hus.length,yz h1]) fun j v hv=>?_
         rw [xz]
         exact hW _ _ (r.phi _ _ _ (hΦ j v hv))
       generalize hgx:tyfix P u (ev env xo)=xx at hys hVx
       unfold q7 at hys
       split at hys
       ·split at hys
        ·rename_i hk
         cases hys
         subst hk
         simp only [V] at hVx
         grind
        ·cases hys
       ·split at hys
        ·rename_i hk
         cases hys
         subst hk
         simp only [V] at hVx
         grind
        ·cases hys
       ·split at hys
        ·rename_i hk
         cases hys
         subst hk
         simp only [V] at hVx
         grind
        ·cases hys
       ·split at hys
        ·rename_i hk
         cases hys
         subst hk
         simp only [V] at hVx
         grind
        ·cases hys
       ·rename_i s
        split at hys
        ·rename_i hk
         cases hys
         simp only [V] at hVx
         obtain ⟨h1,h2⟩:=hVx
         refine fin (strCells ⟨s.toArray⟩) (fun e he=>?_) ?_ (by rw [qr,List.all_map];exact List.all_eq_true.2 fun _ _=>rfl) fun W _=>?_
         ·grind
         ·rw [qr];exact bytes_VA s
         ·rw [h1]
          have:=News.str (P:=P) (size:=i.size) (s:=⟨s.toArray⟩) (w:=W)
          rw [str_size] at this
          simp_all
        ·cases hys
       ·cases hys
     ·trivial
    ·trivial
   ·trivial
  split
  ·rename_i e e' ht hu;exact main e _ ht hu (.inr ⟨_,rfl⟩)
  ·rename_i e ht hu;exact main e _ ht hu (.inl rfl)
  ·trivial
 ·rename_i x rs has
  refine Fits.oo fun v hv=>?_
  have hvl:=VL.evs he (xs:=c.args.toList) hall
  rw [has] at hvl
  simp only [VL] at hvl
  obtain ⟨y,ys,hys,hy,hr⟩:=hvl
  obtain ⟨u,h1,h2⟩:=mm_sound (P:=P) (w:=w) false hy hr hv
  refine ⟨u,w,g,.inl ?_,Gh.le.refl g,r,h2⟩
  rw [hrun .min rfl]
  simp only [Bool.false_eq_true,if_false] at h1
  simp [builtin,Builtin.min_,hys,h1]
 ·rename_i x rs has
  refine Fits.oo fun v hv=>?_
  have hvl:=VL.evs he (xs:=c.args.toList) hall
  rw [has] at hvl
  simp only [VL] at hvl
  obtain ⟨y,ys,hys,hy,hr⟩:=hvl
  obtain ⟨u,h1,h2⟩:=mm_sound (P:=P) (w:=w) true hy hr hv
  refine ⟨u,w,g,.inl ?_,Gh.le.refl g,r,h2⟩
  rw [hrun .max rfl]
  simp only [if_true] at h1
  simp [builtin,Builtin.max_,hys,h1]
 ·trivial
end
end Go.Vv
namespace Go.Vv
open Go Go.RowKit Go.Lib
section
variable {P:Program} {w:World} {g:Gh} {h:AH} {B:Nat} {w0:World}

theorem qR {a:Act} {o:Oper} (r:Rel B w0 g h w) {v:AV} {u:Value} (h1:(execOp a.eval o).run P w=.ok (.value u) w) (h2:V g v u):vp P B w0 g a o w v h:=⟨u,w,g,.inl h1,Gh.le.refl g,r,h2⟩

theorem recv_sound (r:Rel B w0 g h w) {t:TypeId} {v b:AV} {u:Value} {name:String} {f:FuncId} (hr:aRecv P h t v name=some (f,b)) (hv:V g v u) (args:Array Value) :
  ∃ x,(callMethod (.iface t u) name args).run P w=(callFunc f (#[x]++args)).run P w∧V g b x:=by
 unfold aRecv at hr
 split at hr
 case h_2=>cases hr
 rename_i i hi
 split at hr
 case h_2=>cases hr
 rename_i m hm
 split at hr
 case isFalse=>cases hr
 rename_i hp
 have hp':m.path=#[]:=by simp_all
 rw [Array.find?_toList] at hm
 have key : ∀ x p, (receiverAt t (.val u) p (some ((name.splitOn ".").getLastD name))).run P w = .ok x w → m.func = some (f, p) →
   (callMethod (.iface t u) name args).run P w=(callFunc f (#[x]++args)).run P w:=fun x p hx hf=>by
  have hn:P.types.size+Made.depth=(P.types.size+99)+1:=rfl
  simp only [callMethod,Sem.run_bind,run_program,Result.andThen_ok]
  rw [hn]
  generalize P.types.size+99=n
  rw [method]
  have hti:(typeInfo t).run P w=.ok i w:=by simp [typeInfo,hi]
  simp only [Sem.run_bind,hti,Result.andThen_ok,hm,hp',hf]
  have h0:(follow (#[]:Array FieldStep).toList t (.val u)).run P w=.ok (t,.val u) w:=rfl
  simp_all
 split at hr
 case h_2=>cases hr
 rename_i f' p hf
 split at hr
 ·rename_i e ht
  simp only [Option.some.injEq,Prod.mk.injEq] at hr
  obtain ⟨rfl,rfl⟩:=hr
  exact ⟨u,key u _ (by simp [receiverAt,run_underlying ht,Place.get]) hf,hv⟩
 ·rename_i e ht
  split at hr
  ·rename_i id off d j hd hj
   rw [Option.map_eq_some_iff] at hr
   obtain ⟨x,hx,hr⟩:=hr
   simp only [Prod.mk.injEq] at hr
   obtain ⟨rfl,rfl⟩:=hr
   obtain ⟨y,h1,h2⟩:=load_sound r hd hj hv hx
   simp only [V] at hv
   obtain ⟨c,hc,rfl⟩:=hv
   refine ⟨y,key y _ ?_ hf,h2.tyfix⟩
   simp only [Instr.loadAt,Instr.sureAddr] at h1
   have hw : ∀ nm, (Builtin.ssaWrapNilChk_ #[t] t #[.pointer (some ⟨c, off, none⟩), strVal "", strVal nm]).run P w = .ok (.pointer (some ⟨c, off, none⟩)) w := fun _ => rfl
   simp only [receiverAt,Sem.run_bind,run_underlying ht,Result.andThen_ok,Place.get,Sem.run_pure,hw,asAddr]
   simp_all
  ·cases hr
 ·rename_i d hne ht
  simp only [Option.some.injEq,Prod.mk.injEq] at hr
  obtain ⟨rfl,rfl⟩:=hr
  refine ⟨u,key u _ ?_ hf,hv⟩
  simp only [receiverAt,Sem.run_bind,run_underlying ht,Result.andThen_ok]
  rfl
 ·cases hr
theorem astep_fits (r:Rel B w0 g h w) {a:Act} {env:List AV} (he:VL g env a.tmps.toList) (o:Oper):Fits P B w0 g a o w (zK P o env h):=by
 unfold zK
 split
 ·-- move
  rename_i x ho
  split
  ·rename_i hok;exact qR r (by simp [execOp,ho]) (V.ev he hok).tyfix
  ·trivial
 ·-- assign
  rename_i x ho
  split
  ·rename_i hok;exact qR r (by simp [execOp,ho]) (V.ev he hok).tyfix
  ·trivial
 ·-- pick
  rename_i c x y ho
  split
  ·rename_i hok
   simp only [Bool.and_eq_true] at hok
   split
   ·rename_i t ht
    have hc:=V.ev he hok.2
    rw [ht] at hc
    simp only [V] at hc
    refine qR r (u:=if t then a.eval x else a.eval y) (by simp [execOp,ho,hc,asBool]) ?_
    cases t
    ·exact V.ev he hok.1.2
    ·exact V.ev he hok.1.1
   ·trivial
  ·trivial
 ·-- alloc
  rename_i t ho
  split
  ·rename_i cs hz
   obtain ⟨i,z,hi,hzz,hva⟩:=wM (g:=g) hz
   have hsl:=r.slen
   refine ⟨.pointer (some ⟨w.heap.size,0,none⟩),w.alloc (.cells z.cells t),g.addS w.heap.size,.inl ?_,g.le_addS _,r.newCells t hva,?_⟩
   ·simp [execOp,ho,Instr.alloc,run_zero hi hzz,newVar,newRow]
   ·simp only [V,Gh.addS]
    simp_all
  ·trivial
 ·-- box
  rename_i t x ho
  split
  ·rename_i hok
   split
   ·rename_i cs hc
    have hva:=((V.ev he hok).tyfix (P:=P) (t:=t)).cells hc
    have hsl:=r.slen
    refine ⟨.pointer (some ⟨w.heap.size,0,none⟩),w.alloc (.cells (a.eval x).cells t),g.addS w.heap.size,.inl ?_,g.le_addS _,r.newCells t hva,?_⟩
    ·simp [execOp,ho,Instr.box,newVar,newRow]
    ·simp only [V,Gh.addS]
     simp_all
   ·trivial
  ·trivial
 ·-- build
  rename_i t parts ho
  split
  ·rename_i hok
   have run:∀ out,(∃ u,(Instr.build t (parts.map fun (i,x)=>(i,a.eval x))).run P w=.ok u w∧V g (.agg out) u)→vp P B w0 g a o w (.agg out) h:=by
    rintro out ⟨u,h1,h2⟩
    exact qR r (by simp [execOp,ho,h1]) h2
   split
   ·rename_i fs z hu hz
    split
    ·rename_i pl hpl
     refine Fits.oo fun v hv=>?_
     rcases hf:vg (fun i=>pl[i]?) z (y8 P (.struct fs) env parts) with _ | out
     ·simp_all
     ·simp [hf] at hv;subst hv
      exact run out (build_sound he hok hz (.inl ⟨fs,pl,hu,hpl,hf⟩))
    ·trivial
   ·rename_i n e z hu hz
    split
    ·rename_i j hj
     refine Fits.oo fun v hv=>?_
     rcases hf:vg (fun i=>some (i * j.size,j.size)) z (y8 P (.array n e) env parts) with _ | out
     ·simp_all
     ·simp [hf] at hv;subst hv
      exact run out (build_sound he hok hz (.inr ⟨n,e,j,hu,hj,hf⟩))
    ·trivial
   ·trivial
  ·trivial
 ·-- load
  rename_i t x ho
  split
  ·rename_i d i hd hi
   refine Fits.oo fun v hv=>?_
   obtain ⟨v',hv',rfl⟩:=V.map_tyfix hv
   obtain ⟨u,h1,h2⟩:=load_sound r hd hi (p:=ev env x) (pv:=a.eval x) (by
    cases x with
    | tmp t=>exact V.ev he rfl
    | const c =>
     -- a constant is no address
     simp only [ev] at hv'
     exfalso
     unfold aLoad at hv'
     unfold cv at hv'
     split at hv' <;> first
      | (rename_i hh;split at hh <;> first | cases hh | (unfold cv1 at hh;split at hh <;> cases hh))
      | cases hv'
    | global n=>exact V.ev he rfl
    | func f=>exact V.ev he rfl) hv'
   exact qR r (by simp [execOp,ho,h1]) h2.tyfix
  ·trivial
 ·-- store
  rename_i t x y ho
  split
  ·rename_i hok
   split
   ·rename_i i hi
    rcases hs:aStore h i.size (ev env x) (tyfix P t (ev env y)) with _ | h'
    ·trivial
    ·show vp P B w0 g a o w za h'
     have hp:V g (ev env x) (a.eval x):=by
      cases x with
      | tmp t=>exact V.ev he rfl
      | const c =>
       simp only [ev] at hs
       exfalso
       unfold aStore at hs
       unfold cv at hs
       split at hs <;> first
        | (rename_i hh _;split at hh <;> first | cases hh | (unfold cv1 at hh;split at hh <;> cases hh))
        | cases hs
      | global n=>exact V.ev he rfl
      | func f=>exact V.ev he rfl
     obtain ⟨w',h1,h2⟩:=store_sound r hi hp (V.ev he hok).tyfix hs
     exact ⟨undef,w',g,.inr ⟨by simp [execOp,ho,h1],rfl⟩,Gh.le.refl g,h2,V.ofUndef⟩
   ·trivial
  ·trivial
 ·-- nilCheck
  rename_i x ho
  split
  ·rename_i hok
   have hV:=V.ev he hok
   split
   ·rename_i id off hx
    rw [hx] at hV
    have hV':=hV
    simp only [V] at hV
    obtain ⟨c,hc,hx'⟩:=hV
    exact qR r (u:=a.eval x) (by simp [execOp,ho,hx']) hV'
   ·rename_i cs hx
    rw [hx] at hV
    have hV':=hV
    simp only [V] at hV
    obtain ⟨b,oo,hx',_⟩:=hV
    exact qR r (u:=a.eval x) (by simp [execOp,ho,hx']) hV'
   ·rename_i id q k n p hx
    rw [hx] at hV
    have hV':=hV
    simp only [V] at hV
    obtain ⟨b,oo,hx',_⟩:=hV
    exact qR r (u:=a.eval x) (by simp [execOp,ho,hx']) hV'
   ·rename_i m hx
    rw [hx] at hV
    have hV':=hV
    simp only [V] at hV
    obtain ⟨b,oo,s,hx',_⟩:=hV
    exact qR r (u:=a.eval x) (by simp [execOp,ho,hx']) hV'
   ·rename_i f a5 bs hx
    rw [hx] at hV
    have hV':=hV
    simp only [V] at hV
    obtain ⟨fs,cs,hx',_⟩:=hV
    exact qR r (u:=a.eval x) (by simp [execOp,ho,hx']) hV'
   ·trivial
  ·trivial
 ·-- binOp
  rename_i op t x y yt ho
  split
  ·rename_i hok
   simp only [Bool.and_eq_true] at hok
   split
   ·rename_i S hS
    obtain ⟨b,h1,h2⟩:=nilq_sound (w:=w) (ox:=x) (oy:=y) (V.ev he hok.1) (V.ev he hok.2) hS
    exact ⟨_,_,h2,qR r (u:=.bool b) (by simp only [execOp,ho,Sem.run_bind] at h1 ⊢;rw [h1];rfl) (by simp only [V])⟩
   refine Fits.oo fun v hv=>?_
   obtain ⟨u,h1,h2⟩:=bin_sound (w:=w) (ox:=x) (oy:=y) (V.ev he hok.1) (V.ev he hok.2) hv
   exact qR r (by simp only [execOp,ho,Sem.run_bind] at h1 ⊢;rw [h1];rfl) h2
  ·trivial
 ·-- unOp
  rename_i op t x ho
  split
  ·rename_i hok
   refine Fits.oo fun v hv=>?_
   obtain ⟨u,h1,h2⟩:=un_sound (P:=P) (w:=w) (V.ev he hok) hv
   exact qR r (by simp [execOp,ho,h1]) h2
  ·trivial
 ·-- convert
  rename_i s t x ho
  split
  ·rename_i hok
   split
   ·rename_i ds d hs hd
    refine Fits.oo fun v hv=>?_
    obtain ⟨u,h1,h2⟩:=convert_sound (w:=w) hs hd (V.ev he hok) hv
    exact qR r (by simp [execOp,ho,h1]) h2
   ·trivial
  ·trivial
 ·-- makeFunc
  rename_i f a5 bs ho
  split
  ·rename_i hok
   simp only [Bool.and_eq_true] at hok
   refine qR r (u:=.func f (a5.map a.eval) (bs.map a.eval)) (by simp [execOp,ho,Instr.makeFunc]) ?_
   simp only [V]
   exact ⟨_,_,rfl,by simpa using VL.evs he (by simp_all),by simpa using VL.evs he (by simp_all)⟩
  ·trivial
 ·-- slice
  rename_i t x lo hi mx ho
  split
  ·rename_i hok
   simp only [Bool.and_eq_true] at hok
   obtain ⟨⟨⟨hok1,hok2⟩,hok3⟩,hok4⟩:=hok
   have hV:=V.ev he hok1
   have run:∀ v,(∃ y,(Instr.sliceAt t (a.eval x) (lo.map a.eval) (hi.map a.eval) (mx.map a.eval)).run P w=.ok y w∧V g v y)→vp P B w0 g a o w v h:=by
    rintro v ⟨u,h1,h2⟩
    exact qR r (by simp [execOp,ho,h1]) h2
   split
   ·rename_i hu
    split
    ·rename_i s hs
     rw [hs] at hV
     exact Fits.oo fun v hv=>run v (slice_str_sound hu hV (VO.ev he hok2) (VO.ev he hok3) (VO.ev he hok4) hv)
    ·trivial
   ·rename_i e hu
    split
    ·rename_i i hi'
     have hV2:=hV.tyfix (P:=P) (t:=t)
     split
     ·rename_i k es hs
      rw [hs] at hV2
      split
      ·rename_i hk
       subst hk
       refine Fits.oo fun v hv=>run v ?_
       simp only [V] at hV2
       obtain ⟨ad,c,hev,h1,h2,h3⟩:=hV2
       rw [hev]
       exact slice_sl_sound hu hi' h1 h2 h3 (fun h=>by cases h) (VO.ev he hok2) (VO.ev he hok3) (VO.ev he hok4) hv
      ·trivial
     ·rename_i q k es hs
      rw [hs] at hV2
      split
      ·rename_i hk
       subst hk
       refine Fits.oo fun v hv=>run v ?_
       simp only [V] at hV2
       obtain ⟨ad,c,hev,h1,h2,h3,h4⟩:=hV2
       rw [hev]
       refine slice_sl_sound hu hi' h1 h2 h3 (fun h=>?_) (VO.ev he hok2) (VO.ev he hok3) (VO.ev he hok4) hv
       simp_all
      ·trivial
     ·trivial
    ·trivial
   ·trivial
  ·trivial
 ·-- fieldAddr
  rename_i t x f ho
  split
  ·rename_i off u hf
   split
   ·rename_i i hi
    split
    ·trivial
    ·rename_i hz
     simp only [not_or,Bool.not_eq_false] at hz
     refine Fits.oo fun v hv=>?_
     obtain ⟨y,h1,h2⟩:=fieldAddr_sound (w:=w) hf hi hz.1 (V.ev he hz.2) hv
     exact qR r (by simp [execOp,ho,h1]) h2
   ·trivial
  ·trivial
 ·-- field
  rename_i t x f ho
  split
  ·rename_i off u hf
   split
   ·rename_i d i hd hi
    split
    ·rename_i hok
     refine Fits.oo fun v hv=>?_
     obtain ⟨v',hv',rfl⟩:=V.map_tyfix hv
     obtain ⟨y,h1,h2⟩:=field_sound (w:=w) hf hd hi (V.ev he hok) hv'
     exact qR r (by simp [execOp,ho,h1]) h2.tyfix
    ·trivial
   ·trivial
  ·trivial
 ·-- indexAddr
  rename_i t x i ho
  split
  ·rename_i hok
   simp only [Bool.and_eq_true] at hok
   split
   ·rename_i e hu
    split
    ·rename_i j hj
     refine Fits.oo fun v hv=>?_
     obtain ⟨y,h1,h2⟩:=indexAddr_slice_sound (w:=w) hu hj (V.ev he hok.1) (V.ev he hok.2) hv
     exact qR r (by simp [execOp,ho,h1]) h2
    ·trivial
   ·rename_i n e hu
    split
    ·rename_i j hj
     refine Fits.oo fun v hv=>?_
     obtain ⟨y,h1,h2⟩:=indexAddr_array_sound (w:=w) hu hj (V.ev he hok.1) (V.ev he hok.2) hv
     exact qR r (by simp [execOp,ho,h1]) h2
    ·trivial
   ·trivial
  ·trivial
 ·-- index
  rename_i t x i ho
  split
  ·rename_i hok
   simp only [Bool.and_eq_true] at hok
   split
   ·rename_i hu
    refine Fits.oo fun v hv=>?_
    obtain ⟨y,h1,h2⟩:=index_str_sound (w:=w) hu (V.ev he hok.1) (V.ev he hok.2) hv
    exact qR r (by simp [execOp,ho,h1]) h2
   ·rename_i n e hu
    split
    ·rename_i d j hd hj
     refine Fits.oo fun v hv=>?_
     obtain ⟨v',hv',rfl⟩:=V.map_tyfix hv
     obtain ⟨y,h1,h2⟩:=index_agg_sound (w:=w) hu hd hj (V.ev he hok.1) (V.ev he hok.2) hv'
     exact qR r (by simp [execOp,ho,h1]) h2.tyfix
    ·trivial
   ·trivial
  ·trivial
 ·-- extract
  rename_i t i ho
  split
  ·rename_i hok
   have hV:=V.ev he hok
   split
   ·rename_i vs hx
    rw [hx] at hV
    refine Fits.oo fun v hv=>?_
    obtain ⟨v',hv',rfl⟩:=V.map_tyfix hv
    simp only [V] at hV
    obtain ⟨us,hu,hVL⟩:=hV
    obtain ⟨u,h1,h2⟩:=hVL.get _ _ hv'
    rw [Array.getElem?_toList] at h1
    exact qR r (by simp [execOp,ho,hu,Instr.extract,h1]) h2.tyfix
   ·trivial
  ·trivial
 ·-- buildSlice
  rename_i t n parts ho
  split
  ·rename_i hok
   split
   ·rename_i e hu
    split
    ·rename_i i z hi hz
     split
     ·rename_i hc
      split
      ·rename_i cs hf
       split
       ·rename_i out hcl
        obtain ⟨u,w',g',h1,h2,h3,h4⟩:=buildSlice_sound r he hok hu hi hz hc.1 hc.2.1 hc.2.2 hf hcl
        exact ⟨u,w',g',.inl (by simp [execOp,ho,h1]),h2,h3,h4⟩
       ·trivial
      ·trivial
     ·trivial
    ·trivial
   ·trivial
  ·trivial
 ·-- call
  rename_i c ho
  split
  ·rename_i hok
   simp only [Bool.and_eq_true,beq_iff_eq] at hok
   split
   ·rename_i b hc
    exact builtin_fits r he ho hc hok.1
   ·rename_i f hc
    split
    ·trivial
    ·rename_i hf
     have hV:=V.ev he (x:=f) (by simp_all)
     split
     ·rename_i gg first caps hx
      rw [hx] at hV
      simp only [V] at hV
      obtain ⟨fs,cs,hev,h1,h2⟩:=hV
      refine ⟨fs++c.args.map a.eval++cs,?_,?_⟩
      ·simp [execOp,ho,resolve,hc,hev,Deferred.ofValue,invoke]
      ·simp only [Array.toList_append]
       have h3:=VL.evs_fix (P:=P) he (xs:=c.args.toList) (ts:=c.argTypes.toList) (by grind) (by simp_all)
       exact VL.append (VL.append h1 (by simp_all)) h2
     ·rename_i id hx
      rw [hx] at hV
      simp only [V] at hV
      obtain ⟨cc,hc1,hev⟩:=hV
      refine ⟨cc,c.args.map a.eval,hc1,?_,?_⟩
      ·simp [execOp,ho,resolve,hc,hev,Deferred.ofValue,invoke]
      ·have h3:=VL.evs_fix (P:=P) he (xs:=c.args.toList) (ts:=c.argTypes.toList) (by grind) (by simp_all)
       simp_all
     ·trivial
   ·rename_i x name hc
    split
    ·trivial
    ·rename_i hf
     have hV:=V.ev he (x:=x) (by simp_all)
     split
     ·rename_i t v hx
      rw [hx] at hV
      simp only [V] at hV
      obtain ⟨u,hev,hv⟩:=hV
      split
      ·rename_i gg b hr
       obtain ⟨y,h1,h2⟩:=recv_sound r hr hv (c.args.map a.eval)
       refine ⟨#[y]++c.args.map a.eval,?_,?_⟩
       ·have hx2:((#[Value.iface t u]++c.args.map a.eval).extract 1 (#[Value.iface t u]++c.args.map a.eval).size)=c.args.map a.eval:=by
         simp_all
        have hx1:(#[Value.iface t u]++c.args.map a.eval)[0]?=some (.iface t u):=by
         rw [← Array.getElem?_toList];simp
        rw [← h1]
        simp only [execOp,ho,resolve,hc,hev,Sem.run_bind,Sem.run_pure,Result.andThen_ok,invoke]
        grind
       ·have h3:=VL.evs_fix (P:=P) he (xs:=c.args.toList) (ts:=c.argTypes.toList) (by grind) (by simp_all)
        simp only [Array.toList_append,List.cons_append,List.nil_append]
        exact VL.cons h2 (by simp_all)
      ·trivial
     ·trivial
  ·trivial
 ·-- range
  rename_i t x ho
  split
  ·rename_i hok
   split
   ·rename_i s hu hx
    have hV:=V.ev he hok
    rw [hx] at hV
    simp only [V] at hV
    have hsl:g.σ.length=h.blks.length:=r.slen
    refine ⟨.pointer (some ⟨w.heap.size,0,none⟩),w.alloc (.stringIter ⟨s.toArray⟩ 0),g.addS w.heap.size,.inl ?_,g.le_addS _,r.newBlk _ _ (heap_alloc_new w _),?_⟩
    ·have:=run_range_string (P:=P) w t ⟨s.toArray⟩ hu
     simp [execOp,ho,hV.1,this,World.iter]
    ·simp only [V,Gh.addS]
     simp_all
   ·trivial
  ·trivial
 ·-- next
  rename_i x str ho
  split
  ·rename_i hok
   simp only [Bool.and_eq_true] at hok
   have hV:=V.ev he hok.1
   unfold aNext
   split
   ·rename_i id hx
    rw [hx] at hV
    simp only [V] at hV
    obtain ⟨c,hc,hpv⟩:=hV
    split
    ·rename_i s pos hb
     obtain ⟨hB,hlt,hok2,_⟩:=r.blk id c _ hc hb
     have hk:w.heap[c]?=some (.stringIter ⟨s.toArray⟩ pos):=hok2
     have hsz:(⟨s.toArray⟩:ByteArray).size=s.length:=by rfl
     split
     ·rename_i hp
      have h1:=run_next_any_at (P:=P) w c ⟨s.toArray⟩ pos o.type hk (by omega)
      refine ⟨_,_,g,.inl (by simp only [execOp,ho,hok.2,hpv,Sem.run_bind,h1,Result.andThen_ok,Sem.run_pure];rfl),Gh.le.refl g,?_,?_⟩
      ·exact r.putObj hc hb (by simp) rfl rfl rfl (iterAt_size _ _ _ _) (fun b hb'=>iterAt_other w c b _ _ hb') (iterAt_heap w c _ pos _ hk)
      ·simp only [V]
       refine ⟨_,rfl,?_⟩
       simp only [VL]
       exact ⟨_,_,rfl,by simp only [V],_,_,rfl,by simp only [V],_,_,rfl,by rfl,rfl⟩
     ·rename_i hp
      have h1:=run_next_end_at (P:=P) w c ⟨s.toArray⟩ pos o.type hk (by omega)
      refine qR r (u:=.tuple #[.bool false]) (by simp only [execOp,ho,hok.2,hpv,Sem.run_bind,h1,Result.andThen_ok,Sem.run_pure]) ?_
      simp only [V]
      exact ⟨_,rfl,by simp only [VL];exact ⟨_,_,rfl,by simp only [V],rfl⟩⟩
    ·trivial
   ·trivial
  ·trivial
 ·-- makeMap
  rename_i t ho
  have hsl:g.σ.length=h.blks.length:=r.slen
  refine ⟨.map (some w.heap.size),w.alloc (.map #[] 0),g.addS w.heap.size,.inl ?_,g.le_addS _,r.newBlk _ _ ⟨#[],0,heap_alloc_new w _,by simp [ME],fun _=>⟨rfl,fun i e h=>by simp at h⟩⟩,?_⟩
  ·simp [execOp,ho,run_makeMap]
  ·simp only [V,Gh.addS]
   simp_all
 ·-- lookup
  rename_i t x i ok ho
  split
  ·rename_i hok
   simp only [Bool.and_eq_true] at hok
   split
   ·rename_i kt et hu
    refine Fits.oo fun v hv=>?_
    obtain ⟨u,h1,h2⟩:=lookup_sound r hu (V.ev he hok.1) (V.ev he hok.2) hv
    exact qR r (by simp [execOp,ho,h1]) h2
   ·trivial
  ·trivial
 ·-- mapEntry
  rename_i t x i ho
  split
  ·rename_i hok
   simp only [Bool.and_eq_true] at hok
   split
   ·rename_i kt et hu
    rcases hs:aEntry P h kt et (ev env x) (ev env i) with _ | ⟨v,h'⟩
    ·trivial
    ·obtain ⟨u,w',h1,h2,h3⟩:=entry_sound r hu (V.ev he hok.1) (V.ev he hok.2) hs
     exact ⟨u,w',g,.inl (by simp [execOp,ho,h1]),Gh.le.refl g,h3,h2⟩
   ·trivial
  ·trivial
 ·-- entryStore
  rename_i t x i y ho
  split
  ·rename_i hok
   simp only [Bool.and_eq_true] at hok
   rcases hs:qO h (ev env x) (ev env i) (ev env y) with _ | h'
   ·trivial
   ·obtain ⟨w',h1,h3⟩:=entryStore_sound (P:=P) (t:=t) r (V.ev he hok.1.1) (V.ev he hok.1.2) (V.ev he hok.2) hs
    exact ⟨undef,w',g,.inr ⟨by simp [execOp,ho,h1],rfl⟩,Gh.le.refl g,h3,V.ofUndef⟩
  ·trivial
 ·-- mapUpdate
  rename_i t x i y ho
  split
  ·rename_i hok
   simp only [Bool.and_eq_true] at hok
   split
   ·rename_i kt et hu
    rcases hs:aMapPut P h kt (ev env x) (ev env i) (ev env y) with _ | h'
    ·trivial
    ·obtain ⟨w',h1,h3⟩:=mapPut_sound r hu (V.ev he hok.1.1) (V.ev he hok.1.2) (V.ev he hok.2) hs
     exact ⟨undef,w',g,.inr ⟨by simp [execOp,ho,h1],rfl⟩,Gh.le.refl g,h3,V.ofUndef⟩
   ·trivial
  ·trivial
 ·trivial
end
end Go.Vv
namespace Go.Vv
open Go Go.RowKit Go.Lib

mutual
def AV.low (n m:Nat):AV→Bool
 | .ptr id _ | .msl _ id _ _ | .map id | .yld id=>decide (id < n)
 | .osl (some t) _ _=>decide (t < m)
 | .rsl _ t _ _ | .rptr _ t _ _ _ | .rsuf _ t _ _ _=>decide (t < m)
 | .fn _ a b=>yf n m a&&yf n m b
 | .iface _ v=>v.low n m
 | .agg cs=>yf n m cs
 | .tup vs=>yf n m vs
 | _=>true
def yf (n m:Nat):List AV→Bool
 | []=>true
 | a::r=>a.low n m&&yf n m r
end
theorem AV.low_of_pure {n m:Nat} {a:AV} (h:a.pure=true):a.low n m=true:=by
 unfold AV.pure at h
 split at h <;> first | rfl | cases h

def Gh.cut (g:Gh) (n m:Nat):Gh:={ g with σ:=g.σ.take n,τ:=g.τ.take m }
theorem take_sub {α:Type} {l:List α} {n i:Nat} {x:α} (e:(l.take n)[i]?=some x):l[i]?=some x:=by
 grind
theorem xE {α:Type} {l:List α} {n i:Nat} {x:α} (h:i < n) (e:l[i]?=some x):(l.take n)[i]?=some x:=by simp_all

mutual
theorem V.cut {g:Gh} {n m:Nat}:∀ (a:AV) (v:Value),a.low n m=true→V g a v→V (g.cut n m) a v
 | .bool _,_,_,hv=>by simpa only [V] using hv
 | .int _ _,_,_,hv=>by simpa only [V] using hv
 | .str _,_,_,hv=>by simpa only [V] using hv
 | .nilp,_,_,hv=>by simpa only [V] using hv
 | .nilm,_,_,hv=>by simpa only [V] using hv
 | .nilf,_,_,hv=>by simpa only [V] using hv
 | .nili,_,_,hv=>by simpa only [V] using hv
 | .nilsl,_,_,hv=>by simpa only [V] using hv
 | .ptr id off,_,hl,hv=>by
  simp only [V] at hv ⊢
  simp only [AV.low,decide_eq_true_eq] at hl
  obtain ⟨c,hc,e⟩:=hv
  exact ⟨c,xE hl hc,e⟩
 | .fptr cs,_,_,hv=>by
  simp only [V] at hv ⊢
  obtain ⟨b,o,e,hc⟩:=hv
  exact ⟨b,o,e,VC.cut b o cs hc⟩
 | .sl k es,_,_,hv=>by
  simp only [V] at hv ⊢
  obtain ⟨a,c,e,h1,h2,h3⟩:=hv
  exact ⟨a,c,e,h1,h2,h3.imp id fun ⟨b,o,e,hh⟩=>⟨b,o,e,VE.cut b k o es hh⟩⟩
 | .osl q k es,_,hl,hv=>by
  simp only [V] at hv ⊢
  obtain ⟨a,c,e,h1,h2,h3,h4⟩:=hv
  refine ⟨a,c,e,h1,h2,h3.imp id fun ⟨b,o,e,hh⟩=>⟨b,o,e,VE.cut b k o es hh⟩,?_⟩
  cases q with
  | none=>exact h4
  | some id =>
   simp only [AV.low,decide_eq_true_eq] at hl
   obtain ⟨t,ht,h5⟩:=h4
   exact ⟨t,xE hl ht,h5⟩
 | .msl _ id _ _,_,hl,hv=>by
  simp only [V] at hv ⊢
  simp only [AV.low,decide_eq_true_eq] at hl
  obtain ⟨c,cap,hc,e⟩:=hv
  exact ⟨c,cap,xE hl hc,e⟩
 | .rsl _ _ _ _,_,hl,hv=>by
  simp only [V] at hv ⊢
  simp only [AV.low,decide_eq_true_eq] at hl
  obtain ⟨a,c,e,h1,h2,t,ht,h3⟩:=hv
  exact ⟨a,c,e,h1,h2,t,xE hl ht,h3⟩
 | .rsuf _ _ _ _ _,_,hl,hv=>by
  simp only [V] at hv ⊢
  simp only [AV.low,decide_eq_true_eq] at hl
  obtain ⟨a,c,e,h1,t,ht,h3⟩:=hv
  exact ⟨a,c,e,h1,t,xE hl ht,h3⟩
 | .rptr _ _ _ _ _,_,hl,hv=>by
  simp only [V] at hv ⊢
  simp only [AV.low,decide_eq_true_eq] at hl
  obtain ⟨b,q,e,t,ht,h3⟩:=hv
  exact ⟨b,q,e,t,xE hl ht,h3⟩
 | .map id,_,hl,hv=>by
  simp only [V] at hv ⊢
  simp only [AV.low,decide_eq_true_eq] at hl
  obtain ⟨c,hc,e⟩:=hv
  exact ⟨c,xE hl hc,e⟩
 | .fn f a5 bs,_,hl,hv=>by
  simp only [V] at hv ⊢
  simp only [AV.low,Bool.and_eq_true] at hl
  obtain ⟨fs,cs,e,h1,h2⟩:=hv
  exact ⟨fs,cs,e,VL.cut a5 _ hl.1 h1,VL.cut bs _ hl.2 h2⟩
 | .iface t x,_,hl,hv=>by
  simp only [V] at hv ⊢
  simp only [AV.low] at hl
  obtain ⟨u,e,h1⟩:=hv
  exact ⟨u,e,V.cut x u hl h1⟩
 | .agg cs,_,hl,hv=>by
  simp only [V] at hv ⊢
  simp only [AV.low] at hl
  obtain ⟨vs,e,h1⟩:=hv
  exact ⟨vs,e,VA.cut cs _ hl h1⟩
 | .tup xs,_,hl,hv=>by
  simp only [V] at hv ⊢
  simp only [AV.low] at hl
  obtain ⟨vs,e,h1⟩:=hv
  exact ⟨vs,e,VL.cut xs _ hl h1⟩
 | .glob _,_,_,hv=>by simpa only [V] using hv
 | .yld id,_,hl,hv=>by
  simp only [V] at hv ⊢
  simp only [AV.low,decide_eq_true_eq] at hl
  obtain ⟨c,hc,e⟩:=hv
  exact ⟨c,xE hl hc,e⟩
 | .bsl k es,_,_,hv=>by
  simp only [V] at hv ⊢
  obtain ⟨a,c,e,h1,h2,h3⟩:=hv
  exact ⟨a,c,e,h1,h2,h3.imp id fun ⟨b,o,e,hh,hn⟩=>⟨b,o,e,VE.cut b k o es hh,hn⟩⟩
 | .nsl k es,_,_,hv=>by
  simp only [V] at hv ⊢
  obtain ⟨a,c,e,h1,h2,h3⟩:=hv
  exact ⟨a,c,e,h1,h2,h3.imp id fun ⟨b,o,e,hh,hn⟩=>⟨b,o,e,VE.cut b k o es hh,hn⟩⟩
 | .gsl k n,_,_,hv=>by simp only [V] at hv ⊢;exact hv
 | .gptr m,_,_,hv=>by simp only [V] at hv ⊢;exact hv
 | .any,_,_,_=>by simp only [V]
 | .opq,_,_,hv=>by simpa only [V] using hv
theorem VL.cut {g:Gh} {n m:Nat}:∀ (a5:List AV) (vs:List Value),yf n m a5=true→VL g a5 vs→VL (g.cut n m) a5 vs
 | [],_,_,hv=>by simpa only [VL] using hv
 | a::r,_,hl,hv=>by
  simp only [VL] at hv ⊢
  simp only [yf,Bool.and_eq_true] at hl
  obtain ⟨v,s,e,h1,h2⟩:=hv
  exact ⟨v,s,e,V.cut a v hl.1 h1,VL.cut r s hl.2 h2⟩
theorem VA.cut {g:Gh} {n m:Nat}:∀ (a5:List AV) (vs:List Value),yf n m a5=true→VA g a5 vs→VA (g.cut n m) a5 vs
 | [],_,_,hv=>by simpa only [VA] using hv
 | a::r,_,hl,hv=>by
  simp only [VA] at hv ⊢
  simp only [yf,Bool.and_eq_true] at hl
  obtain ⟨v,s,e,⟨h0,h1⟩,h2⟩:=hv
  exact ⟨v,s,e,⟨h0,V.cut a v hl.1 h1⟩,VA.cut r s hl.2 h2⟩
theorem VC.cut {g:Gh} {n m:Nat} (b:Nat):∀ (o:Nat) (a5:List AV),VC g b o a5→VC (g.cut n m) b o a5
 | _,[],_=>by simp only [VC]
 | o,a::r,hv=>by
  simp only [VC] at hv ⊢
  obtain ⟨⟨v,h0,h1,h2⟩,h3⟩:=hv
  exact ⟨⟨v,h0,h1,V.cut a v (AV.low_of_pure h1) h2⟩,VC.cut b (o+1) r h3⟩
theorem VE.cut {g:Gh} {n m:Nat} (b k:Nat):∀ (o:Nat) (a5:List (List AV)),VE g b k o a5→VE (g.cut n m) b k o a5
 | _,[],_=>by simp only [VE]
 | o,e::r,hv=>by
  simp only [VE] at hv ⊢
  obtain ⟨⟨h0,h1⟩,h2⟩:=hv
  exact ⟨⟨h0,VC.cut b o e h1⟩,VE.cut b k (o+k) r h2⟩
end

mutual
theorem V.isLow {g:Gh}:∀ (a:AV) (v:Value),V g a v→a.low g.σ.length g.τ.length=true
 | .ptr id off,_,hv=>by
  simp only [V] at hv
  obtain ⟨c,hc,_⟩:=hv
  simpa [AV.low] using (List.getElem?_eq_some_iff.1 hc).1
 | .msl _ id _ _,_,hv=>by
  simp only [V] at hv
  obtain ⟨c,cap,hc,_⟩:=hv
  simpa [AV.low] using (List.getElem?_eq_some_iff.1 hc).1
 | .map id,_,hv=>by
  simp only [V] at hv
  obtain ⟨c,hc,_⟩:=hv
  simpa [AV.low] using (List.getElem?_eq_some_iff.1 hc).1
 | .yld id,_,hv=>by
  simp only [V] at hv
  obtain ⟨c,hc,_⟩:=hv
  simpa [AV.low] using (List.getElem?_eq_some_iff.1 hc).1
 | .osl q k es,_,hv=>by
  simp only [V] at hv
  obtain ⟨a,c,e,h1,h2,h3,h4⟩:=hv
  cases q with
  | none=>rfl
  | some id =>
   obtain ⟨t,ht,_⟩:=h4
   simpa [AV.low] using (List.getElem?_eq_some_iff.1 ht).1
 | .rsl _ i k n,_,hv=>by
  simp only [V] at hv
  obtain ⟨a,c,e,h1,h2,t,ht,h3⟩:=hv
  simpa [AV.low] using (List.getElem?_eq_some_iff.1 ht).1
 | .rsuf _ i k n p,_,hv=>by
  simp only [V] at hv
  obtain ⟨a,c,e,h1,t,ht,h3⟩:=hv
  simpa [AV.low] using (List.getElem?_eq_some_iff.1 ht).1
 | .rptr _ i k n p,_,hv=>by
  simp only [V] at hv
  obtain ⟨b,q,e,t,ht,h3⟩:=hv
  simpa [AV.low] using (List.getElem?_eq_some_iff.1 ht).1
 | .fn f a5 bs,_,hv=>by
  simp only [V] at hv
  obtain ⟨fs,cs,e,h1,h2⟩:=hv
  simp [AV.low,VL.isLow a5 _ h1,VL.isLow bs _ h2]
 | .iface t x,_,hv=>by
  simp only [V] at hv
  obtain ⟨u,e,h1⟩:=hv
  simp [AV.low,V.isLow x u h1]
 | .agg cs,_,hv=>by
  simp only [V] at hv
  obtain ⟨vs,e,h1⟩:=hv
  simp [AV.low,VL.isLow cs _ h1.toVL]
 | .tup xs,_,hv=>by
  simp only [V] at hv
  obtain ⟨vs,e,h1⟩:=hv
  simp [AV.low,VL.isLow xs _ h1]
 | .bool _,_,_ | .int _ _,_,_ | .str _,_,_ | .nilp,_,_ | .nilm,_,_ | .nilf,_,_ | .nili,_,_ | .nilsl,_,_ | .fptr _,_,_ | .sl _ _,_,_ | .glob _,_,_ | .any,_,_ | .opq,_,_ | .bsl _ _,_,_ | .nsl _ _,_,_ | .gsl _ _,_,_ | .gptr _,_,_=>rfl
theorem VL.isLow {g:Gh}:∀ (a5:List AV) (vs:List Value),VL g a5 vs→yf g.σ.length g.τ.length a5=true
 | [],_,_=>rfl
 | a::r,_,hv=>by
  simp only [VL] at hv
  obtain ⟨v,s,e,h1,h2⟩:=hv
  simp [yf,V.isLow a v h1,VL.isLow r s h2]
end

def Blk.low (n m:Nat):Blk→Bool
 | .cells cs=>yf n m cs
 | .mapo es _=>es.all fun p=>p.1.low n m&&p.2.low n m
 | .loop _ _ env _ _ _=>yf n m env
 | .row t _ _=>decide (t < m)
 | .miter id _ _=>decide (id < n)
 | .bld _ x=>x.low n m
 | _=>true

theorem ME.cut {g:Gh} {n m:Nat}:∀ (a5:List (AV×AV)) (vs:List MapEntry),(a5.all fun p=>p.1.low n m&&p.2.low n m)=true→ME g a5 vs→ME (g.cut n m) a5 vs
 | [],_,_,hv=>by simpa only [ME] using hv
 | (k,x)::r,_,hl,hv=>by
  simp only [ME] at hv ⊢
  simp only [List.all_cons,Bool.and_eq_true] at hl
  obtain ⟨e,s,rfl,h1,h2,h3⟩:=hv
  exact ⟨e,s,rfl,V.cut k _ hl.1.1 h1,V.cut x _ hl.1.2 h2,ME.cut r s hl.2 h3⟩
theorem ME.isLow {g:Gh}:∀ (a5:List (AV×AV)) (vs:List MapEntry),ME g a5 vs→(a5.all fun p=>p.1.low g.σ.length g.τ.length&&p.2.low g.σ.length g.τ.length)=true
 | [],_,_=>rfl
 | (k,x)::r,_,hv=>by
  simp only [ME] at hv
  obtain ⟨e,s,rfl,h1,h2,h3⟩:=hv
  simp [V.isLow k _ h1,V.isLow x _ h2,ME.isLow r s h3]
theorem BlkOk.cut {g:Gh} {w:World} {c n m:Nat} {k:Blk} (hl:k.low n m=true) (hb:BlkOk g w c k):BlkOk (g.cut n m) w c k:=by
 cases k with
 | cells cs=>obtain ⟨vs,t,h1,h2⟩:=hb;exact ⟨vs,t,h1,VA.cut _ _ hl h2⟩
 | bld T x=>obtain ⟨a,v,h1,h2,h3,h4⟩:=hb;exact ⟨a,v,h1,h2,h3,V.cut _ _ hl h4⟩
 | siter s pos=>exact hb
 | mapo es clock=>obtain ⟨ents,n,h1,h2,h3⟩:=hb;exact ⟨ents,n,h1,ME.cut _ _ hl h2,h3⟩
 | loop st pe env ps assign body=>obtain ⟨fn,tmps,d,h1,h2⟩:=hb;exact ⟨fn,tmps,d,h1,VL.cut _ _ hl h2⟩
 | row _ _ _=>exact hb
 | miter id n2 seen=>obtain ⟨m2,h1,h2⟩:=hb;exact ⟨m2,xE (by simpa [Blk.low] using hl) h1,h2⟩
 | miter0=>exact hb
 | other=>trivial
 | dead=>trivial
theorem BlkOk.isLow {g:Gh} {w:World} {c:Nat} {k:Blk} (hb:BlkOk g w c k):k.low g.σ.length g.τ.length=true:=by
 cases k with
 | cells cs=>obtain ⟨vs,t,h1,h2⟩:=hb;exact VL.isLow _ _ h2.toVL
 | bld T x=>obtain ⟨a,v,h1,h2,h3,h4⟩:=hb;exact V.isLow _ _ h4
 | siter s pos=>rfl
 | mapo es clock=>obtain ⟨ents,n,h1,h2,_⟩:=hb;exact ME.isLow _ _ h2
 | loop st pe env ps assign body=>obtain ⟨fn,tmps,d,h1,h2⟩:=hb;exact VL.isLow _ _ h2
 | row _ _ _=>exact hb.elim
 | miter id n seen=>obtain ⟨m,h1,h2⟩:=hb;simpa [Blk.low] using (List.getElem?_eq_some_iff.1 h1).1
 | miter0=>rfl
 | other=>rfl
 | dead=>rfl
theorem lowL_of_pure {n m:Nat}:∀ {a5:List AV},a5.all AV.pure=true→yf n m a5=true
 | [],_=>rfl
 | a::r,h=>by
  simp only [List.all_cons,Bool.and_eq_true] at h
  simp [yf,AV.low_of_pure h.1,lowL_of_pure h.2]
theorem RowB.cut {g:Gh} {w:World} {n m:Nat} {k:Blk} (hl:k.low n m=true) (hb:RowB g w k):RowB (g.cut n m) w k:=by
 cases k with
 | row i k es =>
  obtain ⟨t,h1,h2,h3,h4,h5,h6⟩:=hb
  refine ⟨t,xE (by simpa [Blk.low] using hl) h1,h2,h3,h4,h5,h6.imp (fun h=>h) ?_⟩
  rintro ⟨b,o,e,cs,ty,k1,k2,k3,k4,k5⟩
  exact ⟨b,o,e,cs,ty,k1,k2,VA.cut _ _ (lowL_of_pure h5) k3,k4,k5⟩
 | dead=>trivial
 | _=>exact hb.elim
theorem RowB.isLow {g:Gh} {w:World} {k:Blk} (hb:RowB g w k):k.low g.σ.length g.τ.length=true:=by
 cases k with
 | row i k es =>
  obtain ⟨t,h1,_⟩:=hb
  simpa [Blk.low] using (List.getElem?_eq_some_iff.1 h1).1
 | dead=>rfl
 | _=>exact hb.elim
theorem Rel.isLow {B:Nat} {w0 w:World} {g:Gh} {h:AH} (r:Rel B w0 g h w) {i:Nat} {k:Blk} (hk:h.blks[i]?=some k):k.low g.σ.length g.τ.length=true:=by
 have hl:i < g.σ.length:=by rw [r.slen];exact (List.getElem?_eq_some_iff.1 hk).1
 rcases hc:g.σ[i] with _ | c
 ·exact (r.row i k (by simp_all) hk).isLow
 ·exact (r.blk i c k (by simp_all) hk).2.2.1.isLow
def AH.cut (h:AH) (n m:Nat):AH:={ blks:=h.blks.take n,toks:=h.toks.take m }

theorem Rel.cut {B:Nat} {w0 w:World} {g:Gh} {h:AH} (r:Rel B w0 g h w) (n m:Nat) (hl:∀ (i:Nat) (k:Blk),i < n→h.blks[i]?=some k→k.low n m=true):Rel B w0 (g.cut n m) (h.cut n m) w :=
 by
 refine ⟨r.below,r.bsz,r.phi,by simp [Gh.cut,AH.cut,r.slen],fun i c k hc hk=>?_,by simp [Gh.cut,AH.cut,r.tlen],fun i t ht=>?_,fun i j c hi hj=>?_,fun i j t t' b x y hi hj hx hy=>?_,fun i c j t b x hi hj hx=>?_,fun c hc=>⟨(r.dfr c hc).1,(r.dfr c hc).2.1,fun i hi=>by
  simp only [Gh.cut] at hi
  rw [List.getElem?_take] at hi
  split at hi
  ·exact (r.dfr c hc).2.2 i hi
  ·cases hi⟩,fun i k hi hk=>?_,fun i j t k k' es es' hi hj=>?_,fun b x hb=>(r.nb b x hb).mono fun _ _ ha=>⟨rfl,⟨fun i hi=>ha.1 i (take_sub hi),ha.2.1,fun i t y ht=>ha.2.2 i t y (take_sub ht)⟩,fun h=>h⟩,r.ob,fun b hb=>⟨fun i hi=>(r.oa b hb).1 i (take_sub hi),(r.oa b hb).2.1,fun i t y ht=>(r.oa b hb).2.2 i t y (take_sub ht)⟩⟩
 ·simp only [Gh.cut,AH.cut] at hc hk
  rw [List.getElem?_take] at hc hk
  split at hc
  ·rename_i hi
   rw [if_pos hi] at hk
   obtain ⟨h1,h2,h3,h4⟩:=r.blk i c k hc hk
   exact ⟨h1,h2,h3.cut (hl i k hi hk),h4⟩
  ·cases hc
 ·simp only [Gh.cut,AH.cut] at ht ⊢
  rw [List.getElem?_take] at ht
  split at ht
  ·rename_i hi
   obtain ⟨h1,h2⟩:=r.tok i t ht
   exact ⟨xE hi h1,h2⟩
  ·cases ht
 ·simp only [Gh.cut] at hi hj
  rw [List.getElem?_take] at hi hj
  split at hi
  ·split at hj
   ·exact r.sinj i j c hi hj
   ·cases hj
  ·cases hi
 ·simp only [Gh.cut] at hi hj
  rw [List.getElem?_take] at hi hj
  split at hi
  ·split at hj
   ·exact r.tinj i j t t' b x y hi hj hx hy
   ·cases hj
  ·cases hi
 ·simp only [Gh.cut] at hi hj
  rw [List.getElem?_take] at hi hj
  split at hi
  ·split at hj
   ·exact r.sep i c j t b x hi hj hx
   ·cases hj
  ·cases hi
 ·simp only [Gh.cut,AH.cut] at hi hk
  rw [List.getElem?_take] at hi hk
  split at hi
  ·rename_i hin
   rw [if_pos hin] at hk
   exact (r.row i k hi hk).cut (hl i k hin hk)
  ·cases hi
 ·simp only [AH.cut] at hi hj
  rw [List.getElem?_take] at hi hj
  split at hi
  ·split at hj
   ·exact r.rinj _ _ _ _ _ _ _ hi hj
   ·cases hj
  ·cases hi

theorem Gh.le_cut {g g':Gh} (h:g.le g'):g.le (g'.cut g.σ.length g.τ.length) :=
 ⟨h.phi,fun i c e=>xE (List.getElem?_eq_some_iff.1 e).1 (h.sig i c e),fun i t e=>by
  obtain ⟨t',h1,h2,h3⟩:=h.tau i t e
  exact ⟨t',xE (List.getElem?_eq_some_iff.1 e).1 h1,h2,h3⟩,h.del,h.new,h.old⟩
mutual
theorem AV.low_mono {n m m':Nat} (h:m≤m'):∀ a:AV,a.low n m=true→a.low n m'=true
 | .bool _,_ | .int _ _,_ | .str _,_ | .nilp,_ | .nilm,_ | .nilf,_ | .nili,_ | .nilsl,_ | .fptr _,_ | .sl _ _,_ | .glob _,_ | .any,_ | .opq,_ | .bsl _ _,_ | .nsl _ _,_ | .gsl _ _,_ | .gptr _,_=>rfl
 | .osl none _ _,_=>rfl
 | .osl (some t) _ _,hl=>by simp only [AV.low,decide_eq_true_eq] at hl ⊢;omega
 | .ptr _ _,hl=>hl
 | .msl _ _ _ _,hl=>hl
 | .rsl _ _ _ _,hl=>by simp only [AV.low,decide_eq_true_eq] at hl ⊢;omega
 | .rsuf _ _ _ _ _,hl=>by simp only [AV.low,decide_eq_true_eq] at hl ⊢;omega
 | .rptr _ _ _ _ _,hl=>by simp only [AV.low,decide_eq_true_eq] at hl ⊢;omega
 | .map _,hl=>hl
 | .yld _,hl=>hl
 | .fn _ a b,hl=>by
  simp only [AV.low,Bool.and_eq_true] at hl ⊢
  exact ⟨qg h a hl.1,qg h b hl.2⟩
 | .iface _ v,hl=>by simp only [AV.low] at hl ⊢;exact AV.low_mono h v hl
 | .agg cs,hl=>by simp only [AV.low] at hl ⊢;exact qg h cs hl
 | .tup cs,hl=>by simp only [AV.low] at hl ⊢;exact qg h cs hl
theorem qg {n m m':Nat} (h:m≤m'):∀ l:List AV,yf n m l=true→yf n m' l=true
 | [],_=>rfl
 | a::r,hl=>by
  simp only [yf,Bool.and_eq_true] at hl ⊢
  exact ⟨AV.low_mono h a hl.1,qg h r hl.2⟩
end
theorem Blk.low_mono {n m m':Nat} (h:m≤m'):∀ b:Blk,b.low n m=true→b.low n m'=true
 | .cells cs,hl=>qg h cs hl
 | .bld _ x,hl=>AV.low_mono h x hl
 | .mapo es c,hl=>by
  simp only [Blk.low,List.all_eq_true,Bool.and_eq_true] at hl ⊢
  exact fun p hp=>⟨AV.low_mono h _ (hl p hp).1,AV.low_mono h _ (hl p hp).2⟩
 | .loop _ _ env _ _ _,hl=>qg h env hl
 | .row _ _ _,hl=>by simp only [Blk.low,decide_eq_true_eq] at hl ⊢;omega
 | .miter _ _ _,hl=>hl
 | .siter _ _,_ | .miter0,_ | .other,_ | .dead,_=>rfl
theorem Gh.le_cut2 {g g':Gh} (h:g.le g') {n m:Nat} (hn:g.σ.length≤n) (hm:g.τ.length≤m):g.le (g'.cut n m) :=
 ⟨h.phi,fun i c e=>xE (Nat.lt_of_lt_of_le (List.getElem?_eq_some_iff.1 e).1 hn) (h.sig i c e),fun i t e=>by
  obtain ⟨t',h1,h2,h3⟩:=h.tau i t e
  exact ⟨t',xE (Nat.lt_of_lt_of_le (List.getElem?_eq_some_iff.1 e).1 hm) h1,h2,h3⟩,h.del,h.new,h.old⟩
end Go.Vv
