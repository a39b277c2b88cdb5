/- The functional reading of a function, which the printed proofs follow; and the rules of that. -/
import Derived.Test.YtcociipjgndnaaaGreatVvV
namespace Go.Vv
open Go

abbrev zy:=List UInt8
def InK (k:IntKind) (n:Int):Prop:=k.min<=n/\n<=k.max
inductive Out (ρ σ:Type) where
 | ret (r:ρ)
 | brk (s:σ)
 | nxt (s:σ)
section
variable {α ρ σ:Type}
def zq (f:Nat->α->σ->Option (Out ρ σ)):List α->Nat->σ->Option (ρ ⊕ σ)
 | [],_,s=>some (.inr s)
 | x::t,i,s=>match f i x s with
  | none=>none
  | some (.ret r)=>some (.inl r)
  | some (.brk s')=>some (.inr s')
  | some (.nxt s')=>zq f t (i+1) s'
def qn (f:σ->Option (Out ρ σ)):Nat->σ->Option (ρ ⊕ σ)
 | 0,_=>none
 | n+1,s=>match f s with
  | none=>none
  | some (.ret r)=>some (.inl r)
  | some (.brk s')=>some (.inr s')
  | some (.nxt s')=>qn f n s'
theorem loopN_more {f:σ->Option (Out ρ σ)}:∀{n m:Nat} {s:σ} {o:ρ ⊕ σ},qn f n s=some o->n<=m->qn f m s=some o
 | 0,_,_,_,h,_=>by simp [qn] at h
 | n+1,0,_,_,_,hl=>by omega
 | n+1,m+1,s,o,h,hl=>by
  simp only [qn] at h ⊢;rcases hf:f s with _ | (r | a | a) <;> rw [hf] at h <;> simp only at h ⊢
  ·cases h
  ·exact h
  ·exact h
  ·exact loopN_more h (by omega)
open Classical in
noncomputable def ye (f:σ->Option (Out ρ σ)) (s:σ):Option (ρ ⊕ σ) :=
 if h:∃n o,qn f n s=some o then some (Classical.choose (tN h)) else none
theorem loopW_of {f:σ->Option (Out ρ σ)} {n:Nat} {s:σ} {o:ρ ⊕ σ} (h:qn f n s=some o):ye f s=some o:=by
 have a:∃n o,qn f n s=some o:=⟨n,o,h⟩
 unfold ye;rw [p9 a];have d:=tN (tN a);have c:=loopN_more d (Nat.le_max_left _ n);have b:=loopN_more h (Nat.le_max_right (Classical.choose a) n);rw [c] at b;exact b
theorem loopW_is {f:σ->Option (Out ρ σ)} {s:σ} {o:ρ ⊕ σ} (h:ye f s=some o):∃n,qn f n s=some o:=by
 unfold ye at h;split at h
 ·rename_i a;injection h with h;subst h;exact ⟨_,tN (tN a)⟩
 ·cases h
theorem xr (f:σ->Option (Out ρ σ)) (s:σ):ye f s=match f s with
  | none=>none
  | some (.ret r)=>some (.inl r)
  | some (.brk b)=>some (.inr b)
  | some (.nxt b)=>ye f b:=by
 rcases hf:f s with _ | (r | b | b) <;> simp only
 ·cases hx:ye f s with
  | none=>rfl
  | some o =>
   obtain ⟨n,a⟩:=loopW_is hx;cases n <;> simp [qn,hf] at a
 ·exact loopW_of (n:=1) (by simp only [qn,hf])
 ·exact loopW_of (n:=1) (by simp only [qn,hf])
 ·cases hx:ye f b with
  | some o =>
   obtain ⟨n,a⟩:=loopW_is hx;exact loopW_of (n:=n+1) (by simp only [qn,hf];exact a)
  | none =>
   cases hy:ye f s with
   | none=>rfl
   | some o =>
    obtain ⟨n,a⟩:=loopW_is hy;cases n with
    | zero=>simp [qn] at a
    | succ n =>
     simp only [qn,hf] at a;rw [loopW_of a] at hx;cases hx
def lp (o:Option (ρ ⊕ σ)) (rest:σ->Option ρ):Option ρ :=
 match o with
 | none=>none
 | some (.inl r)=>some r
 | some (.inr s)=>rest s
def yf (p:Prop) [Decidable p] (o:Option ρ):Option ρ:=if p then o else none
def yu (L:List α) (n:Int):Option α:=if 0<=n then L[n.toNat]? else none
def slc (L:List α) (lo hi:Int):Option (List α):=if 0<=lo/\lo<=hi/\hi<=L.length then some ((L.take hi.toNat).drop lo.toNat) else none

theorem zd {α ρ:Type} {o:Option α} {k:α->Option ρ} {r:ρ} {G:Prop} (a:o.bind k=some r) (b:∀v,o=some v->k v=some r->G):G:=by
 cases o with
 | none=>cases a
 | some v=>exact b v rfl a
theorem zX {α ρ:Type} {b:Bool} {d:α} {o:Option α} {k:α->Option ρ} {r:ρ} {G:Prop} (a:(if b=true then o else some d).bind k=some r) (c:∀v,(b=true->o=some v)->k v=some r->G):G:=by
 cases b with
 | false=>exact c d (λh=>by cases h) a
 | true =>
  cases o with
  | none=>cases a
  | some v=>exact c v (λ_=>rfl) a
theorem zV {p:Prop} [Decidable p] {o:Option ρ} {r:ρ} {G:Prop} (a:yf p o=some r) (b:p->o=some r->G):G:=by
 unfold yf at a;split at a
 ·rename_i h;exact b h a
 ·cases a
theorem idxF {L:List α} {n:Int} {y:α} (h:yu L n=some y):0<=n/\L[n.toNat]?=some y:=by
 unfold yu at h;split at h
 ·rename_i h0;exact ⟨h0,h⟩
 ·cases h
theorem slcF {L M:List α} {lo hi:Int} (h:slc L lo hi=some M):(0<=lo/\lo<=hi/\hi<=L.length)/\M=(L.take hi.toNat).drop lo.toNat:=by
 unfold slc at h;split at h
 ·rename_i h0;injection h with h;exact ⟨h0,h.symm⟩
 ·cases h

def konL (f:Nat->α->σ->Option (Out ρ σ)) (L:List α) (i:Nat) (rest:σ->Option ρ):Out ρ σ->Option ρ
 | .ret r=>some r
 | .brk s=>rest s
 | .nxt s=>lp (zq f (L.drop (i+1)) (i+1) s) rest
def konN (f:σ->Option (Out ρ σ)) (n:Nat) (rest:σ->Option ρ):Out ρ σ->Option ρ
 | .ret r=>some r
 | .brk s=>rest s
 | .nxt s=>lp (qn f n s) rest
def konJ (rest:σ->Option ρ):ρ ⊕ σ->Option ρ
 | .inl r=>some r
 | .inr s=>rest s
theorem loopL_step {f:Nat->α->σ->Option (Out ρ σ)} {L:List α} {i:Nat} {s:σ} {rest:σ->Option ρ} {c:ρ} (h:lp (zq f (L.drop i) i s) rest=some c) (b:i < L.length) :
  ∃x d,L[i]?=some x/\f i x s=some d/\konL f L i rest d=some c:=by
 have e:=(re b).symm;rw [e] at h;refine ⟨L[i],?_⟩;simp only [zq] at h;split at h
 ·cases h
 ·rename_i r a;exact ⟨.ret r,ug b,a,h⟩
 ·rename_i r a;exact ⟨.brk r,ug b,a,h⟩
 ·rename_i r a;exact ⟨.nxt r,ug b,a,h⟩
theorem loopL_end {f:Nat->α->σ->Option (Out ρ σ)} {L:List α} {i:Nat} {s:σ} {rest:σ->Option ρ} {a:ρ} (h:lp (zq f (L.drop i) i s) rest=some a) (b:¬ i < L.length):rest s=some a:=by
 rw [tI (by omega)] at h;exact h
theorem lpF {o:Option (ρ ⊕ σ)} {rest:σ->Option ρ} {b:ρ} (h:lp o rest=some b):∃a,o=some a/\konJ rest a=some b:=by
 cases o with
 | none=>cases h
 | some a=>cases a <;> exact ⟨_,rfl,h⟩
end
section
variable {P:Program} {Q:Exit->List AV->AH->Prop} {env:List AV} {h:AH} {α ρ σ:Type}
theorem ze {c:Operand} {t e:Code} {b:Bool} {A B:Option ρ} {r:ρ} (i:yF env c=some (.bool b)) (d:(if b=true then A else B)=some r) (g:b=true->A=some r->qb P t Q env h) (f:b=false->B=some r->qb P e Q env h) :
  qb P (.cond c t e) Q env h:=by
 refine r_cond i (λa=>g a ?_) (λa=>f a ?_)
 ·rw [up a] at d;exact d
 ·rw [a,uu (by decide)] at d;exact d
theorem zD {f:Nat->α->σ->Option (Out ρ σ)} {L:List α} {i:Nat} {s:σ} {rest:σ->Option ρ} {d:ρ} {c:Operand} {t e:Code} (o:yF env c=some (.bool (decide ((i:Int) < (L.length:Int))))) (j:lp (zq f (L.drop i) i s) rest=some d)
  (l:∀x a,i < L.length->L[i]?=some x->f i x s=some a->konL f L i rest a=some d->qb P t Q env h) (k:rest s=some d->qb P e Q env h):qb P (.cond c t e) Q env h:=by
 refine r_cond o (λg=>?_) (λg=>?_)
 ·have b:i < L.length:=by have:=tm g;omega
  obtain ⟨x,a,p,m,n⟩:=loopL_step j b;exact l x a b p m n
 ·have b:¬ i < L.length:=by have:=pG g;omega
  exact k (loopL_end j b)
theorem zA {body:Code} {f:Nat->α->σ->Option (Out ρ σ)} {L:List α} {g:σ} {rest:σ->Option ρ} {d:ρ} (U:Nat->σ->List (Nat×AV)) (H:σ->AH) (j:lp (zq f L 0 g) rest=some d) {E:Nat->σ->List AV}
  (n:∀i s,xQ env (U i s)=E i s) (h0:wk h env h (E 0 g) (H g))
  (hs:∀i s,i<=L.length->lp (zq f (L.drop i) i s) rest=some d->qb P body (loopQ (λa c=>∃b,i < L.length/\lp (zq f (L.drop (i+1)) (i+1) b) rest=some d/\wk (H s) a c (E (i+1) b) (H b)) Q) (E i s) (H s)) :
  qb P (.loop body) Q env h:=by
 refine r_loop (σ:=Nat×σ) (λp=>E p.1 p.2) (λp=>H p.2) (λp=>p.1<=L.length/\lp (zq f (L.drop p.1) p.1 p.2) rest=some d) (λp=>L.length - p.1) (0,g) h0 ⟨tK _,j⟩ ?_
 rintro ⟨i,s⟩ ⟨hi,j⟩
 have:=hs i s hi j;have e:(loopQ (λa c=>∃b,i < L.length/\lp (zq f (L.drop (i+1)) (i+1) b) rest=some d/\wk (H s) a c (E (i+1) b) (H b)) Q) =
  λx a c=>match x with | .normal=>∃b,i < L.length/\lp (zq f (L.drop (i+1)) (i+1) b) rest=some d/\wk (H s) a c (E (i+1) b) (H b) | x=>Q x a c:=rfl
 refine awp_mono ?_ _ _ _ this;intro x a c k;cases x with
 | normal =>
  obtain ⟨b,o,l,m⟩:=k;exact ⟨(i+1,b),⟨o,l⟩,by show L.length - (i+1) < L.length - i;omega,m⟩
 | _=>exact k
theorem yD {body:Code} {f:σ->Option (Out ρ σ)} {e:σ} {rest:σ->Option ρ} {d:ρ} (U:σ->List (Nat×AV)) (H:σ->AH) (a:lp (ye f e) rest=some d) {E:σ->List AV}
  (u:∀s,xQ env (U s)=E s) (h0:wk h env h (E e) (H e))
  (hs:∀n s b,f s=some b->konN f n rest b=some d->qb P body (loopQ (λc m=>∃g,lp (qn f n g) rest=some d/\wk (H s) c m (E g) (H g)) Q) (E s) (H s)) :
  qb P (.loop body) Q env h:=by
 obtain ⟨t,l⟩:∃n,lp (qn f n e) rest=some d:=by
  obtain ⟨b,k,j⟩:=lpF a;obtain ⟨n,q⟩:=loopW_is k;exact ⟨n,by rw [q];cases b <;> exact j⟩
 refine r_loop (σ:=Nat×σ) (λp=>E p.2) (λp=>H p.2) (λp=>lp (qn f p.1 p.2) rest=some d) (λp=>p.1) (t,e) h0 l ?_
 rintro ⟨n,s⟩ a
 cases n with
 | zero=>simp [qn,lp] at a
 | succ n =>
  obtain ⟨b,k,j⟩:∃b,f s=some b/\konN f n rest b=some d:=by
   simp only [qn] at a;split at a
   ·cases a
   ·rename_i r i;exact ⟨.ret r,i,a⟩
   ·rename_i r i;exact ⟨.brk r,i,a⟩
   ·rename_i r i;exact ⟨.nxt r,i,a⟩
  refine awp_mono ?_ _ _ _ (hs n s b k j);intro x c m o;cases x with
  | normal =>
   obtain ⟨g,k,j⟩:=o;exact ⟨(n,g),k,by show n < n+1;omega,j⟩
  | _=>exact o
def joinQ (h0:AH) (N:List AV->AH->Prop) (Q:Exit->List AV->AH->Prop):Exit->List AV->AH->Prop:=λx env' h'=>match x with
 | .normal=>N env' h'
 | x=>Q x env' h'
theorem r_join {a b:Code} {J:Option (ρ ⊕ σ)} {rest:σ->Option ρ} {d:ρ} (U:σ->List (Nat×AV)) (H:σ->AH) (n:lp J rest=some d) {E:σ->List AV} (i:∀s,xQ env (U s)=E s)
  (k:∀e,J=some e->konJ rest e=some d->qb P a (joinQ h (λc g=>∃s,rest s=some d/\wk h c g (E s) (H s)) Q) env h)
  (o:∀s,rest s=some d->qb P b Q (E s) (H s)):qb P (.seq a b) Q env h:=by
 obtain ⟨e,p,j⟩:=lpF n;refine r_seq (awp_mono ?_ _ _ _ (k e p j));intro x c g f;cases x with
 | normal =>
  obtain ⟨s,l,m⟩:=f;exact ⟨_,_,m,o s l⟩
 | _=>exact f
theorem q_join {h0:AH} {N:List AV->AH->Prop} (a:N env h):joinQ h0 N Q .normal env h:=a
theorem q_join_ret {h0:AH} {N:List AV->AH->Prop} (a:Q .ret env h):joinQ h0 N Q .ret env h:=a
end
end Go.Vv
