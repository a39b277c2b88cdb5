/- The functional reading of a function, which the printed proofs follow; and the rules of that. -/
import Derived.Test.YtdkfnnpdeenhnaaGreatVvV
namespace Go.Vv
open Go

abbrev ze:=List UInt8
def InK (k:IntKind) (n:Int):Prop:=k.min<=n/\n<=k.max
inductive Out (ρ σ:Type) where
 | ret (r:ρ)
 | brk (s:σ)
 | nxt (s:σ)
section
variable {α ρ σ:Type}
def zj (f:Nat->α->σ->Option (Out ρ σ)):List α->Nat->σ->Option (ρ ⊕ σ)
 | [],_,s=>some (.inr s)
 | x::t,i,s=>match f i x s with
  | none=>none
  | some (.ret r)=>some (.inl r)
  | some (.brk s')=>some (.inr s')
  | some (.nxt s')=>zj f t (i+1) s'
def wp (f:σ->Option (Out ρ σ)):Nat->σ->Option (ρ ⊕ σ)
 | 0,_=>none
 | n+1,s=>match f s with
  | none=>none
  | some (.ret r)=>some (.inl r)
  | some (.brk s')=>some (.inr s')
  | some (.nxt s')=>wp f n s'
theorem loopN_more {f:σ->Option (Out ρ σ)}:∀{n m:Nat} {s:σ} {o:ρ ⊕ σ},wp f n s=some o->n<=m->wp f m s=some o
 | 0,_,_,_,h,_=>by simp [wp] at h
 | n+1,0,_,_,_,hl=>by omega
 | n+1,m+1,s,o,h,hl=>by
  simp only [wp] at h ⊢;rcases hf:f s with _ | (r | a | a) <;> rw [hf] at h <;> simp only at h ⊢
  ·cases h
  ·exact h
  ·exact h
  ·exact loopN_more h (by omega)
open Classical in
noncomputable def yb (f:σ->Option (Out ρ σ)) (s:σ):Option (ρ ⊕ σ) :=
 if h:∃n o,wp f n s=some o then some (Classical.choose (Classical.choose_spec h)) else none
theorem loopW_of {f:σ->Option (Out ρ σ)} {n:Nat} {s:σ} {o:ρ ⊕ σ} (h:wp f n s=some o):yb f s=some o:=by
 have a:∃n o,wp f n s=some o:=⟨n,o,h⟩
 unfold yb;rw [dif_pos a];have c:=Classical.choose_spec (Classical.choose_spec a);have d:=loopN_more c (Nat.le_max_left _ n);have b:=loopN_more h (Nat.le_max_right (Classical.choose a) n);rw [d] at b;exact b
theorem loopW_is {f:σ->Option (Out ρ σ)} {s:σ} {o:ρ ⊕ σ} (h:yb f s=some o):∃n,wp f n s=some o:=by
 unfold yb at h;split at h
 ·rename_i a;injection h with h;subst h;exact ⟨_,Classical.choose_spec (Classical.choose_spec a)⟩
 ·cases h
theorem x5 (f:σ->Option (Out ρ σ)) (s:σ):yb f s=match f s with
  | none=>none
  | some (.ret r)=>some (.inl r)
  | some (.brk b)=>some (.inr b)
  | some (.nxt b)=>yb f b:=by
 rcases hf:f s with _ | (r | b | b) <;> simp only
 ·cases hx:yb f s with
  | none=>rfl
  | some o =>
   obtain ⟨n,a⟩:=loopW_is hx;cases n <;> simp [wp,hf] at a
 ·exact loopW_of (n:=1) (by simp only [wp,hf])
 ·exact loopW_of (n:=1) (by simp only [wp,hf])
 ·cases hx:yb f b with
  | some o =>
   obtain ⟨n,a⟩:=loopW_is hx;exact loopW_of (n:=n+1) (by simp only [wp,hf];exact a)
  | none =>
   cases hy:yb f s with
   | none=>rfl
   | some o =>
    obtain ⟨n,a⟩:=loopW_is hy;cases n with
    | zero=>simp [wp] at a
    | succ n =>
     simp only [wp,hf] at a;rw [loopW_of a] at hx;cases hx
def lp (o:Option (ρ ⊕ σ)) (rest:σ->Option ρ):Option ρ :=
 match o with
 | none=>none
 | some (.inl r)=>some r
 | some (.inr s)=>rest s
def zB (p:Prop) [Decidable p] (o:Option ρ):Option ρ:=if p then o else none
def yd (L:List α) (n:Int):Option α:=if 0<=n then L[n.toNat]? else none
def slc (L:List α) (lo hi:Int):Option (List α):=if 0<=lo/\lo<=hi/\hi<=L.length then some ((L.take hi.toNat).drop lo.toNat) else none

theorem zo {α ρ:Type} {o:Option α} {k:α->Option ρ} {r:ρ} {G:Prop} (a:o.bind k=some r) (b:∀v,o=some v->k v=some r->G):G:=by
 cases o with
 | none=>cases a
 | some v=>exact b v rfl a
theorem zT {α ρ:Type} {b:Bool} {d:α} {o:Option α} {k:α->Option ρ} {r:ρ} {G:Prop} (a:(if b=true then o else some d).bind k=some r) (c:∀v,(b=true->o=some v)->k v=some r->G):G:=by
 cases b with
 | false=>exact c d (λh=>by cases h) a
 | true =>
  cases o with
  | none=>cases a
  | some v=>exact c v (λ_=>rfl) a
theorem xi {p:Prop} [Decidable p] {o:Option ρ} {r:ρ} {G:Prop} (a:zB p o=some r) (b:p->o=some r->G):G:=by
 unfold zB at a;split at a
 ·rename_i h;exact b h a
 ·cases a
theorem idxF {L:List α} {n:Int} {y:α} (h:yd L n=some y):0<=n/\L[n.toNat]?=some y:=by
 unfold yd at h;split at h
 ·rename_i h0;exact ⟨h0,h⟩
 ·cases h
theorem slcF {L M:List α} {lo hi:Int} (h:slc L lo hi=some M):(0<=lo/\lo<=hi/\hi<=L.length)/\M=(L.take hi.toNat).drop lo.toNat:=by
 unfold slc at h;split at h
 ·rename_i h0;injection h with h;exact ⟨h0,h.symm⟩
 ·cases h

def konL (f:Nat->α->σ->Option (Out ρ σ)) (L:List α) (i:Nat) (rest:σ->Option ρ):Out ρ σ->Option ρ
 | .ret r=>some r
 | .brk s=>rest s
 | .nxt s=>lp (zj f (L.drop (i+1)) (i+1) s) rest
def konN (f:σ->Option (Out ρ σ)) (n:Nat) (rest:σ->Option ρ):Out ρ σ->Option ρ
 | .ret r=>some r
 | .brk s=>rest s
 | .nxt s=>lp (wp f n s) rest
def konJ (rest:σ->Option ρ):ρ ⊕ σ->Option ρ
 | .inl r=>some r
 | .inr s=>rest s
theorem loopL_step {f:Nat->α->σ->Option (Out ρ σ)} {L:List α} {i:Nat} {s:σ} {rest:σ->Option ρ} {d:ρ} (h:lp (zj f (L.drop i) i s) rest=some d) (b:i < L.length) :
  ∃x c,L[i]?=some x/\f i x s=some c/\konL f L i rest c=some d:=by
 have e:=(List.getElem_cons_drop b).symm;rw [e] at h;refine ⟨L[i],?_⟩;simp only [zj] at h;split at h
 ·cases h
 ·rename_i r a;exact ⟨.ret r,List.getElem?_eq_getElem b,a,h⟩
 ·rename_i r a;exact ⟨.brk r,List.getElem?_eq_getElem b,a,h⟩
 ·rename_i r a;exact ⟨.nxt r,List.getElem?_eq_getElem b,a,h⟩
theorem loopL_end {f:Nat->α->σ->Option (Out ρ σ)} {L:List α} {i:Nat} {s:σ} {rest:σ->Option ρ} {a:ρ} (h:lp (zj f (L.drop i) i s) rest=some a) (b:¬ i < L.length):rest s=some a:=by
 rw [List.drop_of_length_le (by omega)] at h;exact h
theorem lpF {o:Option (ρ ⊕ σ)} {rest:σ->Option ρ} {b:ρ} (h:lp o rest=some b):∃a,o=some a/\konJ rest a=some b:=by
 cases o with
 | none=>cases h
 | some a=>cases a <;> exact ⟨_,rfl,h⟩
end
section
variable {P:Program} {Q:Exit->List AV->AH->Prop} {env:List AV} {h:AH} {α ρ σ:Type}
theorem zg {c:Operand} {t e:Code} {b:Bool} {A B:Option ρ} {r:ρ} (g:zU env c=some (.bool b)) (d:(if b=true then A else B)=some r) (f:b=true->A=some r->wP P t Q env h) (i:b=false->B=some r->wP P e Q env h) :
  wP P (.cond c t e) Q env h:=by
 refine r_cond g (λa=>f a ?_) (λa=>i a ?_)
 ·rw [if_pos a] at d;exact d
 ·rw [a,if_neg (by decide)] at d;exact d
theorem zy {f:Nat->α->σ->Option (Out ρ σ)} {L:List α} {i:Nat} {s:σ} {rest:σ->Option ρ} {g:ρ} {c:Operand} {t e:Code} (p:zU env c=some (.bool (decide ((i:Int) < (L.length:Int))))) (j:lp (zj f (L.drop i) i s) rest=some g)
  (n:∀x a,i < L.length->L[i]?=some x->f i x s=some a->konL f L i rest a=some g->wP P t Q env h) (k:rest s=some g->wP P e Q env h):wP P (.cond c t e) Q env h:=by
 refine r_cond p (λd=>?_) (λd=>?_)
 ·have b:i < L.length:=by have:=of_decide_eq_true d;omega
  obtain ⟨x,a,o,m,l⟩:=loopL_step j b;exact n x a b o m l
 ·have b:¬ i < L.length:=by have:=of_decide_eq_false d;omega
  exact k (loopL_end j b)
theorem zq {body:Code} {f:Nat->α->σ->Option (Out ρ σ)} {L:List α} {g:σ} {rest:σ->Option ρ} {d:ρ} (U:Nat->σ->List (Nat×AV)) (H:σ->AH) (j:lp (zj f L 0 g) rest=some d) {E:Nat->σ->List AV}
  (m:∀i s,wQ env (U i s)=E i s) (h0:wk h env h (E 0 g) (H g))
  (hs:∀i s,i<=L.length->lp (zj f (L.drop i) i s) rest=some d->wP P body (qM (λa c=>∃b,i < L.length/\lp (zj f (L.drop (i+1)) (i+1) b) rest=some d/\wk (H s) a c (E (i+1) b) (H b)) Q) (E i s) (H s)) :
  wP P (.loop body) Q env h:=by
 refine r_loop (σ:=Nat×σ) (λp=>E p.1 p.2) (λp=>H p.2) (λp=>p.1<=L.length/\lp (zj f (L.drop p.1) p.1 p.2) rest=some d) (λp=>L.length - p.1) (0,g) h0 ⟨Nat.zero_le _,j⟩ ?_
 rintro ⟨i,s⟩ ⟨hi,j⟩
 have:=hs i s hi j;have e:(qM (λa c=>∃b,i < L.length/\lp (zj f (L.drop (i+1)) (i+1) b) rest=some d/\wk (H s) a c (E (i+1) b) (H b)) Q) =
  λx a c=>match x with | .normal=>∃b,i < L.length/\lp (zj f (L.drop (i+1)) (i+1) b) rest=some d/\wk (H s) a c (E (i+1) b) (H b) | x=>Q x a c:=rfl
 refine w5 ?_ _ _ _ this;intro x a c k;cases x with
 | normal =>
  obtain ⟨b,o,n,l⟩:=k;exact ⟨(i+1,b),⟨o,n⟩,by show L.length - (i+1) < L.length - i;omega,l⟩
 | _=>exact k
theorem vC {body:Code} {f:σ->Option (Out ρ σ)} {i:σ} {rest:σ->Option ρ} {d:ρ} (U:σ->List (Nat×AV)) (H:σ->AH) (a:lp (yb f i) rest=some d) {E:σ->List AV}
  (q:∀s,wQ env (U s)=E s) (h0:wk h env h (E i) (H i))
  (hs:∀n s b,f s=some b->konN f n rest b=some d->wP P body (qM (λc o=>∃e,lp (wp f n e) rest=some d/\wk (H s) c o (E e) (H e)) Q) (E s) (H s)) :
  wP P (.loop body) Q env h:=by
 obtain ⟨t,l⟩:∃n,lp (wp f n i) rest=some d:=by
  obtain ⟨b,k,j⟩:=lpF a;obtain ⟨n,u⟩:=loopW_is k;exact ⟨n,by rw [u];cases b <;> exact j⟩
 refine r_loop (σ:=Nat×σ) (λp=>E p.2) (λp=>H p.2) (λp=>lp (wp f p.1 p.2) rest=some d) (λp=>p.1) (t,i) h0 l ?_
 rintro ⟨n,s⟩ a
 cases n with
 | zero=>simp [wp,lp] at a
 | succ n =>
  obtain ⟨b,k,j⟩:∃b,f s=some b/\konN f n rest b=some d:=by
   simp only [wp] at a;split at a
   ·cases a
   ·rename_i r g;exact ⟨.ret r,g,a⟩
   ·rename_i r g;exact ⟨.brk r,g,a⟩
   ·rename_i r g;exact ⟨.nxt r,g,a⟩
  refine w5 ?_ _ _ _ (hs n s b k j);intro x c o m;cases x with
  | normal =>
   obtain ⟨e,k,j⟩:=m;exact ⟨(n,e),k,by show n < n+1;omega,j⟩
  | _=>exact m
def joinQ (h0:AH) (N:List AV->AH->Prop) (Q:Exit->List AV->AH->Prop):Exit->List AV->AH->Prop:=λx env' h'=>match x with
 | .normal=>N env' h'
 | x=>Q x env' h'
theorem r_join {a b:Code} {J:Option (ρ ⊕ σ)} {rest:σ->Option ρ} {e:ρ} (U:σ->List (Nat×AV)) (H:σ->AH) (m:lp J rest=some e) {E:σ->List AV} (i:∀s,wQ env (U s)=E s)
  (n:∀d,J=some d->konJ rest d=some e->wP P a (joinQ h (λc f=>∃s,rest s=some e/\wk h c f (E s) (H s)) Q) env h)
  (l:∀s,rest s=some e->wP P b Q (E s) (H s)):wP P (.seq a b) Q env h:=by
 obtain ⟨d,k,o⟩:=lpF m;refine xe (w5 ?_ _ _ _ (n d k o));intro x c f g;cases x with
 | normal =>
  obtain ⟨s,j,p⟩:=g;exact ⟨_,_,p,l s j⟩
 | _=>exact g
theorem q_join {h0:AH} {N:List AV->AH->Prop} (a:N env h):joinQ h0 N Q .normal env h:=a
theorem q_join_ret {h0:AH} {N:List AV->AH->Prop} (a:Q .ret env h):joinQ h0 N Q .ret env h:=a
end
end Go.Vv
