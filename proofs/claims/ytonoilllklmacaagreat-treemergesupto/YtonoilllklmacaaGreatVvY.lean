/- The functional reading of a function, which the printed proofs follow; and the rules of that. -/
import Derived.Test.YtonoilllklmacaaGreatVvP
import Derived.Shelf.Strings.OnBuilder
import Derived.Shelf.Strings.SplitShaped
import Derived.Shelf.Small.Strs
import Derived.ProofKit
import Derived.OpenShut
import Derived.JoinedCond
import Derived.HandedShaped
set_option linter.all false
namespace Go.Vv
open Go
variable {i:Nat} {c:Operand} {body:Code} {N:List AV->AH->Prop}

abbrev zx:=List UInt8
def InK (k:IntKind) (n:Int):Prop:=k.min<=n/\n<=k.max
inductive Out (ρ σ:Type) where
 | ret (r:ρ)
 | brk (s:σ)
 | nxt (s:σ)
section
variable {α ρ σ:Type}
def zD (f:Nat->α->σ->Option (Out ρ σ)):List α->Nat->σ->Option (ρ ⊕ σ)
 | [],_,s=>some (.inr s)
 | x::t,i,s=>match f i x s with
  | none=>none
  | some (.ret r)=>some (.inl r)
  | some (.brk s')=>some (.inr s')
  | some (.nxt s')=>zD f t (i+1) s'
def qn (f:σ->Option (Out ρ σ)):Nat->σ->Option (ρ ⊕ σ)
 | 0,_=>none
 | n+1,s=>match f s with
  | none=>none
  | some (.ret r)=>some (.inl r)
  | some (.brk s')=>some (.inr s')
  | some (.nxt s')=>qn f n s'
theorem loopN_more {f:σ->Option (Out ρ σ)}:∀{n m:Nat} {s:σ} {o:ρ ⊕ σ},qn f n s=some o->n<=m->qn f m s=some o
 | 0,_,_,_,h,_=>by simp [qn] at h
 | n+1,0,_,_,_,hl=>by omega
 | n+1,m+1,s,o,h,hl=>by
  simp only [qn] at h ⊢;rcases hf:f s with _ | (r | a | a) <;> rw [hf] at h <;> simp only at h ⊢
  ·cases h
  ·exact h
  ·exact h
  ·exact loopN_more h (by omega)
open Classical in
noncomputable def yI (f:σ->Option (Out ρ σ)) (s:σ):Option (ρ ⊕ σ) :=
 if h:∃n o,qn f n s=some o then some (Classical.choose (tZ h)) else none
theorem loopW_of {f:σ->Option (Out ρ σ)} {n:Nat} {s:σ} {o:ρ ⊕ σ} (h:qn f n s=some o):yI f s=some o:=by
 have a:∃n o,qn f n s=some o:=⟨n,o,h⟩
 unfold yI;rw [pR a];have b:=tZ (tZ a);have d:=loopN_more b (Nat.le_max_left _ n);have e:=loopN_more h (Nat.le_max_right (Classical.choose a) n)
 grind
theorem loopW_is {f:σ->Option (Out ρ σ)} {s:σ} {o:ρ ⊕ σ} (h:yI f s=some o):∃n,qn f n s=some o:=by
 unfold yI at h;split at h
 ·grind
 ·cases h
theorem yS (f:σ->Option (Out ρ σ)) (s:σ):yI f s=match f s with
  | none=>none
  | some (.ret r)=>some (.inl r)
  | some (.brk b)=>some (.inr b)
  | some (.nxt b)=>yI f b:=by
 rcases hf:f s with _ | (r | b | b) <;> simp only
 ·cases hx:yI f s with
  | none=>rfl
  | some o =>
   obtain ⟨n,a⟩:=loopW_is hx;cases n <;> simp [qn,hf] at a
 ·exact loopW_of (n:=1) (by simp only [qn,hf])
 ·exact loopW_of (n:=1) (by simp only [qn,hf])
 ·cases hx:yI f b with
  | some o =>
   obtain ⟨n,a⟩:=loopW_is hx;exact loopW_of (n:=n+1) (by simp only [qn,hf];exact a)
  | none =>
   cases hy:yI f s with
   | none=>rfl
   | some o =>
    obtain ⟨n,a⟩:=loopW_is hy;cases n with
    | zero=>simp [qn] at a
    | succ n =>
     simp only [qn,hf] at a;rw [loopW_of a] at hx;cases hx
def lp (o:Option (ρ ⊕ σ)) (rest:σ->Option ρ):Option ρ :=
 match o with
 | none=>none
 | some (.inl r)=>some r
 | some (.inr s)=>rest s
def yM (p:Prop) [Decidable p] (o:Option ρ):Option ρ:=if p then o else none
def yB (L:List α) (n:Int):Option α:=if 0<=n then L[n.toNat]? else none
def slc (L:List α) (lo hi:Int):Option (List α):=if 0<=lo/\lo<=hi/\hi<=L.length then some ((L.take hi.toNat).drop lo.toNat) else none

theorem zg {α ρ:Type} {o:Option α} {k:α->Option ρ} {r:ρ} {G:Prop} (a:o.bind k=some r) (b:∀v,o=some v->k v=some r->G):G:=by
 cases o with
 | none=>cases a
 | some v=>exact b v rfl a
theorem yb {α ρ:Type} {b:Bool} {d:α} {o:Option α} {k:α->Option ρ} {r:ρ} {G:Prop} (a:(if b=true then o else some d).bind k=some r) (e:∀v,(b=true->o=some v)->k v=some r->G):G:=by
 cases b with
 | false=>exact e d (λh=>by cases h) a
 | true =>
  cases o with
  | none=>cases a
  | some v=>exact e v (λ_=>rfl) a
theorem yq {p:Prop} [Decidable p] {o:Option ρ} {r:ρ} {G:Prop} (a:yM p o=some r) (b:p->o=some r->G):G:=by
 unfold yM at a
 simp_all
theorem idxF {L:List α} {n:Int} {y:α} (h:yB L n=some y):0<=n/\L[n.toNat]?=some y:=by
 unfold yB at h
 simp_all
theorem slcF {L M:List α} {lo hi:Int} (h:slc L lo hi=some M):(0<=lo/\lo<=hi/\hi<=L.length)/\M=(L.take hi.toNat).drop lo.toNat:=by
 unfold slc at h
 simp_all

def konL (f:Nat->α->σ->Option (Out ρ σ)) (L:List α) (i:Nat) (rest:σ->Option ρ):Out ρ σ->Option ρ
 | .ret r=>some r
 | .brk s=>rest s
 | .nxt s=>lp (zD f (L.drop (i+1)) (i+1) s) rest
def konN (f:σ->Option (Out ρ σ)) (n:Nat) (rest:σ->Option ρ):Out ρ σ->Option ρ
 | .ret r=>some r
 | .brk s=>rest s
 | .nxt s=>lp (qn f n s) rest
def konJ (rest:σ->Option ρ):ρ ⊕ σ->Option ρ
 | .inl r=>some r
 | .inr s=>rest s
theorem loopL_step {f:Nat->α->σ->Option (Out ρ σ)} {L:List α} {s:σ} {rest:σ->Option ρ} {d:ρ} (h:lp (zD f (L.drop i) i s) rest=some d) (b:i < L.length) :
  ∃x g,L[i]?=some x/\f i x s=some g/\konL f L i rest g=some d:=by
 have e:=(sV b).symm;rw [e] at h;refine ⟨L[i],?_⟩;simp only [zD] at h;split at h
 ·cases h
 ·rename_i r a;exact ⟨.ret r,uh b,a,h⟩
 ·rename_i r a;exact ⟨.brk r,uh b,a,h⟩
 ·rename_i r a;exact ⟨.nxt r,uh b,a,h⟩
theorem loopL_end {f:Nat->α->σ->Option (Out ρ σ)} {L:List α} {s:σ} {rest:σ->Option ρ} {a:ρ} (h:lp (zD f (L.drop i) i s) rest=some a) (b:¬ i < L.length):rest s=some a:=by
 rw [tj (by omega)] at h;exact h
theorem lpF {o:Option (ρ ⊕ σ)} {rest:σ->Option ρ} {b:ρ} (h:lp o rest=some b):∃a,o=some a/\konJ rest a=some b:=by
 cases o with
 | none=>cases h
 | some a=>cases a <;> exact ⟨_,rfl,h⟩
end
section
variable {P:Program} {Q:Exit->List AV->AH->Prop} {env:List AV} {h:AH} {α ρ σ:Type}
theorem zj {t e:Code} {b:Bool} {A B:Option ρ} {r:ρ} (hc:yu env c=some (.bool b)) (g:(if b=true then A else B)=some r) (f:b=true->A=some r->vN P t Q env h) (d:b=false->B=some r->vN P e Q env h) :
  vN P (.cond c t e) Q env h:=by
 refine r_cond hc (λa=>f a ?_) (λa=>d a ?_)
 ·simp_all
 ·simp_all
theorem zT {f:Nat->α->σ->Option (Out ρ σ)} {L:List α} {s:σ} {rest:σ->Option ρ} {a:ρ} {t e:Code} (hc:yu env c=some (.bool (decide ((i:Int) < (L.length:Int))))) (j:lp (zD f (L.drop i) i s) rest=some a)
  (n:∀x g,i < L.length->L[i]?=some x->f i x s=some g->konL f L i rest g=some a->vN P t Q env h) (k:rest s=some a->vN P e Q env h):vN P (.cond c t e) Q env h:=by
 refine r_cond hc (λd=>?_) (λd=>?_)
 ·have b:i < L.length:=by have:=tc d;omega
  obtain ⟨x,g,m,l,o⟩:=loopL_step j b
  simp_all
 ·have b:¬ i < L.length:=by have:=of_decide_eq_false d;omega
  exact k (loopL_end j b)
theorem zM {f:Nat->α->σ->Option (Out ρ σ)} {L:List α} {j:σ} {rest:σ->Option ρ} {g:ρ} (U:Nat->σ->List (Nat×AV)) (H:σ->AH) (k:lp (zD f L 0 j) rest=some g) {E:Nat->σ->List AV}
  (o:∀i s,wE env (U i s)=E i s) (h0:wk h env h (E 0 j) (H j))
  (hs:∀i s,i<=L.length->lp (zD f (L.drop i) i s) rest=some g->vN P body (loopQ (λa d=>∃b,i < L.length/\lp (zD f (L.drop (i+1)) (i+1) b) rest=some g/\wk (H s) a d (E (i+1) b) (H b)) Q) (E i s) (H s)) :
  vN P (.loop body) Q env h:=by
 refine r_loop (σ:=Nat×σ) (λp=>E p.1 p.2) (λp=>H p.2) (λp=>p.1<=L.length/\lp (zD f (L.drop p.1) p.1 p.2) rest=some g) (λp=>L.length - p.1) (0,j) h0 ⟨tD _,k⟩ ?_
 rintro ⟨i,s⟩ ⟨hi,k⟩
 have:=hs i s hi k;have e:(loopQ (λa d=>∃b,i < L.length/\lp (zD f (L.drop (i+1)) (i+1) b) rest=some g/\wk (H s) a d (E (i+1) b) (H b)) Q) =
  λx a d=>match x with | .normal=>∃b,i < L.length/\lp (zD f (L.drop (i+1)) (i+1) b) rest=some g/\wk (H s) a d (E (i+1) b) (H b) | x=>Q x a d:=rfl
 refine qp ?_ _ _ _ this;intro x a d l;cases x with
 | normal =>
  obtain ⟨b,n,m,q⟩:=l;exact ⟨(i+1,b),⟨n,m⟩,by omega,q⟩
 | _=>exact l
theorem xI {f:σ->Option (Out ρ σ)} {k:σ} {rest:σ->Option ρ} {e:ρ} (U:σ->List (Nat×AV)) (H:σ->AH) (a:lp (yI f k) rest=some e) {E:σ->List AV}
  (v:∀s,wE env (U s)=E s) (h0:wk h env h (E k) (H k))
  (hs:∀n s d,f s=some d->konN f n rest d=some e->vN P body (loopQ (λb q=>∃g,lp (qn f n g) rest=some e/\wk (H s) b q (E g) (H g)) Q) (E s) (H s)) :
  vN P (.loop body) Q env h:=by
 obtain ⟨u,o⟩:∃n,lp (qn f n k) rest=some e:=by
  obtain ⟨d,j,m⟩:=lpF a;obtain ⟨n,w⟩:=loopW_is j
  grind
 refine r_loop (σ:=Nat×σ) (λp=>E p.2) (λp=>H p.2) (λp=>lp (qn f p.1 p.2) rest=some e) (λp=>p.1) (u,k) h0 o ?_
 rintro ⟨n,s⟩ a
 cases n with
 | zero=>simp [qn,lp] at a
 | succ n =>
  obtain ⟨d,j,m⟩:∃d,f s=some d/\konN f n rest d=some e:=by
   simp only [qn] at a;split at a
   ·cases a
   ·rename_i r l;exact ⟨.ret r,l,a⟩
   ·rename_i r l;exact ⟨.brk r,l,a⟩
   ·rename_i r l;exact ⟨.nxt r,l,a⟩
  refine qp ?_ _ _ _ (hs n s d j m);intro x b q t;cases x with
  | normal =>
   obtain ⟨g,j,m⟩:=t;exact ⟨(n,g),j,by omega,m⟩
  | _=>exact t
def joinQ (h0:AH) (N:List AV->AH->Prop) (Q:Exit->List AV->AH->Prop):Exit->List AV->AH->Prop:=λx env' h'=>match x with
 | .normal=>N env' h'
 | x=>Q x env' h'
theorem r_join {a b:Code} {J:Option (ρ ⊕ σ)} {rest:σ->Option ρ} {e:ρ} (U:σ->List (Nat×AV)) (H:σ->AH) (r:lp J rest=some e) {E:σ->List AV} (l:∀s,wE env (U s)=E s)
  (k:∀f,J=some f->konJ rest f=some e->vN P a (joinQ h (λd g=>∃s,rest s=some e/\wk h d g (E s) (H s)) Q) env h)
  (q:∀s,rest s=some e->vN P b Q (E s) (H s)):vN P (.seq a b) Q env h:=by
 obtain ⟨f,o,m⟩:=lpF r;refine zz (qp ?_ _ _ _ (k f o m));intro x d g j;cases x with
 | normal =>
  obtain ⟨s,p,n⟩:=j;exact ⟨_,_,n,q s p⟩
 | _=>exact j
theorem q_join {h0:AH} (a:N env h):joinQ h0 N Q .normal env h:=a
theorem q_join_ret {h0:AH} (a:Q .ret env h):joinQ h0 N Q .ret env h:=a
end
end Go.Vv
namespace Go.Vv
open Go
variable {q:Option Nat} {k id k' m j off:Nat} {i x y:Operand} {t e u e':TypeId} {a b:AV} {ρ:Type} {ops:Array Oper} {Q:List AV->AH->Prop} {rest l:List Oper} {env' cs cs':List AV} {n:Int} {B L' B':List Blk} {T T' Ns M' M1:List Nat} {F:Nat->AH->Prop} {f:FuncId} {g:Gh} {hd:AH} {w0 w:World} {K:AV->AH->Prop}

abbrev zW (s:zx):List AV:=[.str s]
def byteRow (b:UInt8):List AV:=[.int .u8 b.toNat]
abbrev intRow (k:IntKind) (n:Int):List AV:=[.int k n]
abbrev boolRow (b:Bool):List AV:=[.bool b]
def IsSl {α:Type} (a:AV) (z:Nat) (row:α->List AV) (L:List α):Prop:=a=.sl z (L.map row) \/ ∃q,a=.osl q z (L.map row)
section
variable {α:Type} {row:α->List AV} {L M:List α} {z:Nat}
theorem isl:IsSl (.sl z (L.map row)) z row L:=.inl rfl
theorem iosl:IsSl (.osl q z (L.map row)) z row L:=.inr ⟨_,rfl⟩
theorem vn {f:α->List AV} {L:List α}:aLen (.sl k (L.map f))=some L.length:=by simp [aLen]
theorem lenMapO {f:α->List AV} {L:List α}:aLen (.osl q k (L.map f))=some L.length:=by simp [aLen]
theorem zK {i:Nat} {x:α} (h:L[i]?=some x):yB L (i:Int)=some x:=by
 unfold yB;rw [uz (by omega),uy];exact h
end
theorem bin_boolE {P:Program} {a b:Bool} (c:Ty P t .bool k):yV P .eql t (.bool a) (.bool b)=some (.bool (a==b)):=by simp only [yV,aEq,c.u,uY]
theorem bin_boolN {P:Program} {a b:Bool} (c:Ty P t .bool k):yV P .neq t (.bool a) (.bool b)=some (.bool !(a==b)):=by simp only [yV,aEq,c.u,uY]
set_option maxHeartbeats 4000000 in
set_option maxHeartbeats 4000000 in
open Classical in
noncomputable def nilq {α:Type} (L:List α) (f:Bool->Option ρ):Option ρ:=if L=[]/\f true ≠ f false then none else f false
theorem nilqF {α:Type} {L:List α} {f:Bool->Option ρ} {r:ρ} (h:nilq L f=some r):f false=some r/\(L=[]->f true=some r):=by
 unfold nilq at h
 simp_all
theorem nilq_of {α:Type} {L:List α} {f:Bool->Option ρ} {r:ρ} (d:f false=some r) (c:L=[]->f true=some r):nilq L f=some r:=by
 unfold nilq
 simp_all
theorem qI {P:Program} {o:Oper} {env:List AV} {env':Bool->List AV} {h:AH} {z:Nat} {α:Type} {row:α->List AV} {L:List α} {f:Bool->Option ρ} {r:ρ} (H:aG ops o env=some true)
  (E:o.op=.binOp .eql t x y u) (A:El P t e k) (S:yu env x=some a) (U:IsSl a z row L) (R:yu env y=some .nilsl) (hd:∀b:Bool,wL o.dst env (.bool b)=some (env' b)) (N:nilq L f=some r)
  (I:∀b,(b=true->L=[])->f b=some r->zS P ops Q rest (env' b) h):zS P ops Q (o::rest) env h:=by
 obtain ⟨D,s⟩:=zX S;obtain ⟨G,C⟩:=zX R;obtain ⟨O,p⟩:=nilqF N;have key:∀b,(b=true->L.map row=[])->zS P ops Q rest (env' b) h:=λb d=>by
  have c:b=true->L=[]:=λh=>by simp_all
  refine I b c ?_;cases b with
  | false=>exact O
  | true=>exact p (c rfl)
 refine qT ?_;simp only [H,gwp];rcases U with rfl | ⟨q,rfl⟩
 ·simp only [zF,E,D,G,uT,ut,s,C,aNilq,A.u,rwp]
  rintro v J ⟨rfl,b,rfl,d⟩
  rw [xT (hd b)];exact key b d
 ·simp only [zF,E,D,G,uT,ut,s,C,aNilq,A.u,rwp]
  rintro v J ⟨rfl,b,rfl,d⟩
  rw [xT (hd b)];exact key b d
section
variable {P:Program} {o:Oper} {env:List AV} {h:AH} {α:Type} {row:α->List AV} {L:List α}
theorem s_idxRow {k:IntKind} {z:Nat} {y:α} (p:o.op=.indexAddr t x i) (s:El P t e z) (v:yu env x=some a) (hi:yu env i=some (.int k n)) (r:IsSl a z row L) (d:yB L n=some y) :
  zF P o env h=.ok (.fptr (row y)) h:=by
 obtain ⟨h0,d⟩:=idxF d;refine s_indexAddr p s v hi ?_;have c:(L.map row)[n.toNat]?=some (row y):=by simp_all
 rcases r with rfl | ⟨q,rfl⟩ <;> simp only [vO,h0,pm,ut,c,uY]
theorem yl {k:IntKind} {z:Nat} {y:α} (c:o.op=.indexAddr t x i) (r:El P t e z) (s:yu env x=some a) (hi:yu env i=some (.int k n)) (d:IsSl a z row L) (p:yB L n=some y) (hc:row y=cs) :
  zF P o env h=.ok (.fptr cs) h:=by rw [<- hc];exact s_idxRow c r s hi d p
theorem s_gidxRow {k:IntKind} {z:Nat} (d:α) (c:o.op=.indexAddr t x i) (r:El P t e z) (s:yu env x=some a) (hi:yu env i=some (.int k n)) (p:IsSl a z row L) (v:0<=n/\n < L.length) :
  zF P o env h=.ok (.fptr (row (L.getD n.toNat d))) h:=by
 refine s_idxRow c r s hi p ?_;unfold yB
 simp_all
theorem wF {k:IntKind} {z:Nat} (d:α) (c:o.op=.indexAddr t x i) (r:El P t e z) (s:yu env x=some a) (hi:yu env i=some (.int k n)) (p:IsSl a z row L) (v:0<=n/\n < L.length)
  (hc:row (L.getD n.toNat d)=cs):zF P o env h=.ok (.fptr cs) h:=by rw [<- hc];exact s_gidxRow d c r s hi p v
theorem s_idxStr {s:zx} {k:IntKind} {z:Nat} {b:UInt8} (d:o.op=.index t x i) (p:Ty P t .string z) (r:yu env x=some (.str s)) (hi:yu env i=some (.int k n)) (c:yB s n=some b) :
  zF P o env h=.ok (.int .u8 b.toNat) h:=by
 obtain ⟨h0,c⟩:=idxF c;refine s_indexStr d p r hi ?_;simp only [aIndexStr,h0,ut,c,uY]
inductive Bd (env:List AV):Option Operand->Int->Int->Prop
 | none {d:Int}:Bd env none d d
 | some {x:Operand} {k:IntKind} {n d:Int}:yu env x=some (.int k n)->Bd env (some x) d n
theorem Bd.all {x:Option Operand} {d n:Int} (h:Bd env x d n):x.all yv=true:=by
 cases h with
 | none=>rfl
 | some h=>exact (zX h).1
theorem Bd.ab {x:Option Operand} {d:Nat} (h:Bd env x d n) (h0:0<=n):aBound d (x.map (ev env))=Option.some n.toNat:=by
 cases h with
 | none=>rfl
 | some h=>simp only [uY,(zX h).2,aBound,uz h0]
theorem s_slcSl {lo hi:Option Operand} {M:List α} {l hh:Int} {z:Nat} (H:o.op=.slice t x lo hi none) (r:El P t e z) (J:yu env x=some a) (O:a=.sl z (L.map row) \/ ∃q,a=.osl q z (L.map row)/\(hi.isSome=true \/ q.isSome=true)) (v:Bd env lo 0 l) (c:Bd env hi L.length hh)
  (C:slc L l hh=some M):zF P o env h=.ok (.sl z (M.map row)) h:=by
 obtain ⟨⟨h0,S,R⟩,rfl⟩:=slcF C;obtain ⟨I,D⟩:=zX J;obtain ⟨i,E,N,_⟩:=r.i;have A:=Bd.ab (d:=0) v h0;have s:=Bd.ab (d:=L.length) c (by omega);simp only [zF,H,I,v.all,c.all,Option.all_none,uT,ut,r.u,D,E,N,Option.map_none];rcases O with rfl | ⟨q,rfl,p⟩
 ·simp only [tyfix,ut,aSlice,aSliceSl,A,ul,s,rG,um,uJ];rw [uz (by omega)];simp only [oo,List.map_drop,pu]
 ·simp only [tyfix,ut,aSlice,aSliceSl,A,ul,s];rw [uz (by omega)];have G:(q.isNone&&(hi.map (ev env)).isNone)=false:=by
   rcases p with p | p
   ·simp_all
   ·cases q <;> simp_all
  simp only [G,um,uJ,oo,List.map_drop,pu]
theorem a_app {M:List α} {d:AH} (p:L.length+M.length<=lim) (c:h.grow q L.length M.length=some (id,d)):aAppend h k (.osl q k (L.map row)) (M.map row)=some (.osl (some id) k ((L++M).map row),d):=by
 simp only [aAppend,ul];by_cases h0:M.length=0
 ·have:M=[]:=uH h0;subst this;rw [uz (show ([]:List α).length=0 from rfl)];cases q with
  | none =>
   simp only [AH.grow,u6,tL,ui,t6] at c
   simp_all
  | some id' =>
   simp only [AH.grow,u6,tL] at c;split at c
   ·rename_i r;simp only [ui,t6] at c;obtain ⟨rfl,rfl⟩:=c;have:h.toks.set id' L.length=h.toks:=by
     refine uZ λj=>?_
     grind
    simp [this]
   ·cases c
 ·simp_all
variable {M:List α}
theorem e_appN {c:Call} {p:AV} (s:o.op=.call c) (hc:c.callee=.builtin .append) (hs:c.args=#[x,y]) (G:c.argTypes=#[t,u]) (E:El P t e k)
  (d:El P u e' k') (I:yu env x=some a) (A:yu env y=some b) (v:tyfix P t a=.osl none k (L.map row)) (H:tyfix P u b=p) (J:aNews k p=some (M.map row)) (C:L.length+M.length<=lim) (r:T.length=m) (D:T++[(L++M).length]=T') :
  zF P o env (h.ext B T)=.ok (.osl (some (h.toks.length+m)) k ((L++M).map row)) (h.ext B T'):=by
 refine s_append s hc hs G E d I A v H J (a_app C ?_);subst D r;simp [AH.grow,AH.ext]
theorem xr {c:Call} {p:AV} (r:o.op=.call c) (hc:c.callee=.builtin .append) (hs:c.args=#[x,y]) (E:c.argTypes=#[t,u]) (D:El P t e k)
  (d:El P u e' k') (I:yu env x=some a) (v:yu env y=some b) (s:tyfix P t a=.osl (some (h.toks.length+j)) k (L.map row)) (G:tyfix P u b=p) (J:aNews k p=some (M.map row)) (A:L.length+M.length<=lim) (N:T[j]?=some L.length) (C:T.set j (L++M).length=T') :
  zF P o env (h.ext B T)=.ok (.osl (some (h.toks.length+j)) k ((L++M).map row)) (h.ext B T'):=by
 refine s_append r hc hs E D d I v s G J (a_app A ?_);subst C;have H:(h.toks++T)[h.toks.length+j]?=some L.length:=by grind
 simp only [AH.grow,AH.ext,H,ut]
 simp_all
theorem xk:aNews k (.sl k (M.map row))=some (M.map row):=by simp [aNews]
theorem yx:aNews k (.osl q k (M.map row))=some (M.map row):=by simp [aNews]
end
theorem leL.pre {a5 bs:List AV}:∀{cs:List AV},leL a5 bs->leL (cs++a5) (cs++bs)
 | [],k=>k
 | _::_,k=>leL.eq (leL.pre k)
def keeps:List (Nat×Blk)->List Blk->Prop
 | [],_=>True
 | (j,b)::r,B=>B[j]?=some b/\keeps r B
theorem wU {b:Blk} {r:List (Nat×Blk)} (h:keeps ((j,b)::r) B):B[j]?=some b:=h.1
def lk:List (Nat×List (Nat×Blk))->Nat->List (Nat×Blk)
 | [],_=>[]
 | (m,l)::r,n=>if n=m then l else lk r n
def KeepB (h:AH) (l:List (Nat×Blk)) (x:AH):Prop:=∃B T,x=h.ext B T/\keeps l B
theorem yi {h:AH} {l:List (Nat×Blk)} (c:keeps l B):KeepB h l (h.ext B T):=⟨_,_,rfl,c⟩
def keepA:List (Nat×List (Nat×Blk))->List Blk->Prop
 | [],_=>True
 | (_,l)::r,B=>keeps l B/\keepA r B
theorem keepA_lk:∀{l:List (Nat×List (Nat×Blk))} {B:List Blk},keepA l B->∀n,keeps (lk l n) B
 | [],_,_,_=>trivial
 | (m,l)::r,B,h,n=>by
  simp only [lk];split
  ·exact h.1
  ·exact keepA_lk h.2 n
theorem FOk.all {b:Nat} {G:AH->Prop} {h:AH} (c:G h):FOk b Ns (λ_=>G) h:=λ_ _ _=>c
theorem FOk.nil {b:Nat} {h:AH}:FOk b [] F h:=λ_ h _=>by simp at h
theorem FOk.cons {b n:Nat} {h:AH} (c:b.testBit n=true \/ F n h) (d:FOk b Ns F h):FOk b (n::Ns) F h:=λm r p=>by
 rcases c with c | c
 ·by_cases e:m=n
  ·simp_all
  ·exact d m (by simp_all) p
 ·by_cases e:m=n
  ·simp_all
  ·exact d m (by simp_all) p
abbrev yk (h:AH) (i j k n:Nat):AV:=.rsl (h.blks.length+i) (h.toks.length+j) k n
abbrev osA (h:AH) (j k:Nat) (es:List (List AV)):AV:=.osl (some (h.toks.length+j)) k es
abbrev yR (h:AH) (j k:Nat) (es:List (List AV)):Blk:=.row (h.toks.length+j) k es
theorem yU {P:Program} {Q:Exit->List AV->AH->Prop} {env:List AV} {h:AH} (Ns:List Nat) (c:List (Nat×List (Nat×Blk))) (r:keepA c B) (d:P.follows .mixedOrders=true) (hd:drawOk ⟨l⟩ Ns=true) (p:yd P ⟨l⟩ Ns (λn=>KeepB h (lk c n)) (Q .normal) 0 l env (h.ext B T)) :
  vN P (.region id ⟨l⟩ true) Q env (h.ext B T):=.inl ⟨Ns,λn=>KeepB h (lk c n),⟨d,hd⟩,λn=>yi (keepA_lk r n),p⟩
theorem r_drawnF {P:Program} {Q:Exit->List AV->AH->Prop} {env:List AV} {h:AH} (Ns:List Nat) (F:Nat->AH->Prop) (p:∀n,F n h) (c:P.follows .mixedOrders=true) (hd:drawOk ⟨l⟩ Ns=true) (d:yd P ⟨l⟩ Ns F (Q .normal) 0 l env h) :
  vN P (.region id ⟨l⟩ true) Q env h:=.inl ⟨Ns,F,⟨c,hd⟩,p,d⟩
theorem w6 {h:AH} {L:List Blk} {M:List Nat}:(h.ext L M).ext L' M'=h.ext (L++L') (M++M'):=by simp [AH.ext,uC]
theorem yG {P:Program} {o:Oper} {env:List AV} {h c:AH} {args:List AV} {v:AV} (A:aG ops o env=some true) (s:zF P o env h=.call f args) (hs:Spec P f args h λr hh=>r=v/\hh=c)
  (hd:wL o.dst env v=some env') (d:zS P ops Q rest env' c):zS P ops Q (o::rest) env h :=
 ops_call A s hs λr c ⟨p,C⟩=>by subst p;subst C;rw [xT hd];exact d
theorem draw_callH {i:Nat} (D:Ns.contains i=false) {P:Program} {ops:Array Oper} {Q:List AV->AH->Prop} {o:Oper} {rest:List Oper} {env env':List AV} {h c:AH} {f:FuncId} {args:List AV} {v:AV} (A:FOk ((Region.before ops).getD i 0) Ns F c) (d:c.blks=h.blks) (p:aG ops o env=some true) (C:zF P o env h=.call f args) (hs:Spec P f args h λr hh=>r=v/\hh=c)
  (hd:wL o.dst env v=some env') (s:yd P ops Ns F Q (i+1) rest env' c):yd P ops Ns F Q i (o::rest) env h :=
 ⟨v,c,.inl ⟨D,by simp only [AR,p,C];exact hs⟩,.inr d,.inr A,by rw [xT hd];exact s⟩
theorem xK {i:Nat} (A:Ns.contains i=false) {P:Program} {ops:Array Oper} {Q:List AV->AH->Prop} {o:Oper} {rest:List Oper} {env env':List AV} {h c:AH} {v:AV} (C:FOk ((Region.before ops).getD i 0) Ns F c) (s:c.blks=h.blks) (r:aG ops o env=some true) (p:zF P o env h=.ok v c) (hd:wL o.dst env v=some env') (d:yd P ops Ns F Q (i+1) rest env' c) :
  yd P ops Ns F Q i (o::rest) env h:=⟨v,c,.inl ⟨A,by simp only [AR,r,p,pm]⟩,.inr s,.inr C,by rw [xT hd];exact d⟩
def OwnK (h:AH) (k n:Nat) (R:List (List AV)) (rr:AV) (hh:AH):Prop:=rr=.osl (some h.toks.length) k R/\hh=h.ext [] [n]
theorem own_ext {P:Program} {a5:List AV} {h:AH} {n:Nat} {R:List (List AV)} (s:Spec P f a5 (h.ext B T) (OwnK (h.ext B T) k n R)) (c:T.length=m) (d:T++[n]=T') :
  Spec P f a5 (h.ext B T) (λp hh=>p=.osl (some (h.toks.length+m)) k R/\hh=h.ext B T'):=by
 refine s.mono ?_
 rintro r v ⟨rfl,rfl⟩
 subst c d;simp [AH.ext,uC]
theorem ldC_arr {α:Type} {row:α->List AV} {L:List α} {i:Int} {y:α} (p:∀x,(row x).length=k) (c:yB L i=some y) (hc:L.flatMap row=cs):ldC true k (0+i.toNat * k) cs=some (.agg (row y)):=by
 obtain ⟨h0,c⟩:=idxF c;subst hc;have key:∀(L:List α) (n:Nat),L[n]?=some y->n * k+k<=(L.flatMap row).length/\((L.flatMap row).drop (n * k)).take k=row y:=by
  intro L
  induction L with
  | nil=>intro n h;simp at h
  | cons a r ih =>
   intro n h;cases n with
   | zero =>
    simp_all
   | succ n =>
    obtain ⟨s,d⟩:=ih n (by simpa using h);simp only [sq,uq,p,t8];refine ⟨by omega,?_⟩;rw [show n * k+k=(row a).length+n * k by grind,sS,tj (by omega),uI,uv];exact d
 obtain ⟨s,d⟩:=key L i.toNat c;simp only [ldC,ut,tx]
 simp_all
theorem s_idxArr {P:Program} {o:Oper} {env:List AV} {h:AH} {n:Nat} {d:TypeDesc} {q:IntKind} {m:Int} {α:Type} {L:List α} {y:α} (p:o.op=.indexAddr t x i) (s:Ty P t (.array n e) k) (r:Ty P e d k') (v:yu env x=some (.ptr id off)) (hi:yu env i=some (.int q m))
  (C:L.length=n) (c:yB L m=some y):zF P o env h=.ok (.ptr id (off+m.toNat * k')) h:=by
 obtain ⟨h0,c⟩:=idxF c;have A:m.toNat < L.length:=(uc.1 c).1;exact s_indexArrAddr p s r v hi (uz ⟨h0,by omega⟩)
theorem evo_eq {env:List AV} (h:yu env x=some a) (e:a=b):yu env x=some b:=by rw [h,e]
theorem blk_ext2 {h:AH} {b:Blk} (c:B[j]?=some b):((h.ext B T).ext B' T').blk (h.blks.length+j)=some b:=by
 rw [w6,yy,un (uc.1 c).1];exact c
theorem blk_old {h:AH} {b:Blk} (c:h.blk id=some b):(h.ext B T).blk id=some b:=by
 have d:id < h.blks.length:=(uc.1 c).1;simp only [AH.blk,AH.ext] at c ⊢
 grind
theorem b_load {P:Program} {o:Oper} {env:List AV} {h:AH} {d:TypeDesc} {v v':AV} (p:o.op=.load t x) (s:Ty P t d k) (C:yu env x=some (.ptr id off)) (A:h.blk id=some (.cells cs))
  (r:ldC (yA d) k off cs=some v) (c:tyfix P t v=v'):zF P o env (h.ext B T)=.ok v' (h.ext B T):=by
 refine s_load p s C ?_ c;simp only [aLoad,blk_old A];exact r

theorem leV.agg {cs ds:List AV} (k:leL cs ds) (d:ds.all AV.one=true):leV (.agg cs) (.agg ds):=λg v c=>by
 simp only [V] at c ⊢;obtain ⟨vs,e,p⟩:=c;exact ⟨vs,e,VA.mk (k _ _ p.toVL) d⟩
theorem leV.tup {cs ds:List AV} (k:leL cs ds):leV (.tup cs) (.tup ds):=λg v c=>by
 simp only [V] at c ⊢;obtain ⟨vs,e,d⟩:=c;exact ⟨vs,e,k _ _ d⟩
theorem VL.setE {g:Gh}:∀{a5:List AV} {vs:List Value},VL g a5 vs->∀(i:Nat) (a:AV),(∀v,vs[i]?=some v->V g a v)->VL g (a5.set i a) vs
 | [],_,h,i,a,_=>by simpa using h
 | _::r,_,h,i,a,hv=>by
  simp only [VL] at h;obtain ⟨v',s,rfl,d,c⟩:=h;cases i with
  | zero=>simp only [uf,VL];exact ⟨v',s,rfl,hv v' rfl,c⟩
  | succ i=>simp only [ue,VL];exact ⟨v',s,rfl,d,VL.setE c i a (λv p=>hv v (by simp_all))⟩
theorem V.tok {n:Nat} {es:List (List AV)} {v:Value} (D:es.length=n) (d:V g (.osl none k es) v):V (g.addT ⟨n,none,false⟩) (.osl (some g.τ.length) k es) v:=by
 subst D;simp only [V] at d ⊢;obtain ⟨a,c,s,p,A,r,C⟩:=d;refine ⟨a,c,s,p,A,r.imp id λ⟨b,o,e,hh⟩=>⟨b,o,e,VE.mono (g.le_addT _) _ _ _ _ hh⟩,⟨es.length,none,false⟩,?_,rfl,ug _,λ_=>.inl C⟩;simp only [Gh.addT]
 simp_all
theorem wk_tok {α:Type} {row:α->List AV} {L:List α} {h:AH} {env:List AV} {d:Nat} (J:yu env (.tmp d)=some (.osl none k (L.map row))) (I:T.length=m)
  (D:wL (some d) env (.osl (some (h.toks.length+m)) k (L.map row))=some env') (H:T++[L.length]=T') :
  wk hd env (h.ext B T) env' (h.ext B T'):=λ_ _ _ _ O g vs _ G r E=>by
 subst I H;simp only [wL,ui] at D;subst D;have c:h.toks.length+T.length=g.τ.length:=by rw [r.tlen];simp [AH.ext]
 refine ⟨g.addT ⟨L.length,none,false⟩,G.trans (g.le_addT _),?_,?_⟩
 ·have:=r.addTok ⟨L.length,none,false⟩ (λ_ _ _ h=>by cases h) (λ_ _ h=>by cases h);have e:(h.ext B (T++[L.length]))={ (h.ext B T) with toks:=(h.ext B T).toks++[L.length] }:=by simp [AH.ext,uC]
  simp_all
 ·have A:=E;refine ⟨VL.setE (VL.mono (g.le_addT _) _ _ E) d _ λv s=>?_,λ_ h=>h⟩;obtain ⟨a,p,N⟩:=A.getR _ _ s;have C:env[d]?=some (.osl none k (L.map row)):=J;rw [C] at p;injection p with p;subst p;rw [c];exact N.tok (by simp)
theorem Rel.rowsC {B:Nat} {h:AH} (r:Rel B w0 g h w) {i:Nat} {cs cs':List AV} (v:h.blks[i]?=some (.cells cs)) :
  (∀(j:Nat) (x:Blk),g.σ[j]?=some none->(h.put i (.cells cs')).blks[j]?=some x->RowB g w x) /\
  ∀(a b t k k':Nat) (es es':List (List AV)),(h.put i (.cells cs')).blks[a]?=some (.row t k es)->(h.put i (.cells cs')).blks[b]?=some (.row t k' es')->a=b:=by
 have key:∀(a t k:Nat) (es:List (List AV)),(h.put i (.cells cs')).blks[a]?=some (.row t k es)->h.blks[a]?=some (.row t k es):=by
  intro a t k es d;simp only [AH.put] at d
  grind
 refine ⟨λj x p c=>?_,λa b t k k' es es' d s=>r.rinj _ _ _ _ _ _ _ (key _ _ _ _ d) (key _ _ _ _ s)⟩;simp only [AH.put] at c;by_cases hij:i=j
 ·subst hij;exact (r.row i _ p v).elim
 ·rw [uR hij] at c;exact r.row j x p c
theorem Rel.reblk {B:Nat} {h:AH} (r:Rel B w0 g h w) {i:Nat} {cs cs':List AV} (p:h.blks[i]?=some (.cells cs)) (D:∀c,BlkOk g w c (.cells cs)->BlkOk g w c (.cells cs')):Rel B w0 g (h.put i (.cells cs')) w:=by
 refine ⟨r.below,r.bsz,r.phi,by simp [AH.put,r.slen],λj c q hc d=>?_,r.tlen,r.tok,r.sinj,r.tinj,r.sep,r.dfr,(r.rowsC p).1,(r.rowsC p).2,r.nb,r.ob,r.oa⟩;simp only [AH.put] at d;by_cases hij:i=j
 ·subst hij;rw [uD (uc.1 p).1] at d;injection d with d;subst d;obtain ⟨A,s,C,v⟩:=r.blk i c _ hc p
  simp_all
 ·rw [uR hij] at d;exact r.blk j c q hc d
theorem wk_tokB {α:Type} {row:α->List AV} {L:List α} {h:AH} {env:List AV} (S:B[j]?=some (.cells cs)) (he:yu cs (.tmp off)=some (.osl none k (L.map row))) (Y:T.length=m)
  (R:wL (some off) cs (.osl (some (h.toks.length+m)) k (L.map row))=some cs') (hB:B.set j (.cells cs')=B') (V:T++[L.length]=T') :
  wk hd env (h.ext B T) env (h.ext B' T'):=λ_ _ w _ g1 g vs _ U r hv=>by
 subst Y V hB;simp only [wL,ui] at R;subst R;have D:h.toks.length+T.length=g.τ.length:=by rw [r.tlen];simp [AH.ext]
 refine ⟨g.addT ⟨L.length,none,false⟩,U.trans (g.le_addT _),?_,VL.mono (g.le_addT _) _ _ hv,λ_ h=>h⟩;have d:=r.addTok ⟨L.length,none,false⟩ (λ_ _ _ h=>by cases h) (λ_ _ h=>by cases h);have H:({ (h.ext B T) with toks:=(h.ext B T).toks++[L.length] }:AH).blks[h.blks.length+j]?=some (.cells cs):=by
  simp only [AH.ext];rw [uj (by omega),uv];exact S
 have e:(h.ext (B.set j (.cells (cs.set off (.osl (some (h.toks.length+T.length)) k (L.map row))))) (T++[L.length])) =
   ({ (h.ext B T) with toks:=(h.ext B T).toks++[L.length] }:AH).put (h.blks.length+j) (.cells (cs.set off (.osl (some (h.toks.length+T.length)) k (L.map row)))):=by
  simp only [AH.ext,AH.put,uC]
  simp_all
 rw [e]
 -- what the cells were ahead of the token
 have C:(h.ext B T).blks[h.blks.length+j]?=some (.cells cs):=by
  omega
 obtain ⟨c,hc⟩:∃c:Nat,g.σ[h.blks.length+j]?=some (some c):=by
  have:h.blks.length+j < g.σ.length:=by rw [r.slen];simp only [AH.ext,uq];have:=(uc.1 S).1;omega
  rcases hc:g.σ[h.blks.length+j] with _ | c
  ·exact (r.row _ _ (by simp_all) C).elim
  ·simp_all
 obtain ⟨_,_,⟨us,t,X,N⟩,_⟩:=r.blk _ c _ hc C;have E:VA (g.addT ⟨L.length,none,false⟩) (cs.set off (.osl (some (h.toks.length+T.length)) k (L.map row))) us.toList:=by
  have O:=N.toVL;refine VA.mk (VL.setE (VL.mono (g.le_addT _) _ _ O) off _ λv I=>?_) ?_
  ·obtain ⟨a,p,hV⟩:=O.getR _ _ I;have J:cs[off]?=some (.osl none k (L.map row)):=he;rw [J] at p;injection p with p;subst p;rw [D];exact hV.tok (by simp)
  ·rw [ur];intro a p;rcases sg p with p | rfl
   ·have:=N.ones;rw [ur] at this;exact this a p
   ·rfl
 -- one block alone: the same cell
 refine ⟨d.below,d.bsz,d.phi,by simp [AH.put,d.slen],λi G q A s=>?_,d.tlen,d.tok,d.sinj,d.tinj,d.sep,d.dfr,(d.rowsC H).1,(d.rowsC H).2,d.nb,d.ob,d.oa⟩;simp only [AH.put] at s;by_cases hij:h.blks.length+j=i
 ·subst hij;rw [uD (uc.1 H).1] at s;injection s with s;subst s;obtain ⟨Z,W,_,h9⟩:=d.blk _ G _ A H;have:G=c:=by
   have:g.σ[h.blks.length+j]?=some (some G):=A
   simp_all
  subst this;exact ⟨Z,W,⟨us,t,X,E⟩,λ_=>h9 (by simp)⟩
 ·rw [uR hij] at s;exact d.blk i G q A s
mutual
theorem AV.low_up {n d m p:Nat} (c:n<=d) (h:m<=p):∀a:AV,a.low n m=true->a.low d p=true
 | .bool _,_ | .int _ _,_ | .str _,_ | .nilp,_ | .nilm,_ | .nilf,_ | .nili,_ | .nilsl,_ | .fptr _,_ | .sl _ _,_ | .glob _,_ | .any,_ | .opq,_ | .bsl _ _,_ | .nsl _ _,_ | .hsl _ _,_ | .hfp _,_ | .hol _,_=>rfl
 | .osl none _ _,_=>rfl
 | .osl (some t) _ _,hl=>by simp only [AV.low,uk] at hl ⊢;omega
 | .ptr _ _,hl=>by simp only [AV.low,uk] at hl ⊢;omega
 | .msl _ _ _ _,hl=>by simp only [AV.low,uk] at hl ⊢;omega
 | .rsl _ _ _ _,hl=>by simp only [AV.low,uk] at hl ⊢;omega
 | .rsuf _ _ _ _ _,hl=>by simp only [AV.low,uk] at hl ⊢;omega
 | .rptr _ _ _ _ _,hl=>by simp only [AV.low,uk] at hl ⊢;omega
 | .map _,hl=>by simp only [AV.low,uk] at hl ⊢;omega
 | .yld _,hl=>by simp only [AV.low,uk] at hl ⊢;omega
 | .fn _ a b,hl=>by
  simp only [AV.low,ud] at hl ⊢;exact ⟨yF c h a hl.1,yF c h b hl.2⟩
 | .iface _ v,hl=>by simp only [AV.low] at hl ⊢;exact AV.low_up c h v hl
 | .agg cs,hl=>by simp only [AV.low] at hl ⊢;exact yF c h cs hl
 | .tup cs,hl=>by simp only [AV.low] at hl ⊢;exact yF c h cs hl
theorem yF {n d m p:Nat} (c:n<=d) (h:m<=p):∀l:List AV,zR n m l=true->zR d p l=true
 | [],_=>rfl
 | a::r,hl=>by
  simp only [zR,ud] at hl ⊢;exact ⟨AV.low_up c h a hl.1,yF c h r hl.2⟩
end
theorem wk_cutm {h:AH} {env:List AV} {L:List Blk} {M:List Nat} (m:Nat) (C:zR h.blks.length (h.toks.length+m) env=true) (p:M.take m=M1):wk h env (h.ext L M) env (h.ext [] M1):=λ_ _ _ _ A g vs c s r D=>by
 subst p;refine ⟨g.cut h.blks.length (h.toks.length+m),Gh.le_cut2 s (by rw [c.slen];exact ug _) (by rw [c.tlen];omega),?_,VL.cut _ _ C D,λ_ h=>h⟩;have e:(h.ext L M).cut h.blks.length (h.toks.length+m)=h.ext [] (M.take m):=by
  simp [AH.cut,AH.ext,tV];rw [uK (by omega)]
 have:=r.cut h.blks.length (h.toks.length+m) (λi k hi d=>?_)
 ·simp_all
 ·have v:i < A.σ.length:=by rw [c.slen];exact hi
  simp only [AH.ext] at d;rw [un hi] at d;have:=c.isLow d;rw [c.slen,c.tlen] at this;exact Blk.low_mono (by omega) _ this
theorem fin_own {h:AH} {n:Nat} {R:List (List AV)} (c:K (.osl (some h.toks.length) k R) (h.ext [] [n])):finK h K (.osl (some (h.toks.length+0)) k R) (h.ext B (n::T)) :=
 wI (wk_cutm 1 (by simp [zR,AV.low]) rfl) c
theorem fin_own0 {α:Type} {row:α->List AV} {L:List α} {h:AH} (c:K (.osl (some h.toks.length) k (L.map row)) (h.ext [] [L.length])):finK h K (.osl none k (L.map row)) (h.ext B T) :=
 wI ((wk_cutm (M1:=[]) 0 (by rfl) rfl).trans (wk_tok (d:=0) (m:=0) rfl rfl rfl rfl)) c
theorem wk_leB {h:AH} {env:List AV} (C:B[j]?=some (.cells cs)) (A:leL cs cs') (v:cs'.all AV.one=true) (D:B.set j (.cells cs')=B'):wk hd env (h.ext B T) env (h.ext B' T):=λ_ _ w _ G g vs _ E r H=>by
 subst D;have p:(h.ext B T).blks[h.blks.length+j]?=some (.cells cs):=by
  simp only [AH.ext];rw [uj (by omega),uv];exact C
 have:=r.reblk p (cs':=cs') (λc ⟨us,t,s,d⟩=>⟨us,t,s,VA.mk (A _ _ d.toVL) v⟩);have e:(h.ext B T).put (h.blks.length+j) (.cells cs')=h.ext (B.set j (.cells cs')) T:=by
  simp only [AH.ext,AH.put]
  simp_all
 grind
theorem yp {h:AH} {L0 L1:List Blk} {M0:List Nat} {env:List AV} (c:zR (h.blks.length+L0.length) (h.toks.length+M0.length) env=true) (p:L'.take L0.length=L1) (d:M'.take M0.length=M1)
  (s:L1.all (λb=>b.low (h.blks.length+L0.length) (h.toks.length+M0.length))=true):wk (h.ext L0 M0) env (h.ext L' M') env (h.ext L1 M1) :=
 wk_ext2 c p d λ_ k r=>.inr (by grind)
theorem r_condR {P:Program} {Q:Exit->List AV->AH->Prop} {env:List AV} {h:AH} {σ:Type} {f:Nat->Nat->σ->Option (Out ρ σ)} {m:Int} {i:Nat} {s:σ} {rest:σ->Option ρ} {v:ρ} {c:Operand} {t e:Code} (hc:yu env c=some (.bool (decide ((i:Int) < m))))
  (A:lp (zD f ((List.range m.toNat).drop i) i s) rest=some v)
  (G:∀x p,i < (List.range m.toNat).length->(i:Int) < m->x=i->f i x s=some p->konL f (List.range m.toNat) i rest p=some v->vN P t Q env h) (D:rest s=some v->vN P e Q env h):vN P (.cond c t e) Q env h:=by
 refine r_cond hc (λd=>?_) (λd=>?_)
 ·have C:=tc d;have r:i < (List.range m.toNat).length:=by simp;omega
  obtain ⟨x,p,H,E,I⟩:=loopL_step A r
  simp_all
 ·have C:=of_decide_eq_false d;exact D (loopL_end A (by simp;omega))
theorem ops_nextF {P:Program} {o:Oper} {env G H:List AV} {h:AH} {L:List Blk} {M:List Nat} {s:List UInt8} {c:Nat} {A C:Option ρ} {r:ρ} (N:aG ops o env=some true) (I:o.op=.next x true)
  (O:yu env x=some (.ptr (h.blks.length+j) 0)) (J:L[j]?=some (.siter s c)) (p:wL o.dst env (.tup [.bool true,.int .i64 c,.int .i32 (dec s c).1])=some G) (d:wL o.dst env (.tup [.bool false])=some H)
  (R:(if c < s.length then A else C)=some r) (v:c < s.length->A=some r->zS P ops Q rest G (h.ext (L.set j (.siter s (c+(dec s c).2))) M)) (D:C=some r->zS P ops Q rest H (h.ext L M)):zS P ops Q (o::rest) env (h.ext L M) :=
 ops_next N I O J p d (λE=>v E (by simp_all)) (λE=>D (by grind))
open Classical in
noncomputable def anyN (g:Nat->Option ρ):Option ρ:=if h:∃r N,∀n,N<=n->g n=some r then some (Classical.choose h) else none
theorem qc {g:Nat->Option ρ} {r:ρ} (h:anyN g=some r):∃n,g n=some r:=by
 unfold anyN at h;split at h
 ·rename_i d;injection h with h;subst h;obtain ⟨N,c⟩:=tZ d;exact ⟨N,c N (ug _)⟩
 ·cases h
theorem qb {g:Nat->Option ρ} {r:ρ} (N:Nat) (h:∀n,N<=n->g n=some r):anyN g=some r:=by
 have c:∃r N,∀n,N<=n->g n=some r:=⟨r,N,h⟩
 unfold anyN;rw [pR c];obtain ⟨M,d⟩:=tZ c;have p:=d (max N M) (Nat.le_max_right _ _)
 grind
theorem Rel.beyond {B:Nat} {w':World} {h:AH} (r:Rel B w0 g h w) (d:RowKit.Below w.heap.size w w'):Rel B w0 g h w' :=
 ⟨r.below.trans (d.mono r.bsz),uA r.bsz d.size,λb j v e=>(d.cell (p:=⟨b,j,none⟩) (r.phi_lt e)).trans (r.phi b j v e),r.slen,
   λi c k hc E=>by
     obtain ⟨G,A,I,H⟩:=r.blk i c k hc E;exact ⟨G,si A d.size,I.mono (Gh.le.refl g) (d.block c A),H⟩,r.tlen,
   λi t D=>by
     obtain ⟨G,A⟩:=r.tok i t D;exact ⟨G,λb l e s=>(A b l e s).mono d.size (d.block b (A b l e s).lt) λ_ _=>rfl⟩,r.sinj,r.tinj,r.sep,λc hc=>⟨(r.dfr c hc).1,(d.block c (r.dfr_lt hc)).trans (r.dfr c hc).2.1,(r.dfr c hc).2.2⟩,
   λi k hi E=>(r.row i k hi E).mono (Gh.le.refl g) (λ_ _ h _=>h) (λi t b x D _ s=>⟨d.block b ((r.tok i t D).2 b x.1 x.2 s).lt,λ_=>rfl⟩),r.rinj,
   λb x C=>(r.nb b x C).mono λ_ s J=>⟨d.block b s,J,λ_ h=>h⟩,λb C=>⟨si (r.ob b C).1 d.size,(r.ob b C).2⟩,r.oa⟩
end Go.Vv
namespace Go.Vv
open Go Go.RowKit Go.Lib
def apart (ops:Array Oper) (o p:Oper):Bool :=
 (match o.dst with | some d=>!(p.looksAt ops).contains d&&p.dst != some d | none=>true) &&
 (match p.dst with | some d=>!(o.looksAt ops).contains d | none=>true)
section
variable {P:Program} {l:List Oper} {Q:List AV->AH->Prop} {m i j:Nat} {listed:Array Bool} {env env':List AV} {h h':AH} {o:Oper} {v:AV}
end
section
variable {P:Program} {l:List Oper} {Q:List AV->AH->Prop} {m i:Nat} {listed:Array Bool} {env env':List AV} {h:AH} {o:Oper} {v:AV}
end
end Go.Vv
namespace Go.Vv
open Go Go.RowKit Go.Proofs Go.Shelf
end Go.Vv
namespace Go.Vv
open Go Go.RowKit Go.Lib Go.Shelf
theorem spec_scompare {P:Program} {ρ:Ren} (L:Go.Proofs.Lays.n106 P ρ) {a b:List UInt8} {h:AH}:Spec P (ρ.f 106) [.str a,.str b] h λd hh=>d=.int .i64 (Lib.compareBytes a b)/\hh=h:=by
 refine ⟨λvs w=>Go.Proofs.enters_of L.f106 (by kernel_rfl) rfl vs w,λB w0 _ g w vs r c=>?_⟩;obtain ⟨us,rfl⟩:∃us:List Value,vs=us.toArray:=⟨vs.toList,by simp⟩
 simp only [VL,V] at c;obtain ⟨k,m,i,⟨rfl,_⟩,l,j,rfl,⟨rfl,_⟩,rfl⟩:=c;subst i;refine (Go.Proofs.Any.strings_Compare L _ _ w).mono ?_
 rintro e w' ⟨rfl,rfl⟩
 exact ⟨_,_,h,g,rfl,⟨rfl,rfl⟩,Gh.le.refl g,r,by simp only [V]⟩
end Go.Vv
namespace Go.Vv
open Go
variable {B:List Blk}
section
variable {K W:Type}
def yQ (eq:K->K->Bool) (d:W):List (K×W)->K->W
 | [],_=>d
 | e::r,k=>if eq k e.1 then e.2 else yQ eq d r k
def mhas (eq:K->K->Bool):List (K×W)->K->Bool
 | [],_=>false
 | e::r,k=>eq k e.1 || mhas eq r k
def midx (eq:K->K->Bool):List (K×W)->K->Nat
 | [],_=>0
 | e::r,k=>if eq k e.1 then 0 else midx eq r k+1
def qg (eq:K->K->Bool):List (K×W)->K->W->List (K×W)
 | [],k,v=>[(k,v)]
 | e::r,k,v=>if eq k e.1 then (e.1,v)::r else e::qg eq r k v
def ment (eq:K->K->Bool) (d:W) (m:List (K×W)) (k:K):List (K×W):=if mhas eq m k then m else m++[(k,d)]
def wG (kv:K->AV) (vv:W->AV) (e:K×W):AV×AV:=(kv e.1,vv e.2)

theorem midx_lt {eq:K->K->Bool} {k:K}:∀{m:List (K×W)},mhas eq m k=true->midx eq m k < m.length
 | [],h=>by simp [mhas] at h
 | e::r,h=>by
  simp only [mhas,midx,ux] at h ⊢;by_cases hk:eq k e.1=true
  ·simp [hk]
  ·simp only [hk,tg,uJ,um] at h ⊢;have:=midx_lt h;omega
theorem midx_eq {eq:K->K->Bool} {k:K}:∀{m:List (K×W)},mhas eq m k=false->midx eq m k=m.length
 | [],h=>rfl
 | e::r,h=>by
  simp only [mhas,midx,ux,rf] at h ⊢;simp [h.1,midx_eq h.2]
theorem mput_has {eq:K->K->Bool} {k:K} {v:W}:∀{m:List (K×W)} {e:K×W},mhas eq m k=true->m[midx eq m k]?=some e->m.set (midx eq m k) (e.1,v)=qg eq m k v
 | [],_,h,_=>by simp_all
 | p::r,e,h,he=>by
  simp only [mhas,midx,qg] at h he ⊢;by_cases hk:eq k p.1=true
  ·simp_all
  ·simp only [hk,tg,uJ,um,pC] at h he ⊢;rw [ue,mput_has h he]
theorem mput_not {eq:K->K->Bool} {k:K} {v:W}:∀{m:List (K×W)},mhas eq m k=false->m++[(k,v)]=qg eq m k v
 | [],_=>rfl
 | p::r,h=>by
  simp only [mhas,qg,rf] at h ⊢;simp [h.1,mput_not h.2]
def KQ (P:Program) (kt:TypeId) (kv:K->AV) (eq:K->K->Bool):Prop:=(∀a b,xe P kt (kv a) (kv b)=some (eq a b))/\∀a,eq a a=true
theorem KQ.str {P:Program} {t:TypeId} {z:Nat} (h:Ty P t .string z):KQ P t AV.str (λa b=>a==b):=⟨λa b=>by simp only [xe,h.u,aEq1],λa=>by simp⟩
theorem KQ.int {P:Program} {t:TypeId} {i:IntKind} {z:Nat} (h:Ty P t (.int i) z):KQ P t (AV.int i) (λa b=>a==b):=⟨λa b=>by simp only [xe,h.u,aEq1,ut],λa=>by simp⟩
theorem KQ.struct {P:Program} {t:TypeId} {fs:Array Field} {c:List Kd} {row:K->List AV} {eq:K->K->Bool} (g:P.underlying t=some (.struct fs)) (e:PK P t c) (h:∀a b,aEqL c (row a) (row b)=some (eq a b)) (f:∀a,eq a a=true):KQ P t (λx=>.agg (row x)) eq :=
 ⟨λa b=>by simp only [xe,g,e.k,h],f⟩

variable {P:Program} {kt et t:TypeId} {kv:K->AV} {vv:W->AV} {eq:K->K->Bool} {d:W}
theorem aFind_is (a:KQ P kt kv eq) (d:W) (k:K):∀(m:List (K×W)) (i:Nat),aFind P kt (kv k) (m.map (wG kv vv)) i=some (if mhas eq m k then some (i+midx eq m k,vv (yQ eq d m k)) else none)
 | [],i=>rfl
 | e::r,i=>by
  have l:=aFind_is a d k r (i+1);simp only [uw,aFind];have g:xe P kt (kv k) (wG kv vv e).1=some (eq k e.1):=a.1 _ _;rw [g];by_cases h:eq k e.1=true
  ·have b:mhas eq (e::r) k=true:=by simp [mhas,h]
   have f:midx eq (e::r) k=0:=by simp [midx,h]
   have c:yQ eq d (e::r) k=e.2:=by simp [yQ,h]
   rw [b,f,c,h];rfl
  ·simp only [rS] at h;have b:mhas eq (e::r) k=mhas eq r k:=by simp [mhas,h]
   have f:midx eq (e::r) k=midx eq r k+1:=by simp [midx,h]
   have c:yQ eq d (e::r) k=yQ eq d r k:=by simp [yQ,h]
   grind

variable {ops:Array Oper} {o:Oper} {env:List AV} {h:AH} {L:List Blk} {M:List Nat} {m:List (K×W)} {k:K} {j:Nat} {x y z:Operand}
theorem e_makeMap {n:Nat} (b:o.op=.makeMap t none) (a:L.length=n):zF P o env (h.ext L M)=.ok (.map (h.blks.length+n)) (h.ext (L++[.mapo [] 0]) M):=by
 simp only [zF,b,ext_new,<- a];simp [AH.ext]
theorem e_lookup (c:o.op=.lookup t x y false) (n:P.underlying t=some (.map kt et)) (a:KQ P kt kv eq) (s:aZeroM P et=some (vv d)) (q:yu env x=some (.map (h.blks.length+j))) (b:L[j]?=some (.mapo (m.map (wG kv vv)) 0)) (f:yu env y=some (kv k)) :
  zF P o env (h.ext L M)=.ok (vv (yQ eq d m k)) (h.ext L M):=by
 obtain ⟨l,g⟩:=zX q;obtain ⟨p,i⟩:=zX f;simp only [zF,c,l,g,p,i,n,uT,ut,aLookup,a.1,a.2,yy,b,aFind_is a d k m 0,s];cases hm:mhas eq m k with
 | true=>simp [withOk,oo]
 | false =>
  have:yQ eq d m k=d:=by
   clear b
   induction m with
   | nil=>rfl
   | cons e r ih=>simp only [mhas,rf] at hm;simp only [yQ,hm.1,um,uJ];exact ih hm.2
  simp [withOk,oo,this]
theorem e_entry (c:o.op=.mapEntry t x y) (q:P.underlying t=some (.map kt et)) (a:KQ P kt kv eq) (v:aZeroM P et=some (vv d)) (u:yu env x=some (.map (h.blks.length+j))) (b:L[j]?=some (.mapo (m.map (wG kv vv)) 0)) (g:yu env y=some (kv k))
  (p:L.set j (.mapo ((ment eq d m k).map (wG kv vv)) 0)=B):zF P o env (h.ext L M)=.ok (.tup [vv (yQ eq d m k),.int .i64 (midx eq m k)]) (h.ext B M):=by
 obtain ⟨n,i⟩:=zX u;obtain ⟨s,l⟩:=zX g;subst p;simp only [zF,c,n,i,s,l,q,uT,ut,aEntry,a.1,a.2,yy,b,aFind_is a d k m 0,v,ment];cases hm:mhas eq m k with
 | true =>
  have:L.set j (.mapo (m.map (wG kv vv)) 0)=L:=by
   apply uZ
   grind
  simp [ovh,this]
 | false =>
  have f:yQ eq d m k=d:=by
   clear b
   induction m with
   | nil=>rfl
   | cons e r ih=>simp only [mhas,rf] at hm;simp only [yQ,hm.1,um,uJ];exact ih hm.2
  simp [ovh,f,ext_put,wG,midx_eq hm]
theorem e_entryStore {v:W} {i:Int} {n:IntKind} (u:o.op=.entryStore t x y z) (C:yu env x=some (.map (h.blks.length+j))) (E:L[j]?=some (.mapo ((ment eq d m k).map (wG kv vv)) 0)) (w:yu env y=some (.int n i)) (hi:i=midx eq m k) {a:AV} (s:yu env z=some a) (b:a.zcl=vv v)
  (F:L.set j (.mapo ((qg eq m k v).map (wG kv vv)) 0)=B):zF P o env (h.ext L M)=.ok aundef (h.ext B M):=by
 obtain ⟨q,l⟩:=zX C;obtain ⟨A,p⟩:=zX w;obtain ⟨r,D⟩:=zX s;subst F hi;have h0:(0:Int)<=(midx eq m k:Int):=by omega
 have key:∃e,(ment eq d m k)[midx eq m k]?=some e/\(ment eq d m k).set (midx eq m k) (e.1,v)=qg eq m k v:=by
  unfold ment;cases hm:mhas eq m k with
  | true =>
   have g:=midx_lt hm;exact ⟨m[midx eq m k],by simp [g],by simpa using mput_has hm (uh g)⟩
  | false =>
   refine ⟨(k,d),by simp [midx_eq hm],?_⟩;simp only [um,uJ,midx_eq hm];rw [<- mput_not hm];simp
 obtain ⟨e,f,c⟩:=key;simp only [zF,u,q,l,A,p,r,D,b,uT,ut,aEntryStore,yy,E,h0,uy,sn,f,uY,oh,ext_put,<- c,List.map_set];rfl
theorem ops_mlen {Q:List AV->AH->Prop} {rest:List Oper} {a:List AV} {c:Call} (i:aG ops o env=some true) (p:o.op=.call c) (hc:c.callee=.builtin .len) (s:c.args=#[x]) (b:c.argTypes=#[t]) (g:P.underlying t=some (.map kt et))
  (q:yu env x=some (.map (h.blks.length+j))) (r:L[j]?=some (.mapo (m.map (wG kv vv)) 0)) (hd:wL o.dst env (.int .i64 m.length)=some a) (l:zS P ops Q rest a (h.ext L M)):zS P ops Q (o::rest) env (h.ext L M):=by
 obtain ⟨n,f⟩:=zX q;have key:zF P o env (h.ext L M)=.any λv e=>e=h.ext L M/\v=.int .i64 m.length:=by
  simp [zF,p,hc,s,b,n,f,aBuiltin,g,yy,r]
 refine qT ?_;simp only [i,gwp,key,rwp]
 rintro v e ⟨rfl,rfl⟩
 rw [xT hd];exact l

theorem mgetD_app {eq:K->K->Bool} {d:W} {k:K} (a:eq k k=true):∀{m:List (K×W)},yQ eq d (m++[(k,d)]) k=yQ eq d m k
 | []=>by simp [yQ,a]
 | e::r=>by simp [yQ,mgetD_app a]
theorem mgetD_ment {eq:K->K->Bool} {d:W} {k:K} (a:eq k k=true) {m:List (K×W)}:yQ eq d (ment eq d m k) k=yQ eq d m k:=by
 unfold ment;split
 ·rfl
 ·exact mgetD_app a
def MapE (h:AH) (j:Nat) (m1 m2:List (AV×AV)) (x:AH):Prop:=∃B T,x=h.ext B T/\(B[j]?=some (.mapo m1 0) \/ B[j]?=some (.mapo m2 0))
theorem e_lookupF (e:o.op=.lookup t x y false) (g:P.underlying t=some (.map kt et)) (a:KQ P kt kv eq) (l:aZeroM P et=some (vv d)) (i:yu env x=some (.map (h.blks.length+j))) (f:yu env y=some (kv k)) :
  ∀c,MapE h j (m.map (wG kv vv)) ((ment eq d m k).map (wG kv vv)) c->zF P o env c=.ok (vv (yQ eq d m k)) c:=by
 rintro _ ⟨B,T,rfl,b | b⟩
 ·exact e_lookup e g a l i b f
 ·rw [<- mgetD_ment (m:=m) (d:=d) (a.2 k)];exact e_lookup e g a l i b f
theorem FOk.skip {b:Nat} {Ns:List Nat} {F:Nat->AH->Prop} {h:AH} (c:Ns.all (λn=>b.testBit n)=true):FOk b Ns F h:=λn e a=>by
 simp_all
end
end Go.Vv
namespace Go.Vv
open Go Go.RowKit
variable {ops:Array Oper} {rest:List Oper} {env':List AV}
section
variable {α ρ σ:Type}
open Classical in
end
section
variable {P:Program} {env:List AV} {h:AH} {Q:Exit->List AV->AH->Prop}
theorem ops_entryM {K W:Type} {kv:K->AV} {vv:W->AV} {Q:List AV->AH->Prop} {o:Oper} {env:List AV} {h:AH} {L:List Blk} {M:List Nat} {x:Operand} {m:List (K×W)} {id j i:Nat} {y:K×W} {a:List Nat}
  (e:aG ops o env=some true) (k:o.op=.entry x) (n:yu env x=some (.ptr (h.blks.length+j) 0)) (q:L[j]?=some (.miter id m.length (a++[i]))) (d:(h.ext L M).blk id=some (.mapo (m.map (wG kv vv)) 0)) (l:m[i]?=some y)
  (hd:wL o.dst env (.tup [kv y.1,vv y.2])=some env') (f:zS P ops Q rest env' (h.ext L M)):zS P ops Q (o::rest) env (h.ext L M):=by
 obtain ⟨g,c⟩:=zX n;have key:wd P o env (h.ext L M)=some [(.tup [kv y.1,vv y.2],h.ext L M)]:=by
  simp [wd,k,g,c,yy,q,d,l,wG]
 refine awpOps_consB e ⟨_,key,λp b=>?_⟩;simp only [uE] at b;subst b;show zS P ops Q rest (setd env o.dst (.tup [kv y.1,vv y.2])) _;rw [xT hd];exact f
theorem wx {Q:List AV->AH->Prop} {o:Oper} {env:List AV} {h a:AH} {v:AV} (e:aG ops o env=some true) (d:wd P o env h=some [(v,a)]) (hd:wL o.dst env v=some env') (c:zS P ops Q rest env' a):zS P ops Q (o::rest) env h:=by
 refine awpOps_consB e ⟨_,d,λp b=>?_⟩;simp only [uE] at b;subst b;show zS P ops Q rest (setd env o.dst v) a;rw [xT hd];exact c
end
end Go.Vv
namespace Go.Vv
open Go Go.RowKit Go.ChangeShapes Go.WideShapes Go.ChangeAt
variable {t:TypeId} {α:Type} {n total off:Nat}

def g0 (W:World):Gh:={ Φ:=λb j=>if b < W.heap.size then W.cell? ⟨b,j,none⟩ else none,σ:=[],τ:=[],δ:=[],O:=λb=>b < W.heap.size }
def h0:AH:={ blks:=[],toks:=[] }
theorem rel0 (W:World):Rel W.heap.size W (g0 W) h0 W:=by
 refine ⟨Below.refl _ _,ug _,λb j v h=>?_,rfl,λi c k hc _=>by simp [g0] at hc,rfl,λi t a=>by simp [g0] at a,λi j c hi=>by simp [g0] at hi,λi j t t' b x y hi=>by simp [g0] at hi,λi c j t b x hi=>by simp [g0] at hi,λc hc=>by simp [g0] at hc,λi k hi=>by simp [g0] at hi,λi j t k k' es es' hi=>by simp [h0] at hi,λb x h=>by simp [g0] at h,λb h=>⟨h,λs=>by simp [g0]⟩,λb _=>⟨λi=>by simp [g0],by simp [g0],λi t y a=>by simp [g0] at a⟩⟩;simp only [g0] at h
 simp_all

section
variable {H:Type} {enc:TypeId×Value->H} {P:Program} {W:World}
mutual
def w8:DataW H->Nat
 | .lit (.string bytes)=>bytes.length+1
 | .lit _=>1
 | .nil=>1
 | .ptr d=>w8 d+1
 | .slice elems spare=>w7 elems+w7 spare+1
 | .agg parts=>w7 parts+1
 | .iface _ d=>w8 d+1
 | .map entries=>vBulkEs entries+1
 | .held _=>1
def w7:List (DataW H)->Nat
 | []=>0
 | d::r=>w8 d+w7 r
def vBulkEs:List (Lit×DataW H)->Nat
 | []=>0
 | x::r=>vBulkEs r+vBulkE x
def vBulkE:Lit×DataW H->Nat
 | (.string bytes,d)=>bytes.length+w8 d+1
 | (_,d)=>w8 d+1
end
theorem sum_bulk {α:Type} {bk:α->Nat}:∀{l:List α} {ds:List (DataW H)},l.length=ds.length->(∀(i:Nat) (a:α) (d:DataW H),l[i]?=some a->ds[i]?=some d->bk a<=w8 d)->(l.map bk).sum<=w7 ds
 | [],_,_,_=>by simp
 | a::r,[],hl,_=>by simp at hl
 | a::r,d::ds,hl,h=>by
  have e:=h 0 a d rfl rfl;have c:=sum_bulk (bk:=bk) (l:=r) (ds:=ds) (by simp_all) (λi x y f b=>h (i+1) x y (by simp_all) (by simp_all));simp only [uw,px,w7];omega
def RdN (enc:TypeId×Value->H) (P:Program) (W:World) (n:Nat) (t:TypeId) {α:Type} (row:α->List AV) (wf:α->Prop) (bk:α->Nat):Prop :=
 ∀cs x,DataW.trod enc P W 0 (λ_=>true) true n t cs=some x->∃y,VL (g0 W) (row y) cs/\wf y/\bk y<=w8 x.1
theorem RdN.zero {row:α->List AV} {wf:α->Prop} {bk:α->Nat}:RdN enc P W 0 t row wf bk:=λcs x h=>by simp [DataW.trod] at h
theorem RdN.map {e:Type} {row:α->List AV} {wf:α->Prop} {b:e->List AV} {d:e->Prop} {bk:α->Nat} {c:e->Nat} (f:α->e) (h:RdN enc P W n t row wf bk) (m:∀a,b (f a)=row a) (l:∀a,wf a->d (f a)) (j:∀a,c (f a)=bk a):RdN enc P W n t b d c:=λcs x g=>by
 obtain ⟨y,k,i,o⟩:=h cs x g
 grind
theorem rd_int {k:IntKind} (b:P.underlying t=some (.int k)):RdN enc P W n t (intRow k) (InK k) (λ_=>1):=by
 cases n with
 | zero=>exact RdN.zero
 | succ n =>
  intro cs x h;rw [DataW.trod_step] at h;unfold DataW.trodStep at h;rw [b] at h;split at h <;> simp_all;obtain ⟨⟨rfl,a⟩,rfl⟩:=h;exact ⟨_,VL.cons (by rfl) (by simp [VL]),by simpa [Lit.wf,InK] using a,by simp [w8]⟩
theorem rd_str (a:P.underlying t=some .string):RdN enc P W n t zW (λs=>s.length<=maxLen) (λs=>s.length+1):=by
 cases n with
 | zero=>exact RdN.zero
 | succ n =>
  intro cs x h;rw [DataW.trod_step] at h;unfold DataW.trodStep at h;rw [a] at h;split at h <;> simp_all;rename_i s;have hs:s.data.toList.length=s.size:=rfl;obtain ⟨h,rfl⟩:=h;refine ⟨s.data.toList,VL.cons ?_ (by simp [VL]),by omega,by simp [w8]⟩;simp only [V]
  simp_all
theorem mapM_get {α e:Type} {f:α->Option e}:∀{l:List α} {xs:List e},l.mapM f=some xs->∀a ∈ l,∃x,f a=some x
 | [],_,_,a,c=>by cases c
 | b::r,xs,h,a,c=>by
  simp only [rd,sP,th,ry,ui] at h;obtain ⟨v,g,vs,d,rfl⟩:=h;rcases uP.1 c with rfl | c
  ·simp_all
  ·exact mapM_get d a c
theorem mapM_len {α c:Type} {f:α->Option c}:∀{l:List α} {xs:List c},l.mapM f=some xs->xs.length=l.length
 | [],_,h=>by simp_all
 | b::r,xs,h=>by
  simp only [rd,sP,th,ry,ui] at h;obtain ⟨v,d,vs,a,rfl⟩:=h;simp [mapM_len a]
theorem mapM_at {α d:Type} {f:α->Option d}:∀{l:List α} {xs:List d},l.mapM f=some xs->∀(i:Nat) (a:α),l[i]?=some a->∃x,f a=some x/\xs[i]?=some x
 | [],_,_,i,a,ha=>by simp at ha
 | b::r,xs,h,i,a,ha=>by
  simp only [rd,sP,th,ry,ui] at h;obtain ⟨v,e,vs,c,rfl⟩:=h;cases i with
  | zero=>simp at ha;subst ha;exact ⟨v,e,rfl⟩
  | succ i=>simpa using mapM_at c i a (by simp_all)
theorem ones_of_pure {a5:List AV} (h:a5.all AV.pure=true):a5.all AV.one=true:=by
 rw [ur] at h ⊢;exact λa b=>AV.one_of_pure (h a b)
theorem rd_slice {e:TypeId} {k:Nat} {row:α->List AV} {wf:α->Prop} {bk:α->Nat} (U:P.underlying t=some (.slice e)) (hc:P.cellsOf e=k) (Z:0 < k) (S:∀y,(row y).length=k) (I:∀y,(row y).all AV.pure=true) (T:∀m,m < n->RdN enc P W m e row wf bk) :
  RdN enc P W n t (λL=>[AV.sl k (L.map row)]) (λL:List α=>L.length<=maxLen/\∀y ∈ L,wf y) (λL=>(L.map bk).sum+1):=by
 cases n with
 | zero=>exact RdN.zero
 | succ n =>
  intro cs x h;rw [DataW.trod_step] at h;unfold DataW.trodStep at h;rw [U] at h;split at h
  all_goals first | (exfalso;simp_all;done) | skip
  ·-- nil
   cases h;exact ⟨[],VL.cons (by simp only [V];exact ⟨none,0,rfl,by simp,by simp,.inl rfl⟩) (by simp [VL]),⟨by simp,λy s=>by cases s⟩,by simp [w8]⟩
  ·rename_i _ _ O a len cap A;injection A with A;injection A with A;subst A;simp only [hc] at h;split at h
   ·rename_i N;obtain ⟨_,X,r⟩:=N;rcases hel:(List.range len).mapM λi=>(W.cells? 0 (a.add (i * k)) k).bind (DataW.trod enc P W 0 (λ_=>true) true n e) with _ | b
    ·simp_all
    ·-- the elements,one by one
     have D:b.length=len:=by rw [mapM_len hel];simp
     have E:w7 (b.map (·.1))+1<=w8 x.1:=by
      rw [hel] at h;simp only [ua,sd] at h;obtain ⟨rest,_,rfl⟩:=h;simp only [w8];omega
     have key:∀i,i < len->∃y us,W.cells? 0 (a.add (i * k)) k=some us/\VL (g0 W) (row y) us/\wf y/\∀z,b[i]?=some z->bk y<=w8 z.1:=by
      intro i hi;obtain ⟨z,G,R⟩:=mapM_at hel i i (r9 hi);rcases hcs:W.cells? 0 (a.add (i * k)) k with _ | us
      ·simp_all
      ·rw [hcs] at G;obtain ⟨y,l,F,h3⟩:=T n (Nat.lt_succ_self n) us z G
       grind
     rcases sU len with h0 | q
     ·subst h0;exact ⟨[],VL.cons (by simp only [V];exact ⟨some a,cap,rfl,by simp,r,.inl rfl⟩) (by simp [VL]),⟨by simp,λy s=>by cases s⟩,by simp;omega⟩
     ·have B:Nonempty α:=⟨(key 0 q).choose⟩
      have w:∀i,∃y,i < len->∃us,W.cells? 0 (a.add (i * k)) k=some us/\VL (g0 W) (row y) us/\wf y/\∀z,b[i]?=some z->bk y<=w8 z.1:=by
       intro i;by_cases hi:i < len
       ·simp_all
       ·exact ⟨Classical.choice B,λh=>absurd h hi⟩
      obtain ⟨f,J⟩:=Classical.axiomOfChoice w
      -- no place within a cell
      have c:a.spot=none:=by
       obtain ⟨us,l,_⟩:=J 0 q;unfold World.cells? at l;rw [uz (tD _)] at l;obtain ⟨v,p⟩:=mapM_get l 0 (by simp_all);simp only [Nat.zero_mul] at p;have Y:(a.add 0).add 0=a:=by rfl
       rw [Y] at p;unfold World.cell? at p;split at p
       ·simp_all
       ·cases p
      have M:a=⟨a.block,a.off,none⟩:=by cases a;simp at c;simp [c]
      refine ⟨(List.range len).map f,VL.cons ?_ (by simp [VL]),⟨by simp;omega,λy s=>?_⟩,?_⟩
      ·simp only [V];refine ⟨some a,cap,by simp,by grind,r,.inr ⟨a.block,a.off,congrArg some M,VE.mk λi O o=>?_⟩⟩;simp only [rF,sn] at o;have hi:i < len:=by
        grind
       rw [r9 hi] at o;simp only [uY,Function.comp,ui] at o;subst o;obtain ⟨us,l,F,_,_⟩:=J i hi;refine ⟨S _,VC.ofVA (VA.mk F (ones_of_pure (I _))) (I _) λj u K=>?_⟩;unfold World.cells? at l;rw [uz (tD _)] at l;have C:j < k:=by
        have:=(uc.1 K).1;rw [mapM_len l] at this;simpa using this
       obtain ⟨v,p,g⟩:=mapM_at l j j (r9 C);rw [K] at g;injection g with g;subst g;have Q:(a.add (i * k)).add j=⟨a.block,a.off+i * k+j,none⟩:=by
        rw [M,wi,wi]
       rw [Q] at p;simp only [g0];rw [uz (World.block_lt_of_cell? W _ p)];exact p
      ·grind
      ·refine uA (Nat.add_le_add_right (sum_bulk (bk:=bk) (ds:=b.map (·.1)) (by simp [D]) λi y d s hd=>?_) 1) E
       grind
   ·cases h

def RdF (enc:TypeId×Value->H) (P:Program) (W:World) (n:Nat) (total off:Nat) (fs:List Field) {α:Type} (row:α->List AV) (wf:α->Prop) (bk:α->Nat):Prop :=
 ∀(cs:List Value) xs,cs.length=total->(fs.mapM λf=>DataW.trod enc P W 0 (λ_=>true) true n f.type ((cs.drop f.offset).take (P.cellsOf f.type)))=some xs->∃y,VL (g0 W) (row y) (cs.drop off)/\wf y/\bk y<=w7 (xs.map (·.1))
theorem rf_nil (h:total<=off):RdF enc P W n total off [] (λ_:Unit=>[]) (λ_=>True) (λ_=>0):=λcs xs a _=>⟨(),by rw [tj (by omega)];simp [VL],trivial,tD _⟩
theorem wC {k a:Nat} {f:Field} {fs:List Field} {i:Type} {row:α->List AV} {wf:α->Prop} {b:i->List AV} {d:i->Prop} {bk:α->Nat} {c:i->Nat} (s:f.offset=off) (hc:P.cellsOf f.type=k) (g:off+k=a) (h:RdN enc P W n f.type row wf bk) (r:RdF enc P W n total a fs b d c) :
  RdF enc P W n total off (f::fs) (λp:α×i=>row p.1++b p.2) (λp=>wf p.1/\d p.2) (λp=>bk p.1+c p.2):=by
 intro cs xs u m;simp only [rd,sP,th,ry,ui] at m;obtain ⟨v,A,vs,j,rfl⟩:=m;obtain ⟨y,l,o,B⟩:=h _ _ A;obtain ⟨z,w,q,x⟩:=r _ _ u j;refine ⟨(y,z),?_,⟨o,q⟩,by simp only [uw,w7];omega⟩;have e:cs.drop off=(cs.drop off).take k++cs.drop a:=by
  rw [<- g,<- tn,rM]
 rw [e];rw [s,hc] at l;exact VL.append l w
theorem rd_struct {fs:Array Field} {l:List Field} {row:α->List AV} {wf:α->Prop} {bk:α->Nat} (i:P.underlying t=some (.struct fs)) (d:fs.toList=l) (hc:P.cellsOf t=total) (h:∀m,m < n->RdF enc P W m total 0 l row wf bk):RdN enc P W n t row wf (λy=>bk y+1):=by
 cases n with
 | zero=>exact RdN.zero
 | succ n =>
  intro cs x a;rw [DataW.trod_step] at a;unfold DataW.trodStep at a;rw [i] at a;split at a
  all_goals first | (exfalso;simp_all;done) | skip
  rename_i cs _ _ g c;injection c with c;injection c with c;subst c;split at a
  ·rename_i b;rw [d] at a;rcases hm:(l.mapM λf=>DataW.trod enc P W 0 (λ_=>true) true n f.type ((cs.drop f.offset).take (P.cellsOf f.type))) with _ | xs
   ·simp_all
   ·obtain ⟨y,j,e,k⟩:=h n (Nat.lt_succ_self n) cs xs (by rw [b,hc]) hm;rw [hm] at a;simp only [uY,ui] at a;subst a;exact ⟨y,by simp_all,e,by simp only [w8];omega⟩
  ·cases a
theorem rd_arg {row:α->List AV} {wf:α->Prop} {bk:α->Nat} {v:Value} {d:DataW H} {p:List MemPlace} (a:∀n,RdN enc P W n t row wf bk) (h:DataW.Trod enc P W 0 (λ_=>true) true t v d p):∃y,VL (g0 W) (row y) v.cells.toList/\wf y/\bk y<=w8 d:=by
 obtain ⟨n,b⟩:=h;exact a n _ _ b
theorem V.of_one {a:AV} {v:Value} {g:Gh} (b:∀cs,v ≠ .agg cs) (h:VL g [a] v.cells.toList):V g a v:=by
 simp only [VL] at h;obtain ⟨u,s,e,c,rfl⟩:=h;have:v.cells=#[v]:=by cases v <;> first | rfl | exact absurd rfl (b _)
 simp_all
theorem post_of_below {f:Func} {s:ChangeSpec} {apart l c i:Bool} {W':World} {args:Array Value} {v:Value} {ds gs:List (DataW H)} {a q pv:List MemPlace}
  (w:DataW.Whole enc P f.params.toList s.vars apart W args.toList ds gs a) (y:Below W.heap.size W W')
  (h:∀(b:Nat) (k:Nat->Bool) (hd:Bool),DataW.TrodAll enc P W' b k hd f.resultTypes.toList (v.resultList f.resultTypes.size) (s.fn H (ds++gs)).results [])
  (d:∀k:Nat->Bool,(∀p ∈ a,k p.block=true)->DataW.TrodAll enc P W' 0 k true f.params.toList args.toList (s.fn H (ds++gs)).args q)
  (e:∀k:Nat->Bool,(∀p ∈ a,k p.block=true)->DataW.TrodVars enc P W' k s.vars (s.fn H (ds++gs)).vars pv)
  (A:a=q++pv)
  (x:∀(j:Nat) (t:TypeId) (r:Value),f.resultTypes[j]?=some t->(v.resultList f.resultTypes.size)[j]?=some r->Value.okWide P W' .any 0 t r) :
  s.post enc P f apart l c i W args v W':=by
 have u:∀p ∈ a,p.block < W.heap.size:=λp o=>by simpa using w.lt p o
 have g:∀p ∈ a,(λb=>decide (b < W.heap.size)) p.block=true:=λp o=>by simp_all
 refine ⟨ds,gs,a,[],q,pv,w,h _ _ _,d _ g,e _ g,World.keptBut_mono (λp o=>⟨o,?_⟩) (y.frame (· ∈ a)),λ_=>?_⟩
 ·simp_all
 ·obtain ⟨_,_,_,_,_,z,B⟩:=w;refine ⟨x,_,_,([]++q)++pv,⟨[]++q,pv,trodAll_append (d _ (λ_ _=>rfl)) (h _ _ _),e _ (λ_ _=>rfl),rfl,?_,?_⟩,?_⟩
  ·intro b off o;have m:MemPlace.cell b off ∈ a:=by simp_all
   rw [y.frozen (p:=⟨b,off,none⟩) (u _ m)];exact z b off m
  ·simp_all
  ·simp_all
end
end Go.Vv
namespace Go.Vv
open Go Go.ChangeShapes Go.WideShapes
theorem returns_cond_shaped {H:Type} {enc:TypeId×Value->H} {a:Assume} {C:Checked} {os:Os} {f:FuncId} {fn:Func} {s:OpenSpec} {k:(H:Type)->List (DataW H)->Bool} (J:s.cond=some k) {F:Stop.Interp} {g:List PathCond} {apart m d l:Bool}
  (B:ownKnob C.prog.godebug=none) (n:os.Started) (p:C.prog.inits.idxOf? f=none) (G:C.prog.funcs[f]?=some fn)
  (o:∃(w:World) (b:Tape) (i:Input),w.os=os/\(w.forCall b i).Shaped C.prog/\i.vars=[]/\Input.okWide C.prog (w.forCall b i) .any w.heap.size f i /\
   s.pre6 enc C.prog fn g apart (w.forCall b i).memory i.args/\a.holds C.prog (lone (Frame.enter C.prog f i.args .normal) [] (w.forCall b i)))
  (h:∀(W:World) (q:Nat) (args:Array Value) (ds gs:List (DataW H)) (c:List MemPlace),
   (∀(j:Nat) t v,fn.params[j]?=some t->args[j]?=some v->Value.okWide C.prog W .any q t v) ->
   DataW.Whole enc C.prog fn.params.toList s.vars apart W args.toList ds gs c->k H (ds++gs)=true->W.ShapedOpen C.prog ->
   Calls C.prog f args W λe W'=>∃v,e=.returned v/\(s.at F).post enc C.prog fn apart m d l W args v W') :
  ReturnsInHanded a C os f .any (s.pre6 enc C.prog fn g apart) ((s.at F).post enc C.prog fn apart m d l):=by
 refine returnsInHanded_of_calls B n p o ?_;intro w b i _ E _ D x y;obtain ⟨_,_,_,I,u,_,_,_,_,r⟩:=D;have e:I=fn:=uo (u.symm.trans G);subst e;obtain ⟨ds,gs,c,L,hc,A⟩:=(OpenSpec.pre_some J g apart _ _).1 x.1;have z:=DataW.Whole.of_heap (w':=w.forCall b i) (by rfl) L;refine (h (w.forCall b i) w.heap.size i.args ds gs c r z A E).mono λe W' ⟨v,M,K⟩=>?_;subst M;exact ChangeSpec.post_blind K
end Go.Vv
namespace Go.Vv
open Go
section
variable {α ρ σ:Type}
@[simp] theorem lp_none {rest:σ->Option ρ}:lp (none:Option (ρ ⊕ σ)) rest=none:=rfl
@[simp] theorem lp_inl {rest:σ->Option ρ} {r:ρ}:lp (some (.inl r)) rest=some r:=rfl
@[simp] theorem yO {rest:σ->Option ρ} {s:σ}:lp (some (.inr s)) rest=rest s:=rfl
theorem zu {p:Prop} [Decidable p] {o:Option ρ} (h:p):yM p o=o:=uz h
theorem loopL_all {f:Nat->α->Unit->Option (Out ρ Unit)} (p:α->Bool) (r:ρ):∀(L:List α) (i:Nat),(∀i x,x ∈ L->f i x ()=if p x=true then some (.nxt ()) else some (.ret r))->zD f L i ()=if L.all p=true then some (.inr ()) else some (.inl r)
 | [],_,_=>rfl
 | x::t,i,h=>by
  have b:=loopL_all p r t (i+1) (λi y a=>h i y (tJ _ a));simp only [zD,h i x (tT ..)]
  grind
theorem loopL_fold {f:Nat->α->σ->Option (Out ρ σ)} (g:σ->α->σ):∀(L:List α) (i:Nat) (s:σ),(∀i x s,x ∈ L->f i x s=some (.nxt (g s x)))->zD f L i s=some (.inr (L.foldl g s))
 | [],_,_,_=>rfl
 | x::t,i,s,h=>by
  simp only [zD,h i x s (tT ..),tU];exact loopL_fold g t (i+1) (g s x) (λi y s a=>h i y s (tJ _ a))
theorem loopL_first {f:Nat->α->Unit->Option (Out ρ Unit)} (p:α->Bool) (r:Nat->α->ρ):∀(L:List α) (i:Nat),(∀i x,x ∈ L->f i x ()=if p x=true then some (.ret (r i x)) else some (.nxt ())) ->
  zD f L i ()=match L.findIdx? p with
   | none=>some (.inr ())
   | some j=>match L[j]? with | some x=>some (.inl (r (i+j) x)) | none=>none
 | [],_,_=>rfl
 | x::t,i,h=>by
  have b:=loopL_first p r t (i+1) (λi y a=>h i y (tJ _ a));simp only [zD,h i x (tT ..),List.findIdx?_cons]
  grind
def firstI (q:α->Bool) (p:List α):Int:=match p.findIdx? q with | some j=>(j:Int) | none=>-1
theorem first_loop {f:α->Option Bool} {q:α->Bool} (p:List α) (d:∀x ∈ p,f x=some (q x)):lp (zD (λ(a:Nat) (b:α) (_:Unit)=>(((f b).bind λc=>(if c=true then some (.ret (a:Int)) else some (.nxt ()))):Option (Out _ Unit))) p 0 ()) (λ(_:Unit)=>some (-1:Int))=some (firstI q p):=by
 rw [loopL_first q (λi _=>(i:Int)) _ _ (λi x g=>by simp_all)];unfold firstI;cases h:p.findIdx? q with
 | none=>simp
 | some j =>
  obtain ⟨e,_⟩:=sG.1 h
  simp_all
theorem firstI_any (q:α->Bool) (p:List α):decide (firstI q p >= 0)=p.any q:=by
 unfold firstI
 grind
theorem idx_at {M:List α} {i:Nat} (h:i < M.length):yB M (i:Int)=some M[i]:=by
 unfold yB;rw [uz (by omega),uy,uh h]
theorem slc_at {L:List α} {lo hi:Int} (h:0<=lo/\lo<=hi/\hi<=L.length):slc L lo hi=some ((L.take hi.toNat).drop lo.toNat):=uz h
theorem w64n {n:Int} (h:-9223372036854775808<=n/\n<=9223372036854775807):IntKind.wrap .i64 n=n:=by rw [IntKind.wrap_i64];omega
end
end Go.Vv
namespace Go.Vv
open Go Go.RowKit
section
variable {P:Program} {o:Oper} {env:List AV} {h:AH} {L:List Blk} {M:List Nat} {nb nt:Nat}
end
section
variable {P:Program} {o:Oper} {env:List AV} {h:AH} {α:Type} {row:α->List AV} {L M:List α} {nb nt:Nat}
end

def AH.closed (h:AH) (n t:Nat):Prop:=∀b ∈ h.blks,b.low n t=true
theorem Blk.low_up {n e m f:Nat} (a:n<=e) (h:m<=f):∀b:Blk,b.low n m=true->b.low e f=true
 | .cells cs,hl=>yF a h cs hl
 | .bld _ x,hl=>AV.low_up a h x hl
 | .mapo es c,hl=>by
  simp only [Blk.low,ur,ud] at hl ⊢;exact λp d=>⟨AV.low_up a h _ (hl p d).1,AV.low_up a h _ (hl p d).2⟩
 | .loop _ _ env _ _ _,hl=>yF a h env hl
 | .row _ _ _,hl=>by simp only [Blk.low,uk] at hl ⊢;omega
 | .miter _ _ _,hl=>by simp only [Blk.low,uk] at hl ⊢;omega
 | .siter _ _,_ | .miter0,_ | .other,_ | .dead,_=>rfl
theorem closed_of_rel {B:Nat} {w0 w:World} {g:Gh} {h:AH} (r:Rel B w0 g h w):h.closed h.blks.length h.toks.length:=λb a=>by
 obtain ⟨i,hi⟩:=u2.1 a;have:=r.isLow hi
 rwa [r.slen,r.tlen] at this
theorem yg {P : Program} {f : FuncId} {fn : Func} {c : Code} (hf : P.funcs[f]? = some fn) (hb : fn.body = some c) (hname : (fn.name == "runtime.NumGoroutine") = false) {args : List AV} {h : AH} {K : AV → AH → Prop} {env : List AV}
  (he:args++List.replicate (fn.ntmps - args.length) aundef=env) (hw:zR h.blks.length h.toks.length args=true->h.closed h.blks.length h.toks.length->vN P c (bodyQ P fn h K) env (h.ext [] [])):Spec P f args h K:=by
 refine ⟨λvs w=>?_,λB w0 _ g w vs r hv=>?_⟩
 ·have hn : ¬ fn.name = "runtime.NumGoroutine" := by simpa using hname
  simp [callFunc,hf,hb,hn]
 ·have hl:=hv.isLow;rw [r.slen,r.tlen] at hl;exact (zc hf hb hname he (hw hl (closed_of_rel r))).2 B w0 g w vs r hv
section
variable {P:Program} {h:AH} {A A' L B:List Blk} {T T' M C:List Nat} {nb nt:Nat} {o:Oper} {env:List AV}
end
section
variable {β:Type} {h:β->AH} {h0 h1:AH} {nb nt k:Nat} {lp:LoopState->Option Code->Blk} {env:List AV} {A:β->List Blk} {T:β->List Nat} {A0 A' L B:List Blk} {T0 T' M C:List Nat} {b':β} {o:Bool×(β×Option Nat)}
end
theorem SpecY.le {P:Program} {id:Nat} {a5 bs:List AV} {h:AH} {K:AV->AH->Prop} (s:SpecY P id bs h K) (k:leL a5 bs):SpecY P id a5 h K :=
 λB w0 _ g w vs c r a hc=>s B w0 g w vs c r (k _ _ a) hc
end Go.Vv
