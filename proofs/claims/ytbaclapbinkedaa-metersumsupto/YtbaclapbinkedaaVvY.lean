/- The functional reading of a function, which the printed proofs follow; and the rules of that. -/
import Derived.Test.YtbaclapbinkedaaVvV
namespace Go.Vv
open Go

abbrev yg:=List UInt8
def InK (k:IntKind) (n:Int):Prop:=k.min≤n∧n≤k.max
inductive Out (ρ σ:Type) where
 | ret (r:ρ)
 | brk (s:σ)
 | nxt (s:σ)
section
variable {α ρ σ:Type}
def zV (f:Nat→α→σ→Option (Out ρ σ)):List α→Nat→σ→Option (ρ ⊕ σ)
 | [],_,s=>some (.inr s)
 | x::t,i,s=>match f i x s with
  | none=>none
  | some (.ret r)=>some (.inl r)
  | some (.brk s')=>some (.inr s')
  | some (.nxt s')=>zV f t (i+1) s'
def qt (f:σ→Option (Out ρ σ)):Nat→σ→Option (ρ ⊕ σ)
 | 0,_=>none
 | n+1,s=>match f s with
  | none=>none
  | some (.ret r)=>some (.inl r)
  | some (.brk s')=>some (.inr s')
  | some (.nxt s')=>qt f n s'
theorem loopN_more {f:σ→Option (Out ρ σ)}:∀ {n m:Nat} {s:σ} {o:ρ ⊕ σ},qt f n s=some o→n≤m→qt f m s=some o
 | 0,_,_,_,h,_=>by simp [qt] at h
 | n+1,0,_,_,_,hl=>by omega
 | n+1,m+1,s,o,h,hl=>by
  simp only [qt] at h ⊢
  rcases hf:f s with _ | (r | s' | s') <;> rw [hf] at h <;> simp only at h ⊢
  ·cases h
  ·exact h
  ·exact h
  ·exact loopN_more h (by omega)
open Classical in
noncomputable def wg (f:σ→Option (Out ρ σ)) (s:σ):Option (ρ ⊕ σ) :=
 if h:∃ n o,qt f n s=some o then some (Classical.choose (Classical.choose_spec h)) else none
theorem loopW_of {f:σ→Option (Out ρ σ)} {n:Nat} {s:σ} {o:ρ ⊕ σ} (h:qt f n s=some o):wg f s=some o:=by
 have hx:∃ n o,qt f n s=some o:=⟨n,o,h⟩
 unfold wg
 rw [dif_pos hx]
 have h1:=Classical.choose_spec (Classical.choose_spec hx)
 have h2:=loopN_more h1 (Nat.le_max_left _ n)
 have h3:=loopN_more h (Nat.le_max_right (Classical.choose hx) n)
 rw [h2] at h3;exact h3
theorem loopW_is {f:σ→Option (Out ρ σ)} {s:σ} {o:ρ ⊕ σ} (h:wg f s=some o):∃ n,qt f n s=some o:=by
 unfold wg at h
 split at h
 ·rename_i hx
  injection h with h;subst h
  exact ⟨_,Classical.choose_spec (Classical.choose_spec hx)⟩
 ·cases h
theorem loopW_eq (f:σ→Option (Out ρ σ)) (s:σ):wg f s=match f s with
  | none=>none
  | some (.ret r)=>some (.inl r)
  | some (.brk s')=>some (.inr s')
  | some (.nxt s')=>wg f s':=by
 rcases hf:f s with _ | (r | s' | s') <;> simp only
 ·cases hx:wg f s with
  | none=>rfl
  | some o =>
   obtain ⟨n,hn⟩:=loopW_is hx
   cases n <;> simp [qt,hf] at hn
 ·exact loopW_of (n:=1) (by simp only [qt,hf])
 ·exact loopW_of (n:=1) (by simp only [qt,hf])
 ·cases hx:wg f s' with
  | some o =>
   obtain ⟨n,hn⟩:=loopW_is hx
   exact loopW_of (n:=n+1) (by simp only [qt,hf];exact hn)
  | none =>
   cases hy:wg f s with
   | none=>rfl
   | some o =>
    obtain ⟨n,hn⟩:=loopW_is hy
    cases n with
    | zero=>simp [qt] at hn
    | succ n =>
     simp only [qt,hf] at hn
     rw [loopW_of hn] at hx;cases hx
def lp (o:Option (ρ ⊕ σ)) (rest:σ→Option ρ):Option ρ :=
 match o with
 | none=>none
 | some (.inl r)=>some r
 | some (.inr s)=>rest s
def vN (p:Prop) [Decidable p] (o:Option ρ):Option ρ:=if p then o else none
def qJ (L:List α) (n:Int):Option α:=if 0≤n then L[n.toNat]? else none
def slc (L:List α) (lo hi:Int):Option (List α):=if 0≤lo∧lo≤hi∧hi≤L.length then some ((L.take hi.toNat).drop lo.toNat) else none

theorem zK {α ρ:Type} {o:Option α} {k:α→Option ρ} {r:ρ} {G:Prop} (hF:o.bind k=some r) (hk:∀ v,o=some v→k v=some r→G):G:=by
 cases o with
 | none=>cases hF
 | some v=>exact hk v rfl hF
theorem wi {α ρ:Type} {b:Bool} {d:α} {o:Option α} {k:α→Option ρ} {r:ρ} {G:Prop} (hF:(if b=true then o else some d).bind k=some r) (hk:∀ v,(b=true→o=some v)→k v=some r→G):G:=by
 cases b with
 | false=>exact hk d (fun h=>by cases h) hF
 | true =>
  cases o with
  | none=>cases hF
  | some v=>exact hk v (fun _=>rfl) hF
theorem wc {p:Prop} [Decidable p] {o:Option ρ} {r:ρ} {G:Prop} (hF:vN p o=some r) (hk:p→o=some r→G):G:=by
 unfold vN at hF
 split at hF
 ·rename_i h;exact hk h hF
 ·cases hF
theorem idxF {L:List α} {n:Int} {y:α} (h:qJ L n=some y):0≤n∧L[n.toNat]?=some y:=by
 unfold qJ at h
 split at h
 ·rename_i h0;exact ⟨h0,h⟩
 ·cases h
theorem slcF {L M:List α} {lo hi:Int} (h:slc L lo hi=some M):(0≤lo∧lo≤hi∧hi≤L.length)∧M=(L.take hi.toNat).drop lo.toNat:=by
 unfold slc at h
 split at h
 ·rename_i h0;injection h with h;exact ⟨h0,h.symm⟩
 ·cases h

def konL (f:Nat→α→σ→Option (Out ρ σ)) (L:List α) (i:Nat) (rest:σ→Option ρ):Out ρ σ→Option ρ
 | .ret r=>some r
 | .brk s=>rest s
 | .nxt s=>lp (zV f (L.drop (i+1)) (i+1) s) rest
def konN (f:σ→Option (Out ρ σ)) (n:Nat) (rest:σ→Option ρ):Out ρ σ→Option ρ
 | .ret r=>some r
 | .brk s=>rest s
 | .nxt s=>lp (qt f n s) rest
def konJ (rest:σ→Option ρ):ρ ⊕ σ→Option ρ
 | .inl r=>some r
 | .inr s=>rest s
theorem loopL_step {f:Nat→α→σ→Option (Out ρ σ)} {L:List α} {i:Nat} {s:σ} {rest:σ→Option ρ} {o0:ρ} (h:lp (zV f (L.drop i) i s) rest=some o0) (hl:i < L.length) :
  ∃ x o1,L[i]?=some x∧f i x s=some o1∧konL f L i rest o1=some o0:=by
 have e:=(List.getElem_cons_drop hl).symm
 rw [e] at h
 refine ⟨L[i],?_⟩
 simp only [zV] at h
 split at h
 ·cases h
 ·rename_i r he;exact ⟨.ret r,List.getElem?_eq_getElem hl,he,h⟩
 ·rename_i r he;exact ⟨.brk r,List.getElem?_eq_getElem hl,he,h⟩
 ·rename_i r he;exact ⟨.nxt r,List.getElem?_eq_getElem hl,he,h⟩
theorem loopL_end {f:Nat→α→σ→Option (Out ρ σ)} {L:List α} {i:Nat} {s:σ} {rest:σ→Option ρ} {o0:ρ} (h:lp (zV f (L.drop i) i s) rest=some o0) (hl:¬ i < L.length):rest s=some o0:=by
 rw [List.drop_of_length_le (by omega)] at h
 exact h
theorem lpF {o:Option (ρ ⊕ σ)} {rest:σ→Option ρ} {o0:ρ} (h:lp o rest=some o0):∃ o1,o=some o1∧konJ rest o1=some o0:=by
 cases o with
 | none=>cases h
 | some o1=>cases o1 <;> exact ⟨_,rfl,h⟩
end
section
variable {P:Program} {Q:Exit→List AV→AH→Prop} {env:List AV} {h:AH} {α ρ σ:Type}
theorem zG {c:Operand} {t e:Code} {b:Bool} {A B:Option ρ} {r:ρ} (hc:yZ env c=some (.bool b)) (hF:(if b=true then A else B)=some r) (ht:b=true→A=some r→qU P t Q env h) (he:b=false→B=some r→qU P e Q env h) :
  qU P (.cond c t e) Q env h:=by
 refine r_cond hc (fun hb=>ht hb ?_) (fun hb=>he hb ?_)
 ·rw [if_pos hb] at hF;exact hF
 ·rw [hb,if_neg (by decide)] at hF;exact hF
theorem y7 {f:Nat→α→σ→Option (Out ρ σ)} {L:List α} {i:Nat} {s:σ} {rest:σ→Option ρ} {o0:ρ} {c:Operand} {t e:Code} (hc:yZ env c=some (.bool (decide ((i:Int) < (L.length:Int))))) (hF:lp (zV f (L.drop i) i s) rest=some o0)
  (ht:∀ x o1,i < L.length→L[i]?=some x→f i x s=some o1→konL f L i rest o1=some o0→qU P t Q env h) (he:rest s=some o0→qU P e Q env h):qU P (.cond c t e) Q env h:=by
 refine r_cond hc (fun hb=>?_) (fun hb=>?_)
 ·have hl:i < L.length:=by have:=of_decide_eq_true hb;omega
  obtain ⟨x,o1,h1,h2,h3⟩:=loopL_step hF hl
  exact ht x o1 hl h1 h2 h3
 ·have hl:¬ i < L.length:=by have:=of_decide_eq_false hb;omega
  exact he (loopL_end hF hl)
theorem yw {body:Code} {f:Nat→α→σ→Option (Out ρ σ)} {L:List α} {s0:σ} {rest:σ→Option ρ} {o0:ρ} (U:Nat→σ→List (Nat×AV)) (H:σ→AH) (hF:lp (zV f L 0 s0) rest=some o0) {E:Nat→σ→List AV}
  (_hE:∀ i s,upd env (U i s)=E i s) (h0:wk h env h (E 0 s0) (H s0))
  (hs:∀ i s,i≤L.length→lp (zV f (L.drop i) i s) rest=some o0→qU P body (loopQ (fun env' h'=>∃ s',i < L.length∧lp (zV f (L.drop (i+1)) (i+1) s') rest=some o0∧wk (H s) env' h' (E (i+1) s') (H s')) Q) (E i s) (H s)) :
  qU P (.loop body) Q env h:=by
 refine r_loop (σ:=Nat×σ) (fun p=>E p.1 p.2) (fun p=>H p.2) (fun p=>p.1≤L.length∧lp (zV f (L.drop p.1) p.1 p.2) rest=some o0) (fun p=>L.length - p.1) (0,s0) h0 ⟨Nat.zero_le _,hF⟩ ?_
 rintro ⟨i,s⟩ ⟨hi,hF⟩
 have:=hs i s hi hF
 have e:(loopQ (fun env' h'=>∃ s',i < L.length∧lp (zV f (L.drop (i+1)) (i+1) s') rest=some o0∧wk (H s) env' h' (E (i+1) s') (H s')) Q) =
  fun x env' h'=>match x with | .normal=>∃ s',i < L.length∧lp (zV f (L.drop (i+1)) (i+1) s') rest=some o0∧wk (H s) env' h' (E (i+1) s') (H s') | x=>Q x env' h':=rfl
 refine qS ?_ _ _ _ this
 intro x env' h' hq
 cases x with
 | normal =>
  obtain ⟨s',h1,h2,h3⟩:=hq
  exact ⟨(i+1,s'),⟨h1,h2⟩,by show L.length - (i+1) < L.length - i;omega,h3⟩
 | _=>exact hq
theorem wn {body:Code} {f:σ→Option (Out ρ σ)} {s0:σ} {rest:σ→Option ρ} {o0:ρ} (U:σ→List (Nat×AV)) (H:σ→AH) (hF:lp (wg f s0) rest=some o0) {E:σ→List AV}
  (_hE:∀ s,upd env (U s)=E s) (h0:wk h env h (E s0) (H s0))
  (hs:∀ n s o1,f s=some o1→konN f n rest o1=some o0→qU P body (loopQ (fun env' h'=>∃ s',lp (qt f n s') rest=some o0∧wk (H s) env' h' (E s') (H s')) Q) (E s) (H s)) :
  qU P (.loop body) Q env h:=by
 obtain ⟨n0,hn0⟩:∃ n,lp (qt f n s0) rest=some o0:=by
  obtain ⟨o1,h1,h2⟩:=lpF hF
  obtain ⟨n,hn⟩:=loopW_is h1
  exact ⟨n,by rw [hn];cases o1 <;> exact h2⟩
 refine r_loop (σ:=Nat×σ) (fun p=>E p.2) (fun p=>H p.2) (fun p=>lp (qt f p.1 p.2) rest=some o0) (fun p=>p.1) (n0,s0) h0 hn0 ?_
 rintro ⟨n,s⟩ hF
 cases n with
 | zero=>simp [qt,lp] at hF
 | succ n =>
  obtain ⟨o1,h1,h2⟩:∃ o1,f s=some o1∧konN f n rest o1=some o0:=by
   simp only [qt] at hF
   split at hF
   ·cases hF
   ·rename_i r he;exact ⟨.ret r,he,hF⟩
   ·rename_i r he;exact ⟨.brk r,he,hF⟩
   ·rename_i r he;exact ⟨.nxt r,he,hF⟩
  refine qS ?_ _ _ _ (hs n s o1 h1 h2)
  intro x env' h' hq
  cases x with
  | normal =>
   obtain ⟨s',h1,h2⟩:=hq
   exact ⟨(n,s'),h1,by show n < n+1;omega,h2⟩
  | _=>exact hq
def joinQ (h0:AH) (N:List AV→AH→Prop) (Q:Exit→List AV→AH→Prop):Exit→List AV→AH→Prop:=fun x env' h'=>match x with
 | .normal=>N env' h'
 | x=>Q x env' h'
theorem r_join {a b:Code} {J:Option (ρ ⊕ σ)} {rest:σ→Option ρ} {o0:ρ} (U:σ→List (Nat×AV)) (H:σ→AH) (hF:lp J rest=some o0) {E:σ→List AV} (_hE:∀ s,upd env (U s)=E s)
  (ha:∀ o1,J=some o1→konJ rest o1=some o0→qU P a (joinQ h (fun env' h'=>∃ s,rest s=some o0∧wk h env' h' (E s) (H s)) Q) env h)
  (hb:∀ s,rest s=some o0→qU P b Q (E s) (H s)):qU P (.seq a b) Q env h:=by
 obtain ⟨o1,h1,h2⟩:=lpF hF
 refine zn (qS ?_ _ _ _ (ha o1 h1 h2))
 intro x env' h' hq
 cases x with
 | normal =>
  obtain ⟨s,h3,h4⟩:=hq
  exact ⟨_,_,h4,hb s h3⟩
 | _=>exact hq
theorem q_join {h0:AH} {N:List AV→AH→Prop} (hk:N env h):joinQ h0 N Q .normal env h:=hk
theorem q_join_ret {h0:AH} {N:List AV→AH→Prop} (hk:Q .ret env h):joinQ h0 N Q .ret env h:=hk
end
end Go.Vv
