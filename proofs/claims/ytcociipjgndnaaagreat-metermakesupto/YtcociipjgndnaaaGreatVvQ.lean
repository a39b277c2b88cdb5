/- Plain laws of loops. -/
import Derived.Test.YtcociipjgndnaaaGreatVvY
namespace Go.Vv
open Go
section
variable {α ρ σ:Type}
@[simp] theorem lp_none {rest:σ->Option ρ}:lp (none:Option (ρ ⊕ σ)) rest=none:=rfl
@[simp] theorem lp_inl {rest:σ->Option ρ} {r:ρ}:lp (some (.inl r)) rest=some r:=rfl
@[simp] theorem yp {rest:σ->Option ρ} {s:σ}:lp (some (.inr s)) rest=rest s:=rfl
theorem zj {p:Prop} [Decidable p] {o:Option ρ} (h:p):yf p o=o:=up h
theorem loopL_all {f:Nat->α->Unit->Option (Out ρ Unit)} (p:α->Bool) (r:ρ):∀(L:List α) (i:Nat),(∀i x,x ∈ L->f i x ()=if p x=true then some (.nxt ()) else some (.ret r))->zq f L i ()=if L.all p=true then some (.inr ()) else some (.inl r)
 | [],_,_=>rfl
 | x::t,i,h=>by
  have b:=loopL_all p r t (i+1) (λi y a=>h i y (tJ _ a));simp only [zq,h i x (tY ..)];cases hp:p x <;> simp [hp,b]
theorem loopL_fold {f:Nat->α->σ->Option (Out ρ σ)} (g:σ->α->σ):∀(L:List α) (i:Nat) (s:σ),(∀i x s,x ∈ L->f i x s=some (.nxt (g s x)))->zq f L i s=some (.inr (L.foldl g s))
 | [],_,_,_=>rfl
 | x::t,i,s,h=>by
  simp only [zq,h i x s (tY ..),sI];exact loopL_fold g t (i+1) (g s x) (λi y s a=>h i y s (tJ _ a))
theorem loopL_first {f:Nat->α->Unit->Option (Out ρ Unit)} (p:α->Bool) (r:Nat->α->ρ):∀(L:List α) (i:Nat),(∀i x,x ∈ L->f i x ()=if p x=true then some (.ret (r i x)) else some (.nxt ())) ->
  zq f L i ()=match L.findIdx? p with
   | none=>some (.inr ())
   | some j=>match L[j]? with | some x=>some (.inl (r (i+j) x)) | none=>none
 | [],_,_=>rfl
 | x::t,i,h=>by
  have b:=loopL_first p r t (i+1) (λi y a=>h i y (tJ _ a));simp only [zq,h i x (tY ..),List.findIdx?_cons];cases hp:p x
  ·simp only [ul,uG,b];cases t.findIdx? p with
   | none=>rfl
   | some j=>simp only [u7,s6];rw [show i+1+j=i+(j+1) by omega]
  ·simp
def firstI (q:α->Bool) (p:List α):Int:=match p.findIdx? q with | some j=>(j:Int) | none=>-1
theorem first_loop {f:α->Option Bool} {q:α->Bool} (p:List α) (d:∀x ∈ p,f x=some (q x)):lp (zq (λ(c:Nat) (b:α) (_:Unit)=>(((f b).bind λg=>(if g=true then some (.ret (c:Int)) else some (.nxt ()))):Option (Out _ Unit))) p 0 ()) (λ(_:Unit)=>some (-1:Int))=some (firstI q p):=by
 rw [loopL_first q (λi _=>(i:Int)) _ _ (λi x a=>by rw [d x a];rfl)];unfold firstI;cases h:p.findIdx? q with
 | none=>simp
 | some j =>
  obtain ⟨e,_⟩:=sN.1 h;simp [ug e]
theorem firstI_any (q:α->Bool) (p:List α):decide (firstI q p >= 0)=p.any q:=by
 unfold firstI;cases h:p.findIdx? q with
 | none =>
  have:p.any q=false:=by
   rw [List.findIdx?_eq_none_iff] at h;rw [sm];intro x a;simpa using h x a
  simp [this]
 | some j =>
  obtain ⟨c,b,_⟩:=sN.1 h;have:p.any q=true:=rP.2 ⟨_,tU c,b⟩;simp [this]
theorem wM {M:List α} {i:Nat} (h:i < M.length):yu M (i:Int)=some M[i]:=by
 unfold yu;rw [up (by omega),uB,ug h]
theorem vw {L:List α} {lo hi:Int} (h:0<=lo/\lo<=hi/\hi<=L.length):slc L lo hi=some ((L.take hi.toNat).drop lo.toNat):=up h
theorem yU {n:Int} (h:-9223372036854775808<=n/\n<=9223372036854775807):IntKind.wrap .i64 n=n:=by rw [IntKind.wrap_i64];omega
end
end Go.Vv
