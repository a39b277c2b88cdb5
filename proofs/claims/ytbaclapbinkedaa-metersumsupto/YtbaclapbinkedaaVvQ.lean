/- Plain laws of loops. -/
import Derived.Test.YtbaclapbinkedaaVvY
namespace Go.Vv
open Go
section
variable {α ρ σ:Type}
@[simp] theorem lp_none {rest:σ→Option ρ}:lp (none:Option (ρ ⊕ σ)) rest=none:=rfl
@[simp] theorem lp_inl {rest:σ→Option ρ} {r:ρ}:lp (some (.inl r)) rest=some r:=rfl
@[simp] theorem vS {rest:σ→Option ρ} {s:σ}:lp (some (.inr s)) rest=rest s:=rfl
theorem ye {p:Prop} [Decidable p] {o:Option ρ} (h:p):vN p o=o:=if_pos h
theorem loopL_all {f:Nat→α→Unit→Option (Out ρ Unit)} (p:α→Bool) (r:ρ):∀ (L:List α) (i:Nat),(∀ i x,x ∈ L→f i x ()=if p x=true then some (.nxt ()) else some (.ret r))→zV f L i ()=if L.all p=true then some (.inr ()) else some (.inl r)
 | [],_,_=>rfl
 | x::t,i,h=>by
  have ih:=loopL_all p r t (i+1) (fun i y hy=>h i y (List.mem_cons_of_mem _ hy))
  simp only [zV,h i x (List.mem_cons_self ..)]
  cases hp:p x <;> simp [hp,ih]
theorem loopL_fold {f:Nat→α→σ→Option (Out ρ σ)} (g:σ→α→σ):∀ (L:List α) (i:Nat) (s:σ),(∀ i x s,x ∈ L→f i x s=some (.nxt (g s x)))→zV f L i s=some (.inr (L.foldl g s))
 | [],_,_,_=>rfl
 | x::t,i,s,h=>by
  simp only [zV,h i x s (List.mem_cons_self ..),List.foldl_cons]
  exact loopL_fold g t (i+1) (g s x) (fun i y s hy=>h i y s (List.mem_cons_of_mem _ hy))
theorem loopL_first {f:Nat→α→Unit→Option (Out ρ Unit)} (p:α→Bool) (r:Nat→α→ρ):∀ (L:List α) (i:Nat),(∀ i x,x ∈ L→f i x ()=if p x=true then some (.ret (r i x)) else some (.nxt ())) →
  zV f L i ()=match L.findIdx? p with
   | none=>some (.inr ())
   | some j=>match L[j]? with | some x=>some (.inl (r (i+j) x)) | none=>none
 | [],_,_=>rfl
 | x::t,i,h=>by
  have ih:=loopL_first p r t (i+1) (fun i y hy=>h i y (List.mem_cons_of_mem _ hy))
  simp only [zV,h i x (List.mem_cons_self ..),List.findIdx?_cons]
  cases hp:p x
  ·simp only [Bool.false_eq_true,if_false,ih]
   cases t.findIdx? p with
   | none=>rfl
   | some j=>simp only [Option.map_some,List.getElem?_cons_succ];rw [show i+1+j=i+(j+1) by omega]
  ·simp
def firstI (q:α→Bool) (p:List α):Int:=match p.findIdx? q with | some j=>(j:Int) | none=>-1
theorem first_loop {f:α→Option Bool} {q:α→Bool} (p:List α) (hf:∀ x ∈ p,f x=some (q x)):lp (zV (fun (n1:Nat) (x1:α) (_:Unit)=>(((f x1).bind fun v7=>(if v7=true then some (.ret (n1:Int)) else some (.nxt ()))):Option (Out _ Unit))) p 0 ()) (fun (_:Unit)=>some (-1:Int))=some (firstI q p):=by
 rw [loopL_first q (fun i _=>(i:Int)) _ _ (fun i x hx=>by rw [hf x hx];rfl)]
 unfold firstI
 cases h:p.findIdx? q with
 | none=>simp
 | some j =>
  obtain ⟨hj,_⟩:=List.findIdx?_eq_some_iff_getElem.1 h
  simp [List.getElem?_eq_getElem hj]
theorem firstI_any (q:α→Bool) (p:List α):decide (firstI q p ≥ 0)=p.any q:=by
 unfold firstI
 cases h:p.findIdx? q with
 | none =>
  have:p.any q=false:=by
   rw [List.findIdx?_eq_none_iff] at h
   rw [List.any_eq_false];intro x hx;simpa using h x hx
  simp [this]
 | some j =>
  obtain ⟨hj,hq,_⟩:=List.findIdx?_eq_some_iff_getElem.1 h
  have:p.any q=true:=List.any_eq_true.2 ⟨_,List.getElem_mem hj,hq⟩
  simp [this]
theorem idx_at {M:List α} {i:Nat} (h:i < M.length):qJ M (i:Int)=some M[i]:=by
 unfold qJ;rw [if_pos (by omega),Int.toNat_natCast,List.getElem?_eq_getElem h]
theorem slc_at {L:List α} {lo hi:Int} (h:0≤lo∧lo≤hi∧hi≤L.length):slc L lo hi=some ((L.take hi.toNat).drop lo.toNat):=if_pos h
theorem xp {n:Int} (h:-9223372036854775808≤n∧n≤9223372036854775807):IntKind.wrap .i64 n=n:=by rw [IntKind.wrap_i64];omega
end
end Go.Vv
