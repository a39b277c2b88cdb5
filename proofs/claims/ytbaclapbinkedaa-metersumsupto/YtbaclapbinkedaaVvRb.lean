/- Mutable rows whose headers stand in boxed variables, too: how they become unchanging slices. -/
import Derived.Test.YtbaclapbinkedaaVvRo
import Derived.Test.YtbaclapbinkedaaVvMl
namespace Go.Vv
open Go Go.RowKit

theorem FzL.ones {i k:Nat} {es:List (List AV)}:∀ {xs bs:List AV},FzL i k es xs bs→xs.all AV.one=true→bs.all AV.one=true
 | _,_,.refl _,h=>h
 | _,_,.cons x y,h=>by
  simp only [List.all_cons,Bool.and_eq_true] at h ⊢
  refine ⟨?_,y.ones h.2⟩
  cases x with
  | same=>exact h.1
  | hit=>rfl
  | hit2=>rfl
  | agg=>simp [AV.one] at h
  | tup=>simp [AV.one] at h
theorem yA {P : Program} {f : FuncId} {fn : Func} {c : Code} (hf : P.funcs[f]? = some fn) (hb : fn.body = some c) (hname : (fn.name == "runtime.NumGoroutine") = false) {args : List AV} {h : AH} {K : AV → AH → Prop} {env : List AV}
  (he:args++List.replicate (fn.ntmps - args.length) za=env) (hw:qU P c (bodyQ P fn h K) env h):Spec P f args h K:=spec_of_body hf hb hname (by rw [he];exact hw)
theorem x5 {h0 h:AH} {K:AV→AH→Prop} {v:AV} (hk:K v h):finK h0 K v h:=fin_wk (wk.refl _ _ _) hk
def TurnK (h:AH) (bl tl k m:Nat) (R:List (List AV)) (rr:AV) (hh:AH):Prop:=rr=.rsl (bl+1) (tl+1) k m∧∃ n0,hh=h.ext [.dead,.row (tl+1) k R] [n0,m]
def NewK (h:AH) (k m:Nat) (R:List (List AV)) (rr:AV) (hh:AH):Prop:=rr=.rsl h.blks.length h.toks.length k m∧hh=h.ext [.row h.toks.length k R] [m]
section
variable {α:Type} {row:α→List AV} {L:List α} {k:Nat} {P:Program} {o:Oper} {env:List AV} {h:AH} {B B':List Blk} {T T':List Nat}
theorem idxR {n:Int} {y:α} (h:qJ L n=some y):0≤n∧n < L.length∧L[n.toNat]?=some y:=by
 unfold qJ at h
 split at h
 ·rename_i h0
  exact ⟨h0,by have:=(List.getElem?_eq_some_iff.1 h).1;omega,h⟩
 ·cases h
theorem vp {z:Int} {n:Nat} {y:α} (h:qJ L z=some y) (hn:L.length=n):0≤z∧z < n:=by
 obtain ⟨h1,h2,_⟩:=idxR h
 exact ⟨h1,by omega⟩
end
def insO {α:Type} (xs:List α) (z:Int) (M:List α):Option (List α):=if (0≤z∧z≤xs.length)∧0 < M.length∧xs.length+M.length≤qM then some (xs.take z.toNat++(M++xs.drop z.toNat)) else none
end Go.Vv
