/- Ranges over functions, and functions whose base heap turns: rules. -/
import Derived.Test.YtdkfnnpdeenhnaaGreatVvZ
namespace Go.Vv
open Go Go.RowKit
section
variable {P:Program} {o:Oper} {env:List AV} {h:AH} {L:List Blk} {M:List Nat} {nb nt:Nat}
end
section
variable {P:Program} {o:Oper} {env:List AV} {h:AH} {α:Type} {row:α->List AV} {L M:List α} {nb nt:Nat}
end

def AH.closed (h:AH) (n t:Nat):Prop:=∀b ∈ h.blks,b.low n t=true
theorem Blk.low_up {n d m f:Nat} (a:n<=d) (h:m<=f):∀b:Blk,b.low n m=true->b.low d f=true
 | .cells cs,hl=>yl a h cs hl
 | .mapo es c,hl=>by
  simp only [Blk.low,List.all_eq_true,Bool.and_eq_true] at hl ⊢;exact λp e=>⟨AV.low_up a h _ (hl p e).1,AV.low_up a h _ (hl p e).2⟩
 | .loop _ _ env _ _ _,hl=>yl a h env hl
 | .row _ _ _,hl=>by simp only [Blk.low,decide_eq_true_eq] at hl ⊢;omega
 | .miter _ _ _,hl=>by simp only [Blk.low,decide_eq_true_eq] at hl ⊢;omega
 | .siter _ _,_ | .miter0,_ | .other,_ | .dead,_=>rfl
theorem closed_of_rel {B:Nat} {w0 w:World} {g:Gh} {h:AH} (r:Rel B w0 g h w):h.closed h.blks.length h.toks.length:=λb a=>by
 obtain ⟨i,hi⟩:=List.mem_iff_getElem?.1 a;have:=r.isLow hi
 rwa [r.slen,r.tlen] at this
theorem zY {P : Program} {f : FuncId} {fn : Func} {c : Code} (hf : P.funcs[f]? = some fn) (hb : fn.body = some c) (hname : (fn.name == "runtime.NumGoroutine") = false) {args : List AV} {h : AH} {K : AV → AH → Prop} {env : List AV}
  (he:args++List.replicate (fn.ntmps - args.length) aundef=env) (hw:zJ h.blks.length h.toks.length args=true->h.closed h.blks.length h.toks.length->wP P c (qY P fn h K) env (h.ext [] [])):Spec P f args h K:=by
 refine ⟨λvs w=>?_,λB w0 _ g w vs r hv=>?_⟩
 ·have hn : ¬ fn.name = "runtime.NumGoroutine" := by simpa using hname
  simp [callFunc,hf,hb,hn]
 ·have hl:=hv.isLow;rw [r.slen,r.tlen] at hl;exact (za hf hb hname he (hw hl (closed_of_rel r))).2 B w0 g w vs r hv
def lst:Option Nat->LoopState
 | none=>.ready
 | some _=>.done
def lpe:Option Nat->Option Code
 | none=>none
 | some 0=>some .ret
 | some (i+1)=>some (.exit i)
def fam {β:Type} (h:β->AH) (A:β->List Blk) (T:β->List Nat) (lp:LoopState->Option Code->Blk) (s:β×Option Nat):AH:=(h s.1).ext (A s.1++[lp (lst s.2) (lpe s.2)]) (T s.1)
def stp {β X ρ:Type} (f:β->X->Option ρ) (s:β×Option Nat) (x:X):Option ρ:=match s.2 with
 | none=>f s.1 x
 | some _=>none
def rng {β ρ:Type} (q:Option (β×Option Nat)) (N:β->Option ρ) (J:Nat->β->Option ρ):Option ρ:=match q with
 | none=>none
 | some (b,none)=>N b
 | some (b,some j)=>J j b
def jumpQ (Q:Exit->List AV->AH->Prop):Nat->List AV->AH->Prop
 | 0=>Q .ret
 | i+1=>Q (.exit i)

def roundQ (hs:AH) (id:Nat) (lp:LoopState->Option Code->Blk) (K:AV->AH->Prop):Exit->List AV->AH->Prop
 | .normal,_,h=>∃h3,wk hs [] h [] h3/\h3.blk id=some (lp .busy none)/\K (.bool true) (h3.put id (lp .ready none))
 | .ret,_,h=>∃h3,wk hs [] h [] h3/\h3.blk id=some (lp .busy none)/\K (.bool false) (h3.put id (lp .done (some .ret)))
 | .exit i,_,h=>∃h3,wk hs [] h [] h3/\h3.blk id=some (lp .busy none)/\K (.bool false) (h3.put id (lp .done (some (.exit i))))
 | _,_,_=>False
def assignQ (P:Program) (hs:AH) (id:Nat) (lp:LoopState->Option Code->Blk) (body:Code) (K:AV->AH->Prop):Exit->List AV->AH->Prop
 | .normal,env,h=>h.blk id=some (lp .ready none)/\wP P body (roundQ hs id lp K) env (h.put id (lp .busy none))
 | _,_,_=>False

def setL (env:List AV):List Tmp->List AV->List AV
 | p::ps,a::as=>setL (env.set p a) ps as
 | _,_=>env
section
variable {P:Program} {h:AH} {A A' L B:List Blk} {T T' M C:List Nat} {nb nt:Nat} {o:Oper} {env:List AV}
end
section
variable {β:Type} {h:β->AH} {h0 h1:AH} {nb nt k:Nat} {lp:LoopState->Option Code->Blk} {env:List AV} {A:β->List Blk} {T:β->List Nat} {A0 A' L B:List Blk} {T0 T' M C:List Nat} {b':β} {o:Bool×(β×Option Nat)}
end
theorem SpecY.le {P:Program} {id:Nat} {a b:List AV} {h:AH} {K:AV->AH->Prop} (s:SpecY P id b h K) (k:leL a b):SpecY P id a h K :=
 λB w0 _ g w vs c r d e=>s B w0 g w vs c r (k _ _ d) e
def CloK (h:AH) (g:FuncId) (bs:List Blk) (rr:AV) (hh:AH):Prop:=rr=.fn (.func g) [] ((List.range bs.length).map λi=>.ptr (h.blks.length+i) 0)/\hh=h.ext bs []
end Go.Vv
