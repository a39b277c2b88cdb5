/- Rules: how a goal over the abstract states is taken apart. -/
import Derived.Test.YtandnkcefogjeaaGreatVvP
namespace Go.Vv
open Go

def leL (as bs:List AV):Prop:=∀g vs,VL g as vs->VL g bs vs
def leH (h h':AH):Prop:=∀(B:Nat) (w0 w:World) (g:Gh),Rel B w0 g h w->Rel B w0 g h' w
theorem leV.any (a:AV):leV a .any:=λ_ _ _=>by simp only [V]
theorem leV.nil (k:Nat):leV .nilsl (.sl k []):=λ_ v h=>by
 simp only [V] at h ⊢;exact ⟨none,0,h,by simp,by simp,.inl trivial⟩
theorem leV.osl (o:Option Nat) (k:Nat) (es:List (List AV)):leV (.osl o k es) (.sl k es):=λ_ v h=>by
 simp only [V] at h ⊢;obtain ⟨a,c,d,e,f,b,_⟩:=h;exact ⟨a,c,d,e,f,b⟩
theorem leL.nil:leL [] []:=λ_ _ h=>h
theorem leL.refl (a:List AV):leL a a:=λ_ _ h=>h
theorem leL.cons {a b:AV} {r s:List AV} (h:leV a b) (k:leL r s):leL (a::r) (b::s):=λg vs c=>by
 simp only [VL] at c ⊢;obtain ⟨v,t,e,d,f⟩:=c;exact ⟨v,t,e,h _ _ d,k _ _ f⟩
theorem leL.eq {a:AV} {r s:List AV} (k:leL r s):leL (a::r) (a::s):=leL.cons (leV.refl a) k
theorem leL.drop {a:AV} {r s:List AV} (k:leL r s):leL (a::r) (.any::s):=leL.cons (leV.any a) k
theorem leL.d4 {a b c d:AV} {r s:List AV} (k:leL r s):leL (a::b::c::d::r) (.any::.any::.any::.any::s):=.drop (.drop (.drop (.drop k)))
theorem leL.d16 {a b c d e f g h i j l m n o p q:AV} {r s:List AV} (k:leL r s):leL (a::b::c::d::e::f::g::h::i::j::l::m::n::o::p::q::r) (.any::.any::.any::.any::.any::.any::.any::.any::.any::.any::.any::.any::.any::.any::.any::.any::s):=.d4 (.d4 (.d4 (.d4 k)))

theorem wk.refl (hd:AH) (env:List AV) (h:AH):wk hd env h env h:=λ_ _ _ _ _ g _ _ b r a=>⟨g,b,r,a,λ_ h=>h⟩
theorem wk.le {hd:AH} {env env':List AV} {h:AH} (k:leL env env'):wk hd env h env' h:=λ_ _ _ _ _ g _ _ b r a=>⟨g,b,r,k _ _ a,λ_ h=>h⟩
theorem wk.cut {hd:AH} {env:List AV} {h:AH} (f:zB hd.blks.length hd.toks.length env=true)
  (e:∀(i:Nat) (k:Blk),i < hd.blks.length->h.blks[i]?=some k->hd.blks[i]?=some k \/ k.low hd.blks.length hd.toks.length=true) :
  wk hd env h env (h.cut hd.blks.length hd.toks.length):=λ_ _ _ _ j g _ a l r c=>⟨g.cut hd.blks.length hd.toks.length,by rw [<- a.slen,<- a.tlen];exact Gh.le_cut l,
   r.cut _ _ (λi k hi d=>by
    rcases e i k hi d with b | b
    ·have m:i < j.σ.length:=by rw [a.slen];exact hi
     have:=a.isLow b;rw [a.slen,a.tlen] at this;exact this
    ·exact b),VL.cut _ _ f c,λ_ h=>h⟩
theorem wk.trans {hd:AH} {env env' d:List AV} {h e j:AH} (a:wk hd env h env' e) (b:wk hd env' e d j):wk hd env h d j:=λB w0 w f i g vs k v r l=>by
 obtain ⟨g',n,x,s,p⟩:=a B w0 w f i g vs k v r l;obtain ⟨y,m,u,t,q⟩:=b B w0 w f i g' vs k n x s;exact ⟨y,m,u,t,λc z=>q c (p c z)⟩

def cvo:Value->Option AV
 | .bool b=>some (.bool b)
 | .int k n=>some (.int k n)
 | .string s=>if s.size<=maxLen then some (.str s.data.toList) else none
 | .pointer none=>some .nilp
 | .slice none 0 0=>some .nilsl
 | .map none=>some .nilm
 | .nilFunc=>some .nilf
 | .nilIface=>some .nili
 | _=>none
def yz (env:List AV):Operand->Option AV
 | .tmp t=>env[t]?
 | .const (.agg cs)=>if okc (.agg cs) then some (cv (.agg cs)) else none
 | .const v=>cvo v
 | .global g=>some (.glob g)
 | .func f=>some (.fn (.func f) [] [])
theorem zO {env:List AV} {x:Operand} {v:AV} (h:yz env x=some v):yg x=true/\ev env x=v:=by
 cases x with
 | tmp t =>
  simp only [yz] at h;refine ⟨rfl,?_⟩;simp only [ev];rw [List.getD_eq_getElem?_getD,h];rfl
 | const c =>
  cases c with
  | agg cs =>
   simp only [yz] at h;split at h
   ·rename_i d;cases h;exact ⟨d,rfl⟩
   ·cases h
  | string s =>
   simp only [yz,cvo] at h;split at h
   ·rename_i d;cases h;exact ⟨by simpa [yg,okc,okc1] using d,rfl⟩
   ·cases h
  | slice a b c =>
   simp only [yz] at h;unfold cvo at h;split at h <;> first | cases h | skip
   all_goals first | (cases h;exact ⟨rfl,rfl⟩) | skip
   all_goals simp_all [yg,okc,okc1,ev,cv,cv1]
  | pointer a =>
   cases a with
   | none=>simp only [yz,cvo] at h;cases h;exact ⟨rfl,rfl⟩
   | some a=>simp only [yz,cvo] at h;cases h
  | map a =>
   cases a with
   | none=>simp only [yz,cvo] at h;cases h;exact ⟨rfl,rfl⟩
   | some a=>simp only [yz,cvo] at h;cases h
  | _=>simp only [yz,cvo] at h;first | (cases h;exact ⟨rfl,rfl⟩) | cases h
 | global g=>simp only [yz] at h;cases h;exact ⟨rfl,rfl⟩
 | func f=>simp only [yz] at h;cases h;exact ⟨rfl,rfl⟩

@[irreducible] def gv (b:Bool) (v:AV):AV:=if b then v else aundef
theorem gv_true (v:AV):gv true v=v:=by simp [gv]
theorem gv_false (v:AV):gv false v=aundef:=by simp [gv]

def dso (d:Option Tmp) (env:List AV) (v:AV):Option (List AV) :=
 match d with
 | some d=>some (env.set d v)
 | none=>some env
theorem xp {d:Option Tmp} {env env':List AV} {v:AV} (h:dso d env v=some env'):setd env d v=env':=by
 cases d <;> simp only [dso,Option.some.injEq] at h <;> exact h

section
variable {P:Program} {ops:Array Oper} {Q:List AV->AH->Prop} {o:Oper} {rest:List Oper} {env env':List AV} {h:AH}

theorem ops_nil (hk:Q env h):zH P ops Q [] env h:=hk
theorem zd {v:AV} {a:AH} (d:aG ops o env=some true) (c:zr P o env h=.ok v a) (hd:dso o.dst env v=some env') (b:zH P ops Q rest env' a):zH P ops Q (o::rest) env h:=by
 refine vn ?_;simp only [d,gwp,c,rwp,xp hd];exact b
theorem ops_len {n:Nat} {v:AV} {a:AH} (d:aG ops o env=some true) (c:zr P o env h=.len n v a) (hd:dso o.dst env v=some env') (b:n<=maxLen->zH P ops Q rest env' a):zH P ops Q (o::rest) env h:=by
 refine vn ?_;simp only [d,gwp,c,rwp,xp hd];exact b
theorem ops_call {f:FuncId} {args:List AV} {K:AV->AH->Prop} (d:aG ops o env=some true) (c:zr P o env h=.call f args) (hs:Spec P f args h K)
  (b:∀v a,K v a->zH P ops Q rest (setd env o.dst v) a):zH P ops Q (o::rest) env h:=by
 refine vn ?_;simp only [d,gwp,c,rwp];exact hs.mono b
theorem ops_skip (a:aG ops o env=some false) (hd:dso o.dst env aundef=some env') (b:zH P ops Q rest env' h):zH P ops Q (o::rest) env h:=by
 refine vn ?_;simp only [a,gwp,xp hd];exact b
theorem ops_gv {b:Bool} {v:AV} (c:aG ops o env=some b) (d:b=true->zr P o env h=.ok v h) (hd:dso o.dst env (gv b v)=some env') (a:zH P ops Q rest env' h):zH P ops Q (o::rest) env h:=by
 cases b with
 | true=>rw [gv_true] at hd;exact zd c (d rfl) hd a
 | false=>rw [gv_false] at hd;exact ops_skip c hd a
theorem ops_glen {b:Bool} {n:Nat} {v:AV} (c:aG ops o env=some b) (d:b=true->zr P o env h=.len n v h) (hd:dso o.dst env (gv b v)=some env') (a:(b=true->n<=maxLen)->zH P ops Q rest env' h):zH P ops Q (o::rest) env h:=by
 cases b with
 | true=>rw [gv_true] at hd;exact ops_len c (d rfl) hd λf=>a λ_=>f
 | false=>rw [gv_false] at hd;exact ops_skip c hd (a λe=>by cases e)
theorem zA {b:Bool} {f:FuncId} {args:List AV} {v:AV} (d:aG ops o env=some b) (g:b=true->zr P o env h=.call f args) (hs:b=true->Spec P f args h λr c=>r=v/\c=h)
  (hd:dso o.dst env (gv b v)=some env') (a:zH P ops Q rest env' h):zH P ops Q (o::rest) env h:=by
 cases b with
 | true=>exact ops_call d (g rfl) (hs rfl) λr c ⟨i,e⟩=>by subst i;subst e;rw [gv_true] at hd;rw [xp hd];exact a
 | false=>rw [gv_false] at hd;exact ops_skip d hd a
end
theorem yM {P:Program} {ops:Array Oper} {Q:List AV->AH->Prop} {o:Oper} {rest:List Oper} {env env':List AV} {h:AH} {f:FuncId} {args:List AV} {v:AV} (g:aG ops o env=some true) (d:zr P o env h=.call f args) (hs:Spec P f args h λr a=>r=v/\a=h)
  (hd:dso o.dst env v=some env') (c:zH P ops Q rest env' h):zH P ops Q (o::rest) env h :=
 ops_call g d hs λr a ⟨e,b⟩=>by subst e;subst b;rw [xp hd];exact c
end Go.Vv
