/- Rules: how a goal over the abstract states is taken apart. -/
import Derived.Test.YtcociipjgndnaaaGreatVvP
namespace Go.Vv
open Go

def leL (as bs:List AV):Prop:=∀g vs,VL g as vs->VL g bs vs
theorem leV.any (a:AV):leV a .any:=λ_ _ _=>by simp only [V]
theorem leV.nil (k:Nat):leV .nilsl (.sl k []):=λ_ v h=>by
 simp only [V] at h ⊢;exact ⟨none,0,h,by simp,by simp,.inl trivial⟩
theorem leV.osl (o:Option Nat) (k:Nat) (es:List (List AV)):leV (.osl o k es) (.sl k es):=λ_ v h=>by
 simp only [V] at h ⊢;obtain ⟨a,c,f,b,d,e,_⟩:=h;exact ⟨a,c,f,b,d,e⟩
theorem leL.nil:leL [] []:=λ_ _ h=>h
theorem leL.refl (a:List AV):leL a a:=λ_ _ h=>h
theorem leL.cons {a b:AV} {r s:List AV} (h:leV a b) (k:leL r s):leL (a::r) (b::s):=λg vs c=>by
 simp only [VL] at c ⊢;obtain ⟨v,t,e,f,d⟩:=c;exact ⟨v,t,e,h _ _ f,k _ _ d⟩
theorem leL.eq {a:AV} {r s:List AV} (k:leL r s):leL (a::r) (a::s):=leL.cons (leV.refl a) k
theorem leL.drop {a:AV} {r s:List AV} (k:leL r s):leL (a::r) (.any::s):=leL.cons (leV.any a) k
theorem leL.d4 {a b c d:AV} {r s:List AV} (k:leL r s):leL (a::b::c::d::r) (.any::.any::.any::.any::s):=.drop (.drop (.drop (.drop k)))
theorem leL.d16 {a b c d e f g h i j l m n o p q:AV} {r s:List AV} (k:leL r s):leL (a::b::c::d::e::f::g::h::i::j::l::m::n::o::p::q::r) (.any::.any::.any::.any::.any::.any::.any::.any::.any::.any::.any::.any::.any::.any::.any::.any::s):=.d4 (.d4 (.d4 (.d4 k)))

theorem wk.refl (hd:AH) (env:List AV) (h:AH):wk hd env h env h:=λ_ _ _ _ _ g _ _ b r a=>⟨g,b,r,a,λ_ h=>h⟩
theorem wk.le {hd:AH} {env env':List AV} {h:AH} (k:leL env env'):wk hd env h env' h:=λ_ _ _ _ _ g _ _ b r a=>⟨g,b,r,k _ _ a,λ_ h=>h⟩
theorem wk.cut {hd:AH} {env:List AV} {h:AH} (c:zB hd.blks.length hd.toks.length env=true)
  (f:∀(i:Nat) (k:Blk),i < hd.blks.length->h.blks[i]?=some k->hd.blks[i]?=some k \/ k.low hd.blks.length hd.toks.length=true) :
  wk hd env h env (h.cut hd.blks.length hd.toks.length):=λ_ _ _ _ m g _ a l r e=>⟨g.cut hd.blks.length hd.toks.length,by rw [<- a.slen,<- a.tlen];exact Gh.le_cut l,
   r.cut _ _ (λi k hi j=>by
    rcases f i k hi j with b | b
    ·have d:i < m.σ.length:=by rw [a.slen];exact hi
     have:=a.isLow b;rw [a.slen,a.tlen] at this;exact this
    ·exact b),VL.cut _ _ c e,λ_ h=>h⟩
theorem wk.trans {hd:AH} {env env' d:List AV} {h e i:AH} (a:wk hd env h env' e) (b:wk hd env' e d i):wk hd env h d i:=λB w0 w j f g vs k z r n=>by
 obtain ⟨g',s,l,u,m⟩:=a B w0 w j f g vs k z r n;obtain ⟨x,p,t,q,v⟩:=b B w0 w j f g' vs k s l u;exact ⟨x,p,t,q,λc y=>v c (m c y)⟩

def cvo:Value->Option AV
 | .bool b=>some (.bool b)
 | .int k n=>some (.int k n)
 | .string s=>if s.size<=maxLen then some (.str s.data.toList) else none
 | .pointer none=>some .nilp
 | .slice none 0 0=>some .nilsl
 | .map none=>some .nilm
 | .nilFunc=>some .nilf
 | .nilIface=>some .nili
 | _=>none
def yF (env:List AV):Operand->Option AV
 | .tmp t=>env[t]?
 | .const (.agg cs)=>if okc (.agg cs) then some (cv (.agg cs)) else none
 | .const v=>cvo v
 | .global g=>some (.glob g)
 | .func f=>some (.fn (.func f) [] [])
theorem zO {env:List AV} {x:Operand} {v:AV} (h:yF env x=some v):yy x=true/\ev env x=v:=by
 cases x with
 | tmp t =>
  simp only [yF] at h;refine ⟨rfl,?_⟩;simp only [ev];rw [ur,h];rfl
 | const c =>
  cases c with
  | agg cs =>
   simp only [yF] at h;split at h
   ·rename_i d;cases h;exact ⟨d,rfl⟩
   ·cases h
  | string s =>
   simp only [yF,cvo] at h;split at h
   ·rename_i d;cases h;exact ⟨by simpa [yy,okc,okc1] using d,rfl⟩
   ·cases h
  | slice a b c =>
   simp only [yF] at h;unfold cvo at h;split at h <;> first | cases h | skip
   all_goals first | (cases h;exact ⟨rfl,rfl⟩) | skip
   all_goals simp_all [yy,okc,okc1,ev,cv,cv1]
  | pointer a =>
   cases a with
   | none=>simp only [yF,cvo] at h;cases h;exact ⟨rfl,rfl⟩
   | some a=>simp only [yF,cvo] at h;cases h
  | map a =>
   cases a with
   | none=>simp only [yF,cvo] at h;cases h;exact ⟨rfl,rfl⟩
   | some a=>simp only [yF,cvo] at h;cases h
  | _=>simp only [yF,cvo] at h;first | (cases h;exact ⟨rfl,rfl⟩) | cases h
 | global g=>simp only [yF] at h;cases h;exact ⟨rfl,rfl⟩
 | func f=>simp only [yF] at h;cases h;exact ⟨rfl,rfl⟩

@[irreducible] def gv (b:Bool) (v:AV):AV:=if b then v else aundef
theorem gv_true (v:AV):gv true v=v:=by simp [gv]
theorem gv_false (v:AV):gv false v=aundef:=by simp [gv]

def vZ (d:Option Tmp) (env:List AV) (v:AV):Option (List AV) :=
 match d with
 | some d=>some (env.set d v)
 | none=>some env
theorem xG {d:Option Tmp} {env env':List AV} {v:AV} (h:vZ d env v=some env'):setd env d v=env':=by
 cases d <;> simp only [vZ,un] at h <;> exact h

section
variable {P:Program} {ops:Array Oper} {Q:List AV->AH->Prop} {o:Oper} {rest:List Oper} {env env':List AV} {h:AH}

theorem ops_nil (hk:Q env h):zH P ops Q [] env h:=hk
theorem zc {v:AV} {a:AH} (d:aG ops o env=some true) (b:zw P o env h=.ok v a) (hd:vZ o.dst env v=some env') (c:zH P ops Q rest env' a):zH P ops Q (o::rest) env h:=by
 refine vO ?_;simp only [d,gwp,b,rwp,xG hd];exact c
theorem ops_len {n:Nat} {v:AV} {a:AH} (d:aG ops o env=some true) (b:zw P o env h=.len n v a) (hd:vZ o.dst env v=some env') (c:n<=maxLen->zH P ops Q rest env' a):zH P ops Q (o::rest) env h:=by
 refine vO ?_;simp only [d,gwp,b,rwp,xG hd];exact c
theorem ops_call {f:FuncId} {args:List AV} {K:AV->AH->Prop} (d:aG ops o env=some true) (b:zw P o env h=.call f args) (hs:Spec P f args h K)
  (c:∀v a,K v a->zH P ops Q rest (setd env o.dst v) a):zH P ops Q (o::rest) env h:=by
 refine vO ?_;simp only [d,gwp,b,rwp];exact hs.mono c
theorem ops_skip (a:aG ops o env=some false) (hd:vZ o.dst env aundef=some env') (b:zH P ops Q rest env' h):zH P ops Q (o::rest) env h:=by
 refine vO ?_;simp only [a,gwp,xG hd];exact b
theorem qw {b:Bool} {v:AV} (c:aG ops o env=some b) (d:b=true->zw P o env h=.ok v h) (hd:vZ o.dst env (gv b v)=some env') (a:zH P ops Q rest env' h):zH P ops Q (o::rest) env h:=by
 cases b with
 | true=>rw [gv_true] at hd;exact zc c (d rfl) hd a
 | false=>rw [gv_false] at hd;exact ops_skip c hd a
theorem ops_glen {b:Bool} {n:Nat} {v:AV} (c:aG ops o env=some b) (e:b=true->zw P o env h=.len n v h) (hd:vZ o.dst env (gv b v)=some env') (a:(b=true->n<=maxLen)->zH P ops Q rest env' h):zH P ops Q (o::rest) env h:=by
 cases b with
 | true=>rw [gv_true] at hd;exact ops_len c (e rfl) hd λd=>a λ_=>d
 | false=>rw [gv_false] at hd;exact ops_skip c hd (a λf=>by cases f)
theorem zK {b:Bool} {f:FuncId} {args:List AV} {v:AV} (c:aG ops o env=some b) (g:b=true->zw P o env h=.call f args) (hs:b=true->Spec P f args h λr d=>r=v/\d=h)
  (hd:vZ o.dst env (gv b v)=some env') (a:zH P ops Q rest env' h):zH P ops Q (o::rest) env h:=by
 cases b with
 | true=>exact ops_call c (g rfl) (hs rfl) λr d ⟨e,i⟩=>by subst e;subst i;rw [gv_true] at hd;rw [xG hd];exact a
 | false=>rw [gv_false] at hd;exact ops_skip c hd a
end
theorem xX {P:Program} {ops:Array Oper} {Q:List AV->AH->Prop} {o:Oper} {rest:List Oper} {env env':List AV} {h:AH} {f:FuncId} {args:List AV} {v:AV} (g:aG ops o env=some true) (c:zw P o env h=.call f args) (hs:Spec P f args h λr a=>r=v/\a=h)
  (hd:vZ o.dst env v=some env') (e:zH P ops Q rest env' h):zH P ops Q (o::rest) env h :=
 ops_call g c hs λr a ⟨b,d⟩=>by subst b;subst d;rw [xG hd];exact e
end Go.Vv
