/- Rules: how a goal over the abstract states is taken apart. -/
import Derived.Test.YtehifcdoglcidaaGreatVvP
namespace Go.Vv
open Go

def leL (as bs:List AV):Prop:=∀g vs,VL g as vs->VL g bs vs
def leH (h h':AH):Prop:=∀(B:Nat) (w0 w:World) (g:Gh),Rel B w0 g h w->Rel B w0 g h' w
theorem leV.any (a:AV):leV a .any:=λ_ _ _=>by simp only [V]
theorem leV.nil (k:Nat):leV .nilsl (.sl k []):=λ_ v h=>by
 simp only [V] at h ⊢;exact ⟨none,0,h,by simp,by simp,.inl trivial⟩
theorem leV.osl (o:Option Nat) (k:Nat) (es:List (List AV)):leV (.osl o k es) (.sl k es):=λ_ v h=>by
 simp only [V] at h ⊢;obtain ⟨a,c,f,d,b,e,_⟩:=h;exact ⟨a,c,f,d,b,e⟩
theorem leL.nil:leL [] []:=λ_ _ h=>h
theorem leL.refl (a:List AV):leL a a:=λ_ _ h=>h
theorem leL.cons {a b:AV} {r s:List AV} (h:leV a b) (k:leL r s):leL (a::r) (b::s):=λg vs c=>by
 simp only [VL] at c ⊢;obtain ⟨v,t,e,f,d⟩:=c;exact ⟨v,t,e,h _ _ f,k _ _ d⟩
theorem leL.eq {a:AV} {r s:List AV} (k:leL r s):leL (a::r) (a::s):=leL.cons (leV.refl a) k
theorem leL.drop {a:AV} {r s:List AV} (k:leL r s):leL (a::r) (.any::s):=leL.cons (leV.any a) k
theorem leL.d4 {a b c d:AV} {r s:List AV} (k:leL r s):leL (a::b::c::d::r) (.any::.any::.any::.any::s):=.drop (.drop (.drop (.drop k)))
theorem leL.d16 {a b c d e f g h i j l m n o p q:AV} {r s:List AV} (k:leL r s):leL (a::b::c::d::e::f::g::h::i::j::l::m::n::o::p::q::r) (.any::.any::.any::.any::.any::.any::.any::.any::.any::.any::.any::.any::.any::.any::.any::.any::s):=.d4 (.d4 (.d4 (.d4 k)))

theorem wk.refl (hd:AH) (env:List AV) (h:AH):wk hd env h env h:=λ_ _ _ _ _ g _ _ a r b=>⟨g,a,r,b,λ_ h=>h⟩
theorem wk.le {hd:AH} {env env':List AV} {h:AH} (k:leL env env'):wk hd env h env' h:=λ_ _ _ _ _ g _ _ a r b=>⟨g,a,r,k _ _ b,λ_ h=>h⟩
theorem wk.cut {hd:AH} {env:List AV} {h:AH} (l:zw hd.blks.length hd.toks.length env=true)
  (f:∀(i:Nat) (k:Blk),i < hd.blks.length->h.blks[i]?=some k->hd.blks[i]?=some k \/ k.low hd.blks.length hd.toks.length=true) :
  wk hd env h env (h.cut hd.blks.length hd.toks.length):=λ_ _ _ _ d g _ a c r j=>⟨g.cut hd.blks.length hd.toks.length,by rw [<- a.slen,<- a.tlen];exact Gh.le_cut c,
   r.cut _ _ (λi k hi e=>by
    rcases f i k hi e with b | b
    ·have m:i < d.σ.length:=by rw [a.slen];exact hi
     have:=a.isLow b;rw [a.slen,a.tlen] at this;exact this
    ·exact b),VL.cut _ _ l j,λ_ h=>h⟩
theorem wk.trans {hd:AH} {env env' d:List AV} {h k j:AH} (a:wk hd env h env' k) (b:wk hd env' k d j):wk hd env h d j:=λB w0 w f i g vs e x r l=>by
 obtain ⟨g',u,p,y,s⟩:=a B w0 w f i g vs e x r l;obtain ⟨q,v,n,m,t⟩:=b B w0 w f i g' vs e u p y;exact ⟨q,v,n,m,λc z=>t c (s c z)⟩

def cvo:Value->Option AV
 | .bool b=>some (.bool b)
 | .int k n=>some (.int k n)
 | .string s=>if s.size<=maxLen then some (.str s.data.toList) else none
 | .pointer none=>some .nilp
 | .slice none 0 0=>some .nilsl
 | .map none=>some .nilm
 | .nilFunc=>some .nilf
 | .nilIface=>some .nili
 | _=>none
def ye (env:List AV):Operand->Option AV
 | .tmp t=>env[t]?
 | .const (.agg cs)=>if okc (.agg cs) then some (cv (.agg cs)) else none
 | .const v=>cvo v
 | .global g=>some (.glob g)
 | .func f=>some (.fn (.func f) [] [])
theorem zD {env:List AV} {x:Operand} {v:AV} (h:ye env x=some v):z7 x=true/\ev env x=v:=by
 cases x with
 | tmp t =>
  simp only [ye] at h;refine ⟨rfl,?_⟩;simp only [ev];rw [List.getD_eq_getElem?_getD,h];rfl
 | const c =>
  cases c with
  | agg cs =>
   simp only [ye] at h;split at h
   ·rename_i d;cases h;exact ⟨d,rfl⟩
   ·cases h
  | string s =>
   simp only [ye,cvo] at h;split at h
   ·rename_i d;cases h;exact ⟨by simpa [z7,okc,okc1] using d,rfl⟩
   ·cases h
  | slice a b c =>
   simp only [ye] at h;unfold cvo at h;split at h <;> first | cases h | skip
   all_goals first | (cases h;exact ⟨rfl,rfl⟩) | skip
   all_goals simp_all [z7,okc,okc1,ev,cv,cv1]
  | pointer a =>
   cases a with
   | none=>simp only [ye,cvo] at h;cases h;exact ⟨rfl,rfl⟩
   | some a=>simp only [ye,cvo] at h;cases h
  | map a =>
   cases a with
   | none=>simp only [ye,cvo] at h;cases h;exact ⟨rfl,rfl⟩
   | some a=>simp only [ye,cvo] at h;cases h
  | _=>simp only [ye,cvo] at h;first | (cases h;exact ⟨rfl,rfl⟩) | cases h
 | global g=>simp only [ye] at h;cases h;exact ⟨rfl,rfl⟩
 | func f=>simp only [ye] at h;cases h;exact ⟨rfl,rfl⟩

@[irreducible] def gv (b:Bool) (v:AV):AV:=if b then v else aundef
theorem gv_true (v:AV):gv true v=v:=by simp [gv]
theorem gv_false (v:AV):gv false v=aundef:=by simp [gv]

def vq (d:Option Tmp) (env:List AV) (v:AV):Option (List AV) :=
 match d with
 | some d=>some (env.set d v)
 | none=>some env
theorem xh {d:Option Tmp} {env env':List AV} {v:AV} (h:vq d env v=some env'):setd env d v=env':=by
 cases d <;> simp only [vq,Option.some.injEq] at h <;> exact h

section
variable {P:Program} {ops:Array Oper} {Q:List AV->AH->Prop} {o:Oper} {rest:List Oper} {env env':List AV} {h:AH}

theorem ops_nil (hk:Q env h):zy P ops Q [] env h:=hk
theorem zc {v:AV} {a:AH} (b:aG ops o env=some true) (d:zo P o env h=.ok v a) (hd:vq o.dst env v=some env') (c:zy P ops Q rest env' a):zy P ops Q (o::rest) env h:=by
 refine wX ?_;simp only [b,gwp,d,rwp,xh hd];exact c
theorem ops_len {n:Nat} {v:AV} {a:AH} (b:aG ops o env=some true) (d:zo P o env h=.len n v a) (hd:vq o.dst env v=some env') (c:n<=maxLen->zy P ops Q rest env' a):zy P ops Q (o::rest) env h:=by
 refine wX ?_;simp only [b,gwp,d,rwp,xh hd];exact c
theorem ops_call {f:FuncId} {args:List AV} {K:AV->AH->Prop} (b:aG ops o env=some true) (d:zo P o env h=.call f args) (hs:Spec P f args h K)
  (c:∀v a,K v a->zy P ops Q rest (setd env o.dst v) a):zy P ops Q (o::rest) env h:=by
 refine wX ?_;simp only [b,gwp,d,rwp];exact hs.mono c
theorem ops_skip (b:aG ops o env=some false) (hd:vq o.dst env aundef=some env') (a:zy P ops Q rest env' h):zy P ops Q (o::rest) env h:=by
 refine wX ?_;simp only [b,gwp,xh hd];exact a
theorem ops_gv {b:Bool} {v:AV} (a:aG ops o env=some b) (d:b=true->zo P o env h=.ok v h) (hd:vq o.dst env (gv b v)=some env') (c:zy P ops Q rest env' h):zy P ops Q (o::rest) env h:=by
 cases b with
 | true=>rw [gv_true] at hd;exact zc a (d rfl) hd c
 | false=>rw [gv_false] at hd;exact ops_skip a hd c
theorem ops_glen {b:Bool} {n:Nat} {v:AV} (a:aG ops o env=some b) (f:b=true->zo P o env h=.len n v h) (hd:vq o.dst env (gv b v)=some env') (c:(b=true->n<=maxLen)->zy P ops Q rest env' h):zy P ops Q (o::rest) env h:=by
 cases b with
 | true=>rw [gv_true] at hd;exact ops_len a (f rfl) hd λd=>c λ_=>d
 | false=>rw [gv_false] at hd;exact ops_skip a hd (c λe=>by cases e)
theorem zM {b:Bool} {f:FuncId} {args:List AV} {v:AV} (a:aG ops o env=some b) (g:b=true->zo P o env h=.call f args) (hs:b=true->Spec P f args h λr d=>r=v/\d=h)
  (hd:vq o.dst env (gv b v)=some env') (c:zy P ops Q rest env' h):zy P ops Q (o::rest) env h:=by
 cases b with
 | true=>exact ops_call a (g rfl) (hs rfl) λr d ⟨i,e⟩=>by subst i;subst e;rw [gv_true] at hd;rw [xh hd];exact c
 | false=>rw [gv_false] at hd;exact ops_skip a hd c
end
theorem xw {P:Program} {ops:Array Oper} {Q:List AV->AH->Prop} {o:Oper} {rest:List Oper} {env env':List AV} {h:AH} {f:FuncId} {args:List AV} {v:AV} (b:aG ops o env=some true) (e:zo P o env h=.call f args) (hs:Spec P f args h λr a=>r=v/\a=h)
  (hd:vq o.dst env v=some env') (c:zy P ops Q rest env' h):zy P ops Q (o::rest) env h :=
 ops_call b e hs λr a ⟨g,d⟩=>by subst g;subst d;rw [xh hd];exact c
end Go.Vv
