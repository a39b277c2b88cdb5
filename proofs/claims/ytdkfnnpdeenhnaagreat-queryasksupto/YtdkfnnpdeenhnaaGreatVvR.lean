/- Rules: how a goal over the abstract states is taken apart. -/
import Derived.Test.YtdkfnnpdeenhnaaGreatVvP
namespace Go.Vv
open Go

def leL (as bs:List AV):Prop:=∀g vs,VL g as vs->VL g bs vs
def leH (h h':AH):Prop:=∀(B:Nat) (w0 w:World) (g:Gh),Rel B w0 g h w->Rel B w0 g h' w
theorem leV.any (a:AV):leV a .any:=λ_ _ _=>by simp only [V]
theorem leV.nil (k:Nat):leV .nilsl (.sl k []):=λ_ v h=>by
 simp only [V] at h ⊢;exact ⟨none,0,h,by simp,by simp,.inl trivial⟩
theorem leV.osl (o:Option Nat) (k:Nat) (es:List (List AV)):leV (.osl o k es) (.sl k es):=λ_ v h=>by
 simp only [V] at h ⊢;obtain ⟨a,c,b,d,f,e,_⟩:=h;exact ⟨a,c,b,d,f,e⟩
theorem leL.nil:leL [] []:=λ_ _ h=>h
theorem leL.refl (a:List AV):leL a a:=λ_ _ h=>h
theorem leL.cons {a b:AV} {r s:List AV} (h:leV a b) (k:leL r s):leL (a::r) (b::s):=λg vs c=>by
 simp only [VL] at c ⊢;obtain ⟨v,t,e,d,f⟩:=c;exact ⟨v,t,e,h _ _ d,k _ _ f⟩
theorem leL.eq {a:AV} {r s:List AV} (k:leL r s):leL (a::r) (a::s):=leL.cons (leV.refl a) k
theorem leL.drop {a:AV} {r s:List AV} (k:leL r s):leL (a::r) (.any::s):=leL.cons (leV.any a) k
theorem leL.d4 {a b c d:AV} {r s:List AV} (k:leL r s):leL (a::b::c::d::r) (.any::.any::.any::.any::s):=.drop (.drop (.drop (.drop k)))
theorem leL.d16 {a b c d e f g h i j l m n o p q:AV} {r s:List AV} (k:leL r s):leL (a::b::c::d::e::f::g::h::i::j::l::m::n::o::p::q::r) (.any::.any::.any::.any::.any::.any::.any::.any::.any::.any::.any::.any::.any::.any::.any::.any::s):=.d4 (.d4 (.d4 (.d4 k)))

theorem wk.refl (hd:AH) (env:List AV) (h:AH):wk hd env h env h:=λ_ _ _ _ _ g _ _ b r a=>⟨g,b,r,a,λ_ h=>h⟩
theorem wk.le {hd:AH} {env env':List AV} {h:AH} (k:leL env env'):wk hd env h env' h:=λ_ _ _ _ _ g _ _ b r a=>⟨g,b,r,k _ _ a,λ_ h=>h⟩
theorem wk.cut {hd:AH} {env:List AV} {h:AH} (m:zJ hd.blks.length hd.toks.length env=true)
  (f:∀(i:Nat) (k:Blk),i < hd.blks.length->h.blks[i]?=some k->hd.blks[i]?=some k \/ k.low hd.blks.length hd.toks.length=true) :
  wk hd env h env (h.cut hd.blks.length hd.toks.length):=λ_ _ _ _ l g _ a e r c=>⟨g.cut hd.blks.length hd.toks.length,by rw [<- a.slen,<- a.tlen];exact Gh.le_cut e,
   r.cut _ _ (λi k hi d=>by
    rcases f i k hi d with b | b
    ·have j:i < l.σ.length:=by rw [a.slen];exact hi
     have:=a.isLow b;rw [a.slen,a.tlen] at this;exact this
    ·exact b),VL.cut _ _ m c,λ_ h=>h⟩
theorem wk.trans {hd:AH} {env env' d:List AV} {h k j:AH} (a:wk hd env h env' k) (b:wk hd env' k d j):wk hd env h d j:=λB w0 w f e g vs i s r n=>by
 obtain ⟨g',l,x,v,z⟩:=a B w0 w f e g vs i s r n;obtain ⟨u,p,q,t,m⟩:=b B w0 w f e g' vs i l x v;exact ⟨u,p,q,t,λc y=>m c (z c y)⟩

def cvo:Value->Option AV
 | .bool b=>some (.bool b)
 | .int k n=>some (.int k n)
 | .string s=>if s.size<=maxLen then some (.str s.data.toList) else none
 | .pointer none=>some .nilp
 | .slice none 0 0=>some .nilsl
 | .map none=>some .nilm
 | .nilFunc=>some .nilf
 | .nilIface=>some .nili
 | _=>none
def zU (env:List AV):Operand->Option AV
 | .tmp t=>env[t]?
 | .const (.agg cs)=>if okc (.agg cs) then some (cv (.agg cs)) else none
 | .const v=>cvo v
 | .global g=>some (.glob g)
 | .func f=>some (.fn (.func f) [] [])
theorem zw {env:List AV} {x:Operand} {v:AV} (h:zU env x=some v):zO x=true/\ev env x=v:=by
 cases x with
 | tmp t =>
  simp only [zU] at h;refine ⟨rfl,?_⟩;simp only [ev];rw [List.getD_eq_getElem?_getD,h];rfl
 | const c =>
  cases c with
  | agg cs =>
   simp only [zU] at h;split at h
   ·rename_i d;cases h;exact ⟨d,rfl⟩
   ·cases h
  | string s =>
   simp only [zU,cvo] at h;split at h
   ·rename_i d;cases h;exact ⟨by simpa [zO,okc,okc1] using d,rfl⟩
   ·cases h
  | slice a b c =>
   simp only [zU] at h;unfold cvo at h;split at h <;> first | cases h | skip
   all_goals first | (cases h;exact ⟨rfl,rfl⟩) | skip
   all_goals simp_all [zO,okc,okc1,ev,cv,cv1]
  | pointer a =>
   cases a with
   | none=>simp only [zU,cvo] at h;cases h;exact ⟨rfl,rfl⟩
   | some a=>simp only [zU,cvo] at h;cases h
  | map a =>
   cases a with
   | none=>simp only [zU,cvo] at h;cases h;exact ⟨rfl,rfl⟩
   | some a=>simp only [zU,cvo] at h;cases h
  | _=>simp only [zU,cvo] at h;first | (cases h;exact ⟨rfl,rfl⟩) | cases h
 | global g=>simp only [zU] at h;cases h;exact ⟨rfl,rfl⟩
 | func f=>simp only [zU] at h;cases h;exact ⟨rfl,rfl⟩

@[irreducible] def gv (b:Bool) (v:AV):AV:=if b then v else aundef
theorem qR (v:AV):gv true v=v:=by simp [gv]
theorem gv_false (v:AV):gv false v=aundef:=by simp [gv]

def xw (d:Option Tmp) (env:List AV) (v:AV):Option (List AV) :=
 match d with
 | some d=>some (env.set d v)
 | none=>some env
theorem yY {d:Option Tmp} {env env':List AV} {v:AV} (h:xw d env v=some env'):setd env d v=env':=by
 cases d <;> simp only [xw,Option.some.injEq] at h <;> exact h

section
variable {P:Program} {ops:Array Oper} {Q:List AV->AH->Prop} {o:Oper} {rest:List Oper} {env env':List AV} {h:AH}

theorem zZ (hk:Q env h):zp P ops Q [] env h:=hk
theorem zc {v:AV} {a:AH} (b:aG ops o env=some true) (c:zn P o env h=.ok v a) (hd:xw o.dst env v=some env') (d:zp P ops Q rest env' a):zp P ops Q (o::rest) env h:=by
 refine wO ?_;simp only [b,gwp,c,rwp,yY hd];exact d
theorem ops_len {n:Nat} {v:AV} {a:AH} (b:aG ops o env=some true) (c:zn P o env h=.len n v a) (hd:xw o.dst env v=some env') (d:n<=maxLen->zp P ops Q rest env' a):zp P ops Q (o::rest) env h:=by
 refine wO ?_;simp only [b,gwp,c,rwp,yY hd];exact d
theorem ops_call {f:FuncId} {args:List AV} {K:AV->AH->Prop} (b:aG ops o env=some true) (c:zn P o env h=.call f args) (hs:Spec P f args h K)
  (d:∀v a,K v a->zp P ops Q rest (setd env o.dst v) a):zp P ops Q (o::rest) env h:=by
 refine wO ?_;simp only [b,gwp,c,rwp];exact hs.mono d
theorem wV (a:aG ops o env=some false) (hd:xw o.dst env aundef=some env') (b:zp P ops Q rest env' h):zp P ops Q (o::rest) env h:=by
 refine wO ?_;simp only [a,gwp,yY hd];exact b
theorem yO {b:Bool} {v:AV} (a:aG ops o env=some b) (d:b=true->zn P o env h=.ok v h) (hd:xw o.dst env (gv b v)=some env') (c:zp P ops Q rest env' h):zp P ops Q (o::rest) env h:=by
 cases b with
 | true=>rw [qR] at hd;exact zc a (d rfl) hd c
 | false=>rw [gv_false] at hd;exact wV a hd c
theorem ops_glen {b:Bool} {n:Nat} {v:AV} (a:aG ops o env=some b) (e:b=true->zn P o env h=.len n v h) (hd:xw o.dst env (gv b v)=some env') (c:(b=true->n<=maxLen)->zp P ops Q rest env' h):zp P ops Q (o::rest) env h:=by
 cases b with
 | true=>rw [qR] at hd;exact ops_len a (e rfl) hd λf=>c λ_=>f
 | false=>rw [gv_false] at hd;exact wV a hd (c λd=>by cases d)
theorem zF {b:Bool} {f:FuncId} {args:List AV} {v:AV} (c:aG ops o env=some b) (g:b=true->zn P o env h=.call f args) (hs:b=true->Spec P f args h λr a=>r=v/\a=h)
  (hd:xw o.dst env (gv b v)=some env') (d:zp P ops Q rest env' h):zp P ops Q (o::rest) env h:=by
 cases b with
 | true=>exact ops_call c (g rfl) (hs rfl) λr a ⟨e,i⟩=>by subst e;subst i;rw [qR] at hd;rw [yY hd];exact d
 | false=>rw [gv_false] at hd;exact wV c hd d
end
theorem yH {P:Program} {ops:Array Oper} {Q:List AV->AH->Prop} {o:Oper} {rest:List Oper} {env env':List AV} {h:AH} {f:FuncId} {args:List AV} {v:AV} (b:aG ops o env=some true) (d:zn P o env h=.call f args) (hs:Spec P f args h λr a=>r=v/\a=h)
  (hd:xw o.dst env v=some env') (g:zp P ops Q rest env' h):zp P ops Q (o::rest) env h :=
 ops_call b d hs λr a ⟨c,e⟩=>by subst c;subst e;rw [yY hd];exact g
end Go.Vv
