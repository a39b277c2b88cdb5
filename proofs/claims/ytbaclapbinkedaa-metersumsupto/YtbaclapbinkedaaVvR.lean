/- Rules: how a goal over the abstract states is taken apart. -/
import Derived.Test.YtbaclapbinkedaaVvP
namespace Go.Vv
open Go

def leL (as bs:List AV):Prop:=∀ g vs,VL g as vs→VL g bs vs
def leH (h h':AH):Prop:=∀ (B:Nat) (w0 w:World) (g:Gh),Rel B w0 g h w→Rel B w0 g h' w
theorem leV.any (a:AV):leV a .any:=fun _ _ _=>by simp only [V]
theorem leV.nil (k:Nat):leV .nilsl (.sl k []):=fun _ v h=>by
 simp only [V] at h ⊢
 exact ⟨none,0,h,by simp,by simp,.inl trivial⟩
theorem leV.osl (o:Option Nat) (k:Nat) (es:List (List AV)):leV (.osl o k es) (.sl k es):=fun _ v h=>by
 simp only [V] at h ⊢
 obtain ⟨a,c,h1,h2,h3,h4,_⟩:=h
 exact ⟨a,c,h1,h2,h3,h4⟩
theorem leL.nil:leL [] []:=fun _ _ h=>h
theorem leL.refl (as:List AV):leL as as:=fun _ _ h=>h
theorem leL.cons {a b:AV} {r s:List AV} (h:leV a b) (k:leL r s):leL (a::r) (b::s):=fun g vs hv=>by
 simp only [VL] at hv ⊢
 obtain ⟨v,t,e,h1,h2⟩:=hv
 exact ⟨v,t,e,h _ _ h1,k _ _ h2⟩
theorem leL.eq {a:AV} {r s:List AV} (k:leL r s):leL (a::r) (a::s):=leL.cons (leV.refl a) k
theorem leL.drop {a:AV} {r s:List AV} (k:leL r s):leL (a::r) (.any::s):=leL.cons (leV.any a) k
theorem leL.d4 {a b c d:AV} {r s:List AV} (k:leL r s):leL (a::b::c::d::r) (.any::.any::.any::.any::s):=.drop (.drop (.drop (.drop k)))
theorem leL.d16 {a b c d e f g h i j l m n o p q:AV} {r s:List AV} (k:leL r s):leL (a::b::c::d::e::f::g::h::i::j::l::m::n::o::p::q::r) (.any::.any::.any::.any::.any::.any::.any::.any::.any::.any::.any::.any::.any::.any::.any::.any::s):=.d4 (.d4 (.d4 (.d4 k)))

theorem wk.refl (hd:AH) (env:List AV) (h:AH):wk hd env h env h:=fun _ _ _ _ _ g _ _ hg r hv=>⟨g,hg,r,hv,fun _ h=>h⟩
theorem wk.le {hd:AH} {env env':List AV} {h:AH} (k:leL env env'):wk hd env h env' h:=fun _ _ _ _ _ g _ _ hg r hv=>⟨g,hg,r,k _ _ hv,fun _ h=>h⟩
theorem wk.cut {hd:AH} {env:List AV} {h:AH} (he:z9 hd.blks.length hd.toks.length env=true)
  (hb:∀ (i:Nat) (k:Blk),i < hd.blks.length→h.blks[i]?=some k→hd.blks[i]?=some k ∨ k.low hd.blks.length hd.toks.length=true) :
  wk hd env h env (h.cut hd.blks.length hd.toks.length):=fun _ _ _ _ g1 g _ r1 hg r hv=>⟨g.cut hd.blks.length hd.toks.length,by rw [← r1.slen,← r1.tlen];exact Gh.le_cut hg,
   r.cut _ _ (fun i k hi hk=>by
    rcases hb i k hi hk with h3 | h3
    ·have hi':i < g1.σ.length:=by rw [r1.slen];exact hi
     have:=r1.isLow h3
     rw [r1.slen,r1.tlen] at this;exact this
    ·exact h3),VL.cut _ _ he hv,fun _ h=>h⟩
theorem wk.trans {hd:AH} {env env' env2:List AV} {h h' h2:AH} (a:wk hd env h env' h') (b:wk hd env' h' env2 h2):wk hd env h env2 h2:=fun B w0 w w1 g1 g vs r1 hg r hv=>by
 obtain ⟨g',k1,k2,k3,k4⟩:=a B w0 w w1 g1 g vs r1 hg r hv
 obtain ⟨g2,j1,j2,j3,j4⟩:=b B w0 w w1 g1 g' vs r1 k1 k2 k3
 exact ⟨g2,j1,j2,j3,fun c hc=>j4 c (k4 c hc)⟩

def cvo:Value→Option AV
 | .bool b=>some (.bool b)
 | .int k n=>some (.int k n)
 | .string s=>if s.size≤maxLen then some (.str s.data.toList) else none
 | .pointer none=>some .nilp
 | .slice none 0 0=>some .nilsl
 | .map none=>some .nilm
 | .nilFunc=>some .nilf
 | .nilIface=>some .nili
 | _=>none
def yZ (env:List AV):Operand→Option AV
 | .tmp t=>env[t]?
 | .const (.agg cs)=>if okc (.agg cs) then some (cv (.agg cs)) else none
 | .const v=>cvo v
 | .global g=>some (.glob g)
 | .func f=>some (.fn (.func f) [] [])
theorem yu {env:List AV} {x:Operand} {v:AV} (h:yZ env x=some v):yF x=true∧ev env x=v:=by
 cases x with
 | tmp t =>
  simp only [yZ] at h
  refine ⟨rfl,?_⟩
  simp only [ev]
  rw [List.getD_eq_getElem?_getD,h];rfl
 | const c =>
  cases c with
  | agg cs =>
   simp only [yZ] at h
   split at h
   ·rename_i hc;cases h;exact ⟨hc,rfl⟩
   ·cases h
  | string s =>
   simp only [yZ,cvo] at h
   split at h
   ·rename_i hc;cases h;exact ⟨by simpa [yF,okc,okc1] using hc,rfl⟩
   ·cases h
  | slice a b c =>
   simp only [yZ] at h
   unfold cvo at h
   split at h <;> first | cases h | skip
   all_goals first | (cases h;exact ⟨rfl,rfl⟩) | skip
   all_goals simp_all [yF,okc,okc1,ev,cv,cv1]
  | pointer a =>
   cases a with
   | none=>simp only [yZ,cvo] at h;cases h;exact ⟨rfl,rfl⟩
   | some a=>simp only [yZ,cvo] at h;cases h
  | map a =>
   cases a with
   | none=>simp only [yZ,cvo] at h;cases h;exact ⟨rfl,rfl⟩
   | some a=>simp only [yZ,cvo] at h;cases h
  | _=>simp only [yZ,cvo] at h;first | (cases h;exact ⟨rfl,rfl⟩) | cases h
 | global g=>simp only [yZ] at h;cases h;exact ⟨rfl,rfl⟩
 | func f=>simp only [yZ] at h;cases h;exact ⟨rfl,rfl⟩

@[irreducible] def gv (b:Bool) (v:AV):AV:=if b then v else za
theorem gv_true (v:AV):gv true v=v:=by simp [gv]
theorem gv_false (v:AV):gv false v=za:=by simp [gv]

def vl (d:Option Tmp) (env:List AV) (v:AV):Option (List AV) :=
 match d with
 | some d=>some (env.set d v)
 | none=>some env
theorem wl {d:Option Tmp} {env env':List AV} {v:AV} (h:vl d env v=some env'):setd env d v=env':=by
 cases d <;> simp only [vl,Option.some.injEq] at h <;> exact h

section
variable {P:Program} {ops:Array Oper} {Q:List AV→AH→Prop} {o:Oper} {rest:List Oper} {env env':List AV} {h:AH}

theorem zf (hk:Q env h):ym P ops Q [] env h:=hk
theorem zc {v:AV} {h':AH} (hg:aG ops o env=some true) (ha:zN P o env h=.ok v h') (hd:vl o.dst env v=some env') (hk:ym P ops Q rest env' h'):ym P ops Q (o::rest) env h:=by
 refine qg ?_
 simp only [hg,gwp,ha,rwp,wl hd];exact hk
theorem z7 {n:Nat} {v:AV} {h':AH} (hg:aG ops o env=some true) (ha:zN P o env h=.len n v h') (hd:vl o.dst env v=some env') (hk:n≤maxLen→ym P ops Q rest env' h'):ym P ops Q (o::rest) env h:=by
 refine qg ?_
 simp only [hg,gwp,ha,rwp,wl hd];exact hk
theorem ops_call {f:FuncId} {args:List AV} {K:AV→AH→Prop} (hg:aG ops o env=some true) (ha:zN P o env h=.call f args) (hs:Spec P f args h K)
  (hk:∀ v h',K v h'→ym P ops Q rest (setd env o.dst v) h'):ym P ops Q (o::rest) env h:=by
 refine qg ?_
 simp only [hg,gwp,ha,rwp];exact hs.mono hk
theorem ops_skip (hg:aG ops o env=some false) (hd:vl o.dst env za=some env') (hk:ym P ops Q rest env' h):ym P ops Q (o::rest) env h:=by
 refine qg ?_
 simp only [hg,gwp,wl hd];exact hk
theorem zq {b:Bool} {v:AV} (hg:aG ops o env=some b) (ha:b=true→zN P o env h=.ok v h) (hd:vl o.dst env (gv b v)=some env') (hk:ym P ops Q rest env' h):ym P ops Q (o::rest) env h:=by
 cases b with
 | true=>rw [gv_true] at hd;exact zc hg (ha rfl) hd hk
 | false=>rw [gv_false] at hd;exact ops_skip hg hd hk
theorem vc {b:Bool} {n:Nat} {v:AV} (hg:aG ops o env=some b) (ha:b=true→zN P o env h=.len n v h) (hd:vl o.dst env (gv b v)=some env') (hk:(b=true→n≤maxLen)→ym P ops Q rest env' h):ym P ops Q (o::rest) env h:=by
 cases b with
 | true=>rw [gv_true] at hd;exact z7 hg (ha rfl) hd fun hn=>hk fun _=>hn
 | false=>rw [gv_false] at hd;exact ops_skip hg hd (hk fun hb=>by cases hb)
theorem xN {b:Bool} {f:FuncId} {args:List AV} {v:AV} (hg:aG ops o env=some b) (ha:b=true→zN P o env h=.call f args) (hs:b=true→Spec P f args h fun r h'=>r=v∧h'=h)
  (hd:vl o.dst env (gv b v)=some env') (hk:ym P ops Q rest env' h):ym P ops Q (o::rest) env h:=by
 cases b with
 | true=>exact ops_call hg (ha rfl) (hs rfl) fun r h' ⟨e1,e2⟩=>by subst e1;subst e2;rw [gv_true] at hd;rw [wl hd];exact hk
 | false=>rw [gv_false] at hd;exact ops_skip hg hd hk
end
theorem zU {P:Program} {ops:Array Oper} {Q:List AV→AH→Prop} {o:Oper} {rest:List Oper} {env env':List AV} {h:AH} {f:FuncId} {args:List AV} {v:AV} (hg:aG ops o env=some true) (ha:zN P o env h=.call f args) (hs:Spec P f args h fun r h'=>r=v∧h'=h)
  (hd:vl o.dst env v=some env') (hk:ym P ops Q rest env' h):ym P ops Q (o::rest) env h :=
 ops_call hg ha hs fun r h' ⟨e1,e2⟩=>by subst e1;subst e2;rw [wl hd];exact hk
end Go.Vv
