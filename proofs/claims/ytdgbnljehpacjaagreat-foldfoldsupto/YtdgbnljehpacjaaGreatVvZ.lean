/- Rules of the second printer: rows of slices, appends, calls that hand over memory, function values. -/
import Derived.Test.YtdgbnljehpacjaaGreatVvS
import Derived.Shelf.Strings.OnBuilder
import Derived.Shelf.Strings.SplitShaped
import Derived.Shelf.Small.Strs
import Derived.ProofKit
import Derived.OpenShut
import Derived.JoinedCond
import Derived.HandedShaped
set_option linter.all false
namespace Go.Vv
open Go
variable {q:Option Nat} {k id k' m j off:Nat} {i x y:Operand} {t e u e':TypeId} {a b:AV} {ρ:Type} {ops:Array Oper} {Q:List AV->AH->Prop} {rest l:List Oper} {env' cs cs':List AV} {n:Int} {B L' B':List Blk} {T T' Ns M' M1:List Nat} {F:Nat->AH->Prop} {f:FuncId} {g:Gh} {hd:AH} {w0 w:World} {K:AV->AH->Prop}

abbrev zN (s:zu):List AV:=[.str s]
def byteRow (b:UInt8):List AV:=[.int .u8 b.toNat]
abbrev intRow (k:IntKind) (n:Int):List AV:=[.int k n]
abbrev boolRow (b:Bool):List AV:=[.bool b]
def IsSl {α:Type} (a:AV) (z:Nat) (row:α->List AV) (L:List α):Prop:=a=.sl z (L.map row) \/ ∃q,a=.osl q z (L.map row)
section
variable {α:Type} {row:α->List AV} {L M:List α} {z:Nat}
theorem isl:IsSl (.sl z (L.map row)) z row L:=.inl rfl
theorem iosl:IsSl (.osl q z (L.map row)) z row L:=.inr ⟨_,rfl⟩
theorem wN {f:α->List AV} {L:List α}:aLen (.sl k (L.map f))=some L.length:=by simp [aLen]
theorem lenMapO {f:α->List AV} {L:List α}:aLen (.osl q k (L.map f))=some L.length:=by simp [aLen]
theorem zB {i:Nat} {x:α} (h:L[i]?=some x):zQ L (i:Int)=some x:=by
 unfold zQ;rw [uv (by omega),ut];exact h
end
theorem bin_boolE {P:Program} {a b:Bool} (c:Ty P t .bool k):yM P .eql t (.bool a) (.bool b)=some (.bool (a==b)):=by simp only [yM,aEq,c.u,uY]
theorem bin_boolN {P:Program} {a b:Bool} (c:Ty P t .bool k):yM P .neq t (.bool a) (.bool b)=some (.bool !(a==b)):=by simp only [yM,aEq,c.u,uY]
set_option maxHeartbeats 4000000 in
set_option maxHeartbeats 4000000 in
open Classical in
noncomputable def nilq {α:Type} (L:List α) (f:Bool->Option ρ):Option ρ:=if L=[]/\f true ≠ f false then none else f false
theorem nilqF {α:Type} {L:List α} {f:Bool->Option ρ} {r:ρ} (h:nilq L f=some r):f false=some r/\(L=[]->f true=some r):=by
 unfold nilq at h
 simp_all
theorem nilq_of {α:Type} {L:List α} {f:Bool->Option ρ} {r:ρ} (d:f false=some r) (c:L=[]->f true=some r):nilq L f=some r:=by
 unfold nilq
 simp_all
theorem ops_nilqE {P:Program} {o:Oper} {env:List AV} {env':Bool->List AV} {h:AH} {z:Nat} {α:Type} {row:α->List AV} {L:List α} {f:Bool->Option ρ} {r:ρ} (H:aG ops o env=some true)
  (E:o.op=.binOp .eql t x y u) (A:El P t e k) (S:yx env x=some a) (U:IsSl a z row L) (R:yx env y=some .nilsl) (hd:∀b:Bool,ww o.dst env (.bool b)=some (env' b)) (N:nilq L f=some r)
  (I:∀b,(b=true->L=[])->f b=some r->zK P ops Q rest (env' b) h):zK P ops Q (o::rest) env h:=by
 obtain ⟨D,s⟩:=zM S;obtain ⟨G,C⟩:=zM R;obtain ⟨O,p⟩:=nilqF N;have key:∀b,(b=true->L.map row=[])->zK P ops Q rest (env' b) h:=λb d=>by
  have c:b=true->L=[]:=λh=>by simp_all
  refine I b c ?_;cases b with
  | false=>exact O
  | true=>exact p (c rfl)
 refine qu ?_;simp only [H,gwp];rcases U with rfl | ⟨q,rfl⟩
 ·simp only [zt,E,D,G,tf,ur,s,C,aNilq,A.u,rwp]
  rintro v J ⟨rfl,b,rfl,d⟩
  rw [xI (hd b)];exact key b d
 ·simp only [zt,E,D,G,tf,ur,s,C,aNilq,A.u,rwp]
  rintro v J ⟨rfl,b,rfl,d⟩
  rw [xI (hd b)];exact key b d
section
variable {P:Program} {o:Oper} {env:List AV} {h:AH} {α:Type} {row:α->List AV} {L:List α}
theorem vS {k:IntKind} {z:Nat} {y:α} (p:o.op=.indexAddr t x i) (s:El P t e z) (v:yx env x=some a) (hi:yx env i=some (.int k n)) (r:IsSl a z row L) (d:zQ L n=some y) :
  zt P o env h=.ok (.fptr (row y)) h:=by
 obtain ⟨h0,d⟩:=idxF d;refine s_indexAddr p s v hi ?_;have c:(L.map row)[n.toNat]?=some (row y):=by simp_all
 rcases r with rfl | ⟨q,rfl⟩ <;> simp only [qf,h0,rX,ur,c,uY]
theorem yw {k:IntKind} {z:Nat} {y:α} (c:o.op=.indexAddr t x i) (r:El P t e z) (v:yx env x=some a) (hi:yx env i=some (.int k n)) (d:IsSl a z row L) (p:zQ L n=some y) (s:row y=cs) :
  zt P o env h=.ok (.fptr cs) h:=by rw [<- s];exact vS c r v hi d p
theorem s_gidxRow {k:IntKind} {z:Nat} (d:α) (c:o.op=.indexAddr t x i) (r:El P t e z) (s:yx env x=some a) (hi:yx env i=some (.int k n)) (p:IsSl a z row L) (v:0<=n/\n < L.length) :
  zt P o env h=.ok (.fptr (row (L.getD n.toNat d))) h:=by
 refine vS c r s hi p ?_;unfold zQ
 simp_all
theorem wK {k:IntKind} {z:Nat} (d:α) (c:o.op=.indexAddr t x i) (r:El P t e z) (v:yx env x=some a) (hi:yx env i=some (.int k n)) (p:IsSl a z row L) (A:0<=n/\n < L.length)
  (s:row (L.getD n.toNat d)=cs):zt P o env h=.ok (.fptr cs) h:=by rw [<- s];exact s_gidxRow d c r v hi p A
theorem s_idxStr {s:zu} {k:IntKind} {z:Nat} {b:UInt8} (d:o.op=.index t x i) (p:Ty P t .string z) (r:yx env x=some (.str s)) (hi:yx env i=some (.int k n)) (c:zQ s n=some b) :
  zt P o env h=.ok (.int .u8 b.toNat) h:=by
 obtain ⟨h0,c⟩:=idxF c;refine s_indexStr d p r hi ?_;simp only [aIndexStr,h0,ur,c,uY]
inductive Bd (env:List AV):Option Operand->Int->Int->Prop
 | none {d:Int}:Bd env none d d
 | some {x:Operand} {k:IntKind} {n d:Int}:yx env x=some (.int k n)->Bd env (some x) d n
theorem Bd.all {x:Option Operand} {d n:Int} (h:Bd env x d n):x.all yr=true:=by
 cases h with
 | none=>rfl
 | some h=>exact (zM h).1
theorem Bd.ab {x:Option Operand} {d:Nat} (h:Bd env x d n) (h0:0<=n):aBound d (x.map (ev env))=Option.some n.toNat:=by
 cases h with
 | none=>rfl
 | some h=>simp only [uY,(zM h).2,aBound,uv h0]
theorem vW {lo hi:Option Operand} {M:List α} {l hh:Int} {z:Nat} (H:o.op=.slice t x lo hi none) (r:El P t e z) (J:yx env x=some a) (O:a=.sl z (L.map row) \/ ∃q,a=.osl q z (L.map row)/\(hi.isSome=true \/ q.isSome=true)) (v:Bd env lo 0 l) (c:Bd env hi L.length hh)
  (C:slc L l hh=some M):zt P o env h=.ok (.sl z (M.map row)) h:=by
 obtain ⟨⟨h0,S,R⟩,rfl⟩:=slcF C;obtain ⟨I,D⟩:=zM J;obtain ⟨i,E,N,_⟩:=r.i;have A:=Bd.ab (d:=0) v h0;have s:=Bd.ab (d:=L.length) c (by omega);simp only [zt,H,I,v.all,c.all,Option.all_none,tf,ur,r.u,D,E,N,Option.map_none];rcases O with rfl | ⟨q,rfl,p⟩
 ·simp only [tyfix,ur,aSlice,aSliceSl,A,ul,s,rk,uk,uH];rw [uv (by omega)];simp only [oo,List.map_drop,pB]
 ·simp only [tyfix,ur,aSlice,aSliceSl,A,ul,s];rw [uv (by omega)];have G:(q.isNone&&(hi.map (ev env)).isNone)=false:=by
   rcases p with p | p
   ·simp_all
   ·cases q <;> simp_all
  simp only [G,uk,uH,oo,List.map_drop,pB]
theorem a_app {M:List α} {d:AH} (p:L.length+M.length<=lim) (c:h.grow q L.length M.length=some (id,d)):aAppend h k (.osl q k (L.map row)) (M.map row)=some (.osl (some id) k ((L++M).map row),d):=by
 simp only [aAppend,ul];by_cases h0:M.length=0
 ·have:M=[]:=uF h0;subst this;rw [uv (show ([]:List α).length=0 from rfl)];cases q with
  | none =>
   simp only [AH.grow,uV,tS,ui,t7] at c
   simp_all
  | some id' =>
   simp only [AH.grow,uV,tS] at c;split at c
   ·rename_i r;simp only [ui,t7] at c;obtain ⟨rfl,rfl⟩:=c;have:h.toks.set id' L.length=h.toks:=by
     refine tc λj=>?_
     grind
    simp [this]
   ·cases c
 ·simp_all
variable {M:List α}
theorem e_appN {c:Call} {p:AV} (s:o.op=.call c) (I:c.callee=.builtin .append) (hs:c.args=#[x,y]) (G:c.argTypes=#[t,u]) (E:El P t e k)
  (d:El P u e' k') (J:yx env x=some a) (A:yx env y=some b) (v:tyfix P t a=.osl none k (L.map row)) (H:tyfix P u b=p) (N:aNews k p=some (M.map row)) (C:L.length+M.length<=lim) (r:T.length=m) (D:T++[(L++M).length]=T') :
  zt P o env (h.ext B T)=.ok (.osl (some (h.toks.length+m)) k ((L++M).map row)) (h.ext B T'):=by
 refine s_append s I hs G E d J A v H N (a_app C ?_);subst D r;simp [AH.grow,AH.ext]
theorem xq {c:Call} {p:AV} (r:o.op=.call c) (I:c.callee=.builtin .append) (hs:c.args=#[x,y]) (E:c.argTypes=#[t,u]) (D:El P t e k)
  (d:El P u e' k') (J:yx env x=some a) (v:yx env y=some b) (s:tyfix P t a=.osl (some (h.toks.length+j)) k (L.map row)) (G:tyfix P u b=p) (N:aNews k p=some (M.map row)) (A:L.length+M.length<=lim) (O:T[j]?=some L.length) (C:T.set j (L++M).length=T') :
  zt P o env (h.ext B T)=.ok (.osl (some (h.toks.length+j)) k ((L++M).map row)) (h.ext B T'):=by
 refine s_append r I hs E D d J v s G N (a_app A ?_);subst C;have H:(h.toks++T)[h.toks.length+j]?=some L.length:=by grind
 simp only [AH.grow,AH.ext,H,ur]
 simp_all
theorem xk:aNews k (.sl k (M.map row))=some (M.map row):=by simp [aNews]
theorem yH:aNews k (.osl q k (M.map row))=some (M.map row):=by simp [aNews]
end
theorem leL.pre {a5 bs:List AV}:∀{cs:List AV},leL a5 bs->leL (cs++a5) (cs++bs)
 | [],k=>k
 | _::_,k=>leL.eq (leL.pre k)
def keeps:List (Nat×Blk)->List Blk->Prop
 | [],_=>True
 | (j,b)::r,B=>B[j]?=some b/\keeps r B
theorem qK {b:Blk} {r:List (Nat×Blk)} (h:keeps ((j,b)::r) B):B[j]?=some b:=h.1
def lk:List (Nat×List (Nat×Blk))->Nat->List (Nat×Blk)
 | [],_=>[]
 | (m,l)::r,n=>if n=m then l else lk r n
def KeepB (h:AH) (l:List (Nat×Blk)) (x:AH):Prop:=∃B T,x=h.ext B T/\keeps l B
theorem yD {h:AH} {l:List (Nat×Blk)} (c:keeps l B):KeepB h l (h.ext B T):=⟨_,_,rfl,c⟩
def keepA:List (Nat×List (Nat×Blk))->List Blk->Prop
 | [],_=>True
 | (_,l)::r,B=>keeps l B/\keepA r B
theorem keepA_lk:∀{l:List (Nat×List (Nat×Blk))} {B:List Blk},keepA l B->∀n,keeps (lk l n) B
 | [],_,_,_=>trivial
 | (m,l)::r,B,h,n=>by
  simp only [lk];split
  ·exact h.1
  ·exact keepA_lk h.2 n
theorem FOk.all {b:Nat} {G:AH->Prop} {h:AH} (c:G h):FOk b Ns (λ_=>G) h:=λ_ _ _=>c
theorem FOk.nil {b:Nat} {h:AH}:FOk b [] F h:=λ_ h _=>by simp at h
theorem FOk.cons {b n:Nat} {h:AH} (c:b.testBit n=true \/ F n h) (d:FOk b Ns F h):FOk b (n::Ns) F h:=λm r p=>by
 rcases c with c | c
 ·by_cases e:m=n
  ·simp_all
  ·exact d m (by simp_all) p
 ·by_cases e:m=n
  ·simp_all
  ·exact d m (by simp_all) p
abbrev zT (h:AH) (i j k n:Nat):AV:=.rsl (h.blks.length+i) (h.toks.length+j) k n
abbrev osA (h:AH) (j k:Nat) (es:List (List AV)):AV:=.osl (some (h.toks.length+j)) k es
abbrev yA (h:AH) (j k:Nat) (es:List (List AV)):Blk:=.row (h.toks.length+j) k es
theorem yN {P:Program} {Q:Exit->List AV->AH->Prop} {env:List AV} {h:AH} (Ns:List Nat) (c:List (Nat×List (Nat×Blk))) (r:keepA c B) (d:P.follows .mixedOrders=true) (hd:drawOk ⟨l⟩ Ns=true) (p:zV P ⟨l⟩ Ns (λn=>KeepB h (lk c n)) (Q .normal) 0 l env (h.ext B T)) :
  vK P (.region id ⟨l⟩ true) Q env (h.ext B T):=.inl ⟨Ns,λn=>KeepB h (lk c n),⟨d,hd⟩,λn=>yD (keepA_lk r n),p⟩
theorem r_drawnF {P:Program} {Q:Exit->List AV->AH->Prop} {env:List AV} {h:AH} (Ns:List Nat) (F:Nat->AH->Prop) (p:∀n,F n h) (c:P.follows .mixedOrders=true) (hd:drawOk ⟨l⟩ Ns=true) (d:zV P ⟨l⟩ Ns F (Q .normal) 0 l env h) :
  vK P (.region id ⟨l⟩ true) Q env h:=.inl ⟨Ns,F,⟨c,hd⟩,p,d⟩
theorem wO {h:AH} {L:List Blk} {M:List Nat}:(h.ext L M).ext L' M'=h.ext (L++L') (M++M'):=by simp [AH.ext,uB]
theorem yP {P:Program} {o:Oper} {env:List AV} {h c:AH} {args:List AV} {v:AV} (A:aG ops o env=some true) (s:zt P o env h=.call f args) (hs:Spec P f args h λr hh=>r=v/\hh=c)
  (hd:ww o.dst env v=some env') (d:zK P ops Q rest env' c):zK P ops Q (o::rest) env h :=
 ops_call A s hs λr c ⟨p,C⟩=>by subst p;subst C;rw [xI hd];exact d
theorem draw_callH {i:Nat} (D:Ns.contains i=false) {P:Program} {ops:Array Oper} {Q:List AV->AH->Prop} {o:Oper} {rest:List Oper} {env env':List AV} {h c:AH} {f:FuncId} {args:List AV} {v:AV} (A:FOk ((Region.before ops).getD i 0) Ns F c) (d:c.blks=h.blks) (p:aG ops o env=some true) (C:zt P o env h=.call f args) (hs:Spec P f args h λr hh=>r=v/\hh=c)
  (hd:ww o.dst env v=some env') (s:zV P ops Ns F Q (i+1) rest env' c):zV P ops Ns F Q i (o::rest) env h :=
 ⟨v,c,.inl ⟨D,by simp only [AR,p,C];exact hs⟩,.inr d,.inr A,by rw [xI hd];exact s⟩
theorem xu {i:Nat} (A:Ns.contains i=false) {P:Program} {ops:Array Oper} {Q:List AV->AH->Prop} {o:Oper} {rest:List Oper} {env env':List AV} {h c:AH} {v:AV} (C:FOk ((Region.before ops).getD i 0) Ns F c) (s:c.blks=h.blks) (r:aG ops o env=some true) (p:zt P o env h=.ok v c) (hd:ww o.dst env v=some env') (d:zV P ops Ns F Q (i+1) rest env' c) :
  zV P ops Ns F Q i (o::rest) env h:=⟨v,c,.inl ⟨A,by simp only [AR,r,p,rX]⟩,.inr s,.inr C,by rw [xI hd];exact d⟩
def OwnK (h:AH) (k n:Nat) (R:List (List AV)) (rr:AV) (hh:AH):Prop:=rr=.osl (some h.toks.length) k R/\hh=h.ext [] [n]
theorem own_ext {P:Program} {a5:List AV} {h:AH} {n:Nat} {R:List (List AV)} (s:Spec P f a5 (h.ext B T) (OwnK (h.ext B T) k n R)) (c:T.length=m) (d:T++[n]=T') :
  Spec P f a5 (h.ext B T) (λp hh=>p=.osl (some (h.toks.length+m)) k R/\hh=h.ext B T'):=by
 refine s.mono ?_
 rintro r v ⟨rfl,rfl⟩
 subst c d;simp [AH.ext,uB]
theorem ldC_arr {α:Type} {row:α->List AV} {L:List α} {i:Int} {y:α} (p:∀x,(row x).length=k) (c:zQ L i=some y) (v:L.flatMap row=cs):ldC true k (0+i.toNat * k) cs=some (.agg (row y)):=by
 obtain ⟨h0,c⟩:=idxF c;subst v;have key:∀(L:List α) (n:Nat),L[n]?=some y->n * k+k<=(L.flatMap row).length/\((L.flatMap row).drop (n * k)).take k=row y:=by
  intro L
  induction L with
  | nil=>intro n h;simp at h
  | cons a r ih =>
   intro n h;cases n with
   | zero =>
    simp_all
   | succ n =>
    obtain ⟨s,d⟩:=ih n (by simpa using h);simp only [sm,uo,p,sC];refine ⟨by omega,?_⟩;rw [show n * k+k=(row a).length+n * k by grind,s5,tp (by omega),uR,uy];exact d
 obtain ⟨s,d⟩:=key L i.toNat c;simp only [ldC,ur,tA]
 simp_all
theorem s_idxArr {P:Program} {o:Oper} {env:List AV} {h:AH} {n:Nat} {d:TypeDesc} {q:IntKind} {m:Int} {α:Type} {L:List α} {y:α} (p:o.op=.indexAddr t x i) (s:Ty P t (.array n e) k) (r:Ty P e d k') (v:yx env x=some (.ptr id off)) (hi:yx env i=some (.int q m))
  (C:L.length=n) (c:zQ L m=some y):zt P o env h=.ok (.ptr id (off+m.toNat * k')) h:=by
 obtain ⟨h0,c⟩:=idxF c;have A:m.toNat < L.length:=(uc.1 c).1;exact s_indexArrAddr p s r v hi (uv ⟨h0,by omega⟩)
theorem evo_eq {env:List AV} (h:yx env x=some a) (e:a=b):yx env x=some b:=by rw [h,e]
theorem blk_ext2 {h:AH} {b:Blk} (c:B[j]?=some b):((h.ext B T).ext B' T').blk (h.blks.length+j)=some b:=by
 rw [wO,yb,un (uc.1 c).1];exact c
theorem blk_old {h:AH} {b:Blk} (c:h.blk id=some b):(h.ext B T).blk id=some b:=by
 have d:id < h.blks.length:=(uc.1 c).1;simp only [AH.blk,AH.ext] at c ⊢
 grind
theorem b_load {P:Program} {o:Oper} {env:List AV} {h:AH} {d:TypeDesc} {v v':AV} (p:o.op=.load t x) (s:Ty P t d k) (C:yx env x=some (.ptr id off)) (A:h.blk id=some (.cells cs))
  (r:ldC (yp d) k off cs=some v) (c:tyfix P t v=v'):zt P o env (h.ext B T)=.ok v' (h.ext B T):=by
 refine s_load p s C ?_ c;simp only [qZ,blk_old A];exact r

theorem leV.agg {cs ds:List AV} (k:leL cs ds) (d:ds.all AV.one=true):leV (.agg cs) (.agg ds):=λg v c=>by
 simp only [V] at c ⊢;obtain ⟨vs,e,p⟩:=c;exact ⟨vs,e,VA.mk (k _ _ p.toVL) d⟩
theorem leV.tup {cs ds:List AV} (k:leL cs ds):leV (.tup cs) (.tup ds):=λg v c=>by
 simp only [V] at c ⊢;obtain ⟨vs,e,d⟩:=c;exact ⟨vs,e,k _ _ d⟩
theorem VL.setE {g:Gh}:∀{a5:List AV} {vs:List Value},VL g a5 vs->∀(i:Nat) (a:AV),(∀v,vs[i]?=some v->V g a v)->VL g (a5.set i a) vs
 | [],_,h,i,a,_=>by simpa using h
 | _::r,_,h,i,a,hv=>by
  simp only [VL] at h;obtain ⟨v',s,rfl,d,c⟩:=h;cases i with
  | zero=>simp only [ug,VL];exact ⟨v',s,rfl,hv v' rfl,c⟩
  | succ i=>simp only [uf,VL];exact ⟨v',s,rfl,d,VL.setE c i a (λv p=>hv v (by simp_all))⟩
theorem V.tok {n:Nat} {es:List (List AV)} {v:Value} (D:es.length=n) (d:V g (.osl none k es) v):V (g.addT ⟨n,none,false⟩) (.osl (some g.τ.length) k es) v:=by
 subst D;simp only [V] at d ⊢;obtain ⟨a,c,s,p,A,r,C⟩:=d;refine ⟨a,c,s,p,A,r.imp id λ⟨b,o,e,hh⟩=>⟨b,o,e,VE.mono (g.le_addT _) _ _ _ _ hh⟩,⟨es.length,none,false⟩,?_,rfl,uh _,λ_=>.inl C⟩;simp only [Gh.addT]
 simp_all
theorem wk_tok {α:Type} {row:α->List AV} {L:List α} {h:AH} {env:List AV} {d:Nat} (J:yx env (.tmp d)=some (.osl none k (L.map row))) (I:T.length=m)
  (D:ww (some d) env (.osl (some (h.toks.length+m)) k (L.map row))=some env') (H:T++[L.length]=T') :
  wk hd env (h.ext B T) env' (h.ext B T'):=λ_ _ _ _ O g vs _ G r E=>by
 subst I H;simp only [ww,ui] at D;subst D;have c:h.toks.length+T.length=g.τ.length:=by rw [r.tlen];simp [AH.ext]
 refine ⟨g.addT ⟨L.length,none,false⟩,G.trans (g.le_addT _),?_,?_⟩
 ·have:=r.addTok ⟨L.length,none,false⟩ (λ_ _ _ h=>by cases h) (λ_ _ h=>by cases h);have e:(h.ext B (T++[L.length]))={ (h.ext B T) with toks:=(h.ext B T).toks++[L.length] }:=by simp [AH.ext,uB]
  simp_all
 ·have A:=E;refine ⟨VL.setE (VL.mono (g.le_addT _) _ _ E) d _ λv s=>?_,λ_ h=>h⟩;obtain ⟨a,p,N⟩:=A.getR _ _ s;have C:env[d]?=some (.osl none k (L.map row)):=J;rw [C] at p;injection p with p;subst p;rw [c];exact N.tok (by simp)
theorem Rel.rowsC {B:Nat} {h:AH} (r:Rel B w0 g h w) {i:Nat} {cs cs':List AV} (v:h.blks[i]?=some (.cells cs)) :
  (∀(j:Nat) (x:Blk),g.σ[j]?=some none->(h.put i (.cells cs')).blks[j]?=some x->RowB g w x) /\
  ∀(a b t k k':Nat) (es es':List (List AV)),(h.put i (.cells cs')).blks[a]?=some (.row t k es)->(h.put i (.cells cs')).blks[b]?=some (.row t k' es')->a=b:=by
 have key:∀(a t k:Nat) (es:List (List AV)),(h.put i (.cells cs')).blks[a]?=some (.row t k es)->h.blks[a]?=some (.row t k es):=by
  intro a t k es d;simp only [AH.put] at d
  grind
 refine ⟨λj x p c=>?_,λa b t k k' es es' d s=>r.rinj _ _ _ _ _ _ _ (key _ _ _ _ d) (key _ _ _ _ s)⟩;simp only [AH.put] at c;by_cases hij:i=j
 ·subst hij;exact (r.row i _ p v).elim
 ·rw [u7 hij] at c;exact r.row j x p c
theorem Rel.reblk {B:Nat} {h:AH} (r:Rel B w0 g h w) {i:Nat} {cs cs':List AV} (p:h.blks[i]?=some (.cells cs)) (E:∀c,BlkOk g w c (.cells cs)->BlkOk g w c (.cells cs')):Rel B w0 g (h.put i (.cells cs')) w:=by
 refine ⟨r.below,r.bsz,r.phi,by simp [AH.put,r.slen],λj c q s d=>?_,r.tlen,r.tok,r.sinj,r.tinj,r.sep,r.dfr,(r.rowsC p).1,(r.rowsC p).2,r.nb,r.ob,r.oa⟩;simp only [AH.put] at d;by_cases hij:i=j
 ·subst hij;rw [uE (uc.1 p).1] at d;injection d with d;subst d;obtain ⟨C,v,D,A⟩:=r.blk i c _ s p
  simp_all
 ·rw [u7 hij] at d;exact r.blk j c q s d
theorem wk_tokB {α:Type} {row:α->List AV} {L:List α} {h:AH} {env:List AV} (S:B[j]?=some (.cells cs)) (he:yx cs (.tmp off)=some (.osl none k (L.map row))) (Z:T.length=m)
  (R:ww (some off) cs (.osl (some (h.toks.length+m)) k (L.map row))=some cs') (hB:B.set j (.cells cs')=B') (W:T++[L.length]=T') :
  wk hd env (h.ext B T) env (h.ext B' T'):=λ_ _ w _ g1 g vs _ V r hv=>by
 subst Z W hB;simp only [ww,ui] at R;subst R;have D:h.toks.length+T.length=g.τ.length:=by rw [r.tlen];simp [AH.ext]
 refine ⟨g.addT ⟨L.length,none,false⟩,V.trans (g.le_addT _),?_,VL.mono (g.le_addT _) _ _ hv,λ_ h=>h⟩;have d:=r.addTok ⟨L.length,none,false⟩ (λ_ _ _ h=>by cases h) (λ_ _ h=>by cases h);have H:({ (h.ext B T) with toks:=(h.ext B T).toks++[L.length] }:AH).blks[h.blks.length+j]?=some (.cells cs):=by
  simp only [AH.ext];rw [um (by omega),uy];exact S
 have e:(h.ext (B.set j (.cells (cs.set off (.osl (some (h.toks.length+T.length)) k (L.map row))))) (T++[L.length])) =
   ({ (h.ext B T) with toks:=(h.ext B T).toks++[L.length] }:AH).put (h.blks.length+j) (.cells (cs.set off (.osl (some (h.toks.length+T.length)) k (L.map row)))):=by
  simp only [AH.ext,AH.put,uB]
  simp_all
 rw [e]
 -- what the cells were ahead of the token
 have C:(h.ext B T).blks[h.blks.length+j]?=some (.cells cs):=by
  omega
 obtain ⟨c,U⟩:∃c:Nat,g.σ[h.blks.length+j]?=some (some c):=by
  have:h.blks.length+j < g.σ.length:=by rw [r.slen];simp only [AH.ext,uo];have:=(uc.1 S).1;omega
  rcases U:g.σ[h.blks.length+j] with _ | c
  ·exact (r.row _ _ (by simp_all) C).elim
  ·simp_all
 obtain ⟨_,_,⟨us,t,Y,N⟩,_⟩:=r.blk _ c _ U C;have E:VA (g.addT ⟨L.length,none,false⟩) (cs.set off (.osl (some (h.toks.length+T.length)) k (L.map row))) us.toList:=by
  have O:=N.toVL;refine VA.mk (VL.setE (VL.mono (g.le_addT _) _ _ O) off _ λv I=>?_) ?_
  ·obtain ⟨a,p,hV⟩:=O.getR _ _ I;have J:cs[off]?=some (.osl none k (L.map row)):=he;rw [J] at p;injection p with p;subst p;rw [D];exact hV.tok (by simp)
  ·rw [uq];intro a p;rcases sr p with p | rfl
   ·have:=N.ones;rw [uq] at this;exact this a p
   ·rfl
 -- one block alone: the same cell
 refine ⟨d.below,d.bsz,d.phi,by simp [AH.put,d.slen],λi G q A s=>?_,d.tlen,d.tok,d.sinj,d.tinj,d.sep,d.dfr,(d.rowsC H).1,(d.rowsC H).2,d.nb,d.ob,d.oa⟩;simp only [AH.put] at s;by_cases hij:h.blks.length+j=i
 ·subst hij;rw [uE (uc.1 H).1] at s;injection s with s;subst s;obtain ⟨h6,X,_,h9⟩:=d.blk _ G _ A H;have:G=c:=by
   have:g.σ[h.blks.length+j]?=some (some G):=A
   simp_all
  subst this;exact ⟨h6,X,⟨us,t,Y,E⟩,λ_=>h9 (by simp)⟩
 ·rw [u7 hij] at s;exact d.blk i G q A s
mutual
theorem AV.low_up {n d m p:Nat} (c:n<=d) (h:m<=p):∀a:AV,a.low n m=true->a.low d p=true
 | .bool _,_ | .int _ _,_ | .str _,_ | .nilp,_ | .nilm,_ | .nilf,_ | .nili,_ | .nilsl,_ | .fptr _,_ | .sl _ _,_ | .glob _,_ | .any,_ | .opq,_ | .bsl _ _,_ | .nsl _ _,_ | .gsl _ _,_ | .gptr _,_=>rfl
 | .osl none _ _,_=>rfl
 | .osl (some t) _ _,hl=>by simp only [AV.low,uj] at hl ⊢;omega
 | .ptr _ _,hl=>by simp only [AV.low,uj] at hl ⊢;omega
 | .msl _ _ _ _,hl=>by simp only [AV.low,uj] at hl ⊢;omega
 | .rsl _ _ _ _,hl=>by simp only [AV.low,uj] at hl ⊢;omega
 | .rsuf _ _ _ _ _,hl=>by simp only [AV.low,uj] at hl ⊢;omega
 | .rptr _ _ _ _ _,hl=>by simp only [AV.low,uj] at hl ⊢;omega
 | .map _,hl=>by simp only [AV.low,uj] at hl ⊢;omega
 | .yld _,hl=>by simp only [AV.low,uj] at hl ⊢;omega
 | .fn _ a b,hl=>by
  simp only [AV.low,ud] at hl ⊢;exact ⟨yk c h a hl.1,yk c h b hl.2⟩
 | .iface _ v,hl=>by simp only [AV.low] at hl ⊢;exact AV.low_up c h v hl
 | .agg cs,hl=>by simp only [AV.low] at hl ⊢;exact yk c h cs hl
 | .tup cs,hl=>by simp only [AV.low] at hl ⊢;exact yk c h cs hl
theorem yk {n d m p:Nat} (c:n<=d) (h:m<=p):∀l:List AV,zD n m l=true->zD d p l=true
 | [],_=>rfl
 | a::r,hl=>by
  simp only [zD,ud] at hl ⊢;exact ⟨AV.low_up c h a hl.1,yk c h r hl.2⟩
end
theorem wk_cutm {h:AH} {env:List AV} {L:List Blk} {M:List Nat} (m:Nat) (C:zD h.blks.length (h.toks.length+m) env=true) (p:M.take m=M1):wk h env (h.ext L M) env (h.ext [] M1):=λ_ _ _ _ A g vs c s r D=>by
 subst p;refine ⟨g.cut h.blks.length (h.toks.length+m),Gh.le_cut2 s (by rw [c.slen];exact uh _) (by rw [c.tlen];omega),?_,VL.cut _ _ C D,λ_ h=>h⟩;have e:(h.ext L M).cut h.blks.length (h.toks.length+m)=h.ext [] (M.take m):=by
  simp [AH.cut,AH.ext,tX];rw [uM (by omega)]
 have:=r.cut h.blks.length (h.toks.length+m) (λi k hi d=>?_)
 ·simp_all
 ·have v:i < A.σ.length:=by rw [c.slen];exact hi
  simp only [AH.ext] at d;rw [un hi] at d;have:=c.isLow d;rw [c.slen,c.tlen] at this;exact Blk.low_mono (by omega) _ this
theorem fin_own {h:AH} {n:Nat} {R:List (List AV)} (c:K (.osl (some h.toks.length) k R) (h.ext [] [n])):finK h K (.osl (some (h.toks.length+0)) k R) (h.ext B (n::T)) :=
 wm (wk_cutm 1 (by simp [zD,AV.low]) rfl) c
theorem fin_own0 {α:Type} {row:α->List AV} {L:List α} {h:AH} (c:K (.osl (some h.toks.length) k (L.map row)) (h.ext [] [L.length])):finK h K (.osl none k (L.map row)) (h.ext B T) :=
 wm ((wk_cutm (M1:=[]) 0 (by rfl) rfl).trans (wk_tok (d:=0) (m:=0) rfl rfl rfl rfl)) c
theorem wk_leB {h:AH} {env:List AV} (C:B[j]?=some (.cells cs)) (A:leL cs cs') (v:cs'.all AV.one=true) (D:B.set j (.cells cs')=B'):wk hd env (h.ext B T) env (h.ext B' T):=λ_ _ w _ G g vs _ E r H=>by
 subst D;have p:(h.ext B T).blks[h.blks.length+j]?=some (.cells cs):=by
  simp only [AH.ext];rw [um (by omega),uy];exact C
 have:=r.reblk p (cs':=cs') (λc ⟨us,t,s,d⟩=>⟨us,t,s,VA.mk (A _ _ d.toVL) v⟩);have e:(h.ext B T).put (h.blks.length+j) (.cells cs')=h.ext (B.set j (.cells cs')) T:=by
  simp only [AH.ext,AH.put]
  simp_all
 grind
theorem yz {h:AH} {L0 L1:List Blk} {M0:List Nat} {env:List AV} (c:zD (h.blks.length+L0.length) (h.toks.length+M0.length) env=true) (p:L'.take L0.length=L1) (d:M'.take M0.length=M1)
  (s:L1.all (λb=>b.low (h.blks.length+L0.length) (h.toks.length+M0.length))=true):wk (h.ext L0 M0) env (h.ext L' M') env (h.ext L1 M1) :=
 wk_ext2 c p d λ_ k r=>.inr (by grind)
theorem r_condR {P:Program} {Q:Exit->List AV->AH->Prop} {env:List AV} {h:AH} {σ:Type} {f:Nat->Nat->σ->Option (Out ρ σ)} {m:Int} {i:Nat} {s:σ} {rest:σ->Option ρ} {v:ρ} {c:Operand} {t e:Code} (E:yx env c=some (.bool (decide ((i:Int) < m))))
  (A:lp (zp f ((List.range m.toNat).drop i) i s) rest=some v)
  (H:∀x p,i < (List.range m.toNat).length->(i:Int) < m->x=i->f i x s=some p->konL f (List.range m.toNat) i rest p=some v->vK P t Q env h) (D:rest s=some v->vK P e Q env h):vK P (.cond c t e) Q env h:=by
 refine r_cond E (λd=>?_) (λd=>?_)
 ·have C:=tq d;have r:i < (List.range m.toNat).length:=by simp;omega
  obtain ⟨x,p,I,G,J⟩:=loopL_step A r
  simp_all
 ·have C:=of_decide_eq_false d;exact D (loopL_end A (by simp;omega))
theorem ops_nextF {P:Program} {o:Oper} {env G H:List AV} {h:AH} {L:List Blk} {M:List Nat} {s:List UInt8} {c:Nat} {A C:Option ρ} {r:ρ} (N:aG ops o env=some true) (I:o.op=.next x true)
  (O:yx env x=some (.ptr (h.blks.length+j) 0)) (J:L[j]?=some (.siter s c)) (p:ww o.dst env (.tup [.bool true,.int .i64 c,.int .i32 (dec s c).1])=some G) (d:ww o.dst env (.tup [.bool false])=some H)
  (R:(if c < s.length then A else C)=some r) (v:c < s.length->A=some r->zK P ops Q rest G (h.ext (L.set j (.siter s (c+(dec s c).2))) M)) (D:C=some r->zK P ops Q rest H (h.ext L M)):zK P ops Q (o::rest) env (h.ext L M) :=
 ops_next N I O J p d (λE=>v E (by simp_all)) (λE=>D (by grind))
open Classical in
noncomputable def anyN (g:Nat->Option ρ):Option ρ:=if h:∃r N,∀n,N<=n->g n=some r then some (Classical.choose h) else none
theorem anyN_is {g:Nat->Option ρ} {r:ρ} (h:anyN g=some r):∃n,g n=some r:=by
 unfold anyN at h;split at h
 ·rename_i d;injection h with h;subst h;obtain ⟨N,c⟩:=sd d;exact ⟨N,c N (uh _)⟩
 ·cases h
theorem qT {g:Nat->Option ρ} {r:ρ} (N:Nat) (h:∀n,N<=n->g n=some r):anyN g=some r:=by
 have c:∃r N,∀n,N<=n->g n=some r:=⟨r,N,h⟩
 unfold anyN;rw [pU c];obtain ⟨M,d⟩:=sd c;have p:=d (max N M) (Nat.le_max_right _ _)
 grind
theorem Rel.beyond {B:Nat} {w':World} {h:AH} (r:Rel B w0 g h w) (d:RowKit.Below w.heap.size w w'):Rel B w0 g h w' :=
 ⟨r.below.trans (d.mono r.bsz),uJ r.bsz d.size,λb j v e=>(d.cell (p:=⟨b,j,none⟩) (r.phi_lt e)).trans (r.phi b j v e),r.slen,
   λi c k A G=>by
     obtain ⟨H,C,J,I⟩:=r.blk i c k A G;exact ⟨H,sg C d.size,J.mono (Gh.le.refl g) (d.block c C),I⟩,r.tlen,
   λi t E=>by
     obtain ⟨H,C⟩:=r.tok i t E;exact ⟨H,λb l e s=>(C b l e s).mono d.size (d.block b (C b l e s).lt) λ_ _=>rfl⟩,r.sinj,r.tinj,r.sep,λc A=>⟨(r.dfr c A).1,(d.block c (r.dfr_lt A)).trans (r.dfr c A).2.1,(r.dfr c A).2.2⟩,
   λi k hi G=>(r.row i k hi G).mono (Gh.le.refl g) (λ_ _ h _=>h) (λi t b x E _ s=>⟨d.block b ((r.tok i t E).2 b x.1 x.2 s).lt,λ_=>rfl⟩),r.rinj,
   λb x D=>(r.nb b x D).mono λ_ s N=>⟨d.block b s,N,λh=>h⟩,λb D=>⟨sg (r.ob b D).1 d.size,(r.ob b D).2⟩,r.oa⟩
end Go.Vv
namespace Go.Vv
open Go Go.RowKit Go.Lib
variable {a:Array Bool} {d:Option Tmp} {ops:Array Oper}

theorem ready_mem {ops:Array Oper} {listed:Array Bool} {i:Nat}:i ∈ Region.ready .any ops listed ↔ i < ops.size/\listed.getD i true=false/\∀o,ops[i]?=some o->∀e ∈ o.after,Region.binds .any e=true->listed.getD e.on false=true:=by
 unfold Region.ready;rw [tO,List.mem_range];refine and_congr_right λhi=>?_;have ho:ops[i]?=some ops[i]:=uN hi;simp only [ud,tH,ho,uY,rt];refine and_congr_right λ_=>?_;rw [tY];constructor
 ·intro h o e1 e he hb;cases e1;have:=h e he;rw [hb] at this;simpa using this
 ·intro h e he;cases hb:Region.binds .any e with
  | false=>rfl
  | true=>simpa using h _ rfl e he hb
theorem set_getD {i j:Nat} {d:Bool} (h:i ≠ j):(a.setIfInBounds i true).getD j d=a.getD j d:=by
 simp [uX,h]
theorem set_getT {i j:Nat} (h:a.getD j false=true):(a.setIfInBounds i true).getD j false=true:=by
 by_cases e:i=j
 ·subst e;rw [uX] at h ⊢;rw [r9];simp only [ur];split
  ·rfl
  ·rename_i b;rw [rL (by omega)] at h;simp at h
 ·rw [set_getD e];exact h
theorem ready_set {listed:Array Bool} {i j:Nat} (h:i ∈ Region.ready .any ops listed) (b:j ≠ i):i ∈ Region.ready .any ops (listed.setIfInBounds j true):=by
 rw [ready_mem] at h ⊢;exact ⟨h.1,by rw [set_getD b];exact h.2.1,λo c e f g=>set_getT (h.2.2 o c e f g)⟩
theorem set_comm2 {i j:Nat}:(a.setIfInBounds i true).setIfInBounds j true=(a.setIfInBounds j true).setIfInBounds i true:=by
 apply rF;intro k;simp only [r9,Array.size_setIfInBounds];by_cases h1:i=k <;> by_cases h2:j=k <;> simp [h1,h2]
theorem setd_comm {env:List AV} {b:Option Tmp} {v v':AV} (h:b=none \/ d ≠ b):setd (setd env d v) b v'=setd (setd env b v') d v:=by
 cases d with
 | none=>rfl
 | some d =>
  cases b with
  | none=>rfl
  | some b =>
   simp only [setd];exact List.set_comm _ _ (λe=>by rcases h with h | h <;> simp_all)
def apart (ops:Array Oper) (o p:Oper):Bool :=
 (match o.dst with | some d=>!(p.looksAt ops).contains d&&p.dst != some d | none=>true) &&
 (match p.dst with | some d=>!(o.looksAt ops).contains d | none=>true)
def apartAll (ops:Array Oper) (i:Nat):Bool:=match ops[i]? with
 | none=>false
 | some o=>ops.toList.zipIdx.all λ(p,j)=>i==j || (p.after.any λe=>Region.binds .any e&&e.on==i) || (o.after.any λe=>Region.binds .any e&&e.on==j) || apart ops o p
theorem apart_of {listed:Array Bool} {i j:Nat} {o p:Oper} (h:apartAll ops i=true) (q:ops[i]?=some o) (n:ops[j]?=some p) (c:i ≠ j) (hi:i ∈ Region.ready .any ops listed) (f:j ∈ Region.ready .any ops listed):apart ops o p=true:=by
 unfold apartAll at h;rw [q] at h;simp only [uq,Prod.forall] at h;have r:(p,j) ∈ ops.toList.zipIdx:=by
  rw [pa];simpa using n
 have h:=h p j r;rw [ready_mem] at hi f;simp only [tG,s7,Array.any_eq_true'] at h;rcases h with ((h | ⟨e,g,h⟩) | ⟨e,g,h⟩) | h
 ·exact absurd h c
 ·exfalso;simp only [ud,s7] at h;have k:=f.2.2 p n e g h.1;have k2:=hi.2.1;rw [h.2] at k;rw [uX] at k k2;cases hh:listed[i]? with
  | none=>rw [hh] at k;simp at k
  | some b=>rw [hh] at k k2;simp at k k2;rw [k] at k2;cases k2
 ·exfalso;simp only [ud,s7] at h;have k:=hi.2.2 o q e g h.1;have k2:=f.2.1;rw [h.2] at k;rw [uX] at k k2;cases hh:listed[j]? with
  | none=>rw [hh] at k;simp at k
  | some b=>rw [hh] at k k2;simp at k k2;rw [k] at k2;cases k2
 ·exact h
def Sil (P:Program) (ops:Array Oper) (o:Oper) (env:List AV) (v:AV):Prop :=
 (aG ops o env=some true/\∀h,zt P o env h=.ok v h) \/ (aG ops o env=some false/\v=aundef) \/
 (aG ops o env=some true/\∃f args,(∀h,zt P o env h=.call f args)/\∀h,Spec P f args h λr hh=>r=v/\hh=h)
theorem looks_env {o:Oper} {env:List AV} {v:AV} (h:∀t,d=some t->t ∉ o.looksAt ops):(∀t ∈ o.looksAt ops,(setd env d v)[t]?=env[t]?)/\∀x ∈ o.op.operands,ev (setd env d v) x=ev env x:=by
 have b:∀t ∈ o.looksAt ops,(setd env d v)[t]?=env[t]?:=λt c=>setd_get_ne λe=>h t e c;exact ⟨b,λx f=>ev_congr λt e=>b t (looks_op (by rw [<- e];exact f))⟩
theorem apart_l {o p:Oper} (h:apart ops o p=true):(∀t,o.dst=some t->t ∉ p.looksAt ops)/\(∀t,p.dst=some t->t ∉ o.looksAt ops)/\(p.dst=none \/ o.dst ≠ p.dst):=by
 unfold apart at h;rw [ud] at h;refine ⟨λt e=>?_,λt e=>?_,?_⟩
 ·have b:=h.1;rw [e] at b;simp only [ud,tH,rY,rJ] at b;exact b.1
 ·have b:=h.2;rw [e] at b;simpa [rY] using b
 ·cases hp:p.dst with
  | none=>exact .inl rfl
  | some t =>
   right;intro e;have b:=h.1;rw [e,hp] at b;simp at b
theorem any_sil {P:Program} {ops:Array Oper} {Q:List AV->AH->Prop} {i:Nat} {o:Oper} {v:AV} (y:ops[i]?=some o) (t:apartAll ops i=true):∀(m:Nat) {listed:Array Bool} {env:List AV} {h:AH},i ∈ Region.ready .any ops listed->Sil P ops o env v ->
  ve P ops Q m (listed.setIfInBounds i true) (setd env o.dst v) h->ve P ops Q (m+1) listed env h
 | m,listed,env,h,hi,hs,c=>by
  refine ⟨λe=>(by rw [e] at hi;cases hi),λj C p u=>?_⟩;by_cases hne:j=i
  ·subst hne;rw [y] at u;cases u;rcases hs with ⟨g,n⟩ | ⟨g,rfl⟩ | ⟨g,f,args,n,A⟩
   ·rw [g,n];exact .inl c
   ·rw [g];exact c
   ·rw [g,n];exact .inl ((A h).mono λr hh e=>by rw [e.1,e.2];exact c)
  ·have s:=ready_set C (Ne.symm hne);obtain ⟨E,F,a3⟩:=apart_l (apart_of t y u (Ne.symm hne) hi C);cases m with
   | zero=>rw [c.1] at s;cases s
   | succ m =>
    have c:=c.2 j s p u;obtain ⟨D,z⟩:=looks_env (env:=env) (v:=v) E;rw [aG_congr D,astep_congr z] at c;have w:∀v' h',ve P ops Q m ((listed.setIfInBounds i true).setIfInBounds j true) (setd (setd env o.dst v) p.dst v') h'->ve P ops Q (m+1) (listed.setIfInBounds j true) (setd env p.dst v') h':=λv' h' hh=>by
     obtain ⟨x,B⟩:=looks_env (env:=env) (v:=v') F;refine any_sil (v:=v) y t m (ready_set hi hne) ?_ ?_
     ·rcases hs with ⟨g,n⟩ | ⟨g,n⟩ | ⟨g,f,args,n,A⟩
      ·exact .inl ⟨by rw [aG_congr x];exact g,λh=>by rw [astep_congr B];exact n h⟩
      ·exact .inr (.inl ⟨by rw [aG_congr x];exact g,n⟩)
      ·exact .inr (.inr ⟨by rw [aG_congr x];exact g,f,args,λh=>by rw [astep_congr B];exact n h,A⟩)
     ·rw [set_comm2,setd_comm a3] at hh;exact hh
    cases hb:aG ops p env with
    | none=>rw [hb] at c;exact c
    | some b =>
     rw [hb] at c;cases b with
     | true=>exact c.imp (rwp_mono w) λc=>match c with
      | .inl ⟨l,hl,hq⟩=>.inl ⟨l,by rw [<- bstep_congr z];exact hl,λq hi=>w _ _ (hq q hi)⟩
      | .inr ⟨k,ys,hn,hq⟩=>.inr ⟨k,ys,by rw [<- anew_congr z];exact hn,w _ _ hq⟩
     | false=>exact w _ _ c
def anyAt (P:Program) (ops:Array Oper) (Q:List AV->AH->Prop) (m:Nat) (listed:Array Bool) (env:List AV) (h:AH) (i:Nat):Prop:=∀o,ops[i]?=some o ->
 gwp (aG ops o env) (λK=>rwp P h (zt P o env h) K \/ bwp P o env h K) h λv h'=>ve P ops Q m (listed.setIfInBounds i true) (setd env o.dst v) h'
section
variable {P:Program} {l:List Oper} {Q:List AV->AH->Prop} {m i j:Nat} {listed:Array Bool} {env env':List AV} {h h':AH} {o:Oper} {v:AV}
theorem any_end (b:(Region.ready .any ⟨l⟩ listed==[])=true) (c:Q env h):ve P ⟨l⟩ Q m listed env h:=by
 have b:=eq_of_beq b;cases m with
 | zero=>exact ⟨b,c⟩
 | succ m=>exact ⟨λ_=>c,λi hi=>by rw [b] at hi;cases hi⟩
theorem any_s (g:(Region.ready .any ⟨l⟩ listed).contains i=true) (b:apartAll ⟨l⟩ i=true) (e:l[i]?=some o) (k:aG ⟨l⟩ o env=some true) (f:∀h,zt P o env h=.ok v h) (hd:ww o.dst env v=some env')
  (c:ve P ⟨l⟩ Q m (listed.setIfInBounds i true) env' h):ve P ⟨l⟩ Q (m+1) listed env h:=by
 refine any_sil (v:=v) (by simpa using e) b m (by simpa [rY] using g) (.inl ⟨k,f⟩) ?_;rw [xI hd];exact c
theorem any_at (f:l[i]?=some o) (k:aG ⟨l⟩ o env=some true) (g:zt P o env h=.ok v h') (hd:ww o.dst env v=some env') (e:ve P ⟨l⟩ Q m (listed.setIfInBounds i true) env' h'):anyAt P ⟨l⟩ Q m listed env h i:=by
 intro p c;have:o=p:=by
  have b:l[i]?=some p:=by simpa using c
  rw [f] at b;exact uS b
 subst this;rw [k,g];exact .inl (by simp only [rwp];rw [xI hd];exact e)
theorem any_1 (b:(Region.ready .any ⟨l⟩ listed==[i])=true) (hi:anyAt P ⟨l⟩ Q m listed env h i):ve P ⟨l⟩ Q (m+1) listed env h:=by
 have b:=eq_of_beq b;refine ⟨λe=>(by rw [b] at e;cases e),λk c o f=>?_⟩;rw [b,ux] at c;subst c;exact hi o f
theorem any_2 (c:(Region.ready .any ⟨l⟩ listed==[i,j])=true) (hi:anyAt P ⟨l⟩ Q m listed env h i) (g:anyAt P ⟨l⟩ Q m listed env h j):ve P ⟨l⟩ Q (m+1) listed env h:=by
 have c:=eq_of_beq c;refine ⟨λe=>(by rw [c] at e;cases e),λk b o f=>?_⟩;rw [c] at b;rcases uQ.1 b with rfl | b
 ·exact hi o f
 ·rw [ux] at b;subst b;exact g o f
end
section
variable {P:Program} {l:List Oper} {Q:List AV->AH->Prop} {m i:Nat} {listed:Array Bool} {env env':List AV} {h:AH} {o:Oper} {v:AV}
end
theorem r_any {P:Program} {Q:Exit->List AV->AH->Prop} {env:List AV} {h:AH} {id:Nat} {l:List Oper} (n:Nat) (e:l.length=n) (b:P.follows .mixedOrders=true) (c:ve P ⟨l⟩ (Q .normal) n (Array.replicate n false) env h):vK P (.region id ⟨l⟩ true) Q env h:=by
 refine .inr ⟨b,?_⟩;subst e;exact c
end Go.Vv
namespace Go.Vv
open Go Go.RowKit Go.Proofs Go.Shelf
end Go.Vv
namespace Go.Vv
open Go Go.RowKit Go.Lib Go.Shelf
theorem spec_scompare {P:Program} {ρ:Ren} (L:Go.Proofs.Lays.n106 P ρ) {a b:List UInt8} {h:AH}:Spec P (ρ.f 106) [.str a,.str b] h λd hh=>d=.int .i64 (Lib.compareBytes a b)/\hh=h:=by
 refine ⟨λvs w=>Go.Proofs.enters_of L.f106 (by kernel_rfl) rfl vs w,λB w0 _ g w vs r c=>?_⟩;obtain ⟨us,rfl⟩:∃us:List Value,vs=us.toArray:=⟨vs.toList,by simp⟩
 simp only [VL,V] at c;obtain ⟨j,l,i,⟨rfl,_⟩,k,s2,rfl,⟨rfl,_⟩,rfl⟩:=c;subst i;refine (Go.Proofs.Any.strings_Compare L _ _ w).mono ?_
 rintro e w' ⟨rfl,rfl⟩
 exact ⟨_,_,h,g,rfl,⟨rfl,rfl⟩,Gh.le.refl g,r,by simp only [V]⟩
end Go.Vv
namespace Go.Vv
open Go
variable {B:List Blk}
section
variable {K W:Type}
def yC (eq:K->K->Bool) (d:W):List (K×W)->K->W
 | [],_=>d
 | e::r,k=>if eq k e.1 then e.2 else yC eq d r k
def mhas (eq:K->K->Bool):List (K×W)->K->Bool
 | [],_=>false
 | e::r,k=>eq k e.1 || mhas eq r k
def midx (eq:K->K->Bool):List (K×W)->K->Nat
 | [],_=>0
 | e::r,k=>if eq k e.1 then 0 else midx eq r k+1
def vj (eq:K->K->Bool):List (K×W)->K->W->List (K×W)
 | [],k,v=>[(k,v)]
 | e::r,k,v=>if eq k e.1 then (e.1,v)::r else e::vj eq r k v
def ment (eq:K->K->Bool) (d:W) (m:List (K×W)) (k:K):List (K×W):=if mhas eq m k then m else m++[(k,d)]
def wD (kv:K->AV) (vv:W->AV) (e:K×W):AV×AV:=(kv e.1,vv e.2)

theorem midx_lt {eq:K->K->Bool} {k:K}:∀{m:List (K×W)},mhas eq m k=true->midx eq m k < m.length
 | [],h=>by simp [mhas] at h
 | e::r,h=>by
  simp only [mhas,midx,uu] at h ⊢;by_cases hk:eq k e.1=true
  ·simp [hk]
  ·simp only [hk,tj,uH,uk] at h ⊢;have:=midx_lt h;omega
theorem midx_eq {eq:K->K->Bool} {k:K}:∀{m:List (K×W)},mhas eq m k=false->midx eq m k=m.length
 | [],h=>rfl
 | e::r,h=>by
  simp only [mhas,midx,uu,rn] at h ⊢;simp [h.1,midx_eq h.2]
theorem mput_has {eq:K->K->Bool} {k:K} {v:W}:∀{m:List (K×W)} {e:K×W},mhas eq m k=true->m[midx eq m k]?=some e->m.set (midx eq m k) (e.1,v)=vj eq m k v
 | [],_,h,_=>by simp_all
 | p::r,e,h,he=>by
  simp only [mhas,midx,vj] at h he ⊢;by_cases hk:eq k p.1=true
  ·simp_all
  ·simp only [hk,tj,uH,uk,pG] at h he ⊢;rw [uf,mput_has h he]
theorem mput_not {eq:K->K->Bool} {k:K} {v:W}:∀{m:List (K×W)},mhas eq m k=false->m++[(k,v)]=vj eq m k v
 | [],_=>rfl
 | p::r,h=>by
  simp only [mhas,vj,rn] at h ⊢;simp [h.1,mput_not h.2]
def KQ (P:Program) (kt:TypeId) (kv:K->AV) (eq:K->K->Bool):Prop:=(∀a b,yZ P kt (kv a) (kv b)=some (eq a b))/\∀a,eq a a=true
theorem KQ.str {P:Program} {t:TypeId} {z:Nat} (h:Ty P t .string z):KQ P t AV.str (λa b=>a==b):=⟨λa b=>by simp only [yZ,h.u,aEq1],λa=>by simp⟩
theorem KQ.int {P:Program} {t:TypeId} {i:IntKind} {z:Nat} (h:Ty P t (.int i) z):KQ P t (AV.int i) (λa b=>a==b):=⟨λa b=>by simp only [yZ,h.u,aEq1,ur],λa=>by simp⟩
theorem KQ.struct {P:Program} {t:TypeId} {fs:Array Field} {c:List Kd} {row:K->List AV} {eq:K->K->Bool} (g:P.underlying t=some (.struct fs)) (e:PK P t c) (h:∀a b,qW c (row a) (row b)=some (eq a b)) (f:∀a,eq a a=true):KQ P t (λx=>.agg (row x)) eq :=
 ⟨λa b=>by simp only [yZ,g,e.k,h],f⟩

variable {P:Program} {kt et t:TypeId} {kv:K->AV} {vv:W->AV} {eq:K->K->Bool} {d:W}
theorem aFind_is (a:KQ P kt kv eq) (d:W) (k:K):∀(m:List (K×W)) (i:Nat),qV P kt (kv k) (m.map (wD kv vv)) i=some (if mhas eq m k then some (i+midx eq m k,vv (yC eq d m k)) else none)
 | [],i=>rfl
 | e::r,i=>by
  have l:=aFind_is a d k r (i+1);simp only [uz,qV];have g:yZ P kt (kv k) (wD kv vv e).1=some (eq k e.1):=a.1 _ _;rw [g];by_cases h:eq k e.1=true
  ·have b:mhas eq (e::r) k=true:=by simp [mhas,h]
   have f:midx eq (e::r) k=0:=by simp [midx,h]
   have c:yC eq d (e::r) k=e.2:=by simp [yC,h]
   rw [b,f,c,h];rfl
  ·simp only [rq] at h;have b:mhas eq (e::r) k=mhas eq r k:=by simp [mhas,h]
   have f:midx eq (e::r) k=midx eq r k+1:=by simp [midx,h]
   have c:yC eq d (e::r) k=yC eq d r k:=by simp [yC,h]
   grind

variable {ops:Array Oper} {o:Oper} {env:List AV} {h:AH} {L:List Blk} {M:List Nat} {m:List (K×W)} {k:K} {j:Nat} {x y z:Operand}
theorem e_makeMap {n:Nat} (b:o.op=.makeMap t none) (a:L.length=n):zt P o env (h.ext L M)=.ok (.map (h.blks.length+n)) (h.ext (L++[.mapo [] 0]) M):=by
 simp only [zt,b,ext_new,<- a];simp [AH.ext]
theorem e_lookup (c:o.op=.lookup t x y false) (n:P.underlying t=some (.map kt et)) (a:KQ P kt kv eq) (s:aZeroM P et=some (vv d)) (q:yx env x=some (.map (h.blks.length+j))) (b:L[j]?=some (.mapo (m.map (wD kv vv)) 0)) (f:yx env y=some (kv k)) :
  zt P o env (h.ext L M)=.ok (vv (yC eq d m k)) (h.ext L M):=by
 obtain ⟨l,g⟩:=zM q;obtain ⟨p,i⟩:=zM f;simp only [zt,c,l,g,p,i,n,tf,ur,aLookup,a.1,a.2,yb,b,aFind_is a d k m 0,s];cases hm:mhas eq m k with
 | true=>simp [withOk,oo]
 | false =>
  have:yC eq d m k=d:=by
   clear b
   induction m with
   | nil=>rfl
   | cons e r ih=>simp only [mhas,rn] at hm;simp only [yC,hm.1,uk,uH];exact ih hm.2
  simp [withOk,oo,this]
theorem e_entry (c:o.op=.mapEntry t x y) (q:P.underlying t=some (.map kt et)) (a:KQ P kt kv eq) (v:aZeroM P et=some (vv d)) (u:yx env x=some (.map (h.blks.length+j))) (b:L[j]?=some (.mapo (m.map (wD kv vv)) 0)) (g:yx env y=some (kv k))
  (p:L.set j (.mapo ((ment eq d m k).map (wD kv vv)) 0)=B):zt P o env (h.ext L M)=.ok (.tup [vv (yC eq d m k),.int .i64 (midx eq m k)]) (h.ext B M):=by
 obtain ⟨n,i⟩:=zM u;obtain ⟨s,l⟩:=zM g;subst p;simp only [zt,c,n,i,s,l,q,tf,ur,aEntry,a.1,a.2,yb,b,aFind_is a d k m 0,v,ment];cases hm:mhas eq m k with
 | true =>
  have:L.set j (.mapo (m.map (wD kv vv)) 0)=L:=by
   apply tc
   grind
  simp [ovh,this]
 | false =>
  have f:yC eq d m k=d:=by
   clear b
   induction m with
   | nil=>rfl
   | cons e r ih=>simp only [mhas,rn] at hm;simp only [yC,hm.1,uk,uH];exact ih hm.2
  simp [ovh,f,ext_put,wD,midx_eq hm]
theorem e_entryStore {v:W} {i:Int} {n:IntKind} (u:o.op=.entryStore t x y z) (C:yx env x=some (.map (h.blks.length+j))) (E:L[j]?=some (.mapo ((ment eq d m k).map (wD kv vv)) 0)) (w:yx env y=some (.int n i)) (hi:i=midx eq m k) {a:AV} (s:yx env z=some a) (b:a.zcl=vv v)
  (F:L.set j (.mapo ((vj eq m k v).map (wD kv vv)) 0)=B):zt P o env (h.ext L M)=.ok aundef (h.ext B M):=by
 obtain ⟨q,l⟩:=zM C;obtain ⟨A,p⟩:=zM w;obtain ⟨r,D⟩:=zM s;subst F hi;have h0:(0:Int)<=(midx eq m k:Int):=by omega
 have key:∃e,(ment eq d m k)[midx eq m k]?=some e/\(ment eq d m k).set (midx eq m k) (e.1,v)=vj eq m k v:=by
  unfold ment;cases hm:mhas eq m k with
  | true =>
   have g:=midx_lt hm;exact ⟨m[midx eq m k],by simp [g],by simpa using mput_has hm (ue g)⟩
  | false =>
   refine ⟨(k,d),by simp [midx_eq hm],?_⟩;simp only [uk,uH,midx_eq hm];rw [<- mput_not hm];simp
 obtain ⟨e,f,c⟩:=key;simp only [zt,u,q,l,A,p,r,D,b,tf,ur,aEntryStore,yb,E,h0,ut,sQ,f,uY,oh,ext_put,<- c,List.map_set];rfl
theorem ops_mlen {Q:List AV->AH->Prop} {rest:List Oper} {a:List AV} {c:Call} (i:aG ops o env=some true) (p:o.op=.call c) (u:c.callee=.builtin .len) (s:c.args=#[x]) (b:c.argTypes=#[t]) (g:P.underlying t=some (.map kt et))
  (q:yx env x=some (.map (h.blks.length+j))) (r:L[j]?=some (.mapo (m.map (wD kv vv)) 0)) (hd:ww o.dst env (.int .i64 m.length)=some a) (l:zK P ops Q rest a (h.ext L M)):zK P ops Q (o::rest) env (h.ext L M):=by
 obtain ⟨n,f⟩:=zM q;have key:zt P o env (h.ext L M)=.any λv e=>e=h.ext L M/\v=.int .i64 m.length:=by
  simp [zt,p,u,s,b,n,f,aBuiltin,g,yb,r]
 refine qu ?_;simp only [i,gwp,key,rwp]
 rintro v e ⟨rfl,rfl⟩
 rw [xI hd];exact l

theorem mgetD_app {eq:K->K->Bool} {d:W} {k:K} (a:eq k k=true):∀{m:List (K×W)},yC eq d (m++[(k,d)]) k=yC eq d m k
 | []=>by simp [yC,a]
 | e::r=>by simp [yC,mgetD_app a]
theorem mgetD_ment {eq:K->K->Bool} {d:W} {k:K} (a:eq k k=true) {m:List (K×W)}:yC eq d (ment eq d m k) k=yC eq d m k:=by
 unfold ment;split
 ·rfl
 ·exact mgetD_app a
def MapE (h:AH) (j:Nat) (m1 m2:List (AV×AV)) (x:AH):Prop:=∃B T,x=h.ext B T/\(B[j]?=some (.mapo m1 0) \/ B[j]?=some (.mapo m2 0))
theorem e_lookupF (e:o.op=.lookup t x y false) (g:P.underlying t=some (.map kt et)) (a:KQ P kt kv eq) (l:aZeroM P et=some (vv d)) (i:yx env x=some (.map (h.blks.length+j))) (f:yx env y=some (kv k)) :
  ∀c,MapE h j (m.map (wD kv vv)) ((ment eq d m k).map (wD kv vv)) c->zt P o env c=.ok (vv (yC eq d m k)) c:=by
 rintro _ ⟨B,T,rfl,b | b⟩
 ·exact e_lookup e g a l i b f
 ·rw [<- mgetD_ment (m:=m) (d:=d) (a.2 k)];exact e_lookup e g a l i b f
theorem FOk.skip {b:Nat} {Ns:List Nat} {F:Nat->AH->Prop} {h:AH} (c:Ns.all (λn=>b.testBit n)=true):FOk b Ns F h:=λn e a=>by
 simp_all
end
end Go.Vv
namespace Go.Vv
open Go Go.RowKit
variable {ops:Array Oper} {rest:List Oper} {env':List AV}
section
variable {α ρ σ:Type}
open Classical in
end
section
variable {P:Program} {env:List AV} {h:AH} {Q:Exit->List AV->AH->Prop}
theorem ops_entryM {K W:Type} {kv:K->AV} {vv:W->AV} {Q:List AV->AH->Prop} {o:Oper} {env:List AV} {h:AH} {L:List Blk} {M:List Nat} {x:Operand} {m:List (K×W)} {id j i:Nat} {y:K×W} {a:List Nat}
  (e:aG ops o env=some true) (k:o.op=.entry x) (n:yx env x=some (.ptr (h.blks.length+j) 0)) (q:L[j]?=some (.miter id m.length (a++[i]))) (d:(h.ext L M).blk id=some (.mapo (m.map (wD kv vv)) 0)) (l:m[i]?=some y)
  (hd:ww o.dst env (.tup [kv y.1,vv y.2])=some env') (f:zK P ops Q rest env' (h.ext L M)):zK P ops Q (o::rest) env (h.ext L M):=by
 obtain ⟨g,c⟩:=zM n;have key:xQ P o env (h.ext L M)=some [(.tup [kv y.1,vv y.2],h.ext L M)]:=by
  simp [xQ,k,g,c,yb,q,d,l,wD]
 refine awpOps_consB e ⟨_,key,λp b=>?_⟩;simp only [ux] at b;subst b;show zK P ops Q rest (setd env o.dst (.tup [kv y.1,vv y.2])) _;rw [xI hd];exact f
theorem xE {Q:List AV->AH->Prop} {o:Oper} {env:List AV} {h a:AH} {v:AV} (e:aG ops o env=some true) (d:xQ P o env h=some [(v,a)]) (hd:ww o.dst env v=some env') (c:zK P ops Q rest env' a):zK P ops Q (o::rest) env h:=by
 refine awpOps_consB e ⟨_,d,λp b=>?_⟩;simp only [ux] at b;subst b;show zK P ops Q rest (setd env o.dst v) a;rw [xI hd];exact c
end
end Go.Vv
namespace Go.Vv
open Go Go.RowKit Go.ChangeShapes Go.WideShapes Go.ChangeAt
variable {t:TypeId} {α:Type} {n total off:Nat} {v:Value}

def g0 (W:World):Gh:={ Φ:=λb j=>if b < W.heap.size then W.cell? ⟨b,j,none⟩ else none,σ:=[],τ:=[],δ:=[],O:=λb=>b < W.heap.size }
def h0:AH:={ blks:=[],toks:=[] }
theorem rel0 (W:World):Rel W.heap.size W (g0 W) h0 W:=by
 refine ⟨Below.refl _ _,uh _,λb j v h=>?_,rfl,λi c k d _=>by simp [g0] at d,rfl,λi t a=>by simp [g0] at a,λi j c hi=>by simp [g0] at hi,λi j t t' b x y hi=>by simp [g0] at hi,λi c j t b x hi=>by simp [g0] at hi,λc d=>by simp [g0] at d,λi k hi=>by simp [g0] at hi,λi j t k k' es es' hi=>by simp [h0] at hi,λb x h=>by simp [g0] at h,λb h=>⟨h,λs=>by simp [g0]⟩,λb _=>⟨λi=>by simp [g0],by simp [g0],λi t y a=>by simp [g0] at a⟩⟩;simp only [g0] at h
 simp_all

section
variable {H:Type} {enc:TypeId×Value->H} {P:Program} {W:World}
mutual
def wR:DataW H->Nat
 | .lit (.string bytes)=>bytes.length+1
 | .lit _=>1
 | .nil=>1
 | .ptr d=>wR d+1
 | .slice elems spare=>wQ elems+wQ spare+1
 | .agg parts=>wQ parts+1
 | .iface _ d=>wR d+1
 | .map entries=>vBulkEs entries+1
 | .held _=>1
def wQ:List (DataW H)->Nat
 | []=>0
 | d::r=>wR d+wQ r
def vBulkEs:List (Lit×DataW H)->Nat
 | []=>0
 | x::r=>vBulkEs r+vBulkE x
def vBulkE:Lit×DataW H->Nat
 | (.string bytes,d)=>bytes.length+wR d+1
 | (_,d)=>wR d+1
end
theorem sum_bulk {α:Type} {bk:α->Nat}:∀{l:List α} {ds:List (DataW H)},l.length=ds.length->(∀(i:Nat) (a:α) (d:DataW H),l[i]?=some a->ds[i]?=some d->bk a<=wR d)->(l.map bk).sum<=wQ ds
 | [],_,_,_=>by simp
 | a::r,[],hl,_=>by simp at hl
 | a::r,d::ds,hl,h=>by
  have e:=h 0 a d rfl rfl;have c:=sum_bulk (bk:=bk) (l:=r) (ds:=ds) (by simp_all) (λi x y f b=>h (i+1) x y (by simp_all) (by simp_all));simp only [uz,si,wQ];omega
def RdN (enc:TypeId×Value->H) (P:Program) (W:World) (n:Nat) (t:TypeId) {α:Type} (row:α->List AV) (wf:α->Prop) (bk:α->Nat):Prop :=
 ∀cs x,DataW.trod enc P W 0 (λ_=>true) true n t cs=some x->∃y,VL (g0 W) (row y) cs/\wf y/\bk y<=wR x.1
theorem RdN.zero {row:α->List AV} {wf:α->Prop} {bk:α->Nat}:RdN enc P W 0 t row wf bk:=λcs x h=>by simp [DataW.trod] at h
theorem RdN.map {e:Type} {row:α->List AV} {wf:α->Prop} {b:e->List AV} {d:e->Prop} {bk:α->Nat} {c:e->Nat} (f:α->e) (h:RdN enc P W n t row wf bk) (m:∀a,b (f a)=row a) (l:∀a,wf a->d (f a)) (j:∀a,c (f a)=bk a):RdN enc P W n t b d c:=λcs x g=>by
 obtain ⟨y,k,i,o⟩:=h cs x g
 grind
theorem rd_int {k:IntKind} (b:P.underlying t=some (.int k)):RdN enc P W n t (intRow k) (InK k) (λ_=>1):=by
 cases n with
 | zero=>exact RdN.zero
 | succ n =>
  intro cs x h;rw [DataW.trod_step] at h;unfold DataW.trodStep at h;rw [b] at h;split at h <;> simp_all;obtain ⟨⟨rfl,a⟩,rfl⟩:=h;exact ⟨_,VL.cons (by rfl) (by simp [VL]),by simpa [Lit.wf,InK] using a,by simp [wR]⟩
theorem rd_str (a:P.underlying t=some .string):RdN enc P W n t zN (λs=>s.length<=maxLen) (λs=>s.length+1):=by
 cases n with
 | zero=>exact RdN.zero
 | succ n =>
  intro cs x h;rw [DataW.trod_step] at h;unfold DataW.trodStep at h;rw [a] at h;split at h <;> simp_all;rename_i s;have hs:s.data.toList.length=s.size:=rfl;obtain ⟨h,rfl⟩:=h;refine ⟨s.data.toList,VL.cons ?_ (by simp [VL]),by omega,by simp [wR]⟩;simp only [V]
  simp_all
theorem mapM_get {α e:Type} {f:α->Option e}:∀{l:List α} {xs:List e},l.mapM f=some xs->∀a ∈ l,∃x,f a=some x
 | [],_,_,a,c=>by cases c
 | b::r,xs,h,a,c=>by
  simp only [rm,sY,tD,rD,ui] at h;obtain ⟨v,g,vs,d,rfl⟩:=h;rcases uQ.1 c with rfl | c
  ·simp_all
  ·exact mapM_get d a c
theorem mapM_len {α c:Type} {f:α->Option c}:∀{l:List α} {xs:List c},l.mapM f=some xs->xs.length=l.length
 | [],_,h=>by simp_all
 | b::r,xs,h=>by
  simp only [rm,sY,tD,rD,ui] at h;obtain ⟨v,d,vs,a,rfl⟩:=h;simp [mapM_len a]
theorem mapM_at {α d:Type} {f:α->Option d}:∀{l:List α} {xs:List d},l.mapM f=some xs->∀(i:Nat) (a:α),l[i]?=some a->∃x,f a=some x/\xs[i]?=some x
 | [],_,_,i,a,ha=>by simp at ha
 | b::r,xs,h,i,a,ha=>by
  simp only [rm,sY,tD,rD,ui] at h;obtain ⟨v,e,vs,c,rfl⟩:=h;cases i with
  | zero=>simp at ha;subst ha;exact ⟨v,e,rfl⟩
  | succ i=>simpa using mapM_at c i a (by simp_all)
theorem ones_of_pure {a5:List AV} (h:a5.all AV.pure=true):a5.all AV.one=true:=by
 rw [uq] at h ⊢;exact λa b=>AV.one_of_pure (h a b)
theorem rd_slice {e:TypeId} {k:Nat} {row:α->List AV} {wf:α->Prop} {bk:α->Nat} (U:P.underlying t=some (.slice e)) (Z:P.cellsOf e=k) (hk:0 < k) (S:∀y,(row y).length=k) (I:∀y,(row y).all AV.pure=true) (T:∀m,m < n->RdN enc P W m e row wf bk) :
  RdN enc P W n t (λL=>[AV.sl k (L.map row)]) (λL:List α=>L.length<=maxLen/\∀y ∈ L,wf y) (λL=>(L.map bk).sum+1):=by
 cases n with
 | zero=>exact RdN.zero
 | succ n =>
  intro cs x h;rw [DataW.trod_step] at h;unfold DataW.trodStep at h;rw [U] at h;split at h
  all_goals first | (exfalso;simp_all;done) | skip
  ·-- nil
   cases h;exact ⟨[],VL.cons (by simp only [V];exact ⟨none,0,rfl,by simp,by simp,.inl rfl⟩) (by simp [VL]),⟨by simp,λy s=>by cases s⟩,by simp [wR]⟩
  ·rename_i _ _ O a len cap A;injection A with A;injection A with A;subst A;simp only [Z] at h;split at h
   ·rename_i N;obtain ⟨_,X,r⟩:=N;rcases hel:(List.range len).mapM λi=>(W.cells? 0 (a.add (i * k)) k).bind (DataW.trod enc P W 0 (λ_=>true) true n e) with _ | b
    ·simp_all
    ·-- the elements,one by one
     have D:b.length=len:=by rw [mapM_len hel];simp
     have E:wQ (b.map (·.1))+1<=wR x.1:=by
      rw [hel] at h;simp only [ua,sj] at h;obtain ⟨rest,_,rfl⟩:=h;simp only [wR];omega
     have key:∀i,i < len->∃y us,W.cells? 0 (a.add (i * k)) k=some us/\VL (g0 W) (row y) us/\wf y/\∀z,b[i]?=some z->bk y<=wR z.1:=by
      intro i hi;obtain ⟨z,G,R⟩:=mapM_at hel i i (pg hi);rcases hcs:W.cells? 0 (a.add (i * k)) k with _ | us
      ·simp_all
      ·rw [hcs] at G;obtain ⟨y,l,F,h3⟩:=T n (pH n) us z G
       grind
     rcases sy len with h0 | q
     ·subst h0;exact ⟨[],VL.cons (by simp only [V];exact ⟨some a,cap,rfl,by simp,r,.inl rfl⟩) (by simp [VL]),⟨by simp,λy s=>by cases s⟩,by simp;omega⟩
     ·have B:Nonempty α:=⟨(key 0 q).choose⟩
      have w:∀i,∃y,i < len->∃us,W.cells? 0 (a.add (i * k)) k=some us/\VL (g0 W) (row y) us/\wf y/\∀z,b[i]?=some z->bk y<=wR z.1:=by
       intro i;by_cases hi:i < len
       ·simp_all
       ·exact ⟨Classical.choice B,λh=>absurd h hi⟩
      obtain ⟨f,J⟩:=Classical.axiomOfChoice w
      -- no place within a cell
      have c:a.spot=none:=by
       obtain ⟨us,l,_⟩:=J 0 q;unfold World.cells? at l;rw [uv (tz _)] at l;obtain ⟨v,p⟩:=mapM_get l 0 (by simp_all);simp only [Nat.zero_mul] at p;have Y:(a.add 0).add 0=a:=by rfl
       rw [Y] at p;unfold World.cell? at p;split at p
       ·simp_all
       ·cases p
      have M:a=⟨a.block,a.off,none⟩:=by cases a;simp at c;simp [c]
      refine ⟨(List.range len).map f,VL.cons ?_ (by simp [VL]),⟨by simp;omega,λy s=>?_⟩,?_⟩
      ·simp only [V];refine ⟨some a,cap,by simp,by grind,r,.inr ⟨a.block,a.off,congrArg some M,VE.mk λi O o=>?_⟩⟩;simp only [s6,sQ] at o;have hi:i < len:=by
        grind
       rw [pg hi] at o;simp only [uY,Function.comp,ui] at o;subst o;obtain ⟨us,l,F,_,_⟩:=J i hi;refine ⟨S _,VC.ofVA (VA.mk F (ones_of_pure (I _))) (I _) λj u K=>?_⟩;unfold World.cells? at l;rw [uv (tz _)] at l;have C:j < k:=by
        have:=(uc.1 K).1;rw [mapM_len l] at this;simpa using this
       obtain ⟨v,p,g⟩:=mapM_at l j j (pg C);rw [K] at g;injection g with g;subst g;have Q:(a.add (i * k)).add j=⟨a.block,a.off+i * k+j,none⟩:=by
        rw [M,x6,x6]
       rw [Q] at p;simp only [g0];rw [uv (World.block_lt_of_cell? W _ p)];exact p
      ·grind
      ·refine uJ (Nat.add_le_add_right (sum_bulk (bk:=bk) (ds:=b.map (·.1)) (by simp [D]) λi y d s hd=>?_) 1) E
       grind
   ·cases h

def RdF (enc:TypeId×Value->H) (P:Program) (W:World) (n:Nat) (total off:Nat) (fs:List Field) {α:Type} (row:α->List AV) (wf:α->Prop) (bk:α->Nat):Prop :=
 ∀(cs:List Value) xs,cs.length=total->(fs.mapM λf=>DataW.trod enc P W 0 (λ_=>true) true n f.type ((cs.drop f.offset).take (P.cellsOf f.type)))=some xs->∃y,VL (g0 W) (row y) (cs.drop off)/\wf y/\bk y<=wQ (xs.map (·.1))
theorem rf_nil (h:total<=off):RdF enc P W n total off [] (λ_:Unit=>[]) (λ_=>True) (λ_=>0):=λcs xs a _=>⟨(),by rw [tp (by omega)];simp [VL],trivial,tz _⟩
theorem xg {k a:Nat} {f:Field} {fs:List Field} {i:Type} {row:α->List AV} {wf:α->Prop} {b:i->List AV} {d:i->Prop} {bk:α->Nat} {c:i->Nat} (s:f.offset=off) (C:P.cellsOf f.type=k) (g:off+k=a) (h:RdN enc P W n f.type row wf bk) (r:RdF enc P W n total a fs b d c) :
  RdF enc P W n total off (f::fs) (λp:α×i=>row p.1++b p.2) (λp=>wf p.1/\d p.2) (λp=>bk p.1+c p.2):=by
 intro cs xs u m;simp only [rm,sY,tD,rD,ui] at m;obtain ⟨v,A,vs,j,rfl⟩:=m;obtain ⟨y,l,o,B⟩:=h _ _ A;obtain ⟨z,w,q,x⟩:=r _ _ u j;refine ⟨(y,z),?_,⟨o,q⟩,by simp only [uz,wQ];omega⟩;have e:cs.drop off=(cs.drop off).take k++cs.drop a:=by
  rw [<- g,<- tB,se]
 rw [e];rw [s,C] at l;exact VL.append l w
theorem rd_struct {fs:Array Field} {l:List Field} {row:α->List AV} {wf:α->Prop} {bk:α->Nat} (i:P.underlying t=some (.struct fs)) (d:fs.toList=l) (j:P.cellsOf t=total) (h:∀m,m < n->RdF enc P W m total 0 l row wf bk):RdN enc P W n t row wf (λy=>bk y+1):=by
 cases n with
 | zero=>exact RdN.zero
 | succ n =>
  intro cs x a;rw [DataW.trod_step] at a;unfold DataW.trodStep at a;rw [i] at a;split at a
  all_goals first | (exfalso;simp_all;done) | skip
  rename_i cs _ _ g c;injection c with c;injection c with c;subst c;split at a
  ·rename_i b;rw [d] at a;rcases hm:(l.mapM λf=>DataW.trod enc P W 0 (λ_=>true) true n f.type ((cs.drop f.offset).take (P.cellsOf f.type))) with _ | xs
   ·simp_all
   ·obtain ⟨y,k,e,o⟩:=h n (pH n) cs xs (by rw [b,j]) hm;rw [hm] at a;simp only [uY,ui] at a;subst a;exact ⟨y,by simp_all,e,by simp only [wR];omega⟩
  ·cases a
theorem rd_arg {row:α->List AV} {wf:α->Prop} {bk:α->Nat} {d:DataW H} {p:List MemPlace} (a:∀n,RdN enc P W n t row wf bk) (h:DataW.Trod enc P W 0 (λ_=>true) true t v d p):∃y,VL (g0 W) (row y) v.cells.toList/\wf y/\bk y<=wR d:=by
 obtain ⟨n,b⟩:=h;exact a n _ _ b
theorem V.of_one {a:AV} {g:Gh} (b:∀cs,v ≠ .agg cs) (h:VL g [a] v.cells.toList):V g a v:=by
 simp only [VL] at h;obtain ⟨u,s,e,c,rfl⟩:=h;have:v.cells=#[v]:=by cases v <;> first | rfl | exact absurd rfl (b _)
 simp_all
theorem post_of_below {f:Func} {s:ChangeSpec} {apart l c i:Bool} {W':World} {args:Array Value} {ds gs:List (DataW H)} {a q pv:List MemPlace}
  (w:DataW.Whole enc P f.params.toList s.vars apart W args.toList ds gs a) (y:Below W.heap.size W W')
  (h:∀(b:Nat) (k:Nat->Bool) (hd:Bool),DataW.TrodAll enc P W' b k hd f.resultTypes.toList (v.resultList f.resultTypes.size) (s.fn H (ds++gs)).results [])
  (d:∀k:Nat->Bool,(∀p ∈ a,k p.block=true)->DataW.TrodAll enc P W' 0 k true f.params.toList args.toList (s.fn H (ds++gs)).args q)
  (e:∀k:Nat->Bool,(∀p ∈ a,k p.block=true)->DataW.TrodVars enc P W' k s.vars (s.fn H (ds++gs)).vars pv)
  (A:a=q++pv)
  (x:∀(j:Nat) (t:TypeId) (r:Value),f.resultTypes[j]?=some t->(v.resultList f.resultTypes.size)[j]?=some r->Value.okWide P W' .any 0 t r) :
  s.post enc P f apart l c i W args v W':=by
 have u:∀p ∈ a,p.block < W.heap.size:=λp o=>by simpa using w.lt p o
 have g:∀p ∈ a,(λb=>decide (b < W.heap.size)) p.block=true:=λp o=>by simp_all
 refine ⟨ds,gs,a,[],q,pv,w,h _ _ _,d _ g,e _ g,World.keptBut_mono (λp o=>⟨o,?_⟩) (y.frame (· ∈ a)),λ_=>?_⟩
 ·simp_all
 ·obtain ⟨_,_,_,_,_,z,B⟩:=w;refine ⟨x,_,_,([]++q)++pv,⟨[]++q,pv,trodAll_append (d _ (λ_ _=>rfl)) (h _ _ _),e _ (λ_ _=>rfl),rfl,?_,?_⟩,?_⟩
  ·intro b off o;have m:MemPlace.cell b off ∈ a:=by simp_all
   rw [y.frozen (p:=⟨b,off,none⟩) (u _ m)];exact z b off m
  ·simp_all
  ·simp_all
end
end Go.Vv
namespace Go.Vv
open Go Go.ChangeShapes Go.WideShapes
theorem returns_cond_shaped {H:Type} {enc:TypeId×Value->H} {a:Assume} {C:Checked} {os:Os} {f:FuncId} {fn:Func} {s:OpenSpec} {k:(H:Type)->List (DataW H)->Bool} (J:s.cond=some k) {F:Stop.Interp} {g:List PathCond} {apart m d l:Bool}
  (B:ownKnob C.prog.godebug=none) (n:os.Started) (p:C.prog.inits.idxOf? f=none) (G:C.prog.funcs[f]?=some fn)
  (o:∃(w:World) (b:Tape) (i:Input),w.os=os/\(w.forCall b i).Shaped C.prog/\i.vars=[]/\Input.okWide C.prog (w.forCall b i) .any w.heap.size f i /\
   s.pre6 enc C.prog fn g apart (w.forCall b i).memory i.args/\a.holds C.prog (lone (Frame.enter C.prog f i.args .normal) [] (w.forCall b i)))
  (h:∀(W:World) (q:Nat) (args:Array Value) (ds gs:List (DataW H)) (c:List MemPlace),
   (∀(j:Nat) t v,fn.params[j]?=some t->args[j]?=some v->Value.okWide C.prog W .any q t v) ->
   DataW.Whole enc C.prog fn.params.toList s.vars apart W args.toList ds gs c->k H (ds++gs)=true->W.ShapedOpen C.prog ->
   Calls C.prog f args W λe W'=>∃v,e=.returned v/\(s.at F).post enc C.prog fn apart m d l W args v W') :
  ReturnsInHanded a C os f .any (s.pre6 enc C.prog fn g apart) ((s.at F).post enc C.prog fn apart m d l):=by
 refine returnsInHanded_of_calls B n p o ?_;intro w b i _ E _ D x y;obtain ⟨_,_,_,I,u,_,_,_,_,r⟩:=D;have e:I=fn:=uS (u.symm.trans G);subst e;obtain ⟨ds,gs,c,L,N,A⟩:=(OpenSpec.pre_some J g apart _ _).1 x.1;have z:=DataW.Whole.of_heap (w':=w.forCall b i) (by rfl) L;refine (h (w.forCall b i) w.heap.size i.args ds gs c r z A E).mono λe W' ⟨v,M,K⟩=>?_;subst M;exact ChangeSpec.post_blind K
end Go.Vv
namespace Go.Vv
open Go
section
variable {α ρ σ:Type}
@[simp] theorem lp_none {rest:σ->Option ρ}:lp (none:Option (ρ ⊕ σ)) rest=none:=rfl
@[simp] theorem lp_inl {rest:σ->Option ρ} {r:ρ}:lp (some (.inl r)) rest=some r:=rfl
@[simp] theorem yB {rest:σ->Option ρ} {s:σ}:lp (some (.inr s)) rest=rest s:=rfl
theorem zj {p:Prop} [Decidable p] {o:Option ρ} (h:p):yl p o=o:=uv h
theorem loopL_all {f:Nat->α->Unit->Option (Out ρ Unit)} (p:α->Bool) (r:ρ):∀(L:List α) (i:Nat),(∀i x,x ∈ L->f i x ()=if p x=true then some (.nxt ()) else some (.ret r))->zp f L i ()=if L.all p=true then some (.inr ()) else some (.inl r)
 | [],_,_=>rfl
 | x::t,i,h=>by
  have b:=loopL_all p r t (i+1) (λi y a=>h i y (tF _ a));simp only [zp,h i x (tT ..)]
  grind
theorem loopL_fold {f:Nat->α->σ->Option (Out ρ σ)} (g:σ->α->σ):∀(L:List α) (i:Nat) (s:σ),(∀i x s,x ∈ L->f i x s=some (.nxt (g s x)))->zp f L i s=some (.inr (L.foldl g s))
 | [],_,_,_=>rfl
 | x::t,i,s,h=>by
  simp only [zp,h i x s (tT ..),so];exact loopL_fold g t (i+1) (g s x) (λi y s a=>h i y s (tF _ a))
theorem loopL_first {f:Nat->α->Unit->Option (Out ρ Unit)} (p:α->Bool) (r:Nat->α->ρ):∀(L:List α) (i:Nat),(∀i x,x ∈ L->f i x ()=if p x=true then some (.ret (r i x)) else some (.nxt ())) ->
  zp f L i ()=match L.findIdx? p with
   | none=>some (.inr ())
   | some j=>match L[j]? with | some x=>some (.inl (r (i+j) x)) | none=>none
 | [],_,_=>rfl
 | x::t,i,h=>by
  have b:=loopL_first p r t (i+1) (λi y a=>h i y (tF _ a));simp only [zp,h i x (tT ..),List.findIdx?_cons]
  grind
def qO (q:α->Bool) (p:List α):Int:=match p.findIdx? q with | some j=>(j:Int) | none=>-1
theorem first_loop {f:α->Option Bool} {q:α->Bool} (p:List α) (d:∀x ∈ p,f x=some (q x)):lp (zp (λ(a:Nat) (b:α) (_:Unit)=>(((f b).bind λc=>(if c=true then some (.ret (a:Int)) else some (.nxt ()))):Option (Out _ Unit))) p 0 ()) (λ(_:Unit)=>some (-1:Int))=some (qO q p):=by
 rw [loopL_first q (λi _=>(i:Int)) _ _ (λi x g=>by simp_all)];unfold qO;cases h:p.findIdx? q with
 | none=>simp
 | some j =>
  obtain ⟨e,_⟩:=sP.1 h
  simp_all
theorem firstI_any (q:α->Bool) (p:List α):decide (qO q p >= 0)=p.any q:=by
 unfold qO
 grind
theorem qL {M:List α} {i:Nat} (h:i < M.length):zQ M (i:Int)=some M[i]:=by
 unfold zQ;rw [uv (by omega),ut,ue h]
theorem slc_at {L:List α} {lo hi:Int} (h:0<=lo/\lo<=hi/\hi<=L.length):slc L lo hi=some ((L.take hi.toNat).drop lo.toNat):=uv h
theorem x9 {n:Int} (h:-9223372036854775808<=n/\n<=9223372036854775807):IntKind.wrap .i64 n=n:=by rw [IntKind.wrap_i64];omega
end
end Go.Vv
namespace Go.Vv
open Go Go.RowKit
section
variable {P:Program} {o:Oper} {env:List AV} {h:AH} {L:List Blk} {M:List Nat} {nb nt:Nat}
end
section
variable {P:Program} {o:Oper} {env:List AV} {h:AH} {α:Type} {row:α->List AV} {L M:List α} {nb nt:Nat}
end

def AH.closed (h:AH) (n t:Nat):Prop:=∀b ∈ h.blks,b.low n t=true
theorem Blk.low_up {n e m f:Nat} (a:n<=e) (h:m<=f):∀b:Blk,b.low n m=true->b.low e f=true
 | .cells cs,hl=>yk a h cs hl
 | .bld _ x,hl=>AV.low_up a h x hl
 | .mapo es c,hl=>by
  simp only [Blk.low,uq,ud] at hl ⊢;exact λp d=>⟨AV.low_up a h _ (hl p d).1,AV.low_up a h _ (hl p d).2⟩
 | .loop _ _ env _ _ _,hl=>yk a h env hl
 | .row _ _ _,hl=>by simp only [Blk.low,uj] at hl ⊢;omega
 | .miter _ _ _,hl=>by simp only [Blk.low,uj] at hl ⊢;omega
 | .siter _ _,_ | .miter0,_ | .other,_ | .dead,_=>rfl
theorem closed_of_rel {B:Nat} {w0 w:World} {g:Gh} {h:AH} (r:Rel B w0 g h w):h.closed h.blks.length h.toks.length:=λb a=>by
 obtain ⟨i,hi⟩:=tm.1 a;have:=r.isLow hi
 rwa [r.slen,r.tlen] at this
theorem zR {P : Program} {f : FuncId} {fn : Func} {c : Code} (hf : P.funcs[f]? = some fn) (hb : fn.body = some c) (hname : (fn.name == "runtime.NumGoroutine") = false) {args : List AV} {h : AH} {K : AV → AH → Prop} {env : List AV}
  (he:args++List.replicate (fn.ntmps - args.length) aundef=env) (hw:zD h.blks.length h.toks.length args=true->h.closed h.blks.length h.toks.length->vK P c (bodyQ P fn h K) env (h.ext [] [])):Spec P f args h K:=by
 refine ⟨λvs w=>?_,λB w0 _ g w vs r hv=>?_⟩
 ·have hn : ¬ fn.name = "runtime.NumGoroutine" := by simpa using hname
  simp [callFunc,hf,hb,hn]
 ·have hl:=hv.isLow;rw [r.slen,r.tlen] at hl;exact (zb hf hb hname he (hw hl (closed_of_rel r))).2 B w0 g w vs r hv
section
variable {P:Program} {h:AH} {A A' L B:List Blk} {T T' M C:List Nat} {nb nt:Nat} {o:Oper} {env:List AV}
end
section
variable {β:Type} {h:β->AH} {h0 h1:AH} {nb nt k:Nat} {lp:LoopState->Option Code->Blk} {env:List AV} {A:β->List Blk} {T:β->List Nat} {A0 A' L B:List Blk} {T0 T' M C:List Nat} {b':β} {o:Bool×(β×Option Nat)}
end
theorem SpecY.le {P:Program} {id:Nat} {a5 bs:List AV} {h:AH} {K:AV->AH->Prop} (s:SpecY P id bs h K) (k:leL a5 bs):SpecY P id a5 h K :=
 λB w0 _ g w vs c r a b=>s B w0 g w vs c r (k _ _ a) b
end Go.Vv
