/- Rules of the second printer: rows of slices, appends, calls that hand over memory, function values. -/
import Derived.Test.YtcociipjgndnaaaGreatVvY
namespace Go.Vv
open Go

abbrev yx (s:zy):List AV:=[.str s]
def zR (b:UInt8):List AV:=[.int .u8 b.toNat]
abbrev intRow (k:IntKind) (n:Int):List AV:=[.int k n]
abbrev boolRow (b:Bool):List AV:=[.bool b]
def IsSl {α:Type} (a:AV) (z:Nat) (row:α->List AV) (L:List α):Prop:=a=.sl z (L.map row) \/ ∃q,a=.osl q z (L.map row)
section
variable {α:Type} {row:α->List AV} {L M:List α} {z:Nat}
theorem isl:IsSl (.sl z (L.map row)) z row L:=.inl rfl
theorem iosl {q:Option Nat}:IsSl (.osl q z (L.map row)) z row L:=.inr ⟨_,rfl⟩
theorem vK {k:Nat} {f:α->List AV} {L:List α}:aLen (.sl k (L.map f))=some L.length:=by simp [aLen]
theorem lenMapO {q:Option Nat} {k:Nat} {f:α->List AV} {L:List α}:aLen (.osl q k (L.map f))=some L.length:=by simp [aLen]
theorem zC {i:Nat} {x:α} (h:L[i]?=some x):yu L (i:Int)=some x:=by
 unfold yu;rw [up (by omega),uB];exact h
end
theorem byte_of {n:Int} (h:0<=n/\n < 256):((UInt8.ofNat n.toNat).toNat:Int)=n:=by
 rw [UInt8.toNat_ofNat'];omega
theorem bin_boolE {P:Program} {t:TypeId} {k:Nat} {a b:Bool} (c:Ty P t .bool k):yH P .eql t (.bool a) (.bool b)=some (.bool (a==b)):=by simp only [yH,aEq,c.u,u7]
theorem bin_boolN {P:Program} {t:TypeId} {k:Nat} {a b:Bool} (c:Ty P t .bool k):yH P .neq t (.bool a) (.bool b)=some (.bool !(a==b)):=by simp only [yH,aEq,c.u,u7]
open Classical in
noncomputable def nilq {α ρ:Type} (L:List α) (f:Bool->Option ρ):Option ρ:=if L=[]/\f true ≠ f false then none else f false
theorem nilqF {α ρ:Type} {L:List α} {f:Bool->Option ρ} {r:ρ} (h:nilq L f=some r):f false=some r/\(L=[]->f true=some r):=by
 unfold nilq at h;split at h
 ·cases h
 ·rename_i b;refine ⟨h,λc=>?_⟩;exact Classical.byContradiction λa=>b ⟨c,λe=>a (e.trans h)⟩
theorem nilq_of {α ρ:Type} {L:List α} {f:Bool->Option ρ} {r:ρ} (a:f false=some r) (c:L=[]->f true=some r):nilq L f=some r:=by
 unfold nilq;rw [uu (λ⟨d,b⟩=>b ((c d).trans a.symm))];exact a
theorem ops_nilqE {P:Program} {d:Array Oper} {Q:List AV->AH->Prop} {o:Oper} {rest:List Oper} {env:List AV} {c:Bool->List AV} {h:AH} {t e u:TypeId} {k z:Nat} {x y:Operand} {a:AV} {α ρ:Type} {row:α->List AV} {L:List α} {f:Bool->Option ρ} {r:ρ} (G:aG d o env=some true)
  (s:o.op=.binOp .eql t x y u) (l:El P t e k) (E:yF env x=some a) (F:IsSl a z row L) (H:yF env y=some .nilsl) (hd:∀b:Bool,vZ o.dst env (.bool b)=some (c b)) (A:nilq L f=some r)
  (B:∀b,(b=true->L=[])->f b=some r->zH P d Q rest (c b) h):zH P d Q (o::rest) env h:=by
 obtain ⟨w,m⟩:=zO E;obtain ⟨p,n⟩:=zO H;obtain ⟨C,j⟩:=nilqF A;have key:∀b,(b=true->L.map row=[])->zH P d Q rest (c b) h:=λb g=>by
  have i:b=true->L=[]:=λh=>by simpa using g h
  refine B b i ?_;cases b with
  | false=>exact C
  | true=>exact j (i rfl)
 refine vO ?_;simp only [G,gwp];rcases F with rfl | ⟨q,rfl⟩
 ·simp only [zw,s,w,p,u5,ut,m,n,aNilq,l.u,rwp]
  rintro v D ⟨rfl,b,rfl,g⟩
  rw [xG (hd b)];exact key b g
 ·simp only [zw,s,w,p,u5,ut,m,n,aNilq,l.u,rwp]
  rintro v D ⟨rfl,b,rfl,g⟩
  rw [xG (hd b)];exact key b g
section
variable {P:Program} {o:Oper} {env:List AV} {h:AH} {α:Type} {row:α->List AV} {L:List α}
theorem s_idxRow {t e:TypeId} {x i:Operand} {a:AV} {k:IntKind} {n:Int} {z:Nat} {y:α} (j:o.op=.indexAddr t x i) (d:El P t e z) (f:yF env x=some a) (hi:yF env i=some (.int k n)) (g:IsSl a z row L) (c:yu L n=some y) :
  zw P o env h=.ok (.fptr (row y)) h:=by
 obtain ⟨h0,c⟩:=idxF c;refine s_indexAddr j d f hi ?_;have b:(L.map row)[n.toNat]?=some (row y):=by rw [s5,c];rfl
 rcases g with rfl | ⟨q,rfl⟩ <;> simp only [qy,h0,pk,ut,b,u7]
theorem yj {t e:TypeId} {x i:Operand} {a:AV} {k:IntKind} {n:Int} {z:Nat} {y:α} {cs:List AV} (f:o.op=.indexAddr t x i) (c:El P t e z) (b:yF env x=some a) (hi:yF env i=some (.int k n)) (d:IsSl a z row L) (j:yu L n=some y) (g:row y=cs) :
  zw P o env h=.ok (.fptr cs) h:=by rw [<- g];exact s_idxRow f c b hi d j
theorem s_gidxRow {t e:TypeId} {x i:Operand} {a:AV} {k:IntKind} {n:Int} {z:Nat} (d:α) (j:o.op=.indexAddr t x i) (f:El P t e z) (c:yF env x=some a) (hi:yF env i=some (.int k n)) (g:IsSl a z row L) (b:0<=n/\n < L.length) :
  zw P o env h=.ok (.fptr (row (L.getD n.toNat d))) h:=by
 refine s_idxRow j f c hi g ?_;unfold yu;rw [up b.1,ur,ug (by omega)];rfl
theorem s_gidxRowE {t e:TypeId} {x i:Operand} {a:AV} {k:IntKind} {n:Int} {z:Nat} {cs:List AV} (d:α) (j:o.op=.indexAddr t x i) (f:El P t e z) (c:yF env x=some a) (hi:yF env i=some (.int k n)) (g:IsSl a z row L) (b:0<=n/\n < L.length)
  (l:row (L.getD n.toNat d)=cs):zw P o env h=.ok (.fptr cs) h:=by rw [<- l];exact s_gidxRow d j f c hi g b
theorem s_idxStr {t:TypeId} {x i:Operand} {s:zy} {k:IntKind} {n:Int} {z:Nat} {b:UInt8} (e:o.op=.index t x i) (d:Ty P t .string z) (c:yF env x=some (.str s)) (hi:yF env i=some (.int k n)) (a:yu s n=some b) :
  zw P o env h=.ok (.int .u8 b.toNat) h:=by
 obtain ⟨h0,a⟩:=idxF a;refine s_indexStr e d c hi ?_;simp only [aIndexStr,h0,ut,a,u7]
inductive Bd (env:List AV):Option Operand->Int->Int->Prop
 | none {d:Int}:Bd env none d d
 | some {x:Operand} {k:IntKind} {n d:Int}:yF env x=some (.int k n)->Bd env (some x) d n
theorem Bd.all {x:Option Operand} {d n:Int} (h:Bd env x d n):x.all yy=true:=by
 cases h with
 | none=>rfl
 | some h=>exact (zO h).1
theorem Bd.ab {x:Option Operand} {d:Nat} {n:Int} (h:Bd env x d n) (h0:0<=n):aBound d (x.map (ev env))=Option.some n.toNat:=by
 cases h with
 | none=>rfl
 | some h=>simp only [u7,(zO h).2,aBound,up h0]
theorem wt {t e:TypeId} {x:Operand} {lo hi:Option Operand} {a:AV} {M:List α} {l hh:Int} {z:Nat} (A:o.op=.slice t x lo hi none) (f:El P t e z) (s:yF env x=some a) (v:a=.sl z (L.map row) \/ ∃q,a=.osl q z (L.map row)/\(hi.isSome=true \/ q.isSome=true)) (j:Bd env lo 0 l) (b:Bd env hi L.length hh)
  (r:slc L l hh=some M):zw P o env h=.ok (.sl z (M.map row)) h:=by
 obtain ⟨⟨h0,C,B⟩,rfl⟩:=slcF r;obtain ⟨y,w⟩:=zO s;obtain ⟨i,m,n,_⟩:=f.i;have g:=Bd.ab (d:=0) j h0;have k:=Bd.ab (d:=L.length) b (by omega);simp only [zw,A,y,j.all,b.all,Option.all_none,u5,ut,f.u,w,m,n,Option.map_none];rcases v with rfl | ⟨q,rfl,c⟩
 ·simp only [tyfix,ut,aSlice,aSliceSl,g,uz,k,rx,ul,uG];rw [up (by omega)];simp only [oo,List.map_drop,pV]
 ·simp only [tyfix,ut,aSlice,aSliceSl,g,uz,k];rw [up (by omega)];have p:(q.isNone&&(hi.map (ev env)).isNone)=false:=by
   rcases c with c | c
   ·cases hi <;> simp_all
   ·cases q <;> simp_all
  simp only [p,ul,uG,oo,List.map_drop,pV]
theorem a_app {M:List α} {k:Nat} {q:Option Nat} {id:Nat} {c:AH} (d:L.length+M.length<=yK) (a:h.grow q L.length M.length=some (id,c)):aAppend h k (.osl q k (L.map row)) (M.map row)=some (.osl (some id) k ((L++M).map row),c):=by
 simp only [aAppend,uz];by_cases h0:M.length=0
 ·have:M=[]:=uP h0;subst this;rw [up (show ([]:List α).length=0 from rfl)];cases q with
  | none =>
   simp only [AH.grow,uV,sA,un,tG] at a;obtain ⟨rfl,rfl⟩:=a;simp
  | some id' =>
   simp only [AH.grow,uV,sA] at a;split at a
   ·rename_i b;simp only [un,tG] at a;obtain ⟨rfl,rfl⟩:=a;have:h.toks.set id' L.length=h.toks:=by
     refine tu λj=>?_;rw [rj];split
     ·rename_i e;subst e;rw [b];split
      ·rfl
      ·rename_i f;rw [th (by omega)] at b;cases b
     ·rfl
    simp [this]
   ·cases a
 ·rw [uu h0,up ⟨trivial,d⟩,a];simp
variable {M:List α}
theorem e_appN {c:Call} {x y:Operand} {t u e p:TypeId} {k k' m:Nat} {a b f:AV} {B:List Blk} {T T':List Nat} (s:o.op=.call c) (w:c.callee=.builtin .append) (hs:c.args=#[x,y]) (l:c.argTypes=#[t,u]) (v:El P t e k)
  (d:El P u p k') (q:yF env x=some a) (C:yF env y=some b) (r:tyfix P t a=.osl none k (L.map row)) (g:tyfix P u b=f) (j:qq k f=some (M.map row)) (n:L.length+M.length<=yK) (i:T.length=m) (A:T++[(L++M).length]=T') :
  zw P o env (h.ext B T)=.ok (.osl (some (h.toks.length+m)) k ((L++M).map row)) (h.ext B T'):=by
 refine s_append s w hs l v d q C r g j (a_app n ?_);subst A i;simp [AH.grow,AH.ext]
theorem yS {c:Call} {x y:Operand} {t u e p:TypeId} {k k' j:Nat} {a b f:AV} {B:List Blk} {T T':List Nat} (s:o.op=.call c) (w:c.callee=.builtin .append) (hs:c.args=#[x,y]) (m:c.argTypes=#[t,u]) (v:El P t e k)
  (d:El P u p k') (q:yF env x=some a) (D:yF env y=some b) (r:tyfix P t a=.osl (some (h.toks.length+j)) k (L.map row)) (g:tyfix P u b=f) (l:qq k f=some (M.map row)) (n:L.length+M.length<=yK) (i:T[j]?=some L.length) (A:T.set j (L++M).length=T') :
  zw P o env (h.ext B T)=.ok (.osl (some (h.toks.length+j)) k ((L++M).map row)) (h.ext B T'):=by
 refine s_append s w hs m v d q D r g l (a_app n ?_);subst A;have C:(h.toks++T)[h.toks.length+j]?=some L.length:=by rw [ui (by omega),uq];exact i
 simp only [AH.grow,AH.ext,C,ut];rw [uO _ _ (by omega),uq,uo]
theorem xO {k:Nat}:qq k (.sl k (M.map row))=some (M.map row):=by simp [qq]
theorem yz {k:Nat} {q:Option Nat}:qq k (.osl q k (M.map row))=some (M.map row):=by simp [qq]
theorem news_str {s:zy}:qq 1 (.str s)=some (s.map zR):=by simp only [qq,ut];rfl
theorem e_appST {c:Call} {x y:Operand} {t u e:TypeId} {k k' j:Nat} {a b f:AV} {B:List Blk} {T T':List Nat} (r:o.op=.call c) (v:c.callee=.builtin .append) (hs:c.args=#[x,y]) (m:c.argTypes=#[t,u]) (s:El P t e k)
  (d:Ty P u .string k') (p:yF env x=some a) (C:yF env y=some b) (q:tyfix P t a=.osl (some (h.toks.length+j)) k (L.map row)) (g:tyfix P u b=f) (l:qq k f=some (M.map row)) (n:L.length+M.length<=yK) (i:T[j]?=some L.length) (w:T.set j (L++M).length=T') :
  zw P o env (h.ext B T)=.ok (.osl (some (h.toks.length+j)) k ((L++M).map row)) (h.ext B T'):=by
 refine s_appendStr r v hs m s d p C q g l (a_app n ?_);subst w;have A:(h.toks++T)[h.toks.length+j]?=some L.length:=by rw [ui (by omega),uq];exact i
 simp only [AH.grow,AH.ext,A,ut];rw [uO _ _ (by omega),uq,uo]
end

theorem leL.app {as bs:List AV} {cs:List AV} (k:leL as bs):leL (as++cs) (bs++cs):=λg vs hv=>by
 have hs:∀{as:List AV} {vs:List Value},VL g (as++cs) vs->∃us ws,vs=us++ws/\VL g as us/\VL g cs ws:=by
  intro as
  induction as with
  | nil=>intro vs h;exact ⟨[],vs,rfl,by simp [VL],h⟩
  | cons a r ih =>
   intro vs h;simp only [tS,VL] at h;obtain ⟨v,s,rfl,h1,h2⟩:=h;obtain ⟨us,ws,rfl,h3,h4⟩:=ih h2;exact ⟨v::us,ws,rfl,VL.cons h1 h3,h4⟩
 obtain ⟨us,ws,rfl,h1,h2⟩:=hs hv;exact VL.append (k _ _ h1) h2
theorem leL.pre {a bs:List AV}:∀{cs:List AV},leL a bs->leL (cs++a) (cs++bs)
 | [],k=>k
 | _::_,k=>leL.eq (leL.pre k)
def keeps:List (Nat×Blk)->List Blk->Prop
 | [],_=>True
 | (j,b)::r,B=>B[j]?=some b/\keeps r B
theorem ve {j:Nat} {b:Blk} {r:List (Nat×Blk)} {B:List Blk} (h:keeps ((j,b)::r) B):B[j]?=some b:=h.1
def lk:List (Nat×List (Nat×Blk))->Nat->List (Nat×Blk)
 | [],_=>[]
 | (m,l)::r,n=>if n=m then l else lk r n
def KeepB (h:AH) (l:List (Nat×Blk)) (x:AH):Prop:=∃B T,x=h.ext B T/\keeps l B
theorem yk {h:AH} {l:List (Nat×Blk)} {B:List Blk} {T:List Nat} (a:keeps l B):KeepB h l (h.ext B T):=⟨_,_,rfl,a⟩
def keepA:List (Nat×List (Nat×Blk))->List Blk->Prop
 | [],_=>True
 | (_,l)::r,B=>keeps l B/\keepA r B
theorem keepA_lk:∀{l:List (Nat×List (Nat×Blk))} {B:List Blk},keepA l B->∀n,keeps (lk l n) B
 | [],_,_,_=>trivial
 | (m,l)::r,B,h,n=>by
  simp only [lk];split
  ·exact h.1
  ·exact keepA_lk h.2 n
theorem FOk.all {b:Nat} {Ns:List Nat} {G:AH->Prop} {h:AH} (a:G h):FOk b Ns (λ_=>G) h:=λ_ _ _=>a
theorem FOk.nil {b:Nat} {F:Nat->AH->Prop} {h:AH}:FOk b [] F h:=λ_ h _=>by simp at h
theorem FOk.cons {b n:Nat} {Ns:List Nat} {F:Nat->AH->Prop} {h:AH} (a:b.testBit n=true \/ F n h) (d:FOk b Ns F h):FOk b (n::Ns) F h:=λm f c=>by
 rcases a with a | a
 ·by_cases e:m=n
  ·subst e;rw [a] at c;cases c
  ·exact d m (by simpa [e] using f) c
 ·by_cases e:m=n
  ·subst e;exact a
  ·exact d m (by simpa [e] using f) c
theorem zx {P:Program} {Q:Exit->List AV->AH->Prop} {env:List AV} {h:AH} {B:List Blk} {T:List Nat} {id:Nat} {l:List Oper} (Ns:List Nat) (a:List (Nat×List (Nat×Blk))) (b:keepA a B) (c:P.follows .mixedOrders=true) (hd:drawOk ⟨l⟩ Ns=true) (d:zY P ⟨l⟩ Ns (λn=>KeepB h (lk a n)) (Q .normal) 0 l env (h.ext B T)) :
  qb P (.region id ⟨l⟩ true) Q env (h.ext B T):=.inl ⟨Ns,λn=>KeepB h (lk a n),⟨c,hd⟩,λn=>yk (keepA_lk b n),d⟩
theorem r_drawnF {P:Program} {Q:Exit->List AV->AH->Prop} {env:List AV} {h:AH} {id:Nat} {l:List Oper} (Ns:List Nat) (F:Nat->AH->Prop) (a:∀n,F n h) (b:P.follows .mixedOrders=true) (hd:drawOk ⟨l⟩ Ns=true) (c:zY P ⟨l⟩ Ns F (Q .normal) 0 l env h) :
  qb P (.region id ⟨l⟩ true) Q env h:=.inl ⟨Ns,F,⟨b,hd⟩,a,c⟩
theorem zQ {h:AH} {L L':List Blk} {M M':List Nat}:(h.ext L M).ext L' M'=h.ext (L++L') (M++M'):=by simp [AH.ext,uy]
theorem zP {P:Program} {b:Array Oper} {Q:List AV->AH->Prop} {o:Oper} {rest:List Oper} {env a:List AV} {h c:AH} {f:FuncId} {args:List AV} {v:AV} (j:aG b o env=some true) (e:zw P o env h=.call f args) (hs:Spec P f args h λr hh=>r=v/\hh=c)
  (hd:vZ o.dst env v=some a) (i:zH P b Q rest a c):zH P b Q (o::rest) env h :=
 ops_call j e hs λr c ⟨d,g⟩=>by subst d;subst g;rw [xG hd];exact i
theorem yP {Ns:List Nat} {F:Nat->AH->Prop} {i:Nat} (g:Ns.contains i=false) {P:Program} {a:Array Oper} {Q:List AV->AH->Prop} {o:Oper} {rest:List Oper} {env b:List AV} {h c:AH} {f:FuncId} {args:List AV} {v:AV} (d:FOk ((Region.before a).getD i 0) Ns F c) (e:c.blks=h.blks) (l:aG a o env=some true) (j:zw P o env h=.call f args) (hs:Spec P f args h λr hh=>r=v/\hh=c)
  (hd:vZ o.dst env v=some b) (k:zY P a Ns F Q (i+1) rest b c):zY P a Ns F Q i (o::rest) env h :=
 ⟨v,c,.inl ⟨g,by simp only [AR,l,j];exact hs⟩,.inr e,.inr d,by rw [xG hd];exact k⟩
theorem xu {Ns:List Nat} {F:Nat->AH->Prop} {i:Nat} (d:Ns.contains i=false) {P:Program} {a:Array Oper} {Q:List AV->AH->Prop} {o:Oper} {rest:List Oper} {env b:List AV} {h c:AH} {v:AV} (g:FOk ((Region.before a).getD i 0) Ns F c) (j:c.blks=h.blks) (k:aG a o env=some true) (e:zw P o env h=.ok v c) (hd:vZ o.dst env v=some b) (f:zY P a Ns F Q (i+1) rest b c) :
  zY P a Ns F Q i (o::rest) env h:=⟨v,c,.inl ⟨d,by simp only [AR,k,e,pk]⟩,.inr j,.inr g,by rw [xG hd];exact f⟩
def OwnK (h:AH) (k n:Nat) (R:List (List AV)) (rr:AV) (hh:AH):Prop:=rr=.osl (some h.toks.length) k R/\hh=h.ext [] [n]
theorem xW {P:Program} {f:FuncId} {a:List AV} {h:AH} {B:List Blk} {T T':List Nat} {k n m:Nat} {R:List (List AV)} (s:Spec P f a (h.ext B T) (OwnK (h.ext B T) k n R)) (c:T.length=m) (b:T++[n]=T') :
  Spec P f a (h.ext B T) (λd hh=>d=.osl (some (h.toks.length+m)) k R/\hh=h.ext B T'):=by
 refine s.mono ?_
 rintro r e ⟨rfl,rfl⟩
 subst c b;simp [AH.ext,uy]
theorem ldC_arr {α:Type} {row:α->List AV} {L:List α} {k:Nat} {i:Int} {y:α} {cs:List AV} (b:∀x,(row x).length=k) (d:yu L i=some y) (f:L.flatMap row=cs):ldC true k (0+i.toNat * k) cs=some (.agg (row y)):=by
 obtain ⟨h0,d⟩:=idxF d;subst f;have key:∀(L:List α) (n:Nat),L[n]?=some y->n * k+k<=(L.flatMap row).length/\((L.flatMap row).drop (n * k)).take k=row y:=by
  intro L
  induction L with
  | nil=>intro n h;simp at h
  | cons a r ih =>
   intro n h;cases n with
   | zero =>
    simp at h;subst h;simp only [tX,Nat.zero_mul,sq,uo,b];exact ⟨by omega,by rw [uY (by rw [b];omega),uM (by rw [b];omega)]⟩
   | succ n =>
    obtain ⟨e,c⟩:=ih n (by simpa using h);simp only [tX,uo,b,sn];refine ⟨by omega,?_⟩;rw [show n * k+k=(row a).length+n * k by rw [b];omega,rz,tI (by omega),u6,uq];exact c
 obtain ⟨e,c⟩:=key L i.toNat d;simp only [ldC,ut,uZ];rw [up e,c]
theorem s_idxArr {P:Program} {o:Oper} {env:List AV} {h:AH} {t e:TypeId} {n k k':Nat} {d:TypeDesc} {x i:Operand} {id off:Nat} {q:IntKind} {m:Int} {α:Type} {L:List α} {y:α} (g:o.op=.indexAddr t x i) (c:Ty P t (.array n e) k) (b:Ty P e d k') (f:yF env x=some (.ptr id off)) (hi:yF env i=some (.int q m))
  (l:L.length=n) (a:yu L m=some y):zw P o env h=.ok (.ptr id (off+m.toNat * k')) h:=by
 obtain ⟨h0,a⟩:=idxF a;have j:m.toNat < L.length:=(uc.1 a).1;exact yd g c b f hi (up ⟨h0,by omega⟩)
theorem evo_eq {env:List AV} {x:Operand} {a b:AV} (h:yF env x=some a) (e:a=b):yF env x=some b:=by rw [h,e]
theorem blk_ext2 {h:AH} {B B':List Blk} {T T':List Nat} {j:Nat} {b:Blk} (a:B[j]?=some b):((h.ext B T).ext B' T').blk (h.blks.length+j)=some b:=by
 rw [zQ,yA,uj (uc.1 a).1];exact a
theorem blk_old {h:AH} {B:List Blk} {T:List Nat} {id:Nat} {b:Blk} (a:h.blk id=some b):(h.ext B T).blk id=some b:=by
 have c:id < h.blks.length:=(uc.1 a).1;simp only [AH.blk,AH.ext] at a ⊢;rw [uj c];exact a
theorem b_load {P:Program} {o:Oper} {env:List AV} {h:AH} {B:List Blk} {T:List Nat} {t:TypeId} {d:TypeDesc} {k id off:Nat} {x:Operand} {cs:List AV} {v v':AV} (f:o.op=.load t x) (b:Ty P t d k) (a:yF env x=some (.ptr id off)) (g:h.blk id=some (.cells cs))
  (c:ldC (yh d) k off cs=some v) (e:tyfix P t v=v'):zw P o env (h.ext B T)=.ok v' (h.ext B T):=by
 refine s_load f b a ?_ e;simp only [aLoad,blk_old g];exact c

theorem leV.agg {cs ds:List AV} (k:leL cs ds) (b:ds.all AV.one=true):leV (.agg cs) (.agg ds):=λg v a=>by
 simp only [V] at a ⊢;obtain ⟨vs,e,c⟩:=a;exact ⟨vs,e,VA.mk (k _ _ c.toVL) b⟩
theorem leV.tup {cs ds:List AV} (k:leL cs ds):leV (.tup cs) (.tup ds):=λg v a=>by
 simp only [V] at a ⊢;obtain ⟨vs,e,b⟩:=a;exact ⟨vs,e,k _ _ b⟩
theorem VL.setE {g:Gh}:∀{d:List AV} {vs:List Value},VL g d vs->∀(i:Nat) (a:AV),(∀v,vs[i]?=some v->V g a v)->VL g (d.set i a) vs
 | [],_,h,i,a,_=>by simpa using h
 | _::r,_,h,i,a,hv=>by
  simp only [VL] at h;obtain ⟨v',s,rfl,e,c⟩:=h;cases i with
  | zero=>simp only [uf,VL];exact ⟨v',s,rfl,hv v' rfl,c⟩
  | succ i=>simp only [ue,VL];exact ⟨v',s,rfl,e,VL.setE c i a (λv b=>hv v (by simpa using b))⟩
theorem V.tok {g:Gh} {k n:Nat} {es:List (List AV)} {v:Value} (i:es.length=n) (d:V g (.osl none k es) v):V (g.addT ⟨n,none,false⟩) (.osl (some g.τ.length) k es) v:=by
 subst i;simp only [V] at d ⊢;obtain ⟨a,c,p,j,m,l,f⟩:=d;refine ⟨a,c,p,j,m,l.imp id λ⟨b,o,e,hh⟩=>⟨b,o,e,VE.mono (g.le_addT _) _ _ _ _ hh⟩,⟨es.length,none,false⟩,?_,rfl,uh _,λ_=>.inl f⟩;simp only [Gh.addT];rw [ui (uh _)];simp
theorem wk_tok {α:Type} {row:α->List AV} {L:List α} {hd h:AH} {env b:List AV} {B:List Blk} {T T':List Nat} {d k m:Nat} (s:yF env (.tmp d)=some (.osl none k (L.map row))) (q:T.length=m)
  (p:vZ (some d) env (.osl (some (h.toks.length+m)) k (L.map row))=some b) (u:T++[L.length]=T') :
  wk hd env (h.ext B T) b (h.ext B T'):=λ_ _ _ _ x g vs _ w r n=>by
 subst q u;simp only [vZ,un] at p;subst p;have c:h.toks.length+T.length=g.τ.length:=by rw [r.tlen];simp [AH.ext]
 refine ⟨g.addT ⟨L.length,none,false⟩,w.trans (g.le_addT _),?_,?_⟩
 ·have:=r.addTok ⟨L.length,none,false⟩ (λ_ _ _ h=>by cases h) (λ_ _ h=>by cases h);have e:(h.ext B (T++[L.length]))={ (h.ext B T) with toks:=(h.ext B T).toks++[L.length] }:=by simp [AH.ext,uy]
  rw [e];exact this
 ·have i:=n;refine ⟨VL.setE (VL.mono (g.le_addT _) _ _ n) d _ λv l=>?_,λ_ h=>h⟩;obtain ⟨a,f,t⟩:=i.getR _ _ l;have j:env[d]?=some (.osl none k (L.map row)):=s;rw [j] at f;injection f with f;subst f;rw [c];exact t.tok (by simp)
theorem Rel.rowsC {B:Nat} {w0 w:World} {g:Gh} {h:AH} (r:Rel B w0 g h w) {i:Nat} {cs cs':List AV} (e:h.blks[i]?=some (.cells cs)) :
  (∀(j:Nat) (x:Blk),g.σ[j]?=some none->(h.put i (.cells cs')).blks[j]?=some x->RowB g w x) /\
  ∀(a b t k k':Nat) (es es':List (List AV)),(h.put i (.cells cs')).blks[a]?=some (.row t k es)->(h.put i (.cells cs')).blks[b]?=some (.row t k' es')->a=b:=by
 have key:∀(a t k:Nat) (es:List (List AV)),(h.put i (.cells cs')).blks[a]?=some (.row t k es)->h.blks[a]?=some (.row t k es):=by
  intro a t k es c;simp only [AH.put] at c;by_cases hij:i=a
  ·subst hij;rw [uA (uc.1 e).1] at c;cases c
  ·rw [uK hij] at c;exact c
 refine ⟨λj x f d=>?_,λa b t k k' es es' c l=>r.rinj _ _ _ _ _ _ _ (key _ _ _ _ c) (key _ _ _ _ l)⟩;simp only [AH.put] at d;by_cases hij:i=j
 ·subst hij;exact (r.row i _ f e).elim
 ·rw [uK hij] at d;exact r.row j x f d
theorem Rel.reblk {B:Nat} {w0 w:World} {g:Gh} {h:AH} (r:Rel B w0 g h w) {i:Nat} {cs cs':List AV} (b:h.blks[i]?=some (.cells cs)) (e:∀c,BlkOk g w c (.cells cs)->BlkOk g w c (.cells cs')):Rel B w0 g (h.put i (.cells cs')) w:=by
 refine ⟨r.below,r.bsz,r.phi,by simp [AH.put,r.slen],λj c q d a=>?_,r.tlen,r.tok,r.sinj,r.tinj,r.sep,r.dfr,(r.rowsC b).1,(r.rowsC b).2,r.nb,r.ob⟩;simp only [AH.put] at a;by_cases hij:i=j
 ·subst hij;rw [uA (uc.1 b).1] at a;injection a with a;subst a;obtain ⟨m,f,l,k⟩:=r.blk i c _ d b;exact ⟨m,f,e c l,λ_=>k (by simp)⟩
 ·rw [uK hij] at a;exact r.blk j c q d a
theorem wk_tokB {α:Type} {row:α->List AV} {L:List α} {hd h:AH} {env:List AV} {B B':List Blk} {T T':List Nat} {j off k m:Nat} {cs cs':List AV} (A:B[j]?=some (.cells cs)) (J:yF cs (.tmp off)=some (.osl none k (L.map row))) (H:T.length=m)
  (F:vZ (some off) cs (.osl (some (h.toks.length+m)) k (L.map row))=some cs') (Q:B.set j (.cells cs')=B') (U:T++[L.length]=T') :
  wk hd env (h.ext B T) env (h.ext B' T'):=λ_ _ w _ W g vs _ V r K=>by
 subst H U Q;simp only [vZ,un] at F;subst F;have p:h.toks.length+T.length=g.τ.length:=by rw [r.tlen];simp [AH.ext]
 refine ⟨g.addT ⟨L.length,none,false⟩,V.trans (g.le_addT _),?_,VL.mono (g.le_addT _) _ _ K,λ_ h=>h⟩;have b:=r.addTok ⟨L.length,none,false⟩ (λ_ _ _ h=>by cases h) (λ_ _ h=>by cases h);have x:({ (h.ext B T) with toks:=(h.ext B T).toks++[L.length] }:AH).blks[h.blks.length+j]?=some (.cells cs):=by
  simp only [AH.ext];rw [ui (by omega),uq];exact A
 have e:(h.ext (B.set j (.cells (cs.set off (.osl (some (h.toks.length+T.length)) k (L.map row))))) (T++[L.length])) =
   ({ (h.ext B T) with toks:=(h.ext B T).toks++[L.length] }:AH).put (h.blks.length+j) (.cells (cs.set off (.osl (some (h.toks.length+T.length)) k (L.map row)))):=by
  simp only [AH.ext,AH.put,uy];rw [uO _ _ (by omega),uq]
 rw [e]
 -- what the cells were ahead of the token
 have n:(h.ext B T).blks[h.blks.length+j]?=some (.cells cs):=by
  simp only [AH.ext];rw [ui (by omega),uq];exact A
 obtain ⟨c,u⟩:∃c:Nat,g.σ[h.blks.length+j]?=some (some c):=by
  have:h.blks.length+j < g.σ.length:=by rw [r.slen];simp only [AH.ext,uo];have:=(uc.1 A).1;omega
  rcases u:g.σ[h.blks.length+j] with _ | c
  ·exact (r.row _ _ (by rw [ug this,u]) n).elim
  ·exact ⟨c,by rw [ug this,u]⟩
 obtain ⟨_,_,⟨us,t,S,G⟩,_⟩:=r.blk _ c _ u n;have s:VA (g.addT ⟨L.length,none,false⟩) (cs.set off (.osl (some (h.toks.length+T.length)) k (L.map row))) us.toList:=by
  have E:=G.toVL;refine VA.mk (VL.setE (VL.mono (g.le_addT _) _ _ E) off _ λv D=>?_) ?_
  ·obtain ⟨a,d,O⟩:=E.getR _ _ D;have C:cs[off]?=some (.osl none k (L.map row)):=J;rw [C] at d;injection d with d;subst d;rw [p];exact O.tok (by simp)
  ·rw [ux];intro a d;rcases pM d with d | rfl
   ·have:=G.ones;rw [ux] at this;exact this a d
   ·rfl
 -- one block alone: the same cell
 refine ⟨b.below,b.bsz,b.phi,by simp [AH.put,b.slen],λi y q f l=>?_,b.tlen,b.tok,b.sinj,b.tinj,b.sep,b.dfr,(b.rowsC x).1,(b.rowsC x).2,b.nb,b.ob⟩;simp only [AH.put] at l;by_cases hij:h.blks.length+j=i
 ·subst hij;rw [uA (uc.1 x).1] at l;injection l with l;subst l;obtain ⟨I,R,_,N⟩:=b.blk _ y _ f x;have:y=c:=by
   have:g.σ[h.blks.length+j]?=some (some y):=f;rw [u] at this;injection this with this;injection this with this;exact this.symm
  subst this;exact ⟨I,R,⟨us,t,S,s⟩,λ_=>N (by simp)⟩
 ·rw [uK hij] at l;exact b.blk i y q f l
mutual
theorem AV.low_up {n d m e:Nat} (c:n<=d) (h:m<=e):∀a:AV,a.low n m=true->a.low d e=true
 | .bool _,_ | .int _ _,_ | .str _,_ | .nilp,_ | .nilm,_ | .nilf,_ | .nili,_ | .nilsl,_ | .fptr _,_ | .sl _ _,_ | .glob _,_ | .any,_ | .opq,_ | .bsl _ _,_ | .nsl _ _,_ | .gsl _ _,_ | .gptr _,_=>rfl
 | .osl none _ _,_=>rfl
 | .osl (some t) _ _,hl=>by simp only [AV.low,um] at hl ⊢;omega
 | .ptr _ _,hl=>by simp only [AV.low,um] at hl ⊢;omega
 | .msl _ _ _ _,hl=>by simp only [AV.low,um] at hl ⊢;omega
 | .rsl _ _ _ _,hl=>by simp only [AV.low,um] at hl ⊢;omega
 | .rsuf _ _ _ _ _,hl=>by simp only [AV.low,um] at hl ⊢;omega
 | .rptr _ _ _ _ _,hl=>by simp only [AV.low,um] at hl ⊢;omega
 | .map _,hl=>by simp only [AV.low,um] at hl ⊢;omega
 | .yld _,hl=>by simp only [AV.low,um] at hl ⊢;omega
 | .fn _ a b,hl=>by
  simp only [AV.low,ud] at hl ⊢;exact ⟨yb c h a hl.1,yb c h b hl.2⟩
 | .iface _ v,hl=>by simp only [AV.low] at hl ⊢;exact AV.low_up c h v hl
 | .agg cs,hl=>by simp only [AV.low] at hl ⊢;exact yb c h cs hl
 | .tup cs,hl=>by simp only [AV.low] at hl ⊢;exact yb c h cs hl
theorem yb {n d m e:Nat} (c:n<=d) (h:m<=e):∀l:List AV,zB n m l=true->zB d e l=true
 | [],_=>rfl
 | a::r,hl=>by
  simp only [zB,ud] at hl ⊢;exact ⟨AV.low_up c h a hl.1,yb c h r hl.2⟩
end
theorem wk_cutm {h:AH} {env:List AV} {L:List Blk} {M M1:List Nat} (m:Nat) (d:zB h.blks.length (h.toks.length+m) env=true) (j:M.take m=M1):wk h env (h.ext L M) env (h.ext [] M1):=λ_ _ _ _ l g vs a n r f=>by
 subst j;refine ⟨g.cut h.blks.length (h.toks.length+m),Gh.le_cut2 n (by rw [a.slen];exact uh _) (by rw [a.tlen];omega),?_,VL.cut _ _ d f,λ_ h=>h⟩;have e:(h.ext L M).cut h.blks.length (h.toks.length+m)=h.ext [] (M.take m):=by
  simp [AH.cut,AH.ext,sd];rw [uM (by omega)]
 have:=r.cut h.blks.length (h.toks.length+m) (λi k hi b=>?_)
 ·rw [e] at this;exact this
 ·have c:i < l.σ.length:=by rw [a.slen];exact hi
  simp only [AH.ext] at b;rw [uj hi] at b;have:=a.isLow b;rw [a.slen,a.tlen] at this;exact Blk.low_mono (by omega) _ this
theorem fin_own {h:AH} {B:List Blk} {T:List Nat} {K:AV->AH->Prop} {k n:Nat} {R:List (List AV)} (a:K (.osl (some h.toks.length) k R) (h.ext [] [n])):finK h K (.osl (some (h.toks.length+0)) k R) (h.ext B (n::T)) :=
 vz (wk_cutm 1 (by simp [zB,AV.low]) rfl) a
theorem fin_own0 {α:Type} {row:α->List AV} {L:List α} {h:AH} {B:List Blk} {T:List Nat} {K:AV->AH->Prop} {k:Nat} (a:K (.osl (some h.toks.length) k (L.map row)) (h.ext [] [L.length])):finK h K (.osl none k (L.map row)) (h.ext B T) :=
 vz ((wk_cutm (M1:=[]) 0 (by simp [zB,AV.low]) rfl).trans (wk_tok (d:=0) (m:=0) rfl rfl rfl rfl)) a
theorem wk_leB {hd h:AH} {env:List AV} {B B':List Blk} {T:List Nat} {j:Nat} {cs cs':List AV} (d:B[j]?=some (.cells cs)) (a:leL cs cs') (k:cs'.all AV.one=true) (i:B.set j (.cells cs')=B'):wk hd env (h.ext B T) env (h.ext B' T):=λ_ _ w _ p g vs _ m r b=>by
 subst i;have l:(h.ext B T).blks[h.blks.length+j]?=some (.cells cs):=by
  simp only [AH.ext];rw [ui (by omega),uq];exact d
 have:=r.reblk l (cs':=cs') (λc ⟨us,t,n,f⟩=>⟨us,t,n,VA.mk (a _ _ f.toVL) k⟩);have e:(h.ext B T).put (h.blks.length+j) (.cells cs')=h.ext (B.set j (.cells cs')) T:=by
  simp only [AH.ext,AH.put];rw [uO _ _ (by omega),uq]
 rw [e] at this;exact ⟨g,m,this,b,λ_ h=>h⟩
theorem yl {h:AH} {L0 L1 L':List Blk} {M0 M1 M':List Nat} {env:List AV} (c:zB (h.blks.length+L0.length) (h.toks.length+M0.length) env=true) (d:L'.take L0.length=L1) (e:M'.take M0.length=M1)
  (a:L1.all (λb=>b.low (h.blks.length+L0.length) (h.toks.length+M0.length))=true):wk (h.ext L0 M0) env (h.ext L' M') env (h.ext L1 M1) :=
 wk_ext2 c d e λ_ k f=>.inr (by rw [ux] at a;exact a k (uN f))
theorem r_condR {P:Program} {Q:Exit->List AV->AH->Prop} {env:List AV} {h:AH} {ρ σ:Type} {f:Nat->Nat->σ->Option (Out ρ σ)} {m:Int} {i:Nat} {s:σ} {rest:σ->Option ρ} {d:ρ} {c:Operand} {t e:Code} (u:yF env c=some (.bool (decide ((i:Int) < m))))
  (k:lp (zq f ((List.range m.toNat).drop i) i s) rest=some d)
  (p:∀x b,i < (List.range m.toNat).length->(i:Int) < m->x=i->f i x s=some b->konL f (List.range m.toNat) i rest b=some d->qb P t Q env h) (n:rest s=some d->qb P e Q env h):qb P (.cond c t e) Q env h:=by
 refine r_cond u (λg=>?_) (λg=>?_)
 ·have l:=tm g;have a:i < (List.range m.toNat).length:=by simp;omega
  obtain ⟨x,b,j,q,r⟩:=loopL_step k a;refine p x b a l ?_ q r;rw [ug a] at j;simp at j;exact j.symm
 ·have l:=pG g;exact n (loopL_end k (by simp;omega))
theorem ops_nextF {P:Program} {b:Array Oper} {Q:List AV->AH->Prop} {o:Oper} {rest:List Oper} {env k l:List AV} {h:AH} {L:List Blk} {M:List Nat} {x:Operand} {s:List UInt8} {j a:Nat} {ρ:Type} {A C:Option ρ} {r:ρ} (q:aG b o env=some true) (p:o.op=.next x true)
  (n:yF env x=some (.ptr (h.blks.length+j) 0)) (m:L[j]?=some (.siter s a)) (d:vZ o.dst env (.tup [.bool true,.int .i64 a,.int .i32 (dec s a).1])=some k) (g:vZ o.dst env (.tup [.bool false])=some l)
  (c:(if a < s.length then A else C)=some r) (e:a < s.length->A=some r->zH P b Q rest k (h.ext (L.set j (.siter s (a+(dec s a).2))) M)) (f:C=some r->zH P b Q rest l (h.ext L M)):zH P b Q (o::rest) env (h.ext L M) :=
 ops_next q p n m d g (λi=>e i (by rw [up i] at c;exact c)) (λi=>f (by rw [uu (by omega)] at c;exact c))
open Classical in
noncomputable def anyN {ρ:Type} (g:Nat->Option ρ):Option ρ:=if h:∃r N,∀n,N<=n->g n=some r then some (Classical.choose h) else none
theorem anyN_is {ρ:Type} {g:Nat->Option ρ} {r:ρ} (h:anyN g=some r):∃n,g n=some r:=by
 unfold anyN at h;split at h
 ·rename_i a;injection h with h;subst h;obtain ⟨N,b⟩:=tN a;exact ⟨N,b N (uh _)⟩
 ·cases h
theorem qc {ρ:Type} {g:Nat->Option ρ} {r:ρ} (N:Nat) (h:∀n,N<=n->g n=some r):anyN g=some r:=by
 have a:∃r N,∀n,N<=n->g n=some r:=⟨r,N,h⟩
 unfold anyN;rw [p9 a];obtain ⟨M,c⟩:=tN a;have b:=c (max N M) (Nat.le_max_right _ _);rw [h (max N M) (Nat.le_max_left _ _)] at b;exact b.symm
theorem Rel.beyond {B:Nat} {w0 w w':World} {g:Gh} {h:AH} (r:Rel B w0 g h w) (a:RowKit.Below w.heap.size w w'):Rel B w0 g h w' :=
 ⟨r.below.trans (a.mono r.bsz),uU r.bsz a.size,λb j v e=>(a.cell (p:=⟨b,j,none⟩) (r.phi_lt e)).trans (r.phi b j v e),r.slen,
   λi c k f s=>by
     obtain ⟨u,m,C,A⟩:=r.blk i c k f s;exact ⟨u,so m a.size,C.mono (Gh.le.refl g) (a.block c m),A⟩,r.tlen,
   λi t q=>by
     obtain ⟨u,m⟩:=r.tok i t q;exact ⟨u,λb l e d=>(m b l e d).mono a.size (a.block b (m b l e d).lt) λ_ _=>rfl⟩,r.sinj,r.tinj,r.sep,λc f=>⟨(r.dfr c f).1,(a.block c (r.dfr_lt f)).trans (r.dfr c f).2.1,(r.dfr c f).2.2⟩,
   λi k hi s=>(r.row i k hi s).mono (Gh.le.refl g) (λ_ _ h _=>h) (λi t b x q _ d=>⟨a.block b ((r.tok i t q).2 b x.1 x.2 d).lt,λ_=>rfl⟩),r.rinj,
   λb x n=>(r.nb b x n).mono λ_ d y=>⟨a.block b d,y,λh=>h⟩,λb n=>⟨so (r.ob b n).1 a.size,(r.ob b n).2⟩⟩
end Go.Vv
