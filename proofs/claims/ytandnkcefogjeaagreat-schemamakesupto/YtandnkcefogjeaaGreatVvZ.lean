/- Rules of the second printer: rows of slices, appends, calls that hand over memory, function values. -/
import Derived.Test.YtandnkcefogjeaaGreatVvY
namespace Go.Vv
open Go

abbrev zC (s:zk):List AV:=[.str s]
def byteRow (b:UInt8):List AV:=[.int .u8 b.toNat]
abbrev intRow (k:IntKind) (n:Int):List AV:=[.int k n]
abbrev boolRow (b:Bool):List AV:=[.bool b]
def IsSl {α:Type} (a:AV) (z:Nat) (row:α->List AV) (L:List α):Prop:=a=.sl z (L.map row) \/ ∃q,a=.osl q z (L.map row)
section
variable {α:Type} {row:α->List AV} {L M:List α} {z:Nat}
theorem isl:IsSl (.sl z (L.map row)) z row L:=.inl rfl
theorem iosl {q:Option Nat}:IsSl (.osl q z (L.map row)) z row L:=.inr ⟨_,rfl⟩
theorem vE {k:Nat} {f:α->List AV} {L:List α}:aLen (.sl k (L.map f))=some L.length:=by simp [aLen]
theorem lenMapO {q:Option Nat} {k:Nat} {f:α->List AV} {L:List α}:aLen (.osl q k (L.map f))=some L.length:=by simp [aLen]
theorem zw {i:Nat} {x:α} (h:L[i]?=some x):yq L (i:Int)=some x:=by
 unfold yq;rw [if_pos (by omega),Int.toNat_natCast];exact h
end
theorem slc_of {α:Type} {L:List α} {lo hi:Int} (h:0<=lo/\lo<=hi/\hi<=L.length):slc L lo hi=some ((L.take hi.toNat).drop lo.toNat):=if_pos h
theorem bin_boolE {P:Program} {t:TypeId} {k:Nat} {a b:Bool} (c:Ty P t .bool k):yB P .eql t (.bool a) (.bool b)=some (.bool (a==b)):=by simp only [yB,aEq,c.u,Option.map_some]
theorem bin_boolN {P:Program} {t:TypeId} {k:Nat} {a b:Bool} (c:Ty P t .bool k):yB P .neq t (.bool a) (.bool b)=some (.bool !(a==b)):=by simp only [yB,aEq,c.u,Option.map_some]
open Classical in
noncomputable def nilq {α ρ:Type} (L:List α) (f:Bool->Option ρ):Option ρ:=if L=[]/\f true ≠ f false then none else f false
theorem nilqF {α ρ:Type} {L:List α} {f:Bool->Option ρ} {r:ρ} (h:nilq L f=some r):f false=some r/\(L=[]->f true=some r):=by
 unfold nilq at h;split at h
 ·cases h
 ·rename_i b;refine ⟨h,λc=>?_⟩;exact Classical.byContradiction λa=>b ⟨c,λe=>a (e.trans h)⟩
theorem nilq_of {α ρ:Type} {L:List α} {f:Bool->Option ρ} {r:ρ} (a:f false=some r) (b:L=[]->f true=some r):nilq L f=some r:=by
 unfold nilq;rw [if_neg (λ⟨d,c⟩=>c ((b d).trans a.symm))];exact a
theorem qz {P:Program} {d:Array Oper} {Q:List AV->AH->Prop} {o:Oper} {rest:List Oper} {env:List AV} {c:Bool->List AV} {h:AH} {t e u:TypeId} {k z:Nat} {x y:Operand} {a:AV} {α ρ:Type} {row:α->List AV} {L:List α} {f:Bool->Option ρ} {r:ρ} (F:aG d o env=some true)
  (p:o.op=.binOp .eql t x y u) (s:El P t e k) (C:yz env x=some a) (E:IsSl a z row L) (G:yz env y=some .nilsl) (hd:∀b:Bool,dso o.dst env (.bool b)=some (c b)) (H:nilq L f=some r)
  (B:∀b,(b=true->L=[])->f b=some r->zH P d Q rest (c b) h):zH P d Q (o::rest) env h:=by
 obtain ⟨n,w⟩:=zO C;obtain ⟨m,l⟩:=zO G;obtain ⟨D,j⟩:=nilqF H;have key:∀b,(b=true->L.map row=[])->zH P d Q rest (c b) h:=λb g=>by
  have i:b=true->L=[]:=λh=>by simpa using g h
  refine B b i ?_;cases b with
  | false=>exact D
  | true=>exact j (i rfl)
 refine vn ?_;simp only [F,gwp];rcases E with rfl | ⟨q,rfl⟩
 ·simp only [zr,p,n,m,Bool.and_self,if_true,w,l,aNilq,s.u,rwp]
  rintro v A ⟨rfl,b,rfl,g⟩
  rw [xp (hd b)];exact key b g
 ·simp only [zr,p,n,m,Bool.and_self,if_true,w,l,aNilq,s.u,rwp]
  rintro v A ⟨rfl,b,rfl,g⟩
  rw [xp (hd b)];exact key b g
section
variable {P:Program} {o:Oper} {env:List AV} {h:AH} {α:Type} {row:α->List AV} {L:List α}
theorem s_idxRow {t e:TypeId} {x i:Operand} {a:AV} {k:IntKind} {n:Int} {z:Nat} {y:α} (f:o.op=.indexAddr t x i) (j:El P t e z) (d:yz env x=some a) (hi:yz env i=some (.int k n)) (g:IsSl a z row L) (c:yq L n=some y) :
  zr P o env h=.ok (.fptr (row y)) h:=by
 obtain ⟨h0,c⟩:=idxF c;refine s_indexAddr f j d hi ?_;have b:(L.map row)[n.toNat]?=some (row y):=by rw [List.getElem?_map,c];rfl
 rcases g with rfl | ⟨q,rfl⟩ <;> simp only [qh,h0,and_self,if_true,b,Option.map_some]
theorem yc {t e:TypeId} {x i:Operand} {a:AV} {k:IntKind} {n:Int} {z:Nat} {y:α} {cs:List AV} (g:o.op=.indexAddr t x i) (f:El P t e z) (c:yz env x=some a) (hi:yz env i=some (.int k n)) (d:IsSl a z row L) (b:yq L n=some y) (j:row y=cs) :
  zr P o env h=.ok (.fptr cs) h:=by rw [<- j];exact s_idxRow g f c hi d b
theorem s_gidxRow {t e:TypeId} {x i:Operand} {a:AV} {k:IntKind} {n:Int} {z:Nat} (d:α) (j:o.op=.indexAddr t x i) (g:El P t e z) (b:yz env x=some a) (hi:yz env i=some (.int k n)) (c:IsSl a z row L) (f:0<=n/\n < L.length) :
  zr P o env h=.ok (.fptr (row (L.getD n.toNat d))) h:=by
 refine s_idxRow j g b hi c ?_;unfold yq;rw [if_pos f.1,List.getD_eq_getElem?_getD,List.getElem?_eq_getElem (by omega)];rfl
theorem wE {t e:TypeId} {x i:Operand} {a:AV} {k:IntKind} {n:Int} {z:Nat} {cs:List AV} (d:α) (j:o.op=.indexAddr t x i) (g:El P t e z) (b:yz env x=some a) (hi:yz env i=some (.int k n)) (c:IsSl a z row L) (f:0<=n/\n < L.length)
  (l:row (L.getD n.toNat d)=cs):zr P o env h=.ok (.fptr cs) h:=by rw [<- l];exact s_gidxRow d j g b hi c f
theorem s_idxStr {t:TypeId} {x i:Operand} {s:zk} {k:IntKind} {n:Int} {z:Nat} {b:UInt8} (e:o.op=.index t x i) (d:Ty P t .string z) (c:yz env x=some (.str s)) (hi:yz env i=some (.int k n)) (a:yq s n=some b) :
  zr P o env h=.ok (.int .u8 b.toNat) h:=by
 obtain ⟨h0,a⟩:=idxF a;refine s_indexStr e d c hi ?_;simp only [aIndexStr,h0,if_true,a,Option.map_some]
inductive Bd (env:List AV):Option Operand->Int->Int->Prop
 | none {d:Int}:Bd env none d d
 | some {x:Operand} {k:IntKind} {n d:Int}:yz env x=some (.int k n)->Bd env (some x) d n
theorem Bd.all {x:Option Operand} {d n:Int} (h:Bd env x d n):x.all yg=true:=by
 cases h with
 | none=>rfl
 | some h=>exact (zO h).1
theorem Bd.ab {x:Option Operand} {d:Nat} {n:Int} (h:Bd env x d n) (h0:0<=n):aBound d (x.map (ev env))=Option.some n.toNat:=by
 cases h with
 | none=>rfl
 | some h=>simp only [Option.map_some,(zO h).2,aBound,if_pos h0]
theorem xG {t e:TypeId} {x:Operand} {lo hi:Option Operand} {a:AV} {M:List α} {l hh:Int} {z:Nat} (w:o.op=.slice t x lo hi none) (j:El P t e z) (s:yz env x=some a) (A:a=.sl z (L.map row) \/ ∃q,a=.osl q z (L.map row)/\(hi.isSome=true \/ q.isSome=true)) (f:Bd env lo 0 l) (b:Bd env hi L.length hh)
  (n:slc L l hh=some M):zr P o env h=.ok (.sl z (M.map row)) h:=by
 obtain ⟨⟨h0,B,C⟩,rfl⟩:=slcF n;obtain ⟨p,m⟩:=zO s;obtain ⟨i,y,r,_⟩:=j.i;have g:=Bd.ab (d:=0) f h0;have k:=Bd.ab (d:=L.length) b (by omega);simp only [zr,w,p,f.all,b.all,Option.all_none,Bool.and_self,if_true,j.u,m,y,r,Option.map_none];rcases A with rfl | ⟨q,rfl,c⟩
 ·simp only [tyfix,if_true,aSlice,aSliceSl,g,List.length_map,k,Bool.false_and,Bool.false_eq_true,if_false];rw [if_pos (by omega)];simp only [oo,List.map_drop,List.map_take]
 ·simp only [tyfix,if_true,aSlice,aSliceSl,g,List.length_map,k];rw [if_pos (by omega)];have v:(q.isNone&&(hi.map (ev env)).isNone)=false:=by
   rcases c with c | c
   ·cases hi <;> simp_all
   ·cases q <;> simp_all
  simp only [v,Bool.false_eq_true,if_false,oo,List.map_drop,List.map_take]
theorem a_app {M:List α} {k:Nat} {q:Option Nat} {id:Nat} {c:AH} (d:L.length+M.length<=yK) (a:h.grow q L.length M.length=some (id,c)):aAppend h k (.osl q k (L.map row)) (M.map row)=some (.osl (some id) k ((L++M).map row),c):=by
 simp only [aAppend,List.length_map];by_cases h0:M.length=0
 ·have:M=[]:=List.eq_nil_of_length_eq_zero h0;subst this;rw [if_pos (show ([]:List α).length=0 from rfl)];cases q with
  | none =>
   simp only [AH.grow,List.length_nil,Nat.add_zero,Option.some.injEq,Prod.mk.injEq] at a;obtain ⟨rfl,rfl⟩:=a;simp
  | some id' =>
   simp only [AH.grow,List.length_nil,Nat.add_zero] at a;split at a
   ·rename_i b;simp only [Option.some.injEq,Prod.mk.injEq] at a;obtain ⟨rfl,rfl⟩:=a;have:h.toks.set id' L.length=h.toks:=by
     refine List.ext_getElem? λj=>?_;rw [List.getElem?_set];split
     ·rename_i e;subst e;rw [b];split
      ·rfl
      ·rename_i f;rw [List.getElem?_eq_none (by omega)] at b;cases b
     ·rfl
    simp [this]
   ·cases a
 ·rw [if_neg h0,if_pos ⟨trivial,d⟩,a];simp
variable {M:List α}
theorem e_appN {c:Call} {x y:Operand} {t u e q:TypeId} {k k' m:Nat} {a b f:AV} {B:List Blk} {T T':List Nat} (p:o.op=.call c) (A:c.callee=.builtin .append) (hs:c.args=#[x,y]) (v:c.argTypes=#[t,u]) (g:El P t e k)
  (d:El P u q k') (j:yz env x=some a) (w:yz env y=some b) (r:tyfix P t a=.osl none k (L.map row)) (l:tyfix P u b=f) (s:aNews k f=some (M.map row)) (i:L.length+M.length<=yK) (n:T.length=m) (C:T++[(L++M).length]=T') :
  zr P o env (h.ext B T)=.ok (.osl (some (h.toks.length+m)) k ((L++M).map row)) (h.ext B T'):=by
 refine s_append p A hs v g d j w r l s (a_app i ?_);subst C n;simp [AH.grow,AH.ext]
theorem yu {c:Call} {x y:Operand} {t u e q:TypeId} {k k' j:Nat} {a b f:AV} {B:List Blk} {T T':List Nat} (p:o.op=.call c) (C:c.callee=.builtin .append) (hs:c.args=#[x,y]) (v:c.argTypes=#[t,u]) (g:El P t e k)
  (d:El P u q k') (l:yz env x=some a) (A:yz env y=some b) (r:tyfix P t a=.osl (some (h.toks.length+j)) k (L.map row)) (m:tyfix P u b=f) (s:aNews k f=some (M.map row)) (i:L.length+M.length<=yK) (n:T[j]?=some L.length) (D:T.set j (L++M).length=T') :
  zr P o env (h.ext B T)=.ok (.osl (some (h.toks.length+j)) k ((L++M).map row)) (h.ext B T'):=by
 refine s_append p C hs v g d l A r m s (a_app i ?_);subst D;have w:(h.toks++T)[h.toks.length+j]?=some L.length:=by rw [List.getElem?_append_right (by omega),Nat.add_sub_cancel_left];exact n
 simp only [AH.grow,AH.ext,w,if_true];rw [List.set_append_right _ _ (by omega),Nat.add_sub_cancel_left,List.length_append]
theorem yZ {k:Nat}:aNews k (.sl k (M.map row))=some (M.map row):=by simp [aNews]
theorem yk {k:Nat} {q:Option Nat}:aNews k (.osl q k (M.map row))=some (M.map row):=by simp [aNews]
end

theorem leL.app {as bs:List AV} {cs:List AV} (k:leL as bs):leL (as++cs) (bs++cs):=λg vs hv=>by
 have hs:∀{as:List AV} {vs:List Value},VL g (as++cs) vs->∃us ws,vs=us++ws/\VL g as us/\VL g cs ws:=by
  intro as
  induction as with
  | nil=>intro vs h;exact ⟨[],vs,rfl,by simp [VL],h⟩
  | cons a r ih =>
   intro vs h;simp only [List.cons_append,VL] at h;obtain ⟨v,s,rfl,h1,h2⟩:=h;obtain ⟨us,ws,rfl,h3,h4⟩:=ih h2;exact ⟨v::us,ws,rfl,VL.cons h1 h3,h4⟩
 obtain ⟨us,ws,rfl,h1,h2⟩:=hs hv;exact VL.append (k _ _ h1) h2
theorem leL.pre {a bs:List AV}:∀{cs:List AV},leL a bs->leL (cs++a) (cs++bs)
 | [],k=>k
 | _::_,k=>leL.eq (leL.pre k)
def keeps:List (Nat×Blk)->List Blk->Prop
 | [],_=>True
 | (j,b)::r,B=>B[j]?=some b/\keeps r B
theorem wU {j:Nat} {b:Blk} {r:List (Nat×Blk)} {B:List Blk} (h:keeps ((j,b)::r) B):B[j]?=some b:=h.1
def lk:List (Nat×List (Nat×Blk))->Nat->List (Nat×Blk)
 | [],_=>[]
 | (m,l)::r,n=>if n=m then l else lk r n
def KeepB (h:AH) (l:List (Nat×Blk)) (x:AH):Prop:=∃B T,x=h.ext B T/\keeps l B
theorem zX {h:AH} {l:List (Nat×Blk)} {B:List Blk} {T:List Nat} (a:keeps l B):KeepB h l (h.ext B T):=⟨_,_,rfl,a⟩
def keepA:List (Nat×List (Nat×Blk))->List Blk->Prop
 | [],_=>True
 | (_,l)::r,B=>keeps l B/\keepA r B
theorem keepA_lk:∀{l:List (Nat×List (Nat×Blk))} {B:List Blk},keepA l B->∀n,keeps (lk l n) B
 | [],_,_,_=>trivial
 | (m,l)::r,B,h,n=>by
  simp only [lk];split
  ·exact h.1
  ·exact keepA_lk h.2 n
theorem FOk.all {b:Nat} {Ns:List Nat} {G:AH->Prop} {h:AH} (a:G h):FOk b Ns (λ_=>G) h:=λ_ _ _=>a
theorem FOk.nil {b:Nat} {F:Nat->AH->Prop} {h:AH}:FOk b [] F h:=λ_ h _=>by simp at h
theorem FOk.cons {b n:Nat} {Ns:List Nat} {F:Nat->AH->Prop} {h:AH} (a:b.testBit n=true \/ F n h) (d:FOk b Ns F h):FOk b (n::Ns) F h:=λm f c=>by
 rcases a with a | a
 ·by_cases e:m=n
  ·subst e;rw [a] at c;cases c
  ·exact d m (by simpa [e] using f) c
 ·by_cases e:m=n
  ·subst e;exact a
  ·exact d m (by simpa [e] using f) c
theorem zt {P:Program} {Q:Exit->List AV->AH->Prop} {env:List AV} {h:AH} {B:List Blk} {T:List Nat} {id:Nat} {l:List Oper} (Ns:List Nat) (a:List (Nat×List (Nat×Blk))) (c:keepA a B) (d:P.follows .mixedOrders=true) (hd:drawOk ⟨l⟩ Ns=true) (b:zR P ⟨l⟩ Ns (λn=>KeepB h (lk a n)) (Q .normal) 0 l env (h.ext B T)) :
  vQ P (.region id ⟨l⟩ true) Q env (h.ext B T):=.inl ⟨Ns,λn=>KeepB h (lk a n),⟨d,hd⟩,λn=>zX (keepA_lk c n),b⟩
theorem r_drawnF {P:Program} {Q:Exit->List AV->AH->Prop} {env:List AV} {h:AH} {id:Nat} {l:List Oper} (Ns:List Nat) (F:Nat->AH->Prop) (b:∀n,F n h) (c:P.follows .mixedOrders=true) (hd:drawOk ⟨l⟩ Ns=true) (a:zR P ⟨l⟩ Ns F (Q .normal) 0 l env h) :
  vQ P (.region id ⟨l⟩ true) Q env h:=.inl ⟨Ns,F,⟨c,hd⟩,b,a⟩
theorem y8 {h:AH} {L L':List Blk} {M M':List Nat}:(h.ext L M).ext L' M'=h.ext (L++L') (M++M'):=by simp [AH.ext,List.append_assoc]
theorem x7 {P:Program} {b:Array Oper} {Q:List AV->AH->Prop} {o:Oper} {rest:List Oper} {env a:List AV} {h c:AH} {f:FuncId} {args:List AV} {v:AV} (i:aG b o env=some true) (g:zr P o env h=.call f args) (hs:Spec P f args h λr hh=>r=v/\hh=c)
  (hd:dso o.dst env v=some a) (d:zH P b Q rest a c):zH P b Q (o::rest) env h :=
 ops_call i g hs λr c ⟨e,j⟩=>by subst e;subst j;rw [xp hd];exact d
theorem xU {Ns:List Nat} {F:Nat->AH->Prop} {i:Nat} (j:Ns.contains i=false) {P:Program} {a:Array Oper} {Q:List AV->AH->Prop} {o:Oper} {rest:List Oper} {env b:List AV} {h c:AH} {f:FuncId} {args:List AV} {v:AV} (l:FOk ((Region.before a).getD i 0) Ns F c) (e:c.blks=h.blks) (k:aG a o env=some true) (g:zr P o env h=.call f args) (hs:Spec P f args h λr hh=>r=v/\hh=c)
  (hd:dso o.dst env v=some b) (d:zR P a Ns F Q (i+1) rest b c):zR P a Ns F Q i (o::rest) env h :=
 ⟨v,c,.inl ⟨j,by simp only [AR,k,g];exact hs⟩,.inr e,.inr l,by rw [xp hd];exact d⟩
theorem yO {Ns:List Nat} {F:Nat->AH->Prop} {i:Nat} (j:Ns.contains i=false) {P:Program} {a:Array Oper} {Q:List AV->AH->Prop} {o:Oper} {rest:List Oper} {env b:List AV} {h c:AH} {v:AV} (g:FOk ((Region.before a).getD i 0) Ns F c) (f:c.blks=h.blks) (k:aG a o env=some true) (e:zr P o env h=.ok v c) (hd:dso o.dst env v=some b) (d:zR P a Ns F Q (i+1) rest b c) :
  zR P a Ns F Q i (o::rest) env h:=⟨v,c,.inl ⟨j,by simp only [AR,k,e,and_self]⟩,.inr f,.inr g,by rw [xp hd];exact d⟩
def OwnK (h:AH) (k n:Nat) (R:List (List AV)) (rr:AV) (hh:AH):Prop:=rr=.osl (some h.toks.length) k R/\hh=h.ext [] [n]
theorem qO {P:Program} {f:FuncId} {a:List AV} {h:AH} {B:List Blk} {T T':List Nat} {k n m:Nat} {R:List (List AV)} (s:Spec P f a (h.ext B T) (OwnK (h.ext B T) k n R)) (b:T.length=m) (d:T++[n]=T') :
  Spec P f a (h.ext B T) (λc hh=>c=.osl (some (h.toks.length+m)) k R/\hh=h.ext B T'):=by
 refine s.mono ?_
 rintro r e ⟨rfl,rfl⟩
 subst b d;simp [AH.ext,List.append_assoc]
theorem ldC_arr {α:Type} {row:α->List AV} {L:List α} {k:Nat} {i:Int} {y:α} {cs:List AV} (b:∀x,(row x).length=k) (c:yq L i=some y) (f:L.flatMap row=cs):ldC true k (0+i.toNat * k) cs=some (.agg (row y)):=by
 obtain ⟨h0,c⟩:=idxF c;subst f;have key:∀(L:List α) (n:Nat),L[n]?=some y->n * k+k<=(L.flatMap row).length/\((L.flatMap row).drop (n * k)).take k=row y:=by
  intro L
  induction L with
  | nil=>intro n h;simp at h
  | cons a r ih =>
   intro n h;cases n with
   | zero =>
    simp at h;subst h;simp only [List.flatMap_cons,Nat.zero_mul,List.drop_zero,List.length_append,b];exact ⟨by omega,by rw [List.take_append_of_le_length (by rw [b];omega),List.take_of_length_le (by rw [b];omega)]⟩
   | succ n =>
    obtain ⟨e,d⟩:=ih n (by simpa using h);simp only [List.flatMap_cons,List.length_append,b,Nat.succ_mul];refine ⟨by omega,?_⟩;rw [show n * k+k=(row a).length+n * k by rw [b];omega,List.drop_append,List.drop_of_length_le (by omega),List.nil_append,Nat.add_sub_cancel_left];exact d
 obtain ⟨e,d⟩:=key L i.toNat c;simp only [ldC,if_true,Nat.zero_add];rw [if_pos e,d]
theorem s_idxArr {P:Program} {o:Oper} {env:List AV} {h:AH} {t e:TypeId} {n k k':Nat} {d:TypeDesc} {x i:Operand} {id off:Nat} {q:IntKind} {m:Int} {α:Type} {L:List α} {y:α} (f:o.op=.indexAddr t x i) (g:Ty P t (.array n e) k) (c:Ty P e d k') (b:yz env x=some (.ptr id off)) (hi:yz env i=some (.int q m))
  (l:L.length=n) (a:yq L m=some y):zr P o env h=.ok (.ptr id (off+m.toNat * k')) h:=by
 obtain ⟨h0,a⟩:=idxF a;have j:m.toNat < L.length:=(List.getElem?_eq_some_iff.1 a).1;exact s_indexArrAddr f g c b hi (if_pos ⟨h0,by omega⟩)
theorem evo_eq {env:List AV} {x:Operand} {a b:AV} (h:yz env x=some a) (e:a=b):yz env x=some b:=by rw [h,e]
theorem blk_ext2 {h:AH} {B B':List Blk} {T T':List Nat} {j:Nat} {b:Blk} (a:B[j]?=some b):((h.ext B T).ext B' T').blk (h.blks.length+j)=some b:=by
 rw [y8,yb,List.getElem?_append_left (List.getElem?_eq_some_iff.1 a).1];exact a
theorem blk_old {h:AH} {B:List Blk} {T:List Nat} {id:Nat} {b:Blk} (a:h.blk id=some b):(h.ext B T).blk id=some b:=by
 have c:id < h.blks.length:=(List.getElem?_eq_some_iff.1 a).1;simp only [AH.blk,AH.ext] at a ⊢;rw [List.getElem?_append_left c];exact a
theorem qg {P:Program} {o:Oper} {env:List AV} {h:AH} {B:List Blk} {T:List Nat} {t:TypeId} {d:TypeDesc} {k id off:Nat} {x:Operand} {cs:List AV} {v a:AV} (i:o.op=.load t x) (g:Ty P t d k) (c:yz env x=some (.ptr id off)) (e:h.blk id=some (.cells cs))
  (b:ldC (z7 d) k off cs=some v) (f:tyfix P t v=a):zr P o env (h.ext B T)=.ok a (h.ext B T):=by
 refine s_load i g c ?_ f;simp only [aLoad,blk_old e];exact b

theorem leV.agg {cs ds:List AV} (k:leL cs ds) (c:ds.all AV.one=true):leV (.agg cs) (.agg ds):=λg v a=>by
 simp only [V] at a ⊢;obtain ⟨vs,e,b⟩:=a;exact ⟨vs,e,VA.mk (k _ _ b.toVL) c⟩
theorem leV.tup {cs ds:List AV} (k:leL cs ds):leV (.tup cs) (.tup ds):=λg v a=>by
 simp only [V] at a ⊢;obtain ⟨vs,e,b⟩:=a;exact ⟨vs,e,k _ _ b⟩
theorem VL.setE {g:Gh}:∀{d:List AV} {vs:List Value},VL g d vs->∀(i:Nat) (a:AV),(∀v,vs[i]?=some v->V g a v)->VL g (d.set i a) vs
 | [],_,h,i,a,_=>by simpa using h
 | _::r,_,h,i,a,hv=>by
  simp only [VL] at h;obtain ⟨c,s,rfl,f,e⟩:=h;cases i with
  | zero=>simp only [List.set_cons_zero,VL];exact ⟨c,s,rfl,hv c rfl,e⟩
  | succ i=>simp only [List.set_cons_succ,VL];exact ⟨c,s,rfl,f,VL.setE e i a (λv b=>hv v (by simpa using b))⟩
theorem V.tok {g:Gh} {k n:Nat} {es:List (List AV)} {v:Value} (m:es.length=n) (d:V g (.osl none k es) v):V (g.addT ⟨n,none,false⟩) (.osl (some g.τ.length) k es) v:=by
 subst m;simp only [V] at d ⊢;obtain ⟨a,c,j,p,i,f,l⟩:=d;refine ⟨a,c,j,p,i,f.imp id λ⟨b,o,e,hh⟩=>⟨b,o,e,VE.mono (g.le_addT _) _ _ _ _ hh⟩,⟨es.length,none,false⟩,?_,rfl,Nat.le_refl _,λ_=>.inl l⟩;simp only [Gh.addT];rw [List.getElem?_append_right (Nat.le_refl _)];simp
theorem qF {α:Type} {row:α->List AV} {L:List α} {hd h:AH} {env b:List AV} {B:List Blk} {T T':List Nat} {d k m:Nat} (s:yz env (.tmp d)=some (.osl none k (L.map row))) (q:T.length=m)
  (p:dso (some d) env (.osl (some (h.toks.length+m)) k (L.map row))=some b) (w:T++[L.length]=T') :
  wk hd env (h.ext B T) b (h.ext B T'):=λ_ _ _ _ x g vs _ t r n=>by
 subst q w;simp only [dso,Option.some.injEq] at p;subst p;have c:h.toks.length+T.length=g.τ.length:=by rw [r.tlen];simp [AH.ext]
 refine ⟨g.addT ⟨L.length,none,false⟩,t.trans (g.le_addT _),?_,?_⟩
 ·have:=r.addTok ⟨L.length,none,false⟩ (λ_ _ _ h=>by cases h) (λ_ _ h=>by cases h);have e:(h.ext B (T++[L.length]))={ (h.ext B T) with toks:=(h.ext B T).toks++[L.length] }:=by simp [AH.ext,List.append_assoc]
  rw [e];exact this
 ·have i:=n;refine ⟨VL.setE (VL.mono (g.le_addT _) _ _ n) d _ λv l=>?_,λ_ h=>h⟩;obtain ⟨a,f,u⟩:=i.getR _ _ l;have j:env[d]?=some (.osl none k (L.map row)):=s;rw [j] at f;injection f with f;subst f;rw [c];exact u.tok (by simp)
theorem Rel.rowsC {B:Nat} {w0 w:World} {g:Gh} {h:AH} (r:Rel B w0 g h w) {i:Nat} {cs cs':List AV} (e:h.blks[i]?=some (.cells cs)) :
  (∀(j:Nat) (x:Blk),g.σ[j]?=some none->(h.put i (.cells cs')).blks[j]?=some x->RowB g w x) /\
  ∀(a b t k k':Nat) (es es':List (List AV)),(h.put i (.cells cs')).blks[a]?=some (.row t k es)->(h.put i (.cells cs')).blks[b]?=some (.row t k' es')->a=b:=by
 have key:∀(a t k:Nat) (es:List (List AV)),(h.put i (.cells cs')).blks[a]?=some (.row t k es)->h.blks[a]?=some (.row t k es):=by
  intro a t k es c;simp only [AH.put] at c;by_cases hij:i=a
  ·subst hij;rw [List.getElem?_set_self (List.getElem?_eq_some_iff.1 e).1] at c;cases c
  ·rw [List.getElem?_set_ne hij] at c;exact c
 refine ⟨λj x f d=>?_,λa b t k k' es es' c l=>r.rinj _ _ _ _ _ _ _ (key _ _ _ _ c) (key _ _ _ _ l)⟩;simp only [AH.put] at d;by_cases hij:i=j
 ·subst hij;exact (r.row i _ f e).elim
 ·rw [List.getElem?_set_ne hij] at d;exact r.row j x f d
theorem Rel.reblk {B:Nat} {w0 w:World} {g:Gh} {h:AH} (r:Rel B w0 g h w) {i:Nat} {cs cs':List AV} (b:h.blks[i]?=some (.cells cs)) (l:∀c,BlkOk g w c (.cells cs)->BlkOk g w c (.cells cs')):Rel B w0 g (h.put i (.cells cs')) w:=by
 refine ⟨r.below,r.bsz,r.phi,by simp [AH.put,r.slen],λj c q d a=>?_,r.tlen,r.tok,r.sinj,r.tinj,r.sep,r.dfr,(r.rowsC b).1,(r.rowsC b).2⟩;simp only [AH.put] at a;by_cases hij:i=j
 ·subst hij;rw [List.getElem?_set_self (List.getElem?_eq_some_iff.1 b).1] at a;injection a with a;subst a;obtain ⟨k,m,f,e⟩:=r.blk i c _ d b;exact ⟨k,m,l c f,λ_=>e (by simp)⟩
 ·rw [List.getElem?_set_ne hij] at a;exact r.blk j c q d a
theorem wk_tokB {α:Type} {row:α->List AV} {L:List α} {hd h:AH} {env:List AV} {B B':List Blk} {T T':List Nat} {j off k m:Nat} {cs cs':List AV} (D:B[j]?=some (.cells cs)) (O:yz cs (.tmp off)=some (.osl none k (L.map row))) (N:T.length=m)
  (G:dso (some off) cs (.osl (some (h.toks.length+m)) k (L.map row))=some cs') (K:B.set j (.cells cs')=B') (V:T++[L.length]=T') :
  wk hd env (h.ext B T) env (h.ext B' T'):=λ_ _ w _ W g vs _ R r H=>by
 subst N V K;simp only [dso,Option.some.injEq] at G;subst G;have n:h.toks.length+T.length=g.τ.length:=by rw [r.tlen];simp [AH.ext]
 refine ⟨g.addT ⟨L.length,none,false⟩,R.trans (g.le_addT _),?_,VL.mono (g.le_addT _) _ _ H,λ_ h=>h⟩;have b:=r.addTok ⟨L.length,none,false⟩ (λ_ _ _ h=>by cases h) (λ_ _ h=>by cases h);have x:({ (h.ext B T) with toks:=(h.ext B T).toks++[L.length] }:AH).blks[h.blks.length+j]?=some (.cells cs):=by
  simp only [AH.ext];rw [List.getElem?_append_right (by omega),Nat.add_sub_cancel_left];exact D
 have e:(h.ext (B.set j (.cells (cs.set off (.osl (some (h.toks.length+T.length)) k (L.map row))))) (T++[L.length])) =
   ({ (h.ext B T) with toks:=(h.ext B T).toks++[L.length] }:AH).put (h.blks.length+j) (.cells (cs.set off (.osl (some (h.toks.length+T.length)) k (L.map row)))):=by
  simp only [AH.ext,AH.put,List.append_assoc];rw [List.set_append_right _ _ (by omega),Nat.add_sub_cancel_left]
 rw [e]
 -- what the cells were ahead of the token
 have p:(h.ext B T).blks[h.blks.length+j]?=some (.cells cs):=by
  simp only [AH.ext];rw [List.getElem?_append_right (by omega),Nat.add_sub_cancel_left];exact D
 obtain ⟨c,u⟩:∃c:Nat,g.σ[h.blks.length+j]?=some (some c):=by
  have:h.blks.length+j < g.σ.length:=by rw [r.slen];simp only [AH.ext,List.length_append];have:=(List.getElem?_eq_some_iff.1 D).1;omega
  rcases u:g.σ[h.blks.length+j] with _ | c
  ·exact (r.row _ _ (by rw [List.getElem?_eq_getElem this,u]) p).elim
  ·exact ⟨c,by rw [List.getElem?_eq_getElem this,u]⟩
 obtain ⟨_,_,⟨us,t,I,E⟩,_⟩:=r.blk _ c _ u p;have s:VA (g.addT ⟨L.length,none,false⟩) (cs.set off (.osl (some (h.toks.length+T.length)) k (L.map row))) us.toList:=by
  have F:=E.toVL;refine VA.mk (VL.setE (VL.mono (g.le_addT _) _ _ F) off _ λv C=>?_) ?_
  ·obtain ⟨a,d,U⟩:=F.getR _ _ C;have A:cs[off]?=some (.osl none k (L.map row)):=O;rw [A] at d;injection d with d;subst d;rw [n];exact U.tok (by simp)
  ·rw [List.all_eq_true];intro a d;rcases List.mem_or_eq_of_mem_set d with d | rfl
   ·have:=E.ones;rw [List.all_eq_true] at this;exact this a d
   ·rfl
 -- one block alone: the same cell
 refine ⟨b.below,b.bsz,b.phi,by simp [AH.put,b.slen],λi y q f l=>?_,b.tlen,b.tok,b.sinj,b.tinj,b.sep,b.dfr,(b.rowsC x).1,(b.rowsC x).2⟩;simp only [AH.put] at l;by_cases hij:h.blks.length+j=i
 ·subst hij;rw [List.getElem?_set_self (List.getElem?_eq_some_iff.1 x).1] at l;injection l with l;subst l;obtain ⟨J,Q,_,S⟩:=b.blk _ y _ f x;have:y=c:=by
   have:g.σ[h.blks.length+j]?=some (some y):=f;rw [u] at this;injection this with this;injection this with this;exact this.symm
  subst this;exact ⟨J,Q,⟨us,t,I,s⟩,λ_=>S (by simp)⟩
 ·rw [List.getElem?_set_ne hij] at l;exact b.blk i y q f l
mutual
theorem AV.low_up {n d m e:Nat} (c:n<=d) (h:m<=e):∀a:AV,a.low n m=true->a.low d e=true
 | .bool _,_ | .int _ _,_ | .str _,_ | .nilp,_ | .nilm,_ | .nilf,_ | .nili,_ | .nilsl,_ | .fptr _,_ | .sl _ _,_ | .glob _,_ | .any,_ | .opq,_=>rfl
 | .osl none _ _,_=>rfl
 | .osl (some t) _ _,hl=>by simp only [AV.low,decide_eq_true_eq] at hl ⊢;omega
 | .ptr _ _,hl=>by simp only [AV.low,decide_eq_true_eq] at hl ⊢;omega
 | .msl _ _ _ _,hl=>by simp only [AV.low,decide_eq_true_eq] at hl ⊢;omega
 | .rsl _ _ _ _,hl=>by simp only [AV.low,decide_eq_true_eq] at hl ⊢;omega
 | .rsuf _ _ _ _ _,hl=>by simp only [AV.low,decide_eq_true_eq] at hl ⊢;omega
 | .rptr _ _ _ _ _,hl=>by simp only [AV.low,decide_eq_true_eq] at hl ⊢;omega
 | .map _,hl=>by simp only [AV.low,decide_eq_true_eq] at hl ⊢;omega
 | .yld _,hl=>by simp only [AV.low,decide_eq_true_eq] at hl ⊢;omega
 | .fn _ a b,hl=>by
  simp only [AV.low,Bool.and_eq_true] at hl ⊢;exact ⟨zW c h a hl.1,zW c h b hl.2⟩
 | .iface _ v,hl=>by simp only [AV.low] at hl ⊢;exact AV.low_up c h v hl
 | .agg cs,hl=>by simp only [AV.low] at hl ⊢;exact zW c h cs hl
 | .tup cs,hl=>by simp only [AV.low] at hl ⊢;exact zW c h cs hl
theorem zW {n d m e:Nat} (c:n<=d) (h:m<=e):∀l:List AV,zB n m l=true->zB d e l=true
 | [],_=>rfl
 | a::r,hl=>by
  simp only [zB,Bool.and_eq_true] at hl ⊢;exact ⟨AV.low_up c h a hl.1,zW c h r hl.2⟩
end
theorem wk_cutm {h:AH} {env:List AV} {L:List Blk} {M M1:List Nat} (m:Nat) (f:zB h.blks.length (h.toks.length+m) env=true) (d:M.take m=M1):wk h env (h.ext L M) env (h.ext [] M1):=λ_ _ _ _ j g vs a l r c=>by
 subst d;refine ⟨g.cut h.blks.length (h.toks.length+m),Gh.le_cut2 l (by rw [a.slen];exact Nat.le_refl _) (by rw [a.tlen];omega),?_,VL.cut _ _ f c,λ_ h=>h⟩;have e:(h.ext L M).cut h.blks.length (h.toks.length+m)=h.ext [] (M.take m):=by
  simp [AH.cut,AH.ext,List.take_append];rw [List.take_of_length_le (by omega)]
 have:=r.cut h.blks.length (h.toks.length+m) (λi k hi b=>?_)
 ·rw [e] at this;exact this
 ·have n:i < j.σ.length:=by rw [a.slen];exact hi
  simp only [AH.ext] at b;rw [List.getElem?_append_left hi] at b;have:=a.isLow b;rw [a.slen,a.tlen] at this;exact Blk.low_mono (by omega) _ this
theorem fin_own {h:AH} {B:List Blk} {T:List Nat} {K:AV->AH->Prop} {k n:Nat} {R:List (List AV)} (a:K (.osl (some h.toks.length) k R) (h.ext [] [n])):finK h K (.osl (some (h.toks.length+0)) k R) (h.ext B (n::T)) :=
 vF (wk_cutm 1 (by simp [zB,AV.low]) rfl) a
theorem fin_own0 {α:Type} {row:α->List AV} {L:List α} {h:AH} {B:List Blk} {T:List Nat} {K:AV->AH->Prop} {k:Nat} (a:K (.osl (some h.toks.length) k (L.map row)) (h.ext [] [L.length])):finK h K (.osl none k (L.map row)) (h.ext B T) :=
 vF ((wk_cutm (M1:=[]) 0 (by simp [zB,AV.low]) rfl).trans (qF (d:=0) (m:=0) rfl rfl rfl rfl)) a
theorem wk_leB {hd h:AH} {env:List AV} {B B':List Blk} {T:List Nat} {j:Nat} {cs cs':List AV} (i:B[j]?=some (.cells cs)) (b:leL cs cs') (l:cs'.all AV.one=true) (k:B.set j (.cells cs')=B'):wk hd env (h.ext B T) env (h.ext B' T):=λ_ _ w _ p g vs _ m r a=>by
 subst k;have d:(h.ext B T).blks[h.blks.length+j]?=some (.cells cs):=by
  simp only [AH.ext];rw [List.getElem?_append_right (by omega),Nat.add_sub_cancel_left];exact i
 have:=r.reblk d (cs':=cs') (λc ⟨us,t,f,n⟩=>⟨us,t,f,VA.mk (b _ _ n.toVL) l⟩);have e:(h.ext B T).put (h.blks.length+j) (.cells cs')=h.ext (B.set j (.cells cs')) T:=by
  simp only [AH.ext,AH.put];rw [List.set_append_right _ _ (by omega),Nat.add_sub_cancel_left]
 rw [e] at this;exact ⟨g,m,this,a,λ_ h=>h⟩
theorem yl {h:AH} {L0 L1 L':List Blk} {M0 M1 M':List Nat} {env:List AV} (f:zB (h.blks.length+L0.length) (h.toks.length+M0.length) env=true) (e:L'.take L0.length=L1) (c:M'.take M0.length=M1)
  (a:L1.all (λb=>b.low (h.blks.length+L0.length) (h.toks.length+M0.length))=true):wk (h.ext L0 M0) env (h.ext L' M') env (h.ext L1 M1) :=
 wk_ext2 f e c λ_ k d=>.inr (by rw [List.all_eq_true] at a;exact a k (List.mem_of_getElem? d))
theorem r_condR {P:Program} {Q:Exit->List AV->AH->Prop} {env:List AV} {h:AH} {ρ σ:Type} {f:Nat->Nat->σ->Option (Out ρ σ)} {m:Int} {i:Nat} {s:σ} {rest:σ->Option ρ} {j:ρ} {c:Operand} {t e:Code} (u:yz env c=some (.bool (decide ((i:Int) < m))))
  (l:lp (zq f ((List.range m.toNat).drop i) i s) rest=some j)
  (q:∀x b,i < (List.range m.toNat).length->(i:Int) < m->x=i->f i x s=some b->konL f (List.range m.toNat) i rest b=some j->vQ P t Q env h) (p:rest s=some j->vQ P e Q env h):vQ P (.cond c t e) Q env h:=by
 refine r_cond u (λg=>?_) (λg=>?_)
 ·have k:=of_decide_eq_true g;have a:i < (List.range m.toNat).length:=by simp;omega
  obtain ⟨x,b,d,r,n⟩:=loopL_step l a;refine q x b a k ?_ r n;rw [List.getElem?_eq_getElem a] at d;simp at d;exact d.symm
 ·have k:=of_decide_eq_false g;exact p (loopL_end l (by simp;omega))
theorem ops_nextF {P:Program} {b:Array Oper} {Q:List AV->AH->Prop} {o:Oper} {rest:List Oper} {env k l:List AV} {h:AH} {L:List Blk} {M:List Nat} {x:Operand} {s:List UInt8} {j a:Nat} {ρ:Type} {A C:Option ρ} {r:ρ} (q:aG b o env=some true) (p:o.op=.next x true)
  (m:yz env x=some (.ptr (h.blks.length+j) 0)) (n:L[j]?=some (.siter s a)) (d:dso o.dst env (.tup [.bool true,.int .i64 a,.int .i32 (dec s a).1])=some k) (e:dso o.dst env (.tup [.bool false])=some l)
  (c:(if a < s.length then A else C)=some r) (f:a < s.length->A=some r->zH P b Q rest k (h.ext (L.set j (.siter s (a+(dec s a).2))) M)) (i:C=some r->zH P b Q rest l (h.ext L M)):zH P b Q (o::rest) env (h.ext L M) :=
 ops_next q p m n d e (λg=>f g (by rw [if_pos g] at c;exact c)) (λg=>i (by rw [if_neg (by omega)] at c;exact c))
open Classical in
noncomputable def anyN {ρ:Type} (g:Nat->Option ρ):Option ρ:=if h:∃r N,∀n,N<=n->g n=some r then some (Classical.choose h) else none
theorem vY {ρ:Type} {g:Nat->Option ρ} {r:ρ} (h:anyN g=some r):∃n,g n=some r:=by
 unfold anyN at h;split at h
 ·rename_i a;injection h with h;subst h;obtain ⟨N,b⟩:=Classical.choose_spec a;exact ⟨N,b N (Nat.le_refl _)⟩
 ·cases h
theorem vX {ρ:Type} {g:Nat->Option ρ} {r:ρ} (N:Nat) (h:∀n,N<=n->g n=some r):anyN g=some r:=by
 have a:∃r N,∀n,N<=n->g n=some r:=⟨r,N,h⟩
 unfold anyN;rw [dif_pos a];obtain ⟨M,c⟩:=Classical.choose_spec a;have b:=c (max N M) (Nat.le_max_right _ _);rw [h (max N M) (Nat.le_max_left _ _)] at b;exact b.symm
theorem Rel.beyond {B:Nat} {w0 w w':World} {g:Gh} {h:AH} (r:Rel B w0 g h w) (a:RowKit.Below w.heap.size w w'):Rel B w0 g h w' :=
 ⟨r.below.trans (a.mono r.bsz),Nat.le_trans r.bsz a.size,λb j v e=>(a.cell (p:=⟨b,j,none⟩) (r.phi_lt e)).trans (r.phi b j v e),r.slen,
   λi c k d n=>by
     obtain ⟨q,f,y,u⟩:=r.blk i c k d n;exact ⟨q,Nat.lt_of_lt_of_le f a.size,y.mono (Gh.le.refl g) (a.block c f),u⟩,r.tlen,
   λi t s=>by
     obtain ⟨q,f⟩:=r.tok i t s;exact ⟨q,λb l e m=>(f b l e m).mono a.size (a.block b (f b l e m).lt) λ_ _=>rfl⟩,r.sinj,r.tinj,r.sep,λc d=>⟨(r.dfr c d).1,(a.block c (r.dfr_lt d)).trans (r.dfr c d).2.1,(r.dfr c d).2.2⟩,
   λi k hi n=>(r.row i k hi n).mono (Gh.le.refl g) (λ_ _ h _=>h) (λi t b x s _ m=>⟨a.block b ((r.tok i t s).2 b x.1 x.2 m).lt,λ_=>rfl⟩),r.rinj⟩
end Go.Vv
