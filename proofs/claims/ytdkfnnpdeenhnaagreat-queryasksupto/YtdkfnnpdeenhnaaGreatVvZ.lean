/- Rules of the second printer: rows of slices, appends, calls that hand over memory, function values. -/
import Derived.Test.YtdkfnnpdeenhnaaGreatVvY
namespace Go.Vv
open Go

abbrev zd (s:ze):List AV:=[.str s]
def byteRow (b:UInt8):List AV:=[.int .u8 b.toNat]
abbrev intRow (k:IntKind) (n:Int):List AV:=[.int k n]
abbrev boolRow (b:Bool):List AV:=[.bool b]
def IsSl {α:Type} (a:AV) (z:Nat) (row:α->List AV) (L:List α):Prop:=a=.sl z (L.map row) \/ ∃q,a=.osl q z (L.map row)
section
variable {α:Type} {row:α->List AV} {L M:List α} {z:Nat}
theorem isl:IsSl (.sl z (L.map row)) z row L:=.inl rfl
theorem iosl {q:Option Nat}:IsSl (.osl q z (L.map row)) z row L:=.inr ⟨_,rfl⟩
theorem lenMap {k:Nat} {f:α->List AV} {L:List α}:aLen (.sl k (L.map f))=some L.length:=by simp [aLen]
theorem lenMapO {q:Option Nat} {k:Nat} {f:α->List AV} {L:List α}:aLen (.osl q k (L.map f))=some L.length:=by simp [aLen]
theorem zC {i:Nat} {x:α} (h:L[i]?=some x):yd L (i:Int)=some x:=by
 unfold yd;rw [if_pos (by omega),Int.toNat_natCast];exact h
end
theorem aG_lit {b:Array Oper} {o:Oper} {env:List AV} {j d:Nat} {a:Bool} (c:o.guard=some (j,a)) (hd:(b[j]?).bind (·.dst)=some d) (e:env[d]?=some (.bool (!a))):aG b o env=some false:=by
 simp only [aG,c,hd,e];cases a <;> rfl
theorem bin_boolE {P:Program} {t:TypeId} {k:Nat} {a b:Bool} (c:Ty P t .bool k):zR P .eql t (.bool a) (.bool b)=some (.bool (a==b)):=by simp only [zR,aEq,c.u,Option.map_some]
theorem bin_boolN {P:Program} {t:TypeId} {k:Nat} {a b:Bool} (c:Ty P t .bool k):zR P .neq t (.bool a) (.bool b)=some (.bool !(a==b)):=by simp only [zR,aEq,c.u,Option.map_some]
open Classical in
noncomputable def nilq {α ρ:Type} (L:List α) (f:Bool->Option ρ):Option ρ:=if L=[]/\f true ≠ f false then none else f false
theorem nilqF {α ρ:Type} {L:List α} {f:Bool->Option ρ} {r:ρ} (h:nilq L f=some r):f false=some r/\(L=[]->f true=some r):=by
 unfold nilq at h;split at h
 ·cases h
 ·rename_i c;refine ⟨h,λb=>?_⟩;exact Classical.byContradiction λa=>c ⟨b,λe=>a (e.trans h)⟩
theorem nilq_of {α ρ:Type} {L:List α} {f:Bool->Option ρ} {r:ρ} (a:f false=some r) (c:L=[]->f true=some r):nilq L f=some r:=by
 unfold nilq;rw [if_neg (λ⟨b,d⟩=>d ((c b).trans a.symm))];exact a
theorem ops_nilqE {P:Program} {d:Array Oper} {Q:List AV->AH->Prop} {o:Oper} {rest:List Oper} {env:List AV} {c:Bool->List AV} {h:AH} {t e u:TypeId} {k z:Nat} {x y:Operand} {a:AV} {α ρ:Type} {row:α->List AV} {L:List α} {f:Bool->Option ρ} {r:ρ} (E:aG d o env=some true)
  (w:o.op=.binOp .eql t x y u) (p:El P t e k) (F:zU env x=some a) (A:IsSl a z row L) (D:zU env y=some .nilsl) (hd:∀b:Bool,xw o.dst env (.bool b)=some (c b)) (C:nilq L f=some r)
  (H:∀b,(b=true->L=[])->f b=some r->zp P d Q rest (c b) h):zp P d Q (o::rest) env h:=by
 obtain ⟨s,m⟩:=zw F;obtain ⟨l,n⟩:=zw D;obtain ⟨B,j⟩:=nilqF C;have key:∀b,(b=true->L.map row=[])->zp P d Q rest (c b) h:=λb g=>by
  have i:b=true->L=[]:=λh=>by simpa using g h
  refine H b i ?_;cases b with
  | false=>exact B
  | true=>exact j (i rfl)
 refine wO ?_;simp only [E,gwp];rcases A with rfl | ⟨q,rfl⟩
 ·simp only [zn,w,s,l,Bool.and_self,if_true,m,n,aNilq,p.u,rwp]
  rintro v G ⟨rfl,b,rfl,g⟩
  rw [yY (hd b)];exact key b g
 ·simp only [zn,w,s,l,Bool.and_self,if_true,m,n,aNilq,p.u,rwp]
  rintro v G ⟨rfl,b,rfl,g⟩
  rw [yY (hd b)];exact key b g
section
variable {P:Program} {o:Oper} {env:List AV} {h:AH} {α:Type} {row:α->List AV} {L:List α}
theorem s_pickF {c a b:Operand} {x y:AV} (d:o.op=.pick c a b) (g:zU env c=some (.bool false)) (f:zU env a=some x) (e:zU env b=some y):zn P o env h=.ok y h:=s_pick d g f e (by simp)
theorem s_idxRow {t e:TypeId} {x i:Operand} {a:AV} {k:IntKind} {n:Int} {z:Nat} {y:α} (j:o.op=.indexAddr t x i) (g:El P t e z) (f:zU env x=some a) (hi:zU env i=some (.int k n)) (d:IsSl a z row L) (b:yd L n=some y) :
  zn P o env h=.ok (.fptr (row y)) h:=by
 obtain ⟨h0,b⟩:=idxF b;refine s_indexAddr j g f hi ?_;have c:(L.map row)[n.toNat]?=some (row y):=by rw [List.getElem?_map,b];rfl
 rcases d with rfl | ⟨q,rfl⟩ <;> simp only [wA,h0,and_self,if_true,c,Option.map_some]
theorem zX {t e:TypeId} {x i:Operand} {a:AV} {k:IntKind} {n:Int} {z:Nat} {y:α} {cs:List AV} (c:o.op=.indexAddr t x i) (b:El P t e z) (j:zU env x=some a) (hi:zU env i=some (.int k n)) (f:IsSl a z row L) (d:yd L n=some y) (g:row y=cs) :
  zn P o env h=.ok (.fptr cs) h:=by rw [<- g];exact s_idxRow c b j hi f d
theorem s_gidxRow {t e:TypeId} {x i:Operand} {a:AV} {k:IntKind} {n:Int} {z:Nat} (d:α) (c:o.op=.indexAddr t x i) (b:El P t e z) (g:zU env x=some a) (hi:zU env i=some (.int k n)) (f:IsSl a z row L) (j:0<=n/\n < L.length) :
  zn P o env h=.ok (.fptr (row (L.getD n.toNat d))) h:=by
 refine s_idxRow c b g hi f ?_;unfold yd;rw [if_pos j.1,List.getD_eq_getElem?_getD,List.getElem?_eq_getElem (by omega)];rfl
theorem ww {t e:TypeId} {x i:Operand} {a:AV} {k:IntKind} {n:Int} {z:Nat} {cs:List AV} (d:α) (c:o.op=.indexAddr t x i) (b:El P t e z) (j:zU env x=some a) (hi:zU env i=some (.int k n)) (f:IsSl a z row L) (l:0<=n/\n < L.length)
  (g:row (L.getD n.toNat d)=cs):zn P o env h=.ok (.fptr cs) h:=by rw [<- g];exact s_gidxRow d c b j hi f l
theorem s_idxStr {t:TypeId} {x i:Operand} {s:ze} {k:IntKind} {n:Int} {z:Nat} {b:UInt8} (d:o.op=.index t x i) (c:Ty P t .string z) (e:zU env x=some (.str s)) (hi:zU env i=some (.int k n)) (a:yd s n=some b) :
  zn P o env h=.ok (.int .u8 b.toNat) h:=by
 obtain ⟨h0,a⟩:=idxF a;refine s_indexStr d c e hi ?_;simp only [aIndexStr,h0,if_true,a,Option.map_some]
inductive Bd (env:List AV):Option Operand->Int->Int->Prop
 | none {d:Int}:Bd env none d d
 | some {x:Operand} {k:IntKind} {n d:Int}:zU env x=some (.int k n)->Bd env (some x) d n
theorem Bd.all {x:Option Operand} {d n:Int} (h:Bd env x d n):x.all zO=true:=by
 cases h with
 | none=>rfl
 | some h=>exact (zw h).1
theorem Bd.ab {x:Option Operand} {d:Nat} {n:Int} (h:Bd env x d n) (h0:0<=n):qH d (x.map (ev env))=Option.some n.toNat:=by
 cases h with
 | none=>rfl
 | some h=>simp only [Option.map_some,(zw h).2,qH,if_pos h0]
theorem s_slcSl {t e:TypeId} {x:Operand} {lo hi:Option Operand} {a:AV} {M:List α} {l hh:Int} {z:Nat} (A:o.op=.slice t x lo hi none) (g:El P t e z) (y:zU env x=some a) (n:a=.sl z (L.map row) \/ ∃q,a=.osl q z (L.map row)/\(hi.isSome=true \/ q.isSome=true)) (j:Bd env lo 0 l) (b:Bd env hi L.length hh)
  (m:slc L l hh=some M):zn P o env h=.ok (.sl z (M.map row)) h:=by
 obtain ⟨⟨h0,C,B⟩,rfl⟩:=slcF m;obtain ⟨p,w⟩:=zw y;obtain ⟨i,s,v,_⟩:=g.i;have k:=Bd.ab (d:=0) j h0;have f:=Bd.ab (d:=L.length) b (by omega);simp only [zn,A,p,j.all,b.all,Option.all_none,Bool.and_self,if_true,g.u,w,s,v,Option.map_none];rcases n with rfl | ⟨q,rfl,c⟩
 ·simp only [tyfix,if_true,aSlice,aSliceSl,k,List.length_map,f,Bool.false_and,Bool.false_eq_true,if_false];rw [if_pos (by omega)];simp only [oo,List.map_drop,List.map_take]
 ·simp only [tyfix,if_true,aSlice,aSliceSl,k,List.length_map,f];rw [if_pos (by omega)];have r:(q.isNone&&(hi.map (ev env)).isNone)=false:=by
   rcases c with c | c
   ·cases hi <;> simp_all
   ·cases q <;> simp_all
  simp only [r,Bool.false_eq_true,if_false,oo,List.map_drop,List.map_take]
theorem a_app {M:List α} {k:Nat} {q:Option Nat} {id:Nat} {c:AH} (d:L.length+M.length<=yg) (a:h.grow q L.length M.length=some (id,c)):vY h k (.osl q k (L.map row)) (M.map row)=some (.osl (some id) k ((L++M).map row),c):=by
 simp only [vY,List.length_map];by_cases h0:M.length=0
 ·have:M=[]:=List.eq_nil_of_length_eq_zero h0;subst this;rw [if_pos (show ([]:List α).length=0 from rfl)];cases q with
  | none =>
   simp only [AH.grow,List.length_nil,Nat.add_zero,Option.some.injEq,Prod.mk.injEq] at a;obtain ⟨rfl,rfl⟩:=a;simp
  | some id' =>
   simp only [AH.grow,List.length_nil,Nat.add_zero] at a;split at a
   ·rename_i b;simp only [Option.some.injEq,Prod.mk.injEq] at a;obtain ⟨rfl,rfl⟩:=a;have:h.toks.set id' L.length=h.toks:=by
     refine List.ext_getElem? λj=>?_;rw [List.getElem?_set];split
     ·rename_i e;subst e;rw [b];split
      ·rfl
      ·rename_i f;rw [List.getElem?_eq_none (by omega)] at b;cases b
     ·rfl
    simp [this]
   ·cases a
 ·rw [if_neg h0,if_pos ⟨trivial,d⟩,a];simp
variable {M:List α}
theorem e_appN {c:Call} {x y:Operand} {t u e g:TypeId} {k j m:Nat} {a b f:AV} {B:List Blk} {T T':List Nat} (A:o.op=.call c) (D:c.callee=.builtin .append) (hs:c.args=#[x,y]) (v:c.argTypes=#[t,u]) (C:El P t e k)
  (d:El P u g j) (r:zU env x=some a) (p:zU env y=some b) (l:tyfix P t a=.osl none k (L.map row)) (i:tyfix P u b=f) (s:aNews k f=some (M.map row)) (w:L.length+M.length<=yg) (n:T.length=m) (q:T++[(L++M).length]=T') :
  zn P o env (h.ext B T)=.ok (.osl (some (h.toks.length+m)) k ((L++M).map row)) (h.ext B T'):=by
 refine s_append A D hs v C d r p l i s (a_app w ?_);subst q n;simp [AH.grow,AH.ext]
theorem e_appT {c:Call} {x y:Operand} {t u e g:TypeId} {k m j:Nat} {a b f:AV} {B:List Blk} {T T':List Nat} (C:o.op=.call c) (E:c.callee=.builtin .append) (hs:c.args=#[x,y]) (w:c.argTypes=#[t,u]) (D:El P t e k)
  (d:El P u g m) (s:zU env x=some a) (p:zU env y=some b) (l:tyfix P t a=.osl (some (h.toks.length+j)) k (L.map row)) (i:tyfix P u b=f) (v:aNews k f=some (M.map row)) (A:L.length+M.length<=yg) (n:T[j]?=some L.length) (q:T.set j (L++M).length=T') :
  zn P o env (h.ext B T)=.ok (.osl (some (h.toks.length+j)) k ((L++M).map row)) (h.ext B T'):=by
 refine s_append C E hs w D d s p l i v (a_app A ?_);subst q;have r:(h.toks++T)[h.toks.length+j]?=some L.length:=by rw [List.getElem?_append_right (by omega),Nat.add_sub_cancel_left];exact n
 simp only [AH.grow,AH.ext,r,if_true];rw [List.set_append_right _ _ (by omega),Nat.add_sub_cancel_left,List.length_append]
theorem news_sl {k:Nat}:aNews k (.sl k (M.map row))=some (M.map row):=by simp [aNews]
theorem wn {k:Nat} {q:Option Nat}:aNews k (.osl q k (M.map row))=some (M.map row):=by simp [aNews]
end
theorem leL.pre {a b:List AV}:∀{cs:List AV},leL a b->leL (cs++a) (cs++b)
 | [],k=>k
 | _::_,k=>leL.eq (leL.pre k)
def keeps:List (Nat×Blk)->List Blk->Prop
 | [],_=>True
 | (j,b)::r,B=>B[j]?=some b/\keeps r B
theorem keeps1 {j:Nat} {b:Blk} {r:List (Nat×Blk)} {B:List Blk} (h:keeps ((j,b)::r) B):B[j]?=some b:=h.1
def lk:List (Nat×List (Nat×Blk))->Nat->List (Nat×Blk)
 | [],_=>[]
 | (m,l)::r,n=>if n=m then l else lk r n
def KeepB (h:AH) (l:List (Nat×Blk)) (x:AH):Prop:=∃B T,x=h.ext B T/\keeps l B
theorem w9 {h:AH} {l:List (Nat×Blk)} {B:List Blk} {T:List Nat} (a:keeps l B):KeepB h l (h.ext B T):=⟨_,_,rfl,a⟩
def keepA:List (Nat×List (Nat×Blk))->List Blk->Prop
 | [],_=>True
 | (_,l)::r,B=>keeps l B/\keepA r B
theorem keepA_lk:∀{l:List (Nat×List (Nat×Blk))} {B:List Blk},keepA l B->∀n,keeps (lk l n) B
 | [],_,_,_=>trivial
 | (m,l)::r,B,h,n=>by
  simp only [lk];split
  ·exact h.1
  ·exact keepA_lk h.2 n
theorem FOk.all {b:Nat} {Ns:List Nat} {G:AH->Prop} {h:AH} (a:G h):FOk b Ns (λ_=>G) h:=λ_ _ _=>a
theorem FOk.nil {b:Nat} {F:Nat->AH->Prop} {h:AH}:FOk b [] F h:=λ_ h _=>by simp at h
theorem FOk.cons {b n:Nat} {Ns:List Nat} {F:Nat->AH->Prop} {h:AH} (a:b.testBit n=true \/ F n h) (d:FOk b Ns F h):FOk b (n::Ns) F h:=λm f c=>by
 rcases a with a | a
 ·by_cases e:m=n
  ·subst e;rw [a] at c;cases c
  ·exact d m (by simpa [e] using f) c
 ·by_cases e:m=n
  ·subst e;exact a
  ·exact d m (by simpa [e] using f) c
theorem zI {P:Program} {Q:Exit->List AV->AH->Prop} {env:List AV} {h:AH} {B:List Blk} {T:List Nat} {id:Nat} {l:List Oper} (Ns:List Nat) (a:List (Nat×List (Nat×Blk))) (c:keepA a B) (d:P.follows .mixedOrders=true) (hd:drawOk ⟨l⟩ Ns=true) (b:zA P ⟨l⟩ Ns (λn=>KeepB h (lk a n)) (Q .normal) 0 l env (h.ext B T)) :
  wP P (.region id ⟨l⟩ true) Q env (h.ext B T):=.inl ⟨Ns,λn=>KeepB h (lk a n),⟨d,hd⟩,λn=>w9 (keepA_lk c n),b⟩
theorem r_drawnF {P:Program} {Q:Exit->List AV->AH->Prop} {env:List AV} {h:AH} {id:Nat} {l:List Oper} (Ns:List Nat) (F:Nat->AH->Prop) (b:∀n,F n h) (c:P.follows .mixedOrders=true) (hd:drawOk ⟨l⟩ Ns=true) (a:zA P ⟨l⟩ Ns F (Q .normal) 0 l env h) :
  wP P (.region id ⟨l⟩ true) Q env h:=.inl ⟨Ns,F,⟨c,hd⟩,b,a⟩
theorem qS {h:AH} {L L':List Blk} {M M':List Nat}:(h.ext L M).ext L' M'=h.ext (L++L') (M++M'):=by simp [AH.ext,List.append_assoc]
theorem yx {P:Program} {b:Array Oper} {Q:List AV->AH->Prop} {o:Oper} {rest:List Oper} {env a:List AV} {h c:AH} {f:FuncId} {args:List AV} {v:AV} (g:aG b o env=some true) (d:zn P o env h=.call f args) (hs:Spec P f args h λr hh=>r=v/\hh=c)
  (hd:xw o.dst env v=some a) (j:zp P b Q rest a c):zp P b Q (o::rest) env h :=
 ops_call g d hs λr c ⟨i,e⟩=>by subst i;subst e;rw [yY hd];exact j
theorem draw_callH {Ns:List Nat} {F:Nat->AH->Prop} {i:Nat} (k:Ns.contains i=false) {P:Program} {a:Array Oper} {Q:List AV->AH->Prop} {o:Oper} {rest:List Oper} {env b:List AV} {h c:AH} {f:FuncId} {args:List AV} {v:AV} (g:FOk ((Region.before a).getD i 0) Ns F c) (d:c.blks=h.blks) (j:aG a o env=some true) (e:zn P o env h=.call f args) (hs:Spec P f args h λr hh=>r=v/\hh=c)
  (hd:xw o.dst env v=some b) (l:zA P a Ns F Q (i+1) rest b c):zA P a Ns F Q i (o::rest) env h :=
 ⟨v,c,.inl ⟨k,by simp only [AR,j,e];exact hs⟩,.inr d,.inr g,by rw [yY hd];exact l⟩
theorem vI {Ns:List Nat} {F:Nat->AH->Prop} {i:Nat} (g:Ns.contains i=false) {P:Program} {a:Array Oper} {Q:List AV->AH->Prop} {o:Oper} {rest:List Oper} {env b:List AV} {h c:AH} {v:AV} (f:FOk ((Region.before a).getD i 0) Ns F c) (e:c.blks=h.blks) (d:aG a o env=some true) (j:zn P o env h=.ok v c) (hd:xw o.dst env v=some b) (k:zA P a Ns F Q (i+1) rest b c) :
  zA P a Ns F Q i (o::rest) env h:=⟨v,c,.inl ⟨g,by simp only [AR,d,j,and_self]⟩,.inr e,.inr f,by rw [yY hd];exact k⟩
def OwnK (h:AH) (k n:Nat) (R:List (List AV)) (rr:AV) (hh:AH):Prop:=rr=.osl (some h.toks.length) k R/\hh=h.ext [] [n]
theorem own_ext {P:Program} {f:FuncId} {a:List AV} {h:AH} {B:List Blk} {T T':List Nat} {k n m:Nat} {R:List (List AV)} (s:Spec P f a (h.ext B T) (OwnK (h.ext B T) k n R)) (b:T.length=m) (d:T++[n]=T') :
  Spec P f a (h.ext B T) (λc hh=>c=.osl (some (h.toks.length+m)) k R/\hh=h.ext B T'):=by
 refine s.mono ?_
 rintro r e ⟨rfl,rfl⟩
 subst b d;simp [AH.ext,List.append_assoc]
theorem blk_ext2 {h:AH} {B B':List Blk} {T T':List Nat} {j:Nat} {b:Blk} (a:B[j]?=some b):((h.ext B T).ext B' T').blk (h.blks.length+j)=some b:=by
 rw [qS,zQ,List.getElem?_append_left (List.getElem?_eq_some_iff.1 a).1];exact a
theorem blk_old {h:AH} {B:List Blk} {T:List Nat} {id:Nat} {b:Blk} (a:h.blk id=some b):(h.ext B T).blk id=some b:=by
 have c:id < h.blks.length:=(List.getElem?_eq_some_iff.1 a).1;simp only [AH.blk,AH.ext] at a ⊢;rw [List.getElem?_append_left c];exact a
theorem b_load {P:Program} {o:Oper} {env:List AV} {h:AH} {B:List Blk} {T:List Nat} {t:TypeId} {d:TypeDesc} {k id off:Nat} {x:Operand} {cs:List AV} {v v':AV} (e:o.op=.load t x) (a:Ty P t d k) (g:zU env x=some (.ptr id off)) (f:h.blk id=some (.cells cs))
  (b:ldC (zK d) k off cs=some v) (c:tyfix P t v=v'):zn P o env (h.ext B T)=.ok v' (h.ext B T):=by
 refine s_load e a g ?_ c;simp only [qG,blk_old f];exact b

theorem leV.agg {cs ds:List AV} (k:leL cs ds) (c:ds.all AV.one=true):leV (.agg cs) (.agg ds):=λg v a=>by
 simp only [V] at a ⊢;obtain ⟨vs,e,b⟩:=a;exact ⟨vs,e,VA.mk (k _ _ b.toVL) c⟩
theorem leV.tup {cs ds:List AV} (k:leL cs ds):leV (.tup cs) (.tup ds):=λg v a=>by
 simp only [V] at a ⊢;obtain ⟨vs,e,b⟩:=a;exact ⟨vs,e,k _ _ b⟩
theorem VL.setE {g:Gh}:∀{c:List AV} {vs:List Value},VL g c vs->∀(i:Nat) (a:AV),(∀v,vs[i]?=some v->V g a v)->VL g (c.set i a) vs
 | [],_,h,i,a,_=>by simpa using h
 | _::r,_,h,i,a,hv=>by
  simp only [VL] at h;obtain ⟨v',s,rfl,e,d⟩:=h;cases i with
  | zero=>simp only [List.set_cons_zero,VL];exact ⟨v',s,rfl,hv v' rfl,d⟩
  | succ i=>simp only [List.set_cons_succ,VL];exact ⟨v',s,rfl,e,VL.setE d i a (λv b=>hv v (by simpa using b))⟩
theorem V.tok {g:Gh} {k n:Nat} {es:List (List AV)} {v:Value} (m:es.length=n) (d:V g (.osl none k es) v):V (g.addT ⟨n,none,false⟩) (.osl (some g.τ.length) k es) v:=by
 subst m;simp only [V] at d ⊢;obtain ⟨a,c,p,j,f,l,i⟩:=d;refine ⟨a,c,p,j,f,l.imp id λ⟨b,o,e,hh⟩=>⟨b,o,e,VE.mono (g.le_addT _) _ _ _ _ hh⟩,⟨es.length,none,false⟩,?_,rfl,Nat.le_refl _,λ_=>.inl i⟩;simp only [Gh.addT];rw [List.getElem?_append_right (Nat.le_refl _)];simp
theorem wk_tok {α:Type} {row:α->List AV} {L:List α} {hd h:AH} {env b:List AV} {B:List Blk} {T T':List Nat} {d k m:Nat} (s:zU env (.tmp d)=some (.osl none k (L.map row))) (q:T.length=m)
  (p:xw (some d) env (.osl (some (h.toks.length+m)) k (L.map row))=some b) (t:T++[L.length]=T') :
  wk hd env (h.ext B T) b (h.ext B T'):=λ_ _ _ _ x g vs _ w r n=>by
 subst q t;simp only [xw,Option.some.injEq] at p;subst p;have c:h.toks.length+T.length=g.τ.length:=by rw [r.tlen];simp [AH.ext]
 refine ⟨g.addT ⟨L.length,none,false⟩,w.trans (g.le_addT _),?_,?_⟩
 ·have:=r.addTok ⟨L.length,none,false⟩ (λ_ _ _ h=>by cases h) (λ_ _ h=>by cases h);have e:(h.ext B (T++[L.length]))={ (h.ext B T) with toks:=(h.ext B T).toks++[L.length] }:=by simp [AH.ext,List.append_assoc]
  rw [e];exact this
 ·have l:=n;refine ⟨VL.setE (VL.mono (g.le_addT _) _ _ n) d _ λv i=>?_,λ_ h=>h⟩;obtain ⟨a,f,u⟩:=l.getR _ _ i;have j:env[d]?=some (.osl none k (L.map row)):=s;rw [j] at f;injection f with f;subst f;rw [c];exact u.tok (by simp)
theorem Rel.rowsC {B:Nat} {w0 w:World} {g:Gh} {h:AH} (r:Rel B w0 g h w) {i:Nat} {cs cs':List AV} (l:h.blks[i]?=some (.cells cs)) :
  (∀(j:Nat) (x:Blk),g.σ[j]?=some none->(h.put i (.cells cs')).blks[j]?=some x->RowB g w x) /\
  ∀(a b t k e:Nat) (es es':List (List AV)),(h.put i (.cells cs')).blks[a]?=some (.row t k es)->(h.put i (.cells cs')).blks[b]?=some (.row t e es')->a=b:=by
 have key:∀(a t k:Nat) (es:List (List AV)),(h.put i (.cells cs')).blks[a]?=some (.row t k es)->h.blks[a]?=some (.row t k es):=by
  intro a t k es c;simp only [AH.put] at c;by_cases hij:i=a
  ·subst hij;rw [List.getElem?_set_self (List.getElem?_eq_some_iff.1 l).1] at c;cases c
  ·rw [List.getElem?_set_ne hij] at c;exact c
 refine ⟨λj x f d=>?_,λa b t k e es es' c m=>r.rinj _ _ _ _ _ _ _ (key _ _ _ _ c) (key _ _ _ _ m)⟩;simp only [AH.put] at d;by_cases hij:i=j
 ·subst hij;exact (r.row i _ f l).elim
 ·rw [List.getElem?_set_ne hij] at d;exact r.row j x f d
theorem Rel.reblk {B:Nat} {w0 w:World} {g:Gh} {h:AH} (r:Rel B w0 g h w) {i:Nat} {cs cs':List AV} (b:h.blks[i]?=some (.cells cs)) (e:∀c,BlkOk g w c (.cells cs)->BlkOk g w c (.cells cs')):Rel B w0 g (h.put i (.cells cs')) w:=by
 refine ⟨r.below,r.bsz,r.phi,by simp [AH.put,r.slen],λj c q d a=>?_,r.tlen,r.tok,r.sinj,r.tinj,r.sep,r.dfr,(r.rowsC b).1,(r.rowsC b).2⟩;simp only [AH.put] at a;by_cases hij:i=j
 ·subst hij;rw [List.getElem?_set_self (List.getElem?_eq_some_iff.1 b).1] at a;injection a with a;subst a;obtain ⟨m,k,f,l⟩:=r.blk i c _ d b;exact ⟨m,k,e c f,λ_=>l (by simp)⟩
 ·rw [List.getElem?_set_ne hij] at a;exact r.blk j c q d a
theorem wk_tokB {α:Type} {row:α->List AV} {L:List α} {hd h:AH} {env:List AV} {B B':List Blk} {T T':List Nat} {j off k m:Nat} {cs cs':List AV} (C:B[j]?=some (.cells cs)) (J:zU cs (.tmp off)=some (.osl none k (L.map row))) (I:T.length=m)
  (F:xw (some off) cs (.osl (some (h.toks.length+m)) k (L.map row))=some cs') (O:B.set j (.cells cs')=B') (Q:T++[L.length]=T') :
  wk hd env (h.ext B T) env (h.ext B' T'):=λ_ _ w _ W g vs _ S r N=>by
 subst I Q O;simp only [xw,Option.some.injEq] at F;subst F;have s:h.toks.length+T.length=g.τ.length:=by rw [r.tlen];simp [AH.ext]
 refine ⟨g.addT ⟨L.length,none,false⟩,S.trans (g.le_addT _),?_,VL.mono (g.le_addT _) _ _ N,λ_ h=>h⟩;have b:=r.addTok ⟨L.length,none,false⟩ (λ_ _ _ h=>by cases h) (λ_ _ h=>by cases h);have y:({ (h.ext B T) with toks:=(h.ext B T).toks++[L.length] }:AH).blks[h.blks.length+j]?=some (.cells cs):=by
  simp only [AH.ext];rw [List.getElem?_append_right (by omega),Nat.add_sub_cancel_left];exact C
 have e:(h.ext (B.set j (.cells (cs.set off (.osl (some (h.toks.length+T.length)) k (L.map row))))) (T++[L.length])) =
   ({ (h.ext B T) with toks:=(h.ext B T).toks++[L.length] }:AH).put (h.blks.length+j) (.cells (cs.set off (.osl (some (h.toks.length+T.length)) k (L.map row)))):=by
  simp only [AH.ext,AH.put,List.append_assoc];rw [List.set_append_right _ _ (by omega),Nat.add_sub_cancel_left]
 rw [e]
 -- what the cells were ahead of the token
 have n:(h.ext B T).blks[h.blks.length+j]?=some (.cells cs):=by
  simp only [AH.ext];rw [List.getElem?_append_right (by omega),Nat.add_sub_cancel_left];exact C
 obtain ⟨c,u⟩:∃c:Nat,g.σ[h.blks.length+j]?=some (some c):=by
  have:h.blks.length+j < g.σ.length:=by rw [r.slen];simp only [AH.ext,List.length_append];have:=(List.getElem?_eq_some_iff.1 C).1;omega
  rcases u:g.σ[h.blks.length+j] with _ | c
  ·exact (r.row _ _ (by rw [List.getElem?_eq_getElem this,u]) n).elim
  ·exact ⟨c,by rw [List.getElem?_eq_getElem this,u]⟩
 obtain ⟨_,_,⟨us,t,K,G⟩,_⟩:=r.blk _ c _ u n;have p:VA (g.addT ⟨L.length,none,false⟩) (cs.set off (.osl (some (h.toks.length+T.length)) k (L.map row))) us.toList:=by
  have E:=G.toVL;refine VA.mk (VL.setE (VL.mono (g.le_addT _) _ _ E) off _ λv A=>?_) ?_
  ·obtain ⟨a,d,R⟩:=E.getR _ _ A;have D:cs[off]?=some (.osl none k (L.map row)):=J;rw [D] at d;injection d with d;subst d;rw [s];exact R.tok (by simp)
  ·rw [List.all_eq_true];intro a d;rcases List.mem_or_eq_of_mem_set d with d | rfl
   ·have:=G.ones;rw [List.all_eq_true] at this;exact this a d
   ·rfl
 -- one block alone: the same cell
 refine ⟨b.below,b.bsz,b.phi,by simp [AH.put,b.slen],λi x q f l=>?_,b.tlen,b.tok,b.sinj,b.tinj,b.sep,b.dfr,(b.rowsC y).1,(b.rowsC y).2⟩;simp only [AH.put] at l;by_cases hij:h.blks.length+j=i
 ·subst hij;rw [List.getElem?_set_self (List.getElem?_eq_some_iff.1 y).1] at l;injection l with l;subst l;obtain ⟨U,H,_,V⟩:=b.blk _ x _ f y;have:x=c:=by
   have:g.σ[h.blks.length+j]?=some (some x):=f;rw [u] at this;injection this with this;injection this with this;exact this.symm
  subst this;exact ⟨U,H,⟨us,t,K,p⟩,λ_=>V (by simp)⟩
 ·rw [List.getElem?_set_ne hij] at l;exact b.blk i x q f l
mutual
theorem AV.low_up {n d m e:Nat} (c:n<=d) (h:m<=e):∀a:AV,a.low n m=true->a.low d e=true
 | .bool _,_ | .int _ _,_ | .str _,_ | .nilp,_ | .nilm,_ | .nilf,_ | .nili,_ | .nilsl,_ | .fptr _,_ | .sl _ _,_ | .glob _,_ | .any,_ | .opq,_=>rfl
 | .osl none _ _,_=>rfl
 | .osl (some t) _ _,hl=>by simp only [AV.low,decide_eq_true_eq] at hl ⊢;omega
 | .ptr _ _,hl=>by simp only [AV.low,decide_eq_true_eq] at hl ⊢;omega
 | .msl _ _ _ _,hl=>by simp only [AV.low,decide_eq_true_eq] at hl ⊢;omega
 | .rsl _ _ _ _,hl=>by simp only [AV.low,decide_eq_true_eq] at hl ⊢;omega
 | .rsuf _ _ _ _ _,hl=>by simp only [AV.low,decide_eq_true_eq] at hl ⊢;omega
 | .rptr _ _ _ _ _,hl=>by simp only [AV.low,decide_eq_true_eq] at hl ⊢;omega
 | .map _,hl=>by simp only [AV.low,decide_eq_true_eq] at hl ⊢;omega
 | .yld _,hl=>by simp only [AV.low,decide_eq_true_eq] at hl ⊢;omega
 | .fn _ a b,hl=>by
  simp only [AV.low,Bool.and_eq_true] at hl ⊢;exact ⟨yl c h a hl.1,yl c h b hl.2⟩
 | .iface _ v,hl=>by simp only [AV.low] at hl ⊢;exact AV.low_up c h v hl
 | .agg cs,hl=>by simp only [AV.low] at hl ⊢;exact yl c h cs hl
 | .tup cs,hl=>by simp only [AV.low] at hl ⊢;exact yl c h cs hl
theorem yl {n d m e:Nat} (c:n<=d) (h:m<=e):∀l:List AV,zJ n m l=true->zJ d e l=true
 | [],_=>rfl
 | a::r,hl=>by
  simp only [zJ,Bool.and_eq_true] at hl ⊢;exact ⟨AV.low_up c h a hl.1,yl c h r hl.2⟩
end
theorem wk_cutm {h:AH} {env:List AV} {L:List Blk} {M M1:List Nat} (m:Nat) (l:zJ h.blks.length (h.toks.length+m) env=true) (c:M.take m=M1):wk h env (h.ext L M) env (h.ext [] M1):=λ_ _ _ _ d g vs a j r f=>by
 subst c;refine ⟨g.cut h.blks.length (h.toks.length+m),Gh.le_cut2 j (by rw [a.slen];exact Nat.le_refl _) (by rw [a.tlen];omega),?_,VL.cut _ _ l f,λ_ h=>h⟩;have e:(h.ext L M).cut h.blks.length (h.toks.length+m)=h.ext [] (M.take m):=by
  simp [AH.cut,AH.ext,List.take_append];rw [List.take_of_length_le (by omega)]
 have:=r.cut h.blks.length (h.toks.length+m) (λi k hi b=>?_)
 ·rw [e] at this;exact this
 ·have n:i < d.σ.length:=by rw [a.slen];exact hi
  simp only [AH.ext] at b;rw [List.getElem?_append_left hi] at b;have:=a.isLow b;rw [a.slen,a.tlen] at this;exact Blk.low_mono (by omega) _ this
theorem fin_own {h:AH} {B:List Blk} {T:List Nat} {K:AV->AH->Prop} {k n:Nat} {R:List (List AV)} (a:K (.osl (some h.toks.length) k R) (h.ext [] [n])):finK h K (.osl (some (h.toks.length+0)) k R) (h.ext B (n::T)) :=
 fin_wk (wk_cutm 1 (by simp [zJ,AV.low]) rfl) a
theorem fin_own0 {α:Type} {row:α->List AV} {L:List α} {h:AH} {B:List Blk} {T:List Nat} {K:AV->AH->Prop} {k:Nat} (a:K (.osl (some h.toks.length) k (L.map row)) (h.ext [] [L.length])):finK h K (.osl none k (L.map row)) (h.ext B T) :=
 fin_wk ((wk_cutm (M1:=[]) 0 (by simp [zJ,AV.low]) rfl).trans (wk_tok (d:=0) (m:=0) rfl rfl rfl rfl)) a
theorem wk_leB {hd h:AH} {env:List AV} {B B':List Blk} {T:List Nat} {j:Nat} {cs cs':List AV} (b:B[j]?=some (.cells cs)) (k:leL cs cs') (m:cs'.all AV.one=true) (d:B.set j (.cells cs')=B'):wk hd env (h.ext B T) env (h.ext B' T):=λ_ _ w _ p g vs _ f r a=>by
 subst d;have n:(h.ext B T).blks[h.blks.length+j]?=some (.cells cs):=by
  simp only [AH.ext];rw [List.getElem?_append_right (by omega),Nat.add_sub_cancel_left];exact b
 have:=r.reblk n (cs':=cs') (λc ⟨us,t,l,i⟩=>⟨us,t,l,VA.mk (k _ _ i.toVL) m⟩);have e:(h.ext B T).put (h.blks.length+j) (.cells cs')=h.ext (B.set j (.cells cs')) T:=by
  simp only [AH.ext,AH.put];rw [List.set_append_right _ _ (by omega),Nat.add_sub_cancel_left]
 rw [e] at this;exact ⟨g,f,this,a,λ_ h=>h⟩
theorem xj {h:AH} {L0 L1 L':List Blk} {M0 M1 M':List Nat} {env:List AV} (c:zJ (h.blks.length+L0.length) (h.toks.length+M0.length) env=true) (f:L'.take L0.length=L1) (e:M'.take M0.length=M1)
  (a:L1.all (λb=>b.low (h.blks.length+L0.length) (h.toks.length+M0.length))=true):wk (h.ext L0 M0) env (h.ext L' M') env (h.ext L1 M1) :=
 wk_ext2 c f e λ_ k d=>.inr (by rw [List.all_eq_true] at a;exact a k (List.mem_of_getElem? d))
theorem r_condR {P:Program} {Q:Exit->List AV->AH->Prop} {env:List AV} {h:AH} {ρ σ:Type} {f:Nat->Nat->σ->Option (Out ρ σ)} {m:Int} {i:Nat} {s:σ} {rest:σ->Option ρ} {g:ρ} {c:Operand} {t e:Code} (u:zU env c=some (.bool (decide ((i:Int) < m))))
  (k:lp (zj f ((List.range m.toNat).drop i) i s) rest=some g)
  (r:∀x b,i < (List.range m.toNat).length->(i:Int) < m->x=i->f i x s=some b->konL f (List.range m.toNat) i rest b=some g->wP P t Q env h) (n:rest s=some g->wP P e Q env h):wP P (.cond c t e) Q env h:=by
 refine r_cond u (λd=>?_) (λd=>?_)
 ·have l:=of_decide_eq_true d;have a:i < (List.range m.toNat).length:=by simp;omega
  obtain ⟨x,b,j,q,p⟩:=loopL_step k a;refine r x b a l ?_ q p;rw [List.getElem?_eq_getElem a] at j;simp at j;exact j.symm
 ·have l:=of_decide_eq_false d;exact n (loopL_end k (by simp;omega))
theorem ops_nextF {P:Program} {b:Array Oper} {Q:List AV->AH->Prop} {o:Oper} {rest:List Oper} {env l k:List AV} {h:AH} {L:List Blk} {M:List Nat} {x:Operand} {s:List UInt8} {j a:Nat} {ρ:Type} {A C:Option ρ} {r:ρ} (n:aG b o env=some true) (q:o.op=.next x true)
  (p:zU env x=some (.ptr (h.blks.length+j) 0)) (m:L[j]?=some (.siter s a)) (g:xw o.dst env (.tup [.bool true,.int .i64 a,.int .i32 (dec s a).1])=some l) (e:xw o.dst env (.tup [.bool false])=some k)
  (c:(if a < s.length then A else C)=some r) (i:a < s.length->A=some r->zp P b Q rest l (h.ext (L.set j (.siter s (a+(dec s a).2))) M)) (f:C=some r->zp P b Q rest k (h.ext L M)):zp P b Q (o::rest) env (h.ext L M) :=
 ops_next n q p m g e (λd=>i d (by rw [if_pos d] at c;exact c)) (λd=>f (by rw [if_neg (by omega)] at c;exact c))
open Classical in
noncomputable def anyN {ρ:Type} (g:Nat->Option ρ):Option ρ:=if h:∃r N,∀n,N<=n->g n=some r then some (Classical.choose h) else none
theorem anyN_is {ρ:Type} {g:Nat->Option ρ} {r:ρ} (h:anyN g=some r):∃n,g n=some r:=by
 unfold anyN at h;split at h
 ·rename_i b;injection h with h;subst h;obtain ⟨N,a⟩:=Classical.choose_spec b;exact ⟨N,a N (Nat.le_refl _)⟩
 ·cases h
theorem anyN_of {ρ:Type} {g:Nat->Option ρ} {r:ρ} (N:Nat) (h:∀n,N<=n->g n=some r):anyN g=some r:=by
 have b:∃r N,∀n,N<=n->g n=some r:=⟨r,N,h⟩
 unfold anyN;rw [dif_pos b];obtain ⟨M,c⟩:=Classical.choose_spec b;have a:=c (max N M) (Nat.le_max_right _ _);rw [h (max N M) (Nat.le_max_left _ _)] at a;exact a.symm
theorem Rel.beyond {B:Nat} {w0 w w':World} {g:Gh} {h:AH} (r:Rel B w0 g h w) (a:RowKit.Below w.heap.size w w'):Rel B w0 g h w' :=
 ⟨r.below.trans (a.mono r.bsz),Nat.le_trans r.bsz a.size,λb j v e=>(a.cell (p:=⟨b,j,none⟩) (r.phi_lt e)).trans (r.phi b j v e),r.slen,
   λi c k d s=>by
     obtain ⟨q,f,u,y⟩:=r.blk i c k d s;exact ⟨q,Nat.lt_of_lt_of_le f a.size,u.mono (Gh.le.refl g) (a.block c f),y⟩,r.tlen,
   λi t n=>by
     obtain ⟨q,f⟩:=r.tok i t n;exact ⟨q,λb l e m=>(f b l e m).mono a.size (a.block b (f b l e m).lt) λ_ _=>rfl⟩,r.sinj,r.tinj,r.sep,λc d=>⟨(r.dfr c d).1,(a.block c (r.dfr_lt d)).trans (r.dfr c d).2.1,(r.dfr c d).2.2⟩,
   λi k hi s=>(r.row i k hi s).mono (Gh.le.refl g) (λ_ _ h _=>h) (λi t b x n _ m=>⟨a.block b ((r.tok i t n).2 b x.1 x.2 m).lt,λ_=>rfl⟩),r.rinj⟩
end Go.Vv
