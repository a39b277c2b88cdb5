/- Rules of the second printer: rows of slices, appends, calls that hand over memory, function values. -/
import Derived.Test.YtehifcdoglcidaaGreatVvY
namespace Go.Vv
open Go

abbrev yG (s:zn):List AV:=[.str s]
def yF (b:UInt8):List AV:=[.int .u8 b.toNat]
abbrev intRow (k:IntKind) (n:Int):List AV:=[.int k n]
abbrev boolRow (b:Bool):List AV:=[.bool b]
def IsSl {α:Type} (a:AV) (z:Nat) (row:α->List AV) (L:List α):Prop:=a=.sl z (L.map row) \/ ∃q,a=.osl q z (L.map row)
section
variable {α:Type} {row:α->List AV} {L M:List α} {z:Nat}
theorem isl:IsSl (.sl z (L.map row)) z row L:=.inl rfl
theorem iosl {q:Option Nat}:IsSl (.osl q z (L.map row)) z row L:=.inr ⟨_,rfl⟩
theorem qG {k:Nat} {f:α->List AV} {L:List α}:aLen (.sl k (L.map f))=some L.length:=by simp [aLen]
theorem lenMapO {q:Option Nat} {k:Nat} {f:α->List AV} {L:List α}:aLen (.osl q k (L.map f))=some L.length:=by simp [aLen]
theorem zI {i:Nat} {x:α} (h:L[i]?=some x):yi L (i:Int)=some x:=by
 unfold yi;rw [if_pos (by omega),Int.toNat_natCast];exact h
end
theorem byte_of {n:Int} (h:0<=n/\n < 256):((UInt8.ofNat n.toNat).toNat:Int)=n:=by
 rw [UInt8.toNat_ofNat'];omega
theorem bin_boolE {P:Program} {t:TypeId} {k:Nat} {a b:Bool} (c:Ty P t .bool k):yd P .eql t (.bool a) (.bool b)=some (.bool (a==b)):=by simp only [yd,aEq,c.u,Option.map_some]
theorem bin_boolN {P:Program} {t:TypeId} {k:Nat} {a b:Bool} (c:Ty P t .bool k):yd P .neq t (.bool a) (.bool b)=some (.bool !(a==b)):=by simp only [yd,aEq,c.u,Option.map_some]
open Classical in
noncomputable def nilq {α ρ:Type} (L:List α) (f:Bool->Option ρ):Option ρ:=if L=[]/\f true ≠ f false then none else f false
theorem nilqF {α ρ:Type} {L:List α} {f:Bool->Option ρ} {r:ρ} (h:nilq L f=some r):f false=some r/\(L=[]->f true=some r):=by
 unfold nilq at h;split at h
 ·cases h
 ·rename_i b;refine ⟨h,λc=>?_⟩;exact Classical.byContradiction λa=>b ⟨c,λe=>a (e.trans h)⟩
theorem nilq_of {α ρ:Type} {L:List α} {f:Bool->Option ρ} {r:ρ} (a:f false=some r) (b:L=[]->f true=some r):nilq L f=some r:=by
 unfold nilq;rw [if_neg (λ⟨d,c⟩=>c ((b d).trans a.symm))];exact a
theorem qz {P:Program} {d:Array Oper} {Q:List AV->AH->Prop} {o:Oper} {rest:List Oper} {env:List AV} {c:Bool->List AV} {h:AH} {t e u:TypeId} {k z:Nat} {x y:Operand} {a:AV} {α ρ:Type} {row:α->List AV} {L:List α} {f:Bool->Option ρ} {r:ρ} (E:aG d o env=some true)
  (n:o.op=.binOp .eql t x y u) (p:El P t e k) (A:ye env x=some a) (H:IsSl a z row L) (D:ye env y=some .nilsl) (hd:∀b:Bool,vq o.dst env (.bool b)=some (c b)) (B:nilq L f=some r)
  (F:∀b,(b=true->L=[])->f b=some r->zy P d Q rest (c b) h):zy P d Q (o::rest) env h:=by
 obtain ⟨l,w⟩:=zD A;obtain ⟨m,s⟩:=zD D;obtain ⟨C,j⟩:=nilqF B;have key:∀b,(b=true->L.map row=[])->zy P d Q rest (c b) h:=λb g=>by
  have i:b=true->L=[]:=λh=>by simpa using g h
  refine F b i ?_;cases b with
  | false=>exact C
  | true=>exact j (i rfl)
 refine wX ?_;simp only [E,gwp];rcases H with rfl | ⟨q,rfl⟩
 ·simp only [zo,n,l,m,Bool.and_self,if_true,w,s,aNilq,p.u,rwp]
  rintro v G ⟨rfl,b,rfl,g⟩
  rw [xh (hd b)];exact key b g
 ·simp only [zo,n,l,m,Bool.and_self,if_true,w,s,aNilq,p.u,rwp]
  rintro v G ⟨rfl,b,rfl,g⟩
  rw [xh (hd b)];exact key b g
section
variable {P:Program} {o:Oper} {env:List AV} {h:AH} {α:Type} {row:α->List AV} {L:List α}
theorem s_idxRow {t e:TypeId} {x i:Operand} {a:AV} {k:IntKind} {n:Int} {z:Nat} {y:α} (f:o.op=.indexAddr t x i) (g:El P t e z) (d:ye env x=some a) (hi:ye env i=some (.int k n)) (j:IsSl a z row L) (c:yi L n=some y) :
  zo P o env h=.ok (.fptr (row y)) h:=by
 obtain ⟨h0,c⟩:=idxF c;refine s_indexAddr f g d hi ?_;have b:(L.map row)[n.toNat]?=some (row y):=by rw [List.getElem?_map,c];rfl
 rcases j with rfl | ⟨q,rfl⟩ <;> simp only [vD,h0,and_self,if_true,b,Option.map_some]
theorem yJ {t e:TypeId} {x i:Operand} {a:AV} {k:IntKind} {n:Int} {z:Nat} {y:α} {cs:List AV} (c:o.op=.indexAddr t x i) (d:El P t e z) (g:ye env x=some a) (hi:ye env i=some (.int k n)) (j:IsSl a z row L) (b:yi L n=some y) (f:row y=cs) :
  zo P o env h=.ok (.fptr cs) h:=by rw [<- f];exact s_idxRow c d g hi j b
theorem s_gidxRow {t e:TypeId} {x i:Operand} {a:AV} {k:IntKind} {n:Int} {z:Nat} (d:α) (b:o.op=.indexAddr t x i) (f:El P t e z) (g:ye env x=some a) (hi:ye env i=some (.int k n)) (j:IsSl a z row L) (c:0<=n/\n < L.length) :
  zo P o env h=.ok (.fptr (row (L.getD n.toNat d))) h:=by
 refine s_idxRow b f g hi j ?_;unfold yi;rw [if_pos c.1,List.getD_eq_getElem?_getD,List.getElem?_eq_getElem (by omega)];rfl
theorem s_gidxRowE {t e:TypeId} {x i:Operand} {a:AV} {k:IntKind} {n:Int} {z:Nat} {cs:List AV} (d:α) (b:o.op=.indexAddr t x i) (f:El P t e z) (j:ye env x=some a) (hi:ye env i=some (.int k n)) (l:IsSl a z row L) (c:0<=n/\n < L.length)
  (g:row (L.getD n.toNat d)=cs):zo P o env h=.ok (.fptr cs) h:=by rw [<- g];exact s_gidxRow d b f j hi l c
theorem s_idxStr {t:TypeId} {x i:Operand} {s:zn} {k:IntKind} {n:Int} {z:Nat} {b:UInt8} (c:o.op=.index t x i) (d:Ty P t .string z) (e:ye env x=some (.str s)) (hi:ye env i=some (.int k n)) (a:yi s n=some b) :
  zo P o env h=.ok (.int .u8 b.toNat) h:=by
 obtain ⟨h0,a⟩:=idxF a;refine s_indexStr c d e hi ?_;simp only [aIndexStr,h0,if_true,a,Option.map_some]
inductive Bd (env:List AV):Option Operand->Int->Int->Prop
 | none {d:Int}:Bd env none d d
 | some {x:Operand} {k:IntKind} {n d:Int}:ye env x=some (.int k n)->Bd env (some x) d n
theorem Bd.all {x:Option Operand} {d n:Int} (h:Bd env x d n):x.all z7=true:=by
 cases h with
 | none=>rfl
 | some h=>exact (zD h).1
theorem Bd.ab {x:Option Operand} {d:Nat} {n:Int} (h:Bd env x d n) (h0:0<=n):aBound d (x.map (ev env))=Option.some n.toNat:=by
 cases h with
 | none=>rfl
 | some h=>simp only [Option.map_some,(zD h).2,aBound,if_pos h0]
theorem vd {t e:TypeId} {x:Operand} {lo hi:Option Operand} {a:AV} {M:List α} {l hh:Int} {z:Nat} (p:o.op=.slice t x lo hi none) (f:El P t e z) (m:ye env x=some a) (A:a=.sl z (L.map row) \/ ∃q,a=.osl q z (L.map row)/\(hi.isSome=true \/ q.isSome=true)) (g:Bd env lo 0 l) (b:Bd env hi L.length hh)
  (w:slc L l hh=some M):zo P o env h=.ok (.sl z (M.map row)) h:=by
 obtain ⟨⟨h0,C,B⟩,rfl⟩:=slcF w;obtain ⟨n,r⟩:=zD m;obtain ⟨i,s,y,_⟩:=f.i;have j:=Bd.ab (d:=0) g h0;have k:=Bd.ab (d:=L.length) b (by omega);simp only [zo,p,n,g.all,b.all,Option.all_none,Bool.and_self,if_true,f.u,r,s,y,Option.map_none];rcases A with rfl | ⟨q,rfl,c⟩
 ·simp only [tyfix,if_true,aSlice,aSliceSl,j,List.length_map,k,Bool.false_and,Bool.false_eq_true,if_false];rw [if_pos (by omega)];simp only [oo,List.map_drop,List.map_take]
 ·simp only [tyfix,if_true,aSlice,aSliceSl,j,List.length_map,k];rw [if_pos (by omega)];have v:(q.isNone&&(hi.map (ev env)).isNone)=false:=by
   rcases c with c | c
   ·cases hi <;> simp_all
   ·cases q <;> simp_all
  simp only [v,Bool.false_eq_true,if_false,oo,List.map_drop,List.map_take]
theorem a_app {M:List α} {k:Nat} {q:Option Nat} {id:Nat} {c:AH} (d:L.length+M.length<=yB) (a:h.grow q L.length M.length=some (id,c)):qR h k (.osl q k (L.map row)) (M.map row)=some (.osl (some id) k ((L++M).map row),c):=by
 simp only [qR,List.length_map];by_cases h0:M.length=0
 ·have:M=[]:=List.eq_nil_of_length_eq_zero h0;subst this;rw [if_pos (show ([]:List α).length=0 from rfl)];cases q with
  | none =>
   simp only [AH.grow,List.length_nil,Nat.add_zero,Option.some.injEq,Prod.mk.injEq] at a;obtain ⟨rfl,rfl⟩:=a;simp
  | some id' =>
   simp only [AH.grow,List.length_nil,Nat.add_zero] at a;split at a
   ·rename_i b;simp only [Option.some.injEq,Prod.mk.injEq] at a;obtain ⟨rfl,rfl⟩:=a;have:h.toks.set id' L.length=h.toks:=by
     refine List.ext_getElem? λj=>?_;rw [List.getElem?_set];split
     ·rename_i e;subst e;rw [b];split
      ·rfl
      ·rename_i f;rw [List.getElem?_eq_none (by omega)] at b;cases b
     ·rfl
    simp [this]
   ·cases a
 ·rw [if_neg h0,if_pos ⟨trivial,d⟩,a];simp
variable {M:List α}
theorem e_appN {c:Call} {x y:Operand} {t u e A:TypeId} {k k' m:Nat} {a b f:AV} {B:List Blk} {T T':List Nat} (l:o.op=.call c) (v:c.callee=.builtin .append) (hs:c.args=#[x,y]) (p:c.argTypes=#[t,u]) (n:El P t e k)
  (d:El P u A k') (i:ye env x=some a) (s:ye env y=some b) (w:tyfix P t a=.osl none k (L.map row)) (r:tyfix P u b=f) (g:aNews k f=some (M.map row)) (q:L.length+M.length<=yB) (C:T.length=m) (j:T++[(L++M).length]=T') :
  zo P o env (h.ext B T)=.ok (.osl (some (h.toks.length+m)) k ((L++M).map row)) (h.ext B T'):=by
 refine s_append l v hs p n d i s w r g (a_app q ?_);subst j C;simp [AH.grow,AH.ext]
theorem xg {c:Call} {x y:Operand} {t u e C:TypeId} {k k' j:Nat} {a b f:AV} {B:List Blk} {T T':List Nat} (m:o.op=.call c) (w:c.callee=.builtin .append) (hs:c.args=#[x,y]) (p:c.argTypes=#[t,u]) (n:El P t e k)
  (d:El P u C k') (i:ye env x=some a) (s:ye env y=some b) (A:tyfix P t a=.osl (some (h.toks.length+j)) k (L.map row)) (r:tyfix P u b=f) (g:aNews k f=some (M.map row)) (q:L.length+M.length<=yB) (D:T[j]?=some L.length) (l:T.set j (L++M).length=T') :
  zo P o env (h.ext B T)=.ok (.osl (some (h.toks.length+j)) k ((L++M).map row)) (h.ext B T'):=by
 refine s_append m w hs p n d i s A r g (a_app q ?_);subst l;have v:(h.toks++T)[h.toks.length+j]?=some L.length:=by rw [List.getElem?_append_right (by omega),Nat.add_sub_cancel_left];exact D
 simp only [AH.grow,AH.ext,v,if_true];rw [List.set_append_right _ _ (by omega),Nat.add_sub_cancel_left,List.length_append]
theorem x8 {k:Nat}:aNews k (.sl k (M.map row))=some (M.map row):=by simp [aNews]
theorem yR {k:Nat} {q:Option Nat}:aNews k (.osl q k (M.map row))=some (M.map row):=by simp [aNews]
theorem news_str {s:zn}:aNews 1 (.str s)=some (s.map yF):=by simp only [aNews,if_true];rfl
theorem e_appST {c:Call} {x y:Operand} {t u e:TypeId} {k k' j:Nat} {a b f:AV} {B:List Blk} {T T':List Nat} (m:o.op=.call c) (w:c.callee=.builtin .append) (hs:c.args=#[x,y]) (p:c.argTypes=#[t,u]) (n:El P t e k)
  (d:Ty P u .string k') (i:ye env x=some a) (s:ye env y=some b) (A:tyfix P t a=.osl (some (h.toks.length+j)) k (L.map row)) (r:tyfix P u b=f) (g:aNews k f=some (M.map row)) (q:L.length+M.length<=yB) (C:T[j]?=some L.length) (l:T.set j (L++M).length=T') :
  zo P o env (h.ext B T)=.ok (.osl (some (h.toks.length+j)) k ((L++M).map row)) (h.ext B T'):=by
 refine s_appendStr m w hs p n d i s A r g (a_app q ?_);subst l;have v:(h.toks++T)[h.toks.length+j]?=some L.length:=by rw [List.getElem?_append_right (by omega),Nat.add_sub_cancel_left];exact C
 simp only [AH.grow,AH.ext,v,if_true];rw [List.set_append_right _ _ (by omega),Nat.add_sub_cancel_left,List.length_append]
end
theorem leL.pre {a bs:List AV}:∀{cs:List AV},leL a bs->leL (cs++a) (cs++bs)
 | [],k=>k
 | _::_,k=>leL.eq (leL.pre k)
def keeps:List (Nat×Blk)->List Blk->Prop
 | [],_=>True
 | (j,b)::r,B=>B[j]?=some b/\keeps r B
theorem wj {j:Nat} {b:Blk} {r:List (Nat×Blk)} {B:List Blk} (h:keeps ((j,b)::r) B):B[j]?=some b:=h.1
def lk:List (Nat×List (Nat×Blk))->Nat->List (Nat×Blk)
 | [],_=>[]
 | (m,l)::r,n=>if n=m then l else lk r n
def KeepB (h:AH) (l:List (Nat×Blk)) (x:AH):Prop:=∃B T,x=h.ext B T/\keeps l B
theorem zW {h:AH} {l:List (Nat×Blk)} {B:List Blk} {T:List Nat} (a:keeps l B):KeepB h l (h.ext B T):=⟨_,_,rfl,a⟩
def keepA:List (Nat×List (Nat×Blk))->List Blk->Prop
 | [],_=>True
 | (_,l)::r,B=>keeps l B/\keepA r B
theorem keepA_lk:∀{l:List (Nat×List (Nat×Blk))} {B:List Blk},keepA l B->∀n,keeps (lk l n) B
 | [],_,_,_=>trivial
 | (m,l)::r,B,h,n=>by
  simp only [lk];split
  ·exact h.1
  ·exact keepA_lk h.2 n
theorem FOk.all {b:Nat} {Ns:List Nat} {G:AH->Prop} {h:AH} (a:G h):FOk b Ns (λ_=>G) h:=λ_ _ _=>a
theorem FOk.nil {b:Nat} {F:Nat->AH->Prop} {h:AH}:FOk b [] F h:=λ_ h _=>by simp at h
theorem FOk.cons {b n:Nat} {Ns:List Nat} {F:Nat->AH->Prop} {h:AH} (a:b.testBit n=true \/ F n h) (d:FOk b Ns F h):FOk b (n::Ns) F h:=λm f c=>by
 rcases a with a | a
 ·by_cases e:m=n
  ·subst e;rw [a] at c;cases c
  ·exact d m (by simpa [e] using f) c
 ·by_cases e:m=n
  ·subst e;exact a
  ·exact d m (by simpa [e] using f) c
theorem zu {P:Program} {Q:Exit->List AV->AH->Prop} {env:List AV} {h:AH} {B:List Blk} {T:List Nat} {id:Nat} {l:List Oper} (Ns:List Nat) (a:List (Nat×List (Nat×Blk))) (c:keepA a B) (d:P.follows .mixedOrders=true) (hd:drawOk ⟨l⟩ Ns=true) (b:zL P ⟨l⟩ Ns (λn=>KeepB h (lk a n)) (Q .normal) 0 l env (h.ext B T)) :
  vt P (.region id ⟨l⟩ true) Q env (h.ext B T):=.inl ⟨Ns,λn=>KeepB h (lk a n),⟨d,hd⟩,λn=>zW (keepA_lk c n),b⟩
theorem r_drawnF {P:Program} {Q:Exit->List AV->AH->Prop} {env:List AV} {h:AH} {id:Nat} {l:List Oper} (Ns:List Nat) (F:Nat->AH->Prop) (b:∀n,F n h) (c:P.follows .mixedOrders=true) (hd:drawOk ⟨l⟩ Ns=true) (a:zL P ⟨l⟩ Ns F (Q .normal) 0 l env h) :
  vt P (.region id ⟨l⟩ true) Q env h:=.inl ⟨Ns,F,⟨c,hd⟩,b,a⟩
theorem yM {h:AH} {L L':List Blk} {M M':List Nat}:(h.ext L M).ext L' M'=h.ext (L++L') (M++M'):=by simp [AH.ext,List.append_assoc]
theorem yz {P:Program} {b:Array Oper} {Q:List AV->AH->Prop} {o:Oper} {rest:List Oper} {env a:List AV} {h c:AH} {f:FuncId} {args:List AV} {v:AV} (e:aG b o env=some true) (j:zo P o env h=.call f args) (hs:Spec P f args h λr hh=>r=v/\hh=c)
  (hd:vq o.dst env v=some a) (g:zy P b Q rest a c):zy P b Q (o::rest) env h :=
 ops_call e j hs λr c ⟨d,i⟩=>by subst d;subst i;rw [xh hd];exact g
theorem ym {Ns:List Nat} {F:Nat->AH->Prop} {i:Nat} (l:Ns.contains i=false) {P:Program} {a:Array Oper} {Q:List AV->AH->Prop} {o:Oper} {rest:List Oper} {env b:List AV} {h c:AH} {f:FuncId} {args:List AV} {v:AV} (e:FOk ((Region.before a).getD i 0) Ns F c) (d:c.blks=h.blks) (g:aG a o env=some true) (k:zo P o env h=.call f args) (hs:Spec P f args h λr hh=>r=v/\hh=c)
  (hd:vq o.dst env v=some b) (j:zL P a Ns F Q (i+1) rest b c):zL P a Ns F Q i (o::rest) env h :=
 ⟨v,c,.inl ⟨l,by simp only [AR,g,k];exact hs⟩,.inr d,.inr e,by rw [xh hd];exact j⟩
theorem xp {Ns:List Nat} {F:Nat->AH->Prop} {i:Nat} (k:Ns.contains i=false) {P:Program} {a:Array Oper} {Q:List AV->AH->Prop} {o:Oper} {rest:List Oper} {env b:List AV} {h c:AH} {v:AV} (g:FOk ((Region.before a).getD i 0) Ns F c) (f:c.blks=h.blks) (d:aG a o env=some true) (j:zo P o env h=.ok v c) (hd:vq o.dst env v=some b) (e:zL P a Ns F Q (i+1) rest b c) :
  zL P a Ns F Q i (o::rest) env h:=⟨v,c,.inl ⟨k,by simp only [AR,d,j,and_self]⟩,.inr f,.inr g,by rw [xh hd];exact e⟩
def OwnK (h:AH) (k n:Nat) (R:List (List AV)) (rr:AV) (hh:AH):Prop:=rr=.osl (some h.toks.length) k R/\hh=h.ext [] [n]
theorem own_ext {P:Program} {f:FuncId} {a:List AV} {h:AH} {B:List Blk} {T T':List Nat} {k n m:Nat} {R:List (List AV)} (s:Spec P f a (h.ext B T) (OwnK (h.ext B T) k n R)) (d:T.length=m) (c:T++[n]=T') :
  Spec P f a (h.ext B T) (λb hh=>b=.osl (some (h.toks.length+m)) k R/\hh=h.ext B T'):=by
 refine s.mono ?_
 rintro r e ⟨rfl,rfl⟩
 subst d c;simp [AH.ext,List.append_assoc]
theorem ldC_arr {α:Type} {row:α->List AV} {L:List α} {k:Nat} {i:Int} {y:α} {cs:List AV} (b:∀x,(row x).length=k) (c:yi L i=some y) (f:L.flatMap row=cs):ldC true k (0+i.toNat * k) cs=some (.agg (row y)):=by
 obtain ⟨h0,c⟩:=idxF c;subst f;have key:∀(L:List α) (n:Nat),L[n]?=some y->n * k+k<=(L.flatMap row).length/\((L.flatMap row).drop (n * k)).take k=row y:=by
  intro L
  induction L with
  | nil=>intro n h;simp at h
  | cons a r ih =>
   intro n h;cases n with
   | zero =>
    simp at h;subst h;simp only [List.flatMap_cons,Nat.zero_mul,List.drop_zero,List.length_append,b];exact ⟨by omega,by rw [List.take_append_of_le_length (by rw [b];omega),List.take_of_length_le (by rw [b];omega)]⟩
   | succ n =>
    obtain ⟨e,d⟩:=ih n (by simpa using h);simp only [List.flatMap_cons,List.length_append,b,Nat.succ_mul];refine ⟨by omega,?_⟩;rw [show n * k+k=(row a).length+n * k by rw [b];omega,List.drop_append,List.drop_of_length_le (by omega),List.nil_append,Nat.add_sub_cancel_left];exact d
 obtain ⟨e,d⟩:=key L i.toNat c;simp only [ldC,if_true,Nat.zero_add];rw [if_pos e,d]
theorem s_idxArr {P:Program} {o:Oper} {env:List AV} {h:AH} {t e:TypeId} {n k k':Nat} {d:TypeDesc} {x i:Operand} {id off:Nat} {q:IntKind} {m:Int} {α:Type} {L:List α} {y:α} (c:o.op=.indexAddr t x i) (f:Ty P t (.array n e) k) (g:Ty P e d k') (b:ye env x=some (.ptr id off)) (hi:ye env i=some (.int q m))
  (j:L.length=n) (a:yi L m=some y):zo P o env h=.ok (.ptr id (off+m.toNat * k')) h:=by
 obtain ⟨h0,a⟩:=idxF a;have l:m.toNat < L.length:=(List.getElem?_eq_some_iff.1 a).1;exact zR c f g b hi (if_pos ⟨h0,by omega⟩)
theorem evo_eq {env:List AV} {x:Operand} {a b:AV} (h:ye env x=some a) (e:a=b):ye env x=some b:=by rw [h,e]
theorem blk_ext2 {h:AH} {B B':List Blk} {T T':List Nat} {j:Nat} {b:Blk} (a:B[j]?=some b):((h.ext B T).ext B' T').blk (h.blks.length+j)=some b:=by
 rw [yM,zZ,List.getElem?_append_left (List.getElem?_eq_some_iff.1 a).1];exact a
theorem blk_old {h:AH} {B:List Blk} {T:List Nat} {id:Nat} {b:Blk} (a:h.blk id=some b):(h.ext B T).blk id=some b:=by
 have c:id < h.blks.length:=(List.getElem?_eq_some_iff.1 a).1;simp only [AH.blk,AH.ext] at a ⊢;rw [List.getElem?_append_left c];exact a
theorem b_load {P:Program} {o:Oper} {env:List AV} {h:AH} {B:List Blk} {T:List Nat} {t:TypeId} {d:TypeDesc} {k id off:Nat} {x:Operand} {cs:List AV} {v a:AV} (b:o.op=.load t x) (e:Ty P t d k) (f:ye env x=some (.ptr id off)) (c:h.blk id=some (.cells cs))
  (g:ldC (zS d) k off cs=some v) (i:tyfix P t v=a):zo P o env (h.ext B T)=.ok a (h.ext B T):=by
 refine s_load b e f ?_ i;simp only [aLoad,blk_old c];exact g

theorem leV.agg {cs ds:List AV} (k:leL cs ds) (b:ds.all AV.one=true):leV (.agg cs) (.agg ds):=λg v a=>by
 simp only [V] at a ⊢;obtain ⟨vs,e,c⟩:=a;exact ⟨vs,e,VA.mk (k _ _ c.toVL) b⟩
theorem leV.tup {cs ds:List AV} (k:leL cs ds):leV (.tup cs) (.tup ds):=λg v a=>by
 simp only [V] at a ⊢;obtain ⟨vs,e,b⟩:=a;exact ⟨vs,e,k _ _ b⟩
theorem VL.setE {g:Gh}:∀{d:List AV} {vs:List Value},VL g d vs->∀(i:Nat) (a:AV),(∀v,vs[i]?=some v->V g a v)->VL g (d.set i a) vs
 | [],_,h,i,a,_=>by simpa using h
 | _::r,_,h,i,a,hv=>by
  simp only [VL] at h;obtain ⟨b,s,rfl,f,e⟩:=h;cases i with
  | zero=>simp only [List.set_cons_zero,VL];exact ⟨b,s,rfl,hv b rfl,e⟩
  | succ i=>simp only [List.set_cons_succ,VL];exact ⟨b,s,rfl,f,VL.setE e i a (λv c=>hv v (by simpa using c))⟩
theorem V.tok {g:Gh} {k n:Nat} {es:List (List AV)} {v:Value} (f:es.length=n) (d:V g (.osl none k es) v):V (g.addT ⟨n,none,false⟩) (.osl (some g.τ.length) k es) v:=by
 subst f;simp only [V] at d ⊢;obtain ⟨a,c,p,m,i,j,l⟩:=d;refine ⟨a,c,p,m,i,j.imp id λ⟨b,o,e,hh⟩=>⟨b,o,e,VE.mono (g.le_addT _) _ _ _ _ hh⟩,⟨es.length,none,false⟩,?_,rfl,Nat.le_refl _,λ_=>.inl l⟩;simp only [Gh.addT];rw [List.getElem?_append_right (Nat.le_refl _)];simp
theorem wk_tok {α:Type} {row:α->List AV} {L:List α} {hd h:AH} {env b:List AV} {B:List Blk} {T T':List Nat} {d k m:Nat} (u:ye env (.tmp d)=some (.osl none k (L.map row))) (w:T.length=m)
  (p:vq (some d) env (.osl (some (h.toks.length+m)) k (L.map row))=some b) (q:T++[L.length]=T') :
  wk hd env (h.ext B T) b (h.ext B T'):=λ_ _ _ _ x g vs _ s r n=>by
 subst w q;simp only [vq,Option.some.injEq] at p;subst p;have c:h.toks.length+T.length=g.τ.length:=by rw [r.tlen];simp [AH.ext]
 refine ⟨g.addT ⟨L.length,none,false⟩,s.trans (g.le_addT _),?_,?_⟩
 ·have:=r.addTok ⟨L.length,none,false⟩ (λ_ _ _ h=>by cases h) (λ_ _ h=>by cases h);have e:(h.ext B (T++[L.length]))={ (h.ext B T) with toks:=(h.ext B T).toks++[L.length] }:=by simp [AH.ext,List.append_assoc]
  rw [e];exact this
 ·have j:=n;refine ⟨VL.setE (VL.mono (g.le_addT _) _ _ n) d _ λv l=>?_,λ_ h=>h⟩;obtain ⟨a,f,t⟩:=j.getR _ _ l;have i:env[d]?=some (.osl none k (L.map row)):=u;rw [i] at f;injection f with f;subst f;rw [c];exact t.tok (by simp)
theorem Rel.rowsC {B:Nat} {w0 w:World} {g:Gh} {h:AH} (r:Rel B w0 g h w) {i:Nat} {cs cs':List AV} (f:h.blks[i]?=some (.cells cs)) :
  (∀(j:Nat) (x:Blk),g.σ[j]?=some none->(h.put i (.cells cs')).blks[j]?=some x->RowB g w x) /\
  ∀(a b t k k':Nat) (es es':List (List AV)),(h.put i (.cells cs')).blks[a]?=some (.row t k es)->(h.put i (.cells cs')).blks[b]?=some (.row t k' es')->a=b:=by
 have key:∀(a t k:Nat) (es:List (List AV)),(h.put i (.cells cs')).blks[a]?=some (.row t k es)->h.blks[a]?=some (.row t k es):=by
  intro a t k es c;simp only [AH.put] at c;by_cases hij:i=a
  ·subst hij;rw [List.getElem?_set_self (List.getElem?_eq_some_iff.1 f).1] at c;cases c
  ·rw [List.getElem?_set_ne hij] at c;exact c
 refine ⟨λj x e d=>?_,λa b t k k' es es' c l=>r.rinj _ _ _ _ _ _ _ (key _ _ _ _ c) (key _ _ _ _ l)⟩;simp only [AH.put] at d;by_cases hij:i=j
 ·subst hij;exact (r.row i _ e f).elim
 ·rw [List.getElem?_set_ne hij] at d;exact r.row j x e d
theorem Rel.reblk {B:Nat} {w0 w:World} {g:Gh} {h:AH} (r:Rel B w0 g h w) {i:Nat} {cs cs':List AV} (b:h.blks[i]?=some (.cells cs)) (k:∀c,BlkOk g w c (.cells cs)->BlkOk g w c (.cells cs')):Rel B w0 g (h.put i (.cells cs')) w:=by
 refine ⟨r.below,r.bsz,r.phi,by simp [AH.put,r.slen],λj c q d a=>?_,r.tlen,r.tok,r.sinj,r.tinj,r.sep,r.dfr,(r.rowsC b).1,(r.rowsC b).2⟩;simp only [AH.put] at a;by_cases hij:i=j
 ·subst hij;rw [List.getElem?_set_self (List.getElem?_eq_some_iff.1 b).1] at a;injection a with a;subst a;obtain ⟨m,l,e,f⟩:=r.blk i c _ d b;exact ⟨m,l,k c e,λ_=>f (by simp)⟩
 ·rw [List.getElem?_set_ne hij] at a;exact r.blk j c q d a
theorem wk_tokB {α:Type} {row:α->List AV} {L:List α} {hd h:AH} {env:List AV} {B B':List Blk} {T T':List Nat} {j off k m:Nat} {cs cs':List AV} (C:B[j]?=some (.cells cs)) (S:ye cs (.tmp off)=some (.osl none k (L.map row))) (V:T.length=m)
  (E:vq (some off) cs (.osl (some (h.toks.length+m)) k (L.map row))=some cs') (K:B.set j (.cells cs')=B') (I:T++[L.length]=T') :
  wk hd env (h.ext B T) env (h.ext B' T'):=λ_ _ w _ W g vs _ O r H=>by
 subst V I K;simp only [vq,Option.some.injEq] at E;subst E;have n:h.toks.length+T.length=g.τ.length:=by rw [r.tlen];simp [AH.ext]
 refine ⟨g.addT ⟨L.length,none,false⟩,O.trans (g.le_addT _),?_,VL.mono (g.le_addT _) _ _ H,λ_ h=>h⟩;have b:=r.addTok ⟨L.length,none,false⟩ (λ_ _ _ h=>by cases h) (λ_ _ h=>by cases h);have x:({ (h.ext B T) with toks:=(h.ext B T).toks++[L.length] }:AH).blks[h.blks.length+j]?=some (.cells cs):=by
  simp only [AH.ext];rw [List.getElem?_append_right (by omega),Nat.add_sub_cancel_left];exact C
 have e:(h.ext (B.set j (.cells (cs.set off (.osl (some (h.toks.length+T.length)) k (L.map row))))) (T++[L.length])) =
   ({ (h.ext B T) with toks:=(h.ext B T).toks++[L.length] }:AH).put (h.blks.length+j) (.cells (cs.set off (.osl (some (h.toks.length+T.length)) k (L.map row)))):=by
  simp only [AH.ext,AH.put,List.append_assoc];rw [List.set_append_right _ _ (by omega),Nat.add_sub_cancel_left]
 rw [e]
 -- what the cells were ahead of the token
 have p:(h.ext B T).blks[h.blks.length+j]?=some (.cells cs):=by
  simp only [AH.ext];rw [List.getElem?_append_right (by omega),Nat.add_sub_cancel_left];exact C
 obtain ⟨c,u⟩:∃c:Nat,g.σ[h.blks.length+j]?=some (some c):=by
  have:h.blks.length+j < g.σ.length:=by rw [r.slen];simp only [AH.ext,List.length_append];have:=(List.getElem?_eq_some_iff.1 C).1;omega
  rcases u:g.σ[h.blks.length+j] with _ | c
  ·exact (r.row _ _ (by rw [List.getElem?_eq_getElem this,u]) p).elim
  ·exact ⟨c,by rw [List.getElem?_eq_getElem this,u]⟩
 obtain ⟨_,_,⟨us,t,J,F⟩,_⟩:=r.blk _ c _ u p;have s:VA (g.addT ⟨L.length,none,false⟩) (cs.set off (.osl (some (h.toks.length+T.length)) k (L.map row))) us.toList:=by
  have G:=F.toVL;refine VA.mk (VL.setE (VL.mono (g.le_addT _) _ _ G) off _ λv D=>?_) ?_
  ·obtain ⟨a,d,Q⟩:=G.getR _ _ D;have A:cs[off]?=some (.osl none k (L.map row)):=S;rw [A] at d;injection d with d;subst d;rw [n];exact Q.tok (by simp)
  ·rw [List.all_eq_true];intro a d;rcases List.mem_or_eq_of_mem_set d with d | rfl
   ·have:=F.ones;rw [List.all_eq_true] at this;exact this a d
   ·rfl
 -- one block alone: the same cell
 refine ⟨b.below,b.bsz,b.phi,by simp [AH.put,b.slen],λi y q f l=>?_,b.tlen,b.tok,b.sinj,b.tinj,b.sep,b.dfr,(b.rowsC x).1,(b.rowsC x).2⟩;simp only [AH.put] at l;by_cases hij:h.blks.length+j=i
 ·subst hij;rw [List.getElem?_set_self (List.getElem?_eq_some_iff.1 x).1] at l;injection l with l;subst l;obtain ⟨U,R,_,N⟩:=b.blk _ y _ f x;have:y=c:=by
   have:g.σ[h.blks.length+j]?=some (some y):=f;rw [u] at this;injection this with this;injection this with this;exact this.symm
  subst this;exact ⟨U,R,⟨us,t,J,s⟩,λ_=>N (by simp)⟩
 ·rw [List.getElem?_set_ne hij] at l;exact b.blk i y q f l
mutual
theorem AV.low_up {n e m d:Nat} (c:n<=e) (h:m<=d):∀a:AV,a.low n m=true->a.low e d=true
 | .bool _,_ | .int _ _,_ | .str _,_ | .nilp,_ | .nilm,_ | .nilf,_ | .nili,_ | .nilsl,_ | .fptr _,_ | .sl _ _,_ | .glob _,_ | .any,_ | .opq,_=>rfl
 | .osl none _ _,_=>rfl
 | .osl (some t) _ _,hl=>by simp only [AV.low,decide_eq_true_eq] at hl ⊢;omega
 | .ptr _ _,hl=>by simp only [AV.low,decide_eq_true_eq] at hl ⊢;omega
 | .msl _ _ _ _,hl=>by simp only [AV.low,decide_eq_true_eq] at hl ⊢;omega
 | .rsl _ _ _ _,hl=>by simp only [AV.low,decide_eq_true_eq] at hl ⊢;omega
 | .rsuf _ _ _ _ _,hl=>by simp only [AV.low,decide_eq_true_eq] at hl ⊢;omega
 | .rptr _ _ _ _ _,hl=>by simp only [AV.low,decide_eq_true_eq] at hl ⊢;omega
 | .map _,hl=>by simp only [AV.low,decide_eq_true_eq] at hl ⊢;omega
 | .yld _,hl=>by simp only [AV.low,decide_eq_true_eq] at hl ⊢;omega
 | .fn _ a b,hl=>by
  simp only [AV.low,Bool.and_eq_true] at hl ⊢;exact ⟨zT c h a hl.1,zT c h b hl.2⟩
 | .iface _ v,hl=>by simp only [AV.low] at hl ⊢;exact AV.low_up c h v hl
 | .agg cs,hl=>by simp only [AV.low] at hl ⊢;exact zT c h cs hl
 | .tup cs,hl=>by simp only [AV.low] at hl ⊢;exact zT c h cs hl
theorem zT {n e m d:Nat} (c:n<=e) (h:m<=d):∀l:List AV,zw n m l=true->zw e d l=true
 | [],_=>rfl
 | a::r,hl=>by
  simp only [zw,Bool.and_eq_true] at hl ⊢;exact ⟨AV.low_up c h a hl.1,zT c h r hl.2⟩
end
theorem wk_cutm {h:AH} {env:List AV} {L:List Blk} {M M1:List Nat} (m:Nat) (d:zw h.blks.length (h.toks.length+m) env=true) (l:M.take m=M1):wk h env (h.ext L M) env (h.ext [] M1):=λ_ _ _ _ f g vs a j r c=>by
 subst l;refine ⟨g.cut h.blks.length (h.toks.length+m),Gh.le_cut2 j (by rw [a.slen];exact Nat.le_refl _) (by rw [a.tlen];omega),?_,VL.cut _ _ d c,λ_ h=>h⟩;have e:(h.ext L M).cut h.blks.length (h.toks.length+m)=h.ext [] (M.take m):=by
  simp [AH.cut,AH.ext,List.take_append];rw [List.take_of_length_le (by omega)]
 have:=r.cut h.blks.length (h.toks.length+m) (λi k hi b=>?_)
 ·rw [e] at this;exact this
 ·have n:i < f.σ.length:=by rw [a.slen];exact hi
  simp only [AH.ext] at b;rw [List.getElem?_append_left hi] at b;have:=a.isLow b;rw [a.slen,a.tlen] at this;exact Blk.low_mono (by omega) _ this
theorem fin_own {h:AH} {B:List Blk} {T:List Nat} {K:AV->AH->Prop} {k n:Nat} {R:List (List AV)} (a:K (.osl (some h.toks.length) k R) (h.ext [] [n])):finK h K (.osl (some (h.toks.length+0)) k R) (h.ext B (n::T)) :=
 wV (wk_cutm 1 (by simp [zw,AV.low]) rfl) a
theorem fin_own0 {α:Type} {row:α->List AV} {L:List α} {h:AH} {B:List Blk} {T:List Nat} {K:AV->AH->Prop} {k:Nat} (a:K (.osl (some h.toks.length) k (L.map row)) (h.ext [] [L.length])):finK h K (.osl none k (L.map row)) (h.ext B T) :=
 wV ((wk_cutm (M1:=[]) 0 (by simp [zw,AV.low]) rfl).trans (wk_tok (d:=0) (m:=0) rfl rfl rfl rfl)) a
theorem wk_leB {hd h:AH} {env:List AV} {B B':List Blk} {T:List Nat} {j:Nat} {cs cs':List AV} (b:B[j]?=some (.cells cs)) (k:leL cs cs') (f:cs'.all AV.one=true) (i:B.set j (.cells cs')=B'):wk hd env (h.ext B T) env (h.ext B' T):=λ_ _ w _ p g vs _ l r a=>by
 subst i;have n:(h.ext B T).blks[h.blks.length+j]?=some (.cells cs):=by
  simp only [AH.ext];rw [List.getElem?_append_right (by omega),Nat.add_sub_cancel_left];exact b
 have:=r.reblk n (cs':=cs') (λc ⟨us,t,d,m⟩=>⟨us,t,d,VA.mk (k _ _ m.toVL) f⟩);have e:(h.ext B T).put (h.blks.length+j) (.cells cs')=h.ext (B.set j (.cells cs')) T:=by
  simp only [AH.ext,AH.put];rw [List.set_append_right _ _ (by omega),Nat.add_sub_cancel_left]
 rw [e] at this;exact ⟨g,l,this,a,λ_ h=>h⟩
theorem yj {h:AH} {L0 L1 L':List Blk} {M0 M1 M':List Nat} {env:List AV} (e:zw (h.blks.length+L0.length) (h.toks.length+M0.length) env=true) (f:L'.take L0.length=L1) (c:M'.take M0.length=M1)
  (a:L1.all (λb=>b.low (h.blks.length+L0.length) (h.toks.length+M0.length))=true):wk (h.ext L0 M0) env (h.ext L' M') env (h.ext L1 M1) :=
 wk_ext2 e f c λ_ k d=>.inr (by rw [List.all_eq_true] at a;exact a k (List.mem_of_getElem? d))
theorem r_condR {P:Program} {Q:Exit->List AV->AH->Prop} {env:List AV} {h:AH} {ρ σ:Type} {f:Nat->Nat->σ->Option (Out ρ σ)} {m:Int} {i:Nat} {s:σ} {rest:σ->Option ρ} {g:ρ} {c:Operand} {t e:Code} (r:ye env c=some (.bool (decide ((i:Int) < m))))
  (l:lp (zk f ((List.range m.toNat).drop i) i s) rest=some g)
  (p:∀x b,i < (List.range m.toNat).length->(i:Int) < m->x=i->f i x s=some b->konL f (List.range m.toNat) i rest b=some g->vt P t Q env h) (u:rest s=some g->vt P e Q env h):vt P (.cond c t e) Q env h:=by
 refine r_cond r (λd=>?_) (λd=>?_)
 ·have k:=of_decide_eq_true d;have a:i < (List.range m.toNat).length:=by simp;omega
  obtain ⟨x,b,j,q,n⟩:=loopL_step l a;refine p x b a k ?_ q n;rw [List.getElem?_eq_getElem a] at j;simp at j;exact j.symm
 ·have k:=of_decide_eq_false d;exact u (loopL_end l (by simp;omega))
theorem ops_nextF {P:Program} {b:Array Oper} {Q:List AV->AH->Prop} {o:Oper} {rest:List Oper} {env k l:List AV} {h:AH} {L:List Blk} {M:List Nat} {x:Operand} {s:List UInt8} {j a:Nat} {ρ:Type} {A C:Option ρ} {r:ρ} (q:aG b o env=some true) (p:o.op=.next x true)
  (m:ye env x=some (.ptr (h.blks.length+j) 0)) (n:L[j]?=some (.siter s a)) (e:vq o.dst env (.tup [.bool true,.int .i64 a,.int .i32 (dec s a).1])=some k) (g:vq o.dst env (.tup [.bool false])=some l)
  (c:(if a < s.length then A else C)=some r) (d:a < s.length->A=some r->zy P b Q rest k (h.ext (L.set j (.siter s (a+(dec s a).2))) M)) (f:C=some r->zy P b Q rest l (h.ext L M)):zy P b Q (o::rest) env (h.ext L M) :=
 ops_next q p m n e g (λi=>d i (by rw [if_pos i] at c;exact c)) (λi=>f (by rw [if_neg (by omega)] at c;exact c))
open Classical in
noncomputable def anyN {ρ:Type} (g:Nat->Option ρ):Option ρ:=if h:∃r N,∀n,N<=n->g n=some r then some (Classical.choose h) else none
theorem anyN_is {ρ:Type} {g:Nat->Option ρ} {r:ρ} (h:anyN g=some r):∃n,g n=some r:=by
 unfold anyN at h;split at h
 ·rename_i a;injection h with h;subst h;obtain ⟨N,b⟩:=Classical.choose_spec a;exact ⟨N,b N (Nat.le_refl _)⟩
 ·cases h
theorem anyN_of {ρ:Type} {g:Nat->Option ρ} {r:ρ} (N:Nat) (h:∀n,N<=n->g n=some r):anyN g=some r:=by
 have a:∃r N,∀n,N<=n->g n=some r:=⟨r,N,h⟩
 unfold anyN;rw [dif_pos a];obtain ⟨M,c⟩:=Classical.choose_spec a;have b:=c (max N M) (Nat.le_max_right _ _);rw [h (max N M) (Nat.le_max_left _ _)] at b;exact b.symm
theorem Rel.beyond {B:Nat} {w0 w w':World} {g:Gh} {h:AH} (r:Rel B w0 g h w) (a:RowKit.Below w.heap.size w w'):Rel B w0 g h w' :=
 ⟨r.below.trans (a.mono r.bsz),Nat.le_trans r.bsz a.size,λb j v e=>(a.cell (p:=⟨b,j,none⟩) (r.phi_lt e)).trans (r.phi b j v e),r.slen,
   λi c k d s=>by
     obtain ⟨n,f,u,y⟩:=r.blk i c k d s;exact ⟨n,Nat.lt_of_lt_of_le f a.size,u.mono (Gh.le.refl g) (a.block c f),y⟩,r.tlen,
   λi t q=>by
     obtain ⟨n,f⟩:=r.tok i t q;exact ⟨n,λb l e m=>(f b l e m).mono a.size (a.block b (f b l e m).lt) λ_ _=>rfl⟩,r.sinj,r.tinj,r.sep,λc d=>⟨(r.dfr c d).1,(a.block c (r.dfr_lt d)).trans (r.dfr c d).2.1,(r.dfr c d).2.2⟩,
   λi k hi s=>(r.row i k hi s).mono (Gh.le.refl g) (λ_ _ h _=>h) (λi t b x q _ m=>⟨a.block b ((r.tok i t q).2 b x.1 x.2 m).lt,λ_=>rfl⟩),r.rinj⟩
end Go.Vv
