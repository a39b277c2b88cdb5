/- Rules of the second printer: rows of slices, appends, calls that hand over memory, function values. -/
import Derived.Test.YtbaclapbinkedaaVvY
namespace Go.Vv
open Go

abbrev zR (s:yg):List AV:=[.str s]
def yH (b:UInt8):List AV:=[.int .u8 b.toNat]
abbrev intRow (k:IntKind) (n:Int):List AV:=[.int k n]
abbrev boolRow (b:Bool):List AV:=[.bool b]
def IsSl {α:Type} (a:AV) (z:Nat) (row:α→List AV) (L:List α):Prop:=a=.sl z (L.map row) ∨ ∃ q,a=.osl q z (L.map row)
section
variable {α:Type} {row:α→List AV} {L M:List α} {z:Nat}
theorem qI:IsSl (.sl z (L.map row)) z row L:=.inl rfl
theorem z8 {k:Nat} {f:α→List AV} {L:List α}:aLen (.sl k (L.map f))=some L.length:=by simp [aLen]
theorem lenMapO {q:Option Nat} {k:Nat} {f:α→List AV} {L:List α}:aLen (.osl q k (L.map f))=some L.length:=by simp [aLen]
theorem xl {i:Nat} {x:α} (h:L[i]?=some x):qJ L (i:Int)=some x:=by
 unfold qJ;rw [if_pos (by omega),Int.toNat_natCast];exact h
end
theorem byte_of {n:Int} (h:0≤n∧n < 256):((UInt8.ofNat n.toNat).toNat:Int)=n:=by
 rw [UInt8.toNat_ofNat'];omega
theorem bin_boolE {P:Program} {t:TypeId} {k:Nat} {a b:Bool} (ht:Ty P t .bool k):aBin P .eql t (.bool a) (.bool b)=some (.bool (a==b)):=by simp only [aBin,aEq,ht.u,Option.map_some]
theorem bin_boolN {P:Program} {t:TypeId} {k:Nat} {a b:Bool} (ht:Ty P t .bool k):aBin P .neq t (.bool a) (.bool b)=some (.bool !(a==b)):=by simp only [aBin,aEq,ht.u,Option.map_some]
open Classical in
noncomputable def nilq {α ρ:Type} (L:List α) (f:Bool→Option ρ):Option ρ:=if L=[]∧f true ≠ f false then none else f false
theorem nilqF {α ρ:Type} {L:List α} {f:Bool→Option ρ} {r:ρ} (h:nilq L f=some r):f false=some r∧(L=[]→f true=some r):=by
 unfold nilq at h
 split at h
 ·cases h
 ·rename_i hn
  refine ⟨h,fun hl=>?_⟩
  exact Classical.byContradiction fun hne=>hn ⟨hl,fun e=>hne (e.trans h)⟩
theorem nilq_of {α ρ:Type} {L:List α} {f:Bool→Option ρ} {r:ρ} (h1:f false=some r) (h2:L=[]→f true=some r):nilq L f=some r:=by
 unfold nilq
 rw [if_neg (fun ⟨hl,hn⟩=>hn ((h2 hl).trans h1.symm))];exact h1
theorem ops_nilqE {P:Program} {ops:Array Oper} {Q:List AV→AH→Prop} {o:Oper} {rest:List Oper} {env:List AV} {env':Bool→List AV} {h:AH} {t e u:TypeId} {k z:Nat} {x y:Operand} {a:AV} {α ρ:Type} {row:α→List AV} {L:List α} {f:Bool→Option ρ} {r:ρ} (hg:aG ops o env=some true)
  (ho:o.op=.binOp .eql t x y u) (ht:El P t e k) (hx:yZ env x=some a) (ha:IsSl a z row L) (hy:yZ env y=some .nilsl) (hd:∀ b:Bool,vl o.dst env (.bool b)=some (env' b)) (hF:nilq L f=some r)
  (hk:∀ b,(b=true→L=[])→f b=some r→ym P ops Q rest (env' b) h):ym P ops Q (o::rest) env h:=by
 obtain ⟨h1,h2⟩:=yu hx
 obtain ⟨h3,h4⟩:=yu hy
 obtain ⟨hf,ht'⟩:=nilqF hF
 have key:∀ b,(b=true→L.map row=[])→ym P ops Q rest (env' b) h:=fun b hb=>by
  have hb':b=true→L=[]:=fun h=>by simpa using hb h
  refine hk b hb' ?_
  cases b with
  | false=>exact hf
  | true=>exact ht' (hb' rfl)
 refine qg ?_
 simp only [hg,gwp]
 rcases ha with rfl | ⟨q,rfl⟩
 ·simp only [zN,ho,h1,h3,Bool.and_self,if_true,h2,h4,aNilq,ht.u,rwp]
  rintro v h' ⟨rfl,b,rfl,hb⟩
  rw [wl (hd b)];exact key b hb
 ·simp only [zN,ho,h1,h3,Bool.and_self,if_true,h2,h4,aNilq,ht.u,rwp]
  rintro v h' ⟨rfl,b,rfl,hb⟩
  rw [wl (hd b)];exact key b hb
section
variable {P:Program} {o:Oper} {env:List AV} {h:AH} {α:Type} {row:α→List AV} {L:List α}
theorem yM {t e:TypeId} {x i:Operand} {a:AV} {k:IntKind} {n:Int} {z:Nat} {y:α} (ho:o.op=.indexAddr t x i) (ht:El P t e z) (hx:yZ env x=some a) (hi:yZ env i=some (.int k n)) (ha:IsSl a z row L) (hy:qJ L n=some y) :
  zN P o env h=.ok (.fptr (row y)) h:=by
 obtain ⟨h0,hy⟩:=idxF hy
 refine s_indexAddr ho ht hx hi ?_
 have hi2:(L.map row)[n.toNat]?=some (row y):=by rw [List.getElem?_map,hy];rfl
 rcases ha with rfl | ⟨q,rfl⟩ <;> simp only [aIndexAddr,h0,and_self,if_true,hi2,Option.map_some]
theorem we {t e:TypeId} {x i:Operand} {a:AV} {k:IntKind} {n:Int} {z:Nat} {y:α} {cs:List AV} (ho:o.op=.indexAddr t x i) (ht:El P t e z) (hx:yZ env x=some a) (hi:yZ env i=some (.int k n)) (ha:IsSl a z row L) (hy:qJ L n=some y) (hc:row y=cs) :
  zN P o env h=.ok (.fptr cs) h:=by rw [← hc];exact yM ho ht hx hi ha hy
theorem xM {t e:TypeId} {x i:Operand} {a:AV} {k:IntKind} {n:Int} {z:Nat} (d:α) (ho:o.op=.indexAddr t x i) (ht:El P t e z) (hx:yZ env x=some a) (hi:yZ env i=some (.int k n)) (ha:IsSl a z row L) (hn:0≤n∧n < L.length) :
  zN P o env h=.ok (.fptr (row (L.getD n.toNat d))) h:=by
 refine yM ho ht hx hi ha ?_
 unfold qJ
 rw [if_pos hn.1,List.getD_eq_getElem?_getD,List.getElem?_eq_getElem (by omega)];rfl
theorem s_gidxRowE {t e:TypeId} {x i:Operand} {a:AV} {k:IntKind} {n:Int} {z:Nat} {cs:List AV} (d:α) (ho:o.op=.indexAddr t x i) (ht:El P t e z) (hx:yZ env x=some a) (hi:yZ env i=some (.int k n)) (ha:IsSl a z row L) (hn:0≤n∧n < L.length)
  (hc:row (L.getD n.toNat d)=cs):zN P o env h=.ok (.fptr cs) h:=by rw [← hc];exact xM d ho ht hx hi ha hn
theorem s_idxStr {t:TypeId} {x i:Operand} {s:yg} {k:IntKind} {n:Int} {z:Nat} {b:UInt8} (ho:o.op=.index t x i) (ht:Ty P t .string z) (hx:yZ env x=some (.str s)) (hi:yZ env i=some (.int k n)) (hy:qJ s n=some b) :
  zN P o env h=.ok (.int .u8 b.toNat) h:=by
 obtain ⟨h0,hy⟩:=idxF hy
 refine s_indexStr ho ht hx hi ?_
 simp only [aIndexStr,h0,if_true,hy,Option.map_some]
inductive Bd (env:List AV):Option Operand→Int→Int→Prop
 | none {d:Int}:Bd env none d d
 | some {x:Operand} {k:IntKind} {n d:Int}:yZ env x=some (.int k n)→Bd env (some x) d n
theorem Bd.all {x:Option Operand} {d n:Int} (h:Bd env x d n):x.all yF=true:=by
 cases h with
 | none=>rfl
 | some h=>exact (yu h).1
theorem Bd.ab {x:Option Operand} {d:Nat} {n:Int} (h:Bd env x d n) (h0:0≤n):aBound d (x.map (ev env))=Option.some n.toNat:=by
 cases h with
 | none=>rfl
 | some h=>simp only [Option.map_some,(yu h).2,aBound,if_pos h0]
theorem s_slcSl {t e:TypeId} {x:Operand} {lo hi:Option Operand} {a:AV} {M:List α} {l hh:Int} {z:Nat} (ho:o.op=.slice t x lo hi none) (ht:El P t e z) (hx:yZ env x=some a) (ha:a=.sl z (L.map row) ∨ ∃ q,a=.osl q z (L.map row)∧(hi.isSome=true ∨ q.isSome=true)) (hl:Bd env lo 0 l) (hh':Bd env hi L.length hh)
  (hM:slc L l hh=some M):zN P o env h=.ok (.sl z (M.map row)) h:=by
 obtain ⟨⟨h0,h1,h2⟩,rfl⟩:=slcF hM
 obtain ⟨h3,h4⟩:=yu hx
 obtain ⟨i,h5,h6,_⟩:=ht.i
 have e1:=Bd.ab (d:=0) hl h0
 have e2:=Bd.ab (d:=L.length) hh' (by omega)
 simp only [zN,ho,h3,hl.all,hh'.all,Option.all_none,Bool.and_self,if_true,ht.u,h4,h5,h6,Option.map_none]
 rcases ha with rfl | ⟨q,rfl,hq⟩
 ·simp only [tyfix,if_true,aSlice,aSliceSl,e1,List.length_map,e2,Bool.false_and,Bool.false_eq_true,if_false]
  rw [if_pos (by omega)];simp only [oo,List.map_drop,List.map_take]
 ·simp only [tyfix,if_true,aSlice,aSliceSl,e1,List.length_map,e2]
  rw [if_pos (by omega)]
  have hf:(q.isNone&&(hi.map (ev env)).isNone)=false:=by
   rcases hq with hq | hq
   ·cases hi <;> simp_all
   ·cases q <;> simp_all
  simp only [hf,Bool.false_eq_true,if_false,oo,List.map_drop,List.map_take]
theorem a_app {M:List α} {k:Nat} {q:Option Nat} {id:Nat} {h':AH} (hl:L.length+M.length≤qM) (hg:h.grow q L.length M.length=some (id,h')):aAppend h k (.osl q k (L.map row)) (M.map row)=some (.osl (some id) k ((L++M).map row),h'):=by
 simp only [aAppend,List.length_map]
 by_cases h0:M.length=0
 ·have:M=[]:=List.eq_nil_of_length_eq_zero h0
  subst this
  rw [if_pos (show ([]:List α).length=0 from rfl)]
  cases q with
  | none =>
   simp only [AH.grow,List.length_nil,Nat.add_zero,Option.some.injEq,Prod.mk.injEq] at hg
   obtain ⟨rfl,rfl⟩:=hg
   simp
  | some id' =>
   simp only [AH.grow,List.length_nil,Nat.add_zero] at hg
   split at hg
   ·rename_i ht
    simp only [Option.some.injEq,Prod.mk.injEq] at hg
    obtain ⟨rfl,rfl⟩:=hg
    have:h.toks.set id' L.length=h.toks:=by
     refine List.ext_getElem? fun j=>?_
     rw [List.getElem?_set]
     split
     ·rename_i e;subst e
      rw [ht]
      split
      ·rfl
      ·rename_i hn;rw [List.getElem?_eq_none (by omega)] at ht;cases ht
     ·rfl
    simp [this]
   ·cases hg
 ·rw [if_neg h0,if_pos ⟨trivial,hl⟩,hg];simp
variable {M:List α}
theorem e_appN {c:Call} {x y:Operand} {t u e e':TypeId} {k k' m:Nat} {a b b':AV} {B:List Blk} {T T':List Nat} (ho:o.op=.call c) (hc:c.callee=.builtin .append) (hs:c.args=#[x,y]) (ht:c.argTypes=#[t,u]) (hu:El P t e k)
  (hu':El P u e' k') (hx:yZ env x=some a) (hy:yZ env y=some b) (ha:tyfix P t a=.osl none k (L.map row)) (hb:tyfix P u b=b') (hn:qw k b'=some (M.map row)) (hl:L.length+M.length≤qM) (hm:T.length=m) (hT:T++[(L++M).length]=T') :
  zN P o env (h.ext B T)=.ok (.osl (some (h.toks.length+m)) k ((L++M).map row)) (h.ext B T'):=by
 refine s_append ho hc hs ht hu hu' hx hy ha hb hn (a_app hl ?_)
 subst hT hm
 simp [AH.grow,AH.ext]
theorem e_appT {c:Call} {x y:Operand} {t u e e':TypeId} {k k' j:Nat} {a b b':AV} {B:List Blk} {T T':List Nat} (ho:o.op=.call c) (hc:c.callee=.builtin .append) (hs:c.args=#[x,y]) (ht:c.argTypes=#[t,u]) (hu:El P t e k)
  (hu':El P u e' k') (hx:yZ env x=some a) (hy:yZ env y=some b) (ha:tyfix P t a=.osl (some (h.toks.length+j)) k (L.map row)) (hb:tyfix P u b=b') (hn:qw k b'=some (M.map row)) (hl:L.length+M.length≤qM) (hm:T[j]?=some L.length) (hT:T.set j (L++M).length=T') :
  zN P o env (h.ext B T)=.ok (.osl (some (h.toks.length+j)) k ((L++M).map row)) (h.ext B T'):=by
 refine s_append ho hc hs ht hu hu' hx hy ha hb hn (a_app hl ?_)
 subst hT
 have hg:(h.toks++T)[h.toks.length+j]?=some L.length:=by rw [List.getElem?_append_right (by omega),Nat.add_sub_cancel_left];exact hm
 simp only [AH.grow,AH.ext,hg,if_true]
 rw [List.set_append_right _ _ (by omega),Nat.add_sub_cancel_left,List.length_append]
theorem news_sl {k:Nat}:qw k (.sl k (M.map row))=some (M.map row):=by simp [qw]
theorem news_osl {k:Nat} {q:Option Nat}:qw k (.osl q k (M.map row))=some (M.map row):=by simp [qw]
theorem news_str {s:yg}:qw 1 (.str s)=some (s.map yH):=by simp only [qw,if_true];rfl
theorem e_appST {c:Call} {x y:Operand} {t u e:TypeId} {k k' j:Nat} {a b b':AV} {B:List Blk} {T T':List Nat} (ho:o.op=.call c) (hc:c.callee=.builtin .append) (hs:c.args=#[x,y]) (ht:c.argTypes=#[t,u]) (hu:El P t e k)
  (hu':Ty P u .string k') (hx:yZ env x=some a) (hy:yZ env y=some b) (ha:tyfix P t a=.osl (some (h.toks.length+j)) k (L.map row)) (hb:tyfix P u b=b') (hn:qw k b'=some (M.map row)) (hl:L.length+M.length≤qM) (hm:T[j]?=some L.length) (hT:T.set j (L++M).length=T') :
  zN P o env (h.ext B T)=.ok (.osl (some (h.toks.length+j)) k ((L++M).map row)) (h.ext B T'):=by
 refine s_appendStr ho hc hs ht hu hu' hx hy ha hb hn (a_app hl ?_)
 subst hT
 have hg:(h.toks++T)[h.toks.length+j]?=some L.length:=by rw [List.getElem?_append_right (by omega),Nat.add_sub_cancel_left];exact hm
 simp only [AH.grow,AH.ext,hg,if_true]
 rw [List.set_append_right _ _ (by omega),Nat.add_sub_cancel_left,List.length_append]
end

theorem leL.app {as bs:List AV} {cs:List AV} (k:leL as bs):leL (as++cs) (bs++cs):=fun g vs hv=>by
 have hs:∀ {as:List AV} {vs:List Value},VL g (as++cs) vs→∃ us ws,vs=us++ws∧VL g as us∧VL g cs ws:=by
  intro as
  induction as with
  | nil=>intro vs h;exact ⟨[],vs,rfl,by simp [VL],h⟩
  | cons a r ih =>
   intro vs h
   simp only [List.cons_append,VL] at h
   obtain ⟨v,s,rfl,h1,h2⟩:=h
   obtain ⟨us,ws,rfl,h3,h4⟩:=ih h2
   exact ⟨v::us,ws,rfl,VL.cons h1 h3,h4⟩
 obtain ⟨us,ws,rfl,h1,h2⟩:=hs hv
 exact VL.append (k _ _ h1) h2
theorem leL.pre {as bs:List AV}:∀ {cs:List AV},leL as bs→leL (cs++as) (cs++bs)
 | [],k=>k
 | _::_,k=>leL.eq (leL.pre k)
def keeps:List (Nat×Blk)→List Blk→Prop
 | [],_=>True
 | (j,b)::r,B=>B[j]?=some b∧keeps r B
theorem keeps1 {j:Nat} {b:Blk} {r:List (Nat×Blk)} {B:List Blk} (h:keeps ((j,b)::r) B):B[j]?=some b:=h.1
def lk:List (Nat×List (Nat×Blk))→Nat→List (Nat×Blk)
 | [],_=>[]
 | (m,l)::r,n=>if n=m then l else lk r n
def KeepB (h:AH) (l:List (Nat×Blk)) (x:AH):Prop:=∃ B T,x=h.ext B T∧keeps l B
theorem wC {h:AH} {l:List (Nat×Blk)} {B:List Blk} {T:List Nat} (hk:keeps l B):KeepB h l (h.ext B T):=⟨_,_,rfl,hk⟩
def keepA:List (Nat×List (Nat×Blk))→List Blk→Prop
 | [],_=>True
 | (_,l)::r,B=>keeps l B∧keepA r B
theorem keepA_lk:∀ {l:List (Nat×List (Nat×Blk))} {B:List Blk},keepA l B→∀ n,keeps (lk l n) B
 | [],_,_,_=>trivial
 | (m,l)::r,B,h,n=>by
  simp only [lk]
  split
  ·exact h.1
  ·exact keepA_lk h.2 n
theorem FOk.all {b:Nat} {Ns:List Nat} {G:AH→Prop} {h:AH} (hg:G h):FOk b Ns (fun _=>G) h:=fun _ _ _=>hg
theorem FOk.nil {b:Nat} {F:Nat→AH→Prop} {h:AH}:FOk b [] F h:=fun _ h _=>by simp at h
theorem FOk.cons {b n:Nat} {Ns:List Nat} {F:Nat→AH→Prop} {h:AH} (h1:b.testBit n=true ∨ F n h) (h2:FOk b Ns F h):FOk b (n::Ns) F h:=fun m hm hb=>by
 rcases h1 with h1 | h1
 ·by_cases e:m=n
  ·subst e;rw [h1] at hb;cases hb
  ·exact h2 m (by simpa [e] using hm) hb
 ·by_cases e:m=n
  ·subst e;exact h1
  ·exact h2 m (by simpa [e] using hm) hb
theorem yr {P:Program} {Q:Exit→List AV→AH→Prop} {env:List AV} {h:AH} {B:List Blk} {T:List Nat} {id:Nat} {l:List Oper} (Ns:List Nat) (kf:List (Nat×List (Nat×Blk))) (hB:keepA kf B) (hm:P.follows .mixedOrders=true) (hd:drawOk ⟨l⟩ Ns=true) (hk:yV P ⟨l⟩ Ns (fun n=>KeepB h (lk kf n)) (Q .normal) 0 l env (h.ext B T)) :
  qU P (.region id ⟨l⟩ true) Q env (h.ext B T):=.inl ⟨Ns,fun n=>KeepB h (lk kf n),⟨hm,hd⟩,fun n=>wC (keepA_lk hB n),hk⟩
theorem r_drawnF {P:Program} {Q:Exit→List AV→AH→Prop} {env:List AV} {h:AH} {id:Nat} {l:List Oper} (Ns:List Nat) (F:Nat→AH→Prop) (hF:∀ n,F n h) (hm:P.follows .mixedOrders=true) (hd:drawOk ⟨l⟩ Ns=true) (hk:yV P ⟨l⟩ Ns F (Q .normal) 0 l env h) :
  qU P (.region id ⟨l⟩ true) Q env h:=.inl ⟨Ns,F,⟨hm,hd⟩,hF,hk⟩
theorem yj {h:AH} {L L':List Blk} {M M':List Nat}:(h.ext L M).ext L' M'=h.ext (L++L') (M++M'):=by simp [AH.ext,List.append_assoc]
theorem xD {P:Program} {ops:Array Oper} {Q:List AV→AH→Prop} {o:Oper} {rest:List Oper} {env env':List AV} {h h':AH} {f:FuncId} {args:List AV} {v:AV} (hg:aG ops o env=some true) (ha:zN P o env h=.call f args) (hs:Spec P f args h fun r hh=>r=v∧hh=h')
  (hd:vl o.dst env v=some env') (hk:ym P ops Q rest env' h'):ym P ops Q (o::rest) env h :=
 ops_call hg ha hs fun r h' ⟨e1,e2⟩=>by subst e1;subst e2;rw [wl hd];exact hk
theorem xA {Ns:List Nat} {F:Nat→AH→Prop} {i:Nat} (hN:Ns.contains i=false) {P:Program} {ops:Array Oper} {Q:List AV→AH→Prop} {o:Oper} {rest:List Oper} {env env':List AV} {h h':AH} {f:FuncId} {args:List AV} {v:AV} (hF:FOk ((Region.before ops).getD i 0) Ns F h') (hb:h'.blks=h.blks) (hg:aG ops o env=some true) (ha:zN P o env h=.call f args) (hs:Spec P f args h fun r hh=>r=v∧hh=h')
  (hd:vl o.dst env v=some env') (hk:yV P ops Ns F Q (i+1) rest env' h'):yV P ops Ns F Q i (o::rest) env h :=
 ⟨v,h',.inl ⟨hN,by simp only [AR,hg,ha];exact hs⟩,.inr hb,.inr hF,by rw [wl hd];exact hk⟩
theorem draw_okH {Ns:List Nat} {F:Nat→AH→Prop} {i:Nat} (hN:Ns.contains i=false) {P:Program} {ops:Array Oper} {Q:List AV→AH→Prop} {o:Oper} {rest:List Oper} {env env':List AV} {h h':AH} {v:AV} (hF:FOk ((Region.before ops).getD i 0) Ns F h') (hb:h'.blks=h.blks) (hg:aG ops o env=some true) (ha:zN P o env h=.ok v h') (hd:vl o.dst env v=some env') (hk:yV P ops Ns F Q (i+1) rest env' h') :
  yV P ops Ns F Q i (o::rest) env h:=⟨v,h',.inl ⟨hN,by simp only [AR,hg,ha,and_self]⟩,.inr hb,.inr hF,by rw [wl hd];exact hk⟩
def OwnK (h:AH) (k n:Nat) (R:List (List AV)) (rr:AV) (hh:AH):Prop:=rr=.osl (some h.toks.length) k R∧hh=h.ext [] [n]
theorem own_ext {P:Program} {f:FuncId} {as:List AV} {h:AH} {B:List Blk} {T T':List Nat} {k n m:Nat} {R:List (List AV)} (s:Spec P f as (h.ext B T) (OwnK (h.ext B T) k n R)) (hm:T.length=m) (hT:T++[n]=T') :
  Spec P f as (h.ext B T) (fun rr hh=>rr=.osl (some (h.toks.length+m)) k R∧hh=h.ext B T'):=by
 refine s.mono ?_
 rintro r h' ⟨rfl,rfl⟩
 subst hm hT
 simp [AH.ext,List.append_assoc]
theorem blk_ext2 {h:AH} {B B':List Blk} {T T':List Nat} {j:Nat} {b:Blk} (hj:B[j]?=some b):((h.ext B T).ext B' T').blk (h.blks.length+j)=some b:=by
 rw [yj,wF,List.getElem?_append_left (List.getElem?_eq_some_iff.1 hj).1];exact hj
theorem blk_old {h:AH} {B:List Blk} {T:List Nat} {id:Nat} {b:Blk} (hb:h.blk id=some b):(h.ext B T).blk id=some b:=by
 have hl:id < h.blks.length:=(List.getElem?_eq_some_iff.1 hb).1
 simp only [AH.blk,AH.ext] at hb ⊢
 rw [List.getElem?_append_left hl];exact hb
theorem b_load {P:Program} {o:Oper} {env:List AV} {h:AH} {B:List Blk} {T:List Nat} {t:TypeId} {d:TypeDesc} {k id off:Nat} {x:Operand} {cs:List AV} {v v':AV} (ho:o.op=.load t x) (ht:Ty P t d k) (hx:yZ env x=some (.ptr id off)) (hb:h.blk id=some (.cells cs))
  (hv:ldC (yI d) k off cs=some v) (hf:tyfix P t v=v'):zN P o env (h.ext B T)=.ok v' (h.ext B T):=by
 refine s_load ho ht hx ?_ hf
 simp only [aLoad,blk_old hb]
 exact hv

theorem leV.agg {cs ds:List AV} (k:leL cs ds) (ho:ds.all AV.one=true):leV (.agg cs) (.agg ds):=fun g v hv=>by
 simp only [V] at hv ⊢
 obtain ⟨vs,e,h1⟩:=hv
 exact ⟨vs,e,VA.mk (k _ _ h1.toVL) ho⟩
theorem leV.tup {cs ds:List AV} (k:leL cs ds):leV (.tup cs) (.tup ds):=fun g v hv=>by
 simp only [V] at hv ⊢
 obtain ⟨vs,e,h1⟩:=hv
 exact ⟨vs,e,k _ _ h1⟩
theorem VL.setE {g:Gh}:∀ {as:List AV} {vs:List Value},VL g as vs→∀ (i:Nat) (a:AV),(∀ v,vs[i]?=some v→V g a v)→VL g (as.set i a) vs
 | [],_,h,i,a,_=>by simpa using h
 | _::r,_,h,i,a,hv=>by
  simp only [VL] at h
  obtain ⟨v',s,rfl,h1,h2⟩:=h
  cases i with
  | zero=>simp only [List.set_cons_zero,VL];exact ⟨v',s,rfl,hv v' rfl,h2⟩
  | succ i=>simp only [List.set_cons_succ,VL];exact ⟨v',s,rfl,h1,VL.setE h2 i a (fun v hvi=>hv v (by simpa using hvi))⟩
theorem V.tok {g:Gh} {k n:Nat} {es:List (List AV)} {v:Value} (hn:es.length=n) (hV:V g (.osl none k es) v):V (g.addT ⟨n,none,false⟩) (.osl (some g.τ.length) k es) v:=by
 subst hn
 simp only [V] at hV ⊢
 obtain ⟨a,c,h1,h2,h3,h4,h5⟩:=hV
 refine ⟨a,c,h1,h2,h3,h4.imp id fun ⟨b,o,e,hh⟩=>⟨b,o,e,VE.mono (g.le_addT _) _ _ _ _ hh⟩,⟨es.length,none,false⟩,?_,rfl,Nat.le_refl _,fun _=>.inl h5⟩
 simp only [Gh.addT]
 rw [List.getElem?_append_right (Nat.le_refl _)];simp
theorem wk_tok {α:Type} {row:α→List AV} {L:List α} {hd h:AH} {env env':List AV} {B:List Blk} {T T':List Nat} {d k m:Nat} (he:yZ env (.tmp d)=some (.osl none k (L.map row))) (hm:T.length=m)
  (hE:vl (some d) env (.osl (some (h.toks.length+m)) k (L.map row))=some env') (hT:T++[L.length]=T') :
  wk hd env (h.ext B T) env' (h.ext B T'):=fun _ _ _ _ g1 g vs _ hg r hv=>by
 subst hm hT
 simp only [vl,Option.some.injEq] at hE
 subst hE
 have hlen:h.toks.length+T.length=g.τ.length:=by rw [r.tlen];simp [AH.ext]
 refine ⟨g.addT ⟨L.length,none,false⟩,hg.trans (g.le_addT _),?_,?_⟩
 ·have:=r.addTok ⟨L.length,none,false⟩ (fun _ _ _ h=>by cases h) (fun _ _ h=>by cases h)
  have e:(h.ext B (T++[L.length]))={ (h.ext B T) with toks:=(h.ext B T).toks++[L.length] }:=by simp [AH.ext,List.append_assoc]
  rw [e];exact this
 ·have hv':=hv
  refine ⟨VL.setE (VL.mono (g.le_addT _) _ _ hv) d _ fun v hvi=>?_,fun _ h=>h⟩
  obtain ⟨a,ha,hV⟩:=hv'.getR _ _ hvi
  have he':env[d]?=some (.osl none k (L.map row)):=he
  rw [he'] at ha
  injection ha with ha
  subst ha
  rw [hlen];exact hV.tok (by simp)
theorem Rel.rowsC {B:Nat} {w0 w:World} {g:Gh} {h:AH} (r:Rel B w0 g h w) {i:Nat} {cs cs':List AV} (hk:h.blks[i]?=some (.cells cs)) :
  (∀ (j:Nat) (x:Blk),g.σ[j]?=some none→(h.put i (.cells cs')).blks[j]?=some x→RowB g w x) ∧
  ∀ (a b t k k':Nat) (es es':List (List AV)),(h.put i (.cells cs')).blks[a]?=some (.row t k es)→(h.put i (.cells cs')).blks[b]?=some (.row t k' es')→a=b:=by
 have key:∀ (a t k:Nat) (es:List (List AV)),(h.put i (.cells cs')).blks[a]?=some (.row t k es)→h.blks[a]?=some (.row t k es):=by
  intro a t k es ha
  simp only [AH.put] at ha
  by_cases hij:i=a
  ·subst hij;rw [List.getElem?_set_self (List.getElem?_eq_some_iff.1 hk).1] at ha;cases ha
  ·rw [List.getElem?_set_ne hij] at ha;exact ha
 refine ⟨fun j x hj hx=>?_,fun a b t k k' es es' ha hb=>r.rinj _ _ _ _ _ _ _ (key _ _ _ _ ha) (key _ _ _ _ hb)⟩
 simp only [AH.put] at hx
 by_cases hij:i=j
 ·subst hij;exact (r.row i _ hj hk).elim
 ·rw [List.getElem?_set_ne hij] at hx;exact r.row j x hj hx
theorem wk_tokB {α:Type} {row:α→List AV} {L:List α} {hd h:AH} {env:List AV} {B B':List Blk} {T T':List Nat} {j off k m:Nat} {cs cs':List AV} (hj:B[j]?=some (.cells cs)) (he:yZ cs (.tmp off)=some (.osl none k (L.map row))) (hm:T.length=m)
  (hE:vl (some off) cs (.osl (some (h.toks.length+m)) k (L.map row))=some cs') (hB:B.set j (.cells cs')=B') (hT:T++[L.length]=T') :
  wk hd env (h.ext B T) env (h.ext B' T'):=fun _ _ w _ g1 g vs _ hg r hv=>by
 subst hm hT hB
 simp only [vl,Option.some.injEq] at hE
 subst hE
 have hlen:h.toks.length+T.length=g.τ.length:=by rw [r.tlen];simp [AH.ext]
 refine ⟨g.addT ⟨L.length,none,false⟩,hg.trans (g.le_addT _),?_,VL.mono (g.le_addT _) _ _ hv,fun _ h=>h⟩
 have r1:=r.addTok ⟨L.length,none,false⟩ (fun _ _ _ h=>by cases h) (fun _ _ h=>by cases h)
 have hk:({ (h.ext B T) with toks:=(h.ext B T).toks++[L.length] }:AH).blks[h.blks.length+j]?=some (.cells cs):=by
  simp only [AH.ext];rw [List.getElem?_append_right (by omega),Nat.add_sub_cancel_left];exact hj
 have e:(h.ext (B.set j (.cells (cs.set off (.osl (some (h.toks.length+T.length)) k (L.map row))))) (T++[L.length])) =
   ({ (h.ext B T) with toks:=(h.ext B T).toks++[L.length] }:AH).put (h.blks.length+j) (.cells (cs.set off (.osl (some (h.toks.length+T.length)) k (L.map row)))):=by
  simp only [AH.ext,AH.put,List.append_assoc]
  rw [List.set_append_right _ _ (by omega),Nat.add_sub_cancel_left]
 rw [e]
 -- what the cells were ahead of the token
 have hk0:(h.ext B T).blks[h.blks.length+j]?=some (.cells cs):=by
  simp only [AH.ext];rw [List.getElem?_append_right (by omega),Nat.add_sub_cancel_left];exact hj
 obtain ⟨c,hc⟩:∃ c:Nat,g.σ[h.blks.length+j]?=some (some c):=by
  have:h.blks.length+j < g.σ.length:=by rw [r.slen];simp only [AH.ext,List.length_append];have:=(List.getElem?_eq_some_iff.1 hj).1;omega
  rcases hc:g.σ[h.blks.length+j] with _ | c
  ·exact (r.row _ _ (by rw [List.getElem?_eq_getElem this,hc]) hk0).elim
  ·exact ⟨c,by rw [List.getElem?_eq_getElem this,hc]⟩
 obtain ⟨_,_,⟨us,t,h3,h4⟩,_⟩:=r.blk _ c _ hc hk0
 have hset:VA (g.addT ⟨L.length,none,false⟩) (cs.set off (.osl (some (h.toks.length+T.length)) k (L.map row))) us.toList:=by
  have h5:=h4.toVL
  refine VA.mk (VL.setE (VL.mono (g.le_addT _) _ _ h5) off _ fun v hvi=>?_) ?_
  ·obtain ⟨a,ha,hV⟩:=h5.getR _ _ hvi
   have he':cs[off]?=some (.osl none k (L.map row)):=he
   rw [he'] at ha
   injection ha with ha
   subst ha
   rw [hlen];exact hV.tok (by simp)
  ·rw [List.all_eq_true]
   intro a ha
   rcases List.mem_or_eq_of_mem_set ha with ha | rfl
   ·have:=h4.ones;rw [List.all_eq_true] at this;exact this a ha
   ·rfl
 -- one block alone: the same cell
 refine ⟨r1.below,r1.bsz,r1.phi,by simp [AH.put,r1.slen],fun i c' q hc' hq=>?_,r1.tlen,r1.tok,r1.sinj,r1.tinj,r1.sep,r1.dfr,(r1.rowsC hk).1,(r1.rowsC hk).2,r1.nb,r1.ob⟩
 simp only [AH.put] at hq
 by_cases hij:h.blks.length+j=i
 ·subst hij
  rw [List.getElem?_set_self (List.getElem?_eq_some_iff.1 hk).1] at hq
  injection hq with hq;subst hq
  obtain ⟨h6,h7,_,h9⟩:=r1.blk _ c' _ hc' hk
  have:c'=c:=by
   have:g.σ[h.blks.length+j]?=some (some c'):=hc'
   rw [hc] at this;injection this with this;injection this with this;exact this.symm
  subst this
  exact ⟨h6,h7,⟨us,t,h3,hset⟩,fun _=>h9 (by simp)⟩
 ·rw [List.getElem?_set_ne hij] at hq
  exact r1.blk i c' q hc' hq
mutual
theorem AV.low_up {n n' m m':Nat} (hn:n≤n') (h:m≤m'):∀ a:AV,a.low n m=true→a.low n' m'=true
 | .bool _,_ | .int _ _,_ | .str _,_ | .nilp,_ | .nilm,_ | .nilf,_ | .nili,_ | .nilsl,_ | .fptr _,_ | .sl _ _,_ | .glob _,_ | .any,_ | .opq,_ | .bsl _ _,_ | .nsl _ _,_ | .gsl _ _,_ | .gptr _,_=>rfl
 | .osl none _ _,_=>rfl
 | .osl (some t) _ _,hl=>by simp only [AV.low,decide_eq_true_eq] at hl ⊢;omega
 | .ptr _ _,hl=>by simp only [AV.low,decide_eq_true_eq] at hl ⊢;omega
 | .msl _ _ _ _,hl=>by simp only [AV.low,decide_eq_true_eq] at hl ⊢;omega
 | .rsl _ _ _ _,hl=>by simp only [AV.low,decide_eq_true_eq] at hl ⊢;omega
 | .rsuf _ _ _ _ _,hl=>by simp only [AV.low,decide_eq_true_eq] at hl ⊢;omega
 | .rptr _ _ _ _ _,hl=>by simp only [AV.low,decide_eq_true_eq] at hl ⊢;omega
 | .map _,hl=>by simp only [AV.low,decide_eq_true_eq] at hl ⊢;omega
 | .yld _,hl=>by simp only [AV.low,decide_eq_true_eq] at hl ⊢;omega
 | .fn _ a b,hl=>by
  simp only [AV.low,Bool.and_eq_true] at hl ⊢
  exact ⟨xy hn h a hl.1,xy hn h b hl.2⟩
 | .iface _ v,hl=>by simp only [AV.low] at hl ⊢;exact AV.low_up hn h v hl
 | .agg cs,hl=>by simp only [AV.low] at hl ⊢;exact xy hn h cs hl
 | .tup cs,hl=>by simp only [AV.low] at hl ⊢;exact xy hn h cs hl
theorem xy {n n' m m':Nat} (hn:n≤n') (h:m≤m'):∀ l:List AV,z9 n m l=true→z9 n' m' l=true
 | [],_=>rfl
 | a::r,hl=>by
  simp only [z9,Bool.and_eq_true] at hl ⊢
  exact ⟨AV.low_up hn h a hl.1,xy hn h r hl.2⟩
end
theorem wk_cutm {h:AH} {env:List AV} {L:List Blk} {M M1:List Nat} (m:Nat) (hl:z9 h.blks.length (h.toks.length+m) env=true) (hM:M.take m=M1):wk h env (h.ext L M) env (h.ext [] M1):=fun _ _ _ _ g1 g vs r1 hg r hv=>by
 subst hM
 refine ⟨g.cut h.blks.length (h.toks.length+m),Gh.le_cut2 hg (by rw [r1.slen];exact Nat.le_refl _) (by rw [r1.tlen];omega),?_,VL.cut _ _ hl hv,fun _ h=>h⟩
 have e:(h.ext L M).cut h.blks.length (h.toks.length+m)=h.ext [] (M.take m):=by
  simp [AH.cut,AH.ext,List.take_append]
  rw [List.take_of_length_le (by omega)]
 have:=r.cut h.blks.length (h.toks.length+m) (fun i k hi hk=>?_)
 ·rw [e] at this;exact this
 ·have hi':i < g1.σ.length:=by rw [r1.slen];exact hi
  simp only [AH.ext] at hk
  rw [List.getElem?_append_left hi] at hk
  have:=r1.isLow hk
  rw [r1.slen,r1.tlen] at this
  exact Blk.low_mono (by omega) _ this
theorem fin_own {h:AH} {B:List Blk} {T:List Nat} {K:AV→AH→Prop} {k n:Nat} {R:List (List AV)} (hk:K (.osl (some h.toks.length) k R) (h.ext [] [n])):finK h K (.osl (some (h.toks.length+0)) k R) (h.ext B (n::T)) :=
 fin_wk (wk_cutm 1 (by simp [z9,AV.low]) rfl) hk
theorem fin_own0 {α:Type} {row:α→List AV} {L:List α} {h:AH} {B:List Blk} {T:List Nat} {K:AV→AH→Prop} {k:Nat} (hk:K (.osl (some h.toks.length) k (L.map row)) (h.ext [] [L.length])):finK h K (.osl none k (L.map row)) (h.ext B T) :=
 fin_wk ((wk_cutm (M1:=[]) 0 (by simp [z9,AV.low]) rfl).trans (wk_tok (d:=0) (m:=0) rfl rfl rfl rfl)) hk
theorem wD {h:AH} {L0 L1 L':List Blk} {M0 M1 M':List Nat} {env:List AV} (hl:z9 (h.blks.length+L0.length) (h.toks.length+M0.length) env=true) (hL:L'.take L0.length=L1) (hM:M'.take M0.length=M1)
  (hb:L1.all (fun b=>b.low (h.blks.length+L0.length) (h.toks.length+M0.length))=true):wk (h.ext L0 M0) env (h.ext L' M') env (h.ext L1 M1) :=
 wk_ext2 hl hL hM fun _ k hk=>.inr (by rw [List.all_eq_true] at hb;exact hb k (List.mem_of_getElem? hk))
theorem r_condR {P:Program} {Q:Exit→List AV→AH→Prop} {env:List AV} {h:AH} {ρ σ:Type} {f:Nat→Nat→σ→Option (Out ρ σ)} {m:Int} {i:Nat} {s:σ} {rest:σ→Option ρ} {o0:ρ} {c:Operand} {t e:Code} (hc:yZ env c=some (.bool (decide ((i:Int) < m))))
  (hF:lp (zV f ((List.range m.toNat).drop i) i s) rest=some o0)
  (ht:∀ x o1,i < (List.range m.toNat).length→(i:Int) < m→x=i→f i x s=some o1→konL f (List.range m.toNat) i rest o1=some o0→qU P t Q env h) (he:rest s=some o0→qU P e Q env h):qU P (.cond c t e) Q env h:=by
 refine r_cond hc (fun hb=>?_) (fun hb=>?_)
 ·have hl:=of_decide_eq_true hb
  have hl':i < (List.range m.toNat).length:=by simp;omega
  obtain ⟨x,o1,h1,h2,h3⟩:=loopL_step hF hl'
  refine ht x o1 hl' hl ?_ h2 h3
  rw [List.getElem?_eq_getElem hl'] at h1
  simp at h1;exact h1.symm
 ·have hl:=of_decide_eq_false hb
  exact he (loopL_end hF (by simp;omega))
theorem ops_nextF {P:Program} {ops:Array Oper} {Q:List AV→AH→Prop} {o:Oper} {rest:List Oper} {env e1 e2:List AV} {h:AH} {L:List Blk} {M:List Nat} {x:Operand} {s:List UInt8} {j pos:Nat} {ρ:Type} {A C:Option ρ} {r:ρ} (hg:aG ops o env=some true) (ho:o.op=.next x true)
  (hx:yZ env x=some (.ptr (h.blks.length+j) 0)) (hj:L[j]?=some (.siter s pos)) (hd1:vl o.dst env (.tup [.bool true,.int .i64 pos,.int .i32 (dec s pos).1])=some e1) (hd2:vl o.dst env (.tup [.bool false])=some e2)
  (hF:(if pos < s.length then A else C)=some r) (hk1:pos < s.length→A=some r→ym P ops Q rest e1 (h.ext (L.set j (.siter s (pos+(dec s pos).2))) M)) (hk2:C=some r→ym P ops Q rest e2 (h.ext L M)):ym P ops Q (o::rest) env (h.ext L M) :=
 ops_next hg ho hx hj hd1 hd2 (fun hp=>hk1 hp (by rw [if_pos hp] at hF;exact hF)) (fun hp=>hk2 (by rw [if_neg (by omega)] at hF;exact hF))
open Classical in
noncomputable def anyN {ρ:Type} (g:Nat→Option ρ):Option ρ:=if h:∃ r N,∀ n,N≤n→g n=some r then some (Classical.choose h) else none
theorem anyN_is {ρ:Type} {g:Nat→Option ρ} {r:ρ} (h:anyN g=some r):∃ n,g n=some r:=by
 unfold anyN at h
 split at h
 ·rename_i hx
  injection h with h;subst h
  obtain ⟨N,hN⟩:=Classical.choose_spec hx
  exact ⟨N,hN N (Nat.le_refl _)⟩
 ·cases h
theorem anyN_of {ρ:Type} {g:Nat→Option ρ} {r:ρ} (N:Nat) (h:∀ n,N≤n→g n=some r):anyN g=some r:=by
 have hx:∃ r N,∀ n,N≤n→g n=some r:=⟨r,N,h⟩
 unfold anyN
 rw [dif_pos hx]
 obtain ⟨M,hM⟩:=Classical.choose_spec hx
 have h1:=hM (max N M) (Nat.le_max_right _ _)
 rw [h (max N M) (Nat.le_max_left _ _)] at h1
 exact h1.symm
theorem Rel.beyond {B:Nat} {w0 w w':World} {g:Gh} {h:AH} (r:Rel B w0 g h w) (hb:RowKit.Below w.heap.size w w'):Rel B w0 g h w' :=
 ⟨r.below.trans (hb.mono r.bsz),Nat.le_trans r.bsz hb.size,fun b j v e=>(hb.cell (p:=⟨b,j,none⟩) (r.phi_lt e)).trans (r.phi b j v e),r.slen,
   fun i c k hc hk=>by
     obtain ⟨h1,h2,h3,h4⟩:=r.blk i c k hc hk
     exact ⟨h1,Nat.lt_of_lt_of_le h2 hb.size,h3.mono (Gh.le.refl g) (hb.block c h2),h4⟩,r.tlen,
   fun i t ht=>by
     obtain ⟨h1,h2⟩:=r.tok i t ht
     exact ⟨h1,fun b l e hl=>(h2 b l e hl).mono hb.size (hb.block b (h2 b l e hl).lt) fun _ _=>rfl⟩,r.sinj,r.tinj,r.sep,fun c hc=>⟨(r.dfr c hc).1,(hb.block c (r.dfr_lt hc)).trans (r.dfr c hc).2.1,(r.dfr c hc).2.2⟩,
   fun i k hi hk=>(r.row i k hi hk).mono (Gh.le.refl g) (fun _ _ h _=>h) (fun i t b x ht _ hl=>⟨hb.block b ((r.tok i t ht).2 b x.1 x.2 hl).lt,fun _=>rfl⟩),r.rinj,
   fun b x hx=>(r.nb b x hx).mono fun _ hl ha=>⟨hb.block b hl,ha,fun h=>h⟩,fun b hx=>⟨Nat.lt_of_lt_of_le (r.ob b hx).1 hb.size,(r.ob b hx).2⟩⟩
end Go.Vv
