/- Calls walked in place: blocks are let go, rows are moved, the heap behind is told by a state. -/
import Derived.Test.YtdodjocbjapaeaaGreatVvRb
namespace Go.Vv
open Go Go.RowKit

inductive KillL:List Blk→List Blk→Prop
 | nil:KillL [] []
 | keep {x:Blk} {a b:List Blk} (k:KillL a b):KillL (x::a) (x::b)
 | dead {x:Blk} {a b:List Blk} (k:KillL a b):KillL (x::a) (.dead::b)
theorem KillL.len {a b:List Blk} (k:KillL a b):b.length=a.length:=by induction k <;> simp_all
theorem KillL.get {a b:List Blk} (k:KillL a b):∀ (j:Nat) (x:Blk),b[j]?=some x→x=.dead ∨ a[j]?=some x:=by
 induction k with
 | nil=>intro j x h;simp at h
 | keep _ ih =>
  intro j x h;cases j with
  | zero=>right;simpa using h
  | succ j=>simpa using ih j x (by simpa using h)
 | dead _ ih =>
  intro j x h;cases j with
  | zero=>left;simpa using h.symm
  | succ j=>simpa using ih j x (by simpa using h)
theorem Rel.let_go {B:Nat} {w0 w:World} {g:Gh} {h:AH} (r:Rel B w0 g h w) {bs:List Blk} (hl:bs.length=h.blks.length) (hk:∀ (j:Nat) (b:Blk),bs[j]?=some b→b=.dead ∨ h.blks[j]?=some b):Rel B w0 g { h with blks:=bs } w:=by
 have old:∀ (j:Nat) (b:Blk),bs[j]?=some b→∃ b0,h.blks[j]?=some b0:=fun j b hj=>by
  have:j < h.blks.length:=by rw [← hl];exact (List.getElem?_eq_some_iff.1 hj).1
  exact ⟨_,List.getElem?_eq_getElem this⟩
 refine ⟨r.below,r.bsz,r.phi,by rw [r.slen];exact hl.symm,fun i c k hc hb=>?_,r.tlen,r.tok,r.sinj,r.tinj,r.sep,r.dfr,fun i k hi hb=>?_,fun i j t k k' es es' hi hj=>?_⟩
 ·rcases hk i k hb with rfl | h0
  ·obtain ⟨b0,hb0⟩:=old i _ hb;obtain ⟨h1,h2,_,_⟩:=r.blk i c b0 hc hb0;exact ⟨h1,h2,trivial,fun h=>absurd rfl h⟩
  ·exact r.blk i c k hc h0
 ·rcases hk i k hb with rfl | h0
  ·trivial
  ·exact r.row i k hi h0
 ·rcases hk i _ hi with h1 | h1
  ·cases h1
  ·rcases hk j _ hj with h2 | h2
   ·cases h2
   ·exact r.rinj _ _ _ _ _ _ _ h1 h2
theorem swk_kill {h:AH} {env:List AV} {B B':List Blk} {T:List Nat} (k:KillL B B'):swk env (h.ext B T) env (h.ext B' T):=fun _ _ w g vs r hv=>by
 refine ⟨g,Gh.le.refl g,?_,hv⟩;refine r.let_go (bs:=h.blks++B') (by simp [AH.ext,k.len]) fun j b hj=>?_;rcases Nat.lt_or_ge j h.blks.length with hl | hl
 ·right;simp only [AH.ext];rw [List.getElem?_append_left hl] at hj ⊢;exact hj
 ·rw [List.getElem?_append_right hl] at hj;rcases k.get _ _ hj with h1 | h1
  ·exact .inl h1
  ·right;simp only [AH.ext];rw [List.getElem?_append_right hl];exact h1
theorem swk_padB {h:AH} {env:List AV} {B B':List Blk} {T:List Nat} (hB:B++[.dead]=B'):swk env (h.ext B T) env (h.ext B' T):=fun _ _ w g vs r hv=>by
 subst hB;have r1:=r.adoptN .dead trivial (fun _ _ _ e=>by cases e);have e:(h.ext B T).new .dead=h.ext (B++[.dead]) T:=by simp [AH.ext,AH.new,List.append_assoc]
 rw [e] at r1;exact ⟨_,Gh.le_addS _ none,r1,VL.mono (Gh.le_addS _ none) _ _ hv⟩
theorem swk_padT {h:AH} {env:List AV} {B:List Blk} {T T':List Nat} {n:Nat} (hT:T++[n]=T'):swk env (h.ext B T) env (h.ext B T'):=fun _ _ w g vs r hv=>by
 subst hT;have r1:=r.addTok ⟨n,none,false⟩ (fun _ _ _ e=>by cases e) (fun _ _ e=>by cases e);have e:({ (h.ext B T) with toks:=(h.ext B T).toks++[n] }:AH)=h.ext B (T++[n]):=by simp [AH.ext,List.append_assoc]
 rw [e] at r1;exact ⟨_,Gh.le_addT _ _,r1,VL.mono (Gh.le_addT _ _) _ _ hv⟩
theorem swk_move {h:AH} {env env':List AV} {B B':List Blk} {T T':List Nat} {d j i k n n2 b' t':Nat} {es:List (List AV)} (he:z7 env (.tmp d)=some (.rsl (h.blks.length+j) (h.toks.length+i) k n)) (hb:B[j]?=some (.row (h.toks.length+i) k es)) (hn:es.length=n) (hn2:n=n2)
  (hbl:B.length=b') (htl:T.length=t') (hE:x9 (some d) env (.rsl (h.blks.length+b') (h.toks.length+t') k n2)=some env') (hB:B.set j .dead++[.row (h.toks.length+t') k es]=B') (hT:T.set i (n2+1)++[n2]=T') :
  swk env (h.ext B T) env' (h.ext B' T'):=fun _ _ w g vs r hv=>by
 subst hn2 hn hbl htl hB hT;simp only [x9,Option.some.injEq] at hE;subst hE;have hd:d < env.length:=(List.getElem?_eq_some_iff.1 he).1;obtain ⟨v,hvd,hV⟩:=hv.get d _ he;have hb':(h.ext B T).blk (h.blks.length+j)=some (.row (h.toks.length+i) k es):=by rw [zX];exact hb
 have hV2:=hV;simp only [V] at hV2;obtain ⟨a,c,rfl,_⟩:=hV2;obtain ⟨g',h1,h2,h3⟩:=r.shrink (n:=es.length) (a':=a) hb' (Nat.le_refl _) (.inl rfl) hV;have e:(h.ext B T).shr (h.blks.length+j) (h.toks.length+i) k es.length es=h.ext (B.set j .dead++[.row (h.toks.length+T.length) k es]) (T.set i (es.length+1)++[es.length]):=by
  simp only [AH.shr,AH.ext,AH.put,AH.new,AH.mk.injEq,List.length_append];refine ⟨?_,?_⟩
  ·rw [List.set_append_right _ _ (by omega),Nat.add_sub_cancel_left,List.take_of_length_le (Nat.le_refl _)];simp
  ·rw [List.set_append_right _ _ (by omega),Nat.add_sub_cancel_left];simp
 rw [e] at h2;refine ⟨g',h1,h2,VL.setE (VL.mono h1 _ _ hv) d _ fun u hu=>?_⟩;rw [hvd] at hu;injection hu with hu;subst hu;have e1:(h.ext B T).blks.length=h.blks.length+B.length:=by simp [AH.ext]
 have e2:(h.ext B T).toks.length=h.toks.length+T.length:=by simp [AH.ext]
 rw [e1,e2] at h3;exact h3

theorem swk_moveB {h:AH} {env:List AV} {B B':List Blk} {T T':List Nat} {jb o j i k n n2 b' t':Nat} {es:List (List AV)} {cs cs':List AV} (hc:B[jb]?=some (.cells cs)) (hco:cs[o]?=some (.rsl (h.blks.length+j) (h.toks.length+i) k n)) (hb:B[j]?=some (.row (h.toks.length+i) k es)) (hn:es.length=n) (hn2:n=n2)
  (hbl:B.length=b') (htl:T.length=t') (hcs:cs.set o (.rsl (h.blks.length+b') (h.toks.length+t') k n2)=cs') (hB:(B.set j .dead).set jb (.cells cs')++[.row (h.toks.length+t') k es]=B') (hT:T.set i (n2+1)++[n2]=T') :
  swk env (h.ext B T) env (h.ext B' T'):=fun _ _ w g vs r hv=>by
 subst hn2 hn hbl htl hcs hB hT;have hb':(h.ext B T).blk (h.blks.length+j)=some (.row (h.toks.length+i) k es):=by rw [zX];exact hb
 have hc':(h.ext B T).blks[h.blks.length+jb]?=some (.cells cs):=by
  simp only [AH.ext];rw [List.getElem?_append_right (by omega),Nat.add_sub_cancel_left];exact hc
 have hne:j ≠ jb:=by rintro rfl;rw [hb] at hc;cases hc
 have hjb:jb < B.length:=(List.getElem?_eq_some_iff.1 hc).1;have hsl:h.blks.length+jb < g.σ.length:=by rw [r.slen];exact (List.getElem?_eq_some_iff.1 hc').1
 obtain ⟨x,hx⟩:∃ x,g.σ[h.blks.length+jb]?=some x:=⟨_,List.getElem?_eq_getElem hsl⟩
 cases x with
 | none=>exact (r.row _ _ hx hc').elim
 | some c =>
  obtain ⟨_,_,⟨us,t,k1,k2⟩,_⟩:=r.blk _ c _ hx hc';obtain ⟨v,hvd,hV⟩:=k2.toVL.get o _ hco;have hV2:=hV;simp only [V] at hV2;obtain ⟨a,cc,rfl,_⟩:=hV2;obtain ⟨g',hle,r',h3⟩:=r.shrink (n:=es.length) (a':=a) hb' (Nat.le_refl _) (.inl rfl) hV;have e:(h.ext B T).shr (h.blks.length+j) (h.toks.length+i) k es.length es=h.ext (B.set j .dead++[.row (h.toks.length+T.length) k es]) (T.set i (es.length+1)++[es.length]):=by
   simp only [AH.shr,AH.ext,AH.put,AH.new,AH.mk.injEq,List.length_append];refine ⟨?_,?_⟩
   ·rw [List.set_append_right _ _ (by omega),Nat.add_sub_cancel_left,List.take_of_length_le (Nat.le_refl _)];simp
   ·rw [List.set_append_right _ _ (by omega),Nat.add_sub_cancel_left];simp
  rw [e] at r';have e1:(h.ext B T).blks.length=h.blks.length+B.length:=by simp [AH.ext]
  have e2:(h.ext B T).toks.length=h.toks.length+T.length:=by simp [AH.ext]
  rw [e1,e2] at h3;have hk:(h.ext (B.set j .dead++[.row (h.toks.length+T.length) k es]) (T.set i (es.length+1)++[es.length])).blks[h.blks.length+jb]?=some (.cells cs):=by
   simp only [AH.ext];rw [List.getElem?_append_right (by omega),Nat.add_sub_cancel_left,List.getElem?_append_left (by rw [List.length_set];exact hjb),List.getElem?_set_ne hne];exact hc
  have hx':=hle.sig _ _ hx;have hva:VA g' (cs.set o (.rsl (h.blks.length+B.length) (h.toks.length+T.length) k es.length)) us.toList:=VA.mk (VL.setE (VL.mono hle _ _ k2.toVL) o _ fun u hu=>by
   rw [hvd] at hu;injection hu with hu;subst hu;exact h3) (by
   rw [List.all_eq_true];intro a ha;rcases List.mem_or_eq_of_mem_set ha with ha | rfl
   ·have:=k2.ones;rw [List.all_eq_true] at this;exact this a ha
   ·rfl)
  have r2:=r'.putObj (k':=.cells (cs.set o (.rsl (h.blks.length+B.length) (h.toks.length+T.length) k es.length))) hx' hk (by simp) rfl rfl rfl rfl (fun _ _=>rfl) ⟨us,t,k1,hva⟩;have e3:(h.ext (B.set j .dead++[.row (h.toks.length+T.length) k es]) (T.set i (es.length+1)++[es.length])).put (h.blks.length+jb) (.cells (cs.set o (.rsl (h.blks.length+B.length) (h.toks.length+T.length) k es.length)))=h.ext ((B.set j .dead).set jb (.cells (cs.set o (.rsl (h.blks.length+B.length) (h.toks.length+T.length) k es.length)))++[.row (h.toks.length+T.length) k es]) (T.set i (es.length+1)++[es.length]):=by
   simp only [AH.ext,AH.put,AH.mk.injEq,and_true];rw [List.set_append_right _ _ (by omega),Nat.add_sub_cancel_left,List.set_append_left _ _ (by rw [List.length_set];exact hjb)]
  rw [e3] at r2;exact ⟨g',hle,r2,VL.mono hle _ _ hv⟩

theorem ops_inl {P:Program} {ops:Array Oper} {Q:List AV→AH→Prop} {o:Oper} {rest:List Oper} {env env':List AV} {h:AH} {f:FuncId} {args:List AV} {X:Type} {v:AV} {H':X→AH} (hg:aG ops o env=some true) (ha:zp P o env h=.call f args)
  (hs:Spec P f args h fun r hh=>r=v∧∃ x,hh=H' x) (hd:x9 o.dst env v=some env') (hk:∀ x,zB P ops Q rest env' (H' x)):zB P ops Q (o::rest) env h :=
 ops_call hg ha hs fun r h' ⟨e1,x,e2⟩=>by subst e1;subst e2;rw [y6 hd];exact hk x
theorem draw_callA {P:Program} {ops:Array Oper} {Ns:List Nat} {F:Nat→AH→Prop} {Q:List AV→AH→Prop} {i:Nat} {o:Oper} {rest:List Oper} {env env':List AV} {h h':AH} {f:FuncId} {args:List AV} {v:AV} (hc:anch ops Ns i=true) (hN:Ns.contains i=false) (hF:FOk ((Region.before ops).getD i 0) Ns F h') (hg:aG ops o env=some true) (ha:zp P o env h=.call f args) (hs:Spec P f args h fun r hh=>r=v∧hh=h')
  (hd:x9 o.dst env v=some env') (hk:zP P ops Ns F Q (i+1) rest env' h'):zP P ops Ns F Q i (o::rest) env h :=
 ⟨v,h',.inl ⟨hN,by simp only [AR,hg,ha];exact hs⟩,.inl hc,.inr hF,by rw [y6 hd];exact hk⟩
theorem iteF {ρ:Type} {c:Prop} [Decidable c] {a b:Option ρ} {res:ρ} {G:Prop} (hF:(if c then a else b)=some res) (h1:c→a=some res→G) (h2:¬ c→b=some res→G):G:=by
 by_cases h:c
 ·rw [if_pos h] at hF;exact h1 h hF
 ·rw [if_neg h] at hF;exact h2 h hF

section
variable {P:Program} {o:Oper} {env:List AV} {h:AH} {L:List Blk} {M:List Nat} {t kt et:TypeId} {x y z:Operand} {j:Nat} {es:List (AV×AV)} {c:Nat}
theorem e_insF {B:List Blk} {kv a:AV} (ho:o.op=.insert t x y z) (ht:P.underlying t=some (.map kt et)) (hkk:yJ P kt kv kv=some true) (hx:z7 env x=some (.map (h.blks.length+j))) (hj:L[j]?=some (.mapo es c)) (hy:z7 env y=some kv) (hz:z7 env z=some a)
  (hf:qD P kt kv es 0=some none) (hB:L.set j (.mapo (es++[(kv,a.zcl)]) c)=B):wI P o env (h.ext L M)=some [(aundef,h.ext B M)]:=by
 obtain ⟨h1,h2⟩:=zN hx;obtain ⟨h3,h4⟩:=zN hy;obtain ⟨h5,h6⟩:=zN hz;subst hB;simp only [wI,ho,zp,h1,h2,h3,h4,h5,h6,ht,Bool.and_self,if_true,aMapPut,hkk,zX,hj,hf,oh,qx]
theorem e_lookF {κ:IntKind} {kn n:Int} {i:Nat} {v:AV} {ok:Bool} (ho:o.op=.lookup t x y ok) (ht:P.underlying t=some (.map kt et)) (hk:P.underlying kt=some (.int κ)) (hx:z7 env x=some (.map (h.blks.length+j))) (hj:L[j]?=some (.mapo es c)) (hy:z7 env y=some (.int κ kn)) (hn:kn=n)
  (hf:qD P kt (.int κ n) es 0=some (some (i,v))):zp P o env (h.ext L M)=.ok (withOk ok v true) (h.ext L M):=by
 obtain ⟨h1,h2⟩:=zN hx;obtain ⟨h3,h4⟩:=zN hy;subst hn;have hkk:yJ P kt (.int κ kn) (.int κ kn)=some true:=by simp [yJ,hk,aEq1]
 simp only [zp,ho,h1,h2,h3,h4,ht,Bool.and_self,if_true,aLookup,hkk,zX,hj,hf,oo]
theorem e_lookN {κ:IntKind} {kn:Int} {d:AV} {ok:Bool} (ho:o.op=.lookup t x y ok) (ht:P.underlying t=some (.map kt et)) (hk:P.underlying kt=some (.int κ)) (hx:z7 env x=some (.map (h.blks.length+j))) (hj:L[j]?=some (.mapo es c)) (hy:z7 env y=some (.int κ kn))
  (hz:qX P et=some d) (hf:qD P kt (.int κ kn) es 0=some none):zp P o env (h.ext L M)=.ok (withOk ok d false) (h.ext L M):=by
 obtain ⟨h1,h2⟩:=zN hx;obtain ⟨h3,h4⟩:=zN hy;have hkk:yJ P kt (.int κ kn) (.int κ kn)=some true:=by simp [yJ,hk,aEq1]
 simp only [zp,ho,h1,h2,h3,h4,ht,Bool.and_self,if_true,aLookup,hkk,zX,hj,hf,hz,oo]
end
theorem wj {P:Program} {kt:TypeId} {k:AV} {i:Nat}:qD P kt k [] i=some none:=rfl
theorem qC {P:Program} {kt:TypeId} {κ:IntKind} {n:Int} {v:AV} {es:List (AV×AV)} {i:Nat} (hk:P.underlying kt=some (.int κ)):qD P kt (.int κ n) ((.int κ n,v)::es) i=some (some (i,v)):=by
 have:yJ P kt (.int κ n) (.int κ n)=some true:=by simp [yJ,hk,aEq1]
 simp only [qD,this]
theorem zC {P:Program} {kt:TypeId} {κ:IntKind} {kn n:Int} {v:AV} {es:List (AV×AV)} {i:Nat} {r:Option (Nat×AV)} (hk:P.underlying kt=some (.int κ)) (hn:¬ kn=n) (hf:qD P kt (.int κ kn) es (i+1)=some r):qD P kt (.int κ kn) ((.int κ n,v)::es) i=some r:=by
 have:yJ P kt (.int κ kn) (.int κ n)=some false:=by simp [yJ,hk,aEq1,hn]
 simp only [qD,this,hf]
theorem qB {P:Program} {kt:TypeId} {κ:IntKind} {n:Int} (hk:P.underlying kt=some (.int κ)):yJ P kt (.int κ n) (.int κ n)=some true:=by simp [yJ,hk,aEq1]

section
variable {α:Type} {row:α→List AV} {L:List α} {k:Nat} {P:Program} {o:Oper} {env:List AV} {h:AH}
theorem e_idxS {t e:TypeId} {x i:Operand} {id q n p:Nat} {kd:IntKind} {z:Int} (ho:o.op=.indexAddr t x i) (ht:El P t e k) (hx:z7 env x=some (.rsuf id q k n p)) (hi:z7 env i=some (.int kd z)) (hz:0≤z∧z < (n - p:Nat)) :
  zp P o env h=.ok (.rptr id q k n ((p+z.toNat) * k+0)) h:=s_indexAddr ho ht hx hi (by simp only [vJ];rw [if_pos ⟨trivial,hz.1,hz.2⟩];rfl)
theorem idxS {n:Int} {p:Nat} {y:α} (h:yo (L.drop p) n=some y):0≤n∧n < (L.length - p:Nat)∧L[p+n.toNat]?=some y:=by
 obtain ⟨h1,h2,h3⟩:=idxR h;rw [List.length_drop] at h2;rw [List.getElem?_drop] at h3;exact ⟨h1,h2,h3⟩
end
theorem xN {h0 h h':AH} {K:AV→AH→Prop} {v v':AV} (hw:wk h0 [v] h [v'] h') (hk:finK h0 K v' h'):finK h0 K v h:=by
 obtain ⟨r,h2,k1,k2⟩:=hk;exact ⟨r,h2,hw.trans k1,k2⟩
def HdS (h:AH) (B:List Blk) (k:Nat) (es:List (List AV)) (a:AV):Prop:=(∃ j i:Nat,a=.rsl (h.blks.length+j) (h.toks.length+i) k es.length∧B[j]?=some (Blk.row (h.toks.length+i) k es)) ∨ (a=.osl none k []∧es=[])
theorem HdS.tok {B0:Nat} {w0 w:World} {g:Gh} {h:AH} {B:List Blk} {T:List Nat} (r:Rel B0 w0 g (h.ext B T) w) {k:Nat} {es:List (List AV)} {a:AV} (hd:HdS h B k es a) {v:Value} (hv:V g a v) :
  ∃ t:TI,(∃ x c,v=.slice x es.length c∧es.length≤c∧c≤maxLen∧rowHd t x es.length c k)∧t.row=true∧t.n=es.length∧(∀ e ∈ es,e.length=k)∧es.flatten.all AV.pure=true ∧
   (es=[] ∨ ∃ b o e cs ty,t.loc=some (b,o+es.length * k,e)∧w.heap[b]?=some (.cells cs ty (0,0))∧VA g es.flatten ((cs.toList.drop o).take (es.length * k))∧o+es.length * k≤cs.size∧∀ j,o≤j→g.Φ b j=none) ∧
   ((t=⟨0,none,true⟩) ∨ ∃ j i:Nat,B[j]?=some (Blk.row (h.toks.length+i) k es)∧g.τ[h.toks.length+i]?=some t):=by
 rcases hd with ⟨j,i,rfl,hb⟩ | ⟨rfl,rfl⟩
 ·have hb':(h.ext B T).blk (h.blks.length+j)=some (.row (h.toks.length+i) k es):=by rw [zX];exact hb
  obtain ⟨_,ti,hti,htr,htn,hlen,hpe,hrow⟩:=r.rowAt hb';simp only [V] at hv;obtain ⟨x,c,rfl,h1,h2,t2,ht2,hrd⟩:=hv;obtain rfl:ti=t2:=by rw [hti] at ht2;injection ht2
  exact ⟨ti,⟨x,c,rfl,h1,h2,hrd⟩,htr,htn,hlen,hpe,hrow,.inr ⟨j,i,hb,hti⟩⟩
 ·simp only [V] at hv;obtain ⟨x,c,rfl,h1,h2,_,h3⟩:=hv;have h3:c=0:=h3;exact ⟨⟨0,none,true⟩,⟨x,c,rfl,h1,h2,rfl,Nat.le_refl _,.inl ⟨rfl,h3⟩⟩,rfl,rfl,by simp,by simp,.inl rfl,.inl rfl⟩
theorem blk_ext {h:AH} {B:List Blk} {T:List Nat} {j:Nat} {b:Blk} (hj:B[j]?=some b):(h.ext B T).blk (h.blks.length+j)=some b:=by
 rw [zX];exact hj
end Go.Vv
