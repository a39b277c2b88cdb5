/- Calls walked in place: blocks are let go, rows are moved, the heap behind is told by a state. -/
import Derived.Test.YtbaclapbinkedaaVvRb
namespace Go.Vv
open Go Go.RowKit

inductive KillL:List Blk→List Blk→Prop
 | nil:KillL [] []
 | keep {x:Blk} {a b:List Blk} (k:KillL a b):KillL (x::a) (x::b)
 | dead {x:Blk} {a b:List Blk} (k:KillL a b):KillL (x::a) (.dead::b)
theorem KillL.len {a b:List Blk} (k:KillL a b):b.length=a.length:=by induction k <;> simp_all
theorem KillL.get {a b:List Blk} (k:KillL a b):∀ (j:Nat) (x:Blk),b[j]?=some x→x=.dead ∨ a[j]?=some x:=by
 induction k with
 | nil=>intro j x h;simp at h
 | keep _ ih =>
  intro j x h
  cases j with
  | zero=>right;simpa using h
  | succ j=>simpa using ih j x (by simpa using h)
 | dead _ ih =>
  intro j x h
  cases j with
  | zero=>left;simpa using h.symm
  | succ j=>simpa using ih j x (by simpa using h)
theorem swk_move {h:AH} {env env':List AV} {B B':List Blk} {T T':List Nat} {d j i k n n2 b' t':Nat} {es:List (List AV)} (he:yZ env (.tmp d)=some (.rsl (h.blks.length+j) (h.toks.length+i) k n)) (hb:B[j]?=some (.row (h.toks.length+i) k es)) (hn:es.length=n) (hn2:n=n2)
  (hbl:B.length=b') (htl:T.length=t') (hE:vl (some d) env (.rsl (h.blks.length+b') (h.toks.length+t') k n2)=some env') (hB:B.set j .dead++[.row (h.toks.length+t') k es]=B') (hT:T.set i (n2+1)++[n2]=T') :
  swk env (h.ext B T) env' (h.ext B' T'):=fun _ _ w g vs r hv=>by
 subst hn2 hn hbl htl hB hT
 simp only [vl,Option.some.injEq] at hE
 subst hE
 have hd:d < env.length:=(List.getElem?_eq_some_iff.1 he).1
 obtain ⟨v,hvd,hV⟩:=hv.get d _ he
 have hb':(h.ext B T).blk (h.blks.length+j)=some (.row (h.toks.length+i) k es):=by rw [wF];exact hb
 have hV2:=hV
 simp only [V] at hV2
 obtain ⟨a,c,rfl,_⟩:=hV2
 obtain ⟨g',h1,h2,h3⟩:=r.shrink (n:=es.length) (a':=a) hb' (Nat.le_refl _) (.inl rfl) hV
 have e:(h.ext B T).shr (h.blks.length+j) (h.toks.length+i) k es.length es=h.ext (B.set j .dead++[.row (h.toks.length+T.length) k es]) (T.set i (es.length+1)++[es.length]):=by
  simp only [AH.shr,AH.ext,AH.put,AH.new,AH.mk.injEq,List.length_append]
  refine ⟨?_,?_⟩
  ·rw [List.set_append_right _ _ (by omega),Nat.add_sub_cancel_left,List.take_of_length_le (Nat.le_refl _)];simp
  ·rw [List.set_append_right _ _ (by omega),Nat.add_sub_cancel_left];simp
 rw [e] at h2
 refine ⟨g',h1,h2,VL.setE (VL.mono h1 _ _ hv) d _ fun u hu=>?_⟩
 rw [hvd] at hu
 injection hu with hu
 subst hu
 have e1:(h.ext B T).blks.length=h.blks.length+B.length:=by simp [AH.ext]
 have e2:(h.ext B T).toks.length=h.toks.length+T.length:=by simp [AH.ext]
 rw [e1,e2] at h3;exact h3

theorem ops_inl {P:Program} {ops:Array Oper} {Q:List AV→AH→Prop} {o:Oper} {rest:List Oper} {env env':List AV} {h:AH} {f:FuncId} {args:List AV} {X:Type} {v:AV} {H':X→AH} (hg:aG ops o env=some true) (ha:zN P o env h=.call f args)
  (hs:Spec P f args h fun r hh=>r=v∧∃ x,hh=H' x) (hd:vl o.dst env v=some env') (hk:∀ x,ym P ops Q rest env' (H' x)):ym P ops Q (o::rest) env h :=
 ops_call hg ha hs fun r h' ⟨e1,x,e2⟩=>by subst e1;subst e2;rw [wl hd];exact hk x
section
variable {P:Program} {o:Oper} {env:List AV} {h:AH} {L:List Blk} {M:List Nat} {t kt et:TypeId} {x y z:Operand} {j:Nat} {es:List (AV×AV)} {c:Nat}
end
section
variable {α:Type} {row:α→List AV} {L:List α} {k:Nat} {P:Program} {o:Oper} {env:List AV} {h:AH}
end
theorem ext_bl {h:AH} {B:List Blk} {T:List Nat}:(h.ext B T).blks.length=h.blks.length+B.length:=by simp [AH.ext]
theorem wj {h:AH} {B:List Blk} {T:List Nat}:(h.ext B T).toks.length=h.toks.length+T.length:=by simp [AH.ext]
theorem row_news {P:Program} {f:FuncId} {as:List AV} {h:AH} {B B' L:List Blk} {T T' M:List Nat} {v v':AV} (s:Spec P f as (h.ext B T) (fun rr hh=>rr=v∧hh=(h.ext B T).ext L M)) (hv:v=v') (hB:B++L=B') (hT:T++M=T') :
  Spec P f as (h.ext B T) (fun rr hh=>rr=v'∧hh=h.ext B' T'):=by
 subst hv hB hT
 rw [yj] at s
 exact s

theorem row_newv {P:Program} {f:FuncId} {xs:List AV} {h:AH} {B B' L:List Blk} {T T' M:List Nat} {v v':AV} (s:Spec P f xs (h.ext B T) (fun rr hh=>rr=v∧hh=(h.ext B T).ext L M)) (hv:v=v') (hB:B++L=B') (hT:T++M=T') :
  Spec P f xs (h.ext B T) (fun rr hh=>rr=v'∧hh=h.ext B' T'):=row_news s hv hB hT
def HdS (h:AH) (B:List Blk) (k:Nat) (es:List (List AV)) (a:AV):Prop:=(∃ j i:Nat,a=.rsl (h.blks.length+j) (h.toks.length+i) k es.length∧B[j]?=some (Blk.row (h.toks.length+i) k es)) ∨ (a=.osl none k []∧es=[])
theorem hds_row {h:AH} {B:List Blk} {k n j i:Nat} {es:List (List AV)} (hb:B[j]?=some (.row (h.toks.length+i) k es)) (hn:es.length=n):HdS h B k es (.rsl (h.blks.length+j) (h.toks.length+i) k n):=.inl ⟨j,i,by rw [hn],hb⟩
theorem hds_nil {h:AH} {B:List Blk} {k:Nat}:HdS h B k [] (.osl none k []):=.inr ⟨rfl,rfl⟩
theorem HdS.tok {B0:Nat} {w0 w:World} {g:Gh} {h:AH} {B:List Blk} {T:List Nat} (r:Rel B0 w0 g (h.ext B T) w) {k:Nat} {es:List (List AV)} {a:AV} (hd:HdS h B k es a) {v:Value} (hv:V g a v) :
  ∃ t:TI,(∃ x c,v=.slice x es.length c∧es.length≤c∧c≤maxLen∧rowHd t x es.length c k)∧t.row=true∧t.n=es.length∧(∀ e ∈ es,e.length=k)∧es.flatten.all AV.pure=true ∧
   (es=[] ∨ ∃ b o e cs ty,t.loc=some (b,o+es.length * k,e)∧w.heap[b]?=some (.cells cs ty (0,0))∧VA g es.flatten ((cs.toList.drop o).take (es.length * k))∧o+es.length * k≤cs.size∧∀ j,o≤j→g.Φ b j=none) ∧
   ((t=⟨0,none,true⟩) ∨ ∃ j i:Nat,B[j]?=some (Blk.row (h.toks.length+i) k es)∧g.τ[h.toks.length+i]?=some t):=by
 rcases hd with ⟨j,i,rfl,hb⟩ | ⟨rfl,rfl⟩
 ·have hb':(h.ext B T).blk (h.blks.length+j)=some (.row (h.toks.length+i) k es):=by rw [wF];exact hb
  obtain ⟨_,ti,hti,htr,htn,hlen,hpe,hrow⟩:=r.rowAt hb'
  simp only [V] at hv
  obtain ⟨x,c,rfl,h1,h2,t2,ht2,hrd⟩:=hv
  obtain rfl:ti=t2:=by rw [hti] at ht2;injection ht2
  exact ⟨ti,⟨x,c,rfl,h1,h2,hrd⟩,htr,htn,hlen,hpe,hrow,.inr ⟨j,i,hb,hti⟩⟩
 ·simp only [V] at hv
  obtain ⟨x,c,rfl,h1,h2,_,h3⟩:=hv
  have h3:c=0:=h3
  exact ⟨⟨0,none,true⟩,⟨x,c,rfl,h1,h2,rfl,Nat.le_refl _,.inl ⟨rfl,h3⟩⟩,rfl,rfl,by simp,by simp,.inl rfl,.inl rfl⟩
end Go.Vv
