/- A row's line: there always is one, and it is not much longer than what it tells. -/
import Derived.Test.YtfdacjmlbokckaaGreatDoorPlE0
namespace Go.Vv
open Go
section
theorem loopL_push {α β ρ:Type} {f:Nat→α→List β→Option (Out ρ (List β))} {g:α→β}:∀ (L:List α) (k:Nat) (s:List β),(∀ i x s',x ∈ L→s'.length+1≤s.length+L.length→f i x s'=some (.nxt (s'++[g x])))→z8 f L k s=some (.inr (s++L.map g))
 | [],k,s,_=>by simp [z8]
 | x::r,k,s,h=>by
  simp only [z8]
  rw [h k x s (by simp) (by simp)]
  show z8 f r (k+1) (s++[g x])=_
  rw [loopL_push r (k+1) (s++[g x]) fun i y s' hy hs=>h i y s' (by simp [hy]) (by simp at hs ⊢;omega)]
  simp
theorem inU64 {n:Int} (h:InK .u64 n):0≤n∧n < 18446744073709551616:=by
 unfold InK at h;simp [IntKind.min,IntKind.max,IntKind.signed,IntKind.bits] at h;omega
theorem inI64 {n:Int} (h:InK .i64 n):-9223372036854775808≤n∧n≤9223372036854775807:=by
 unfold InK at h;simp [IntKind.min,IntKind.max,IntKind.signed,IntKind.bits] at h;omega
theorem inU8 {n:Int} (h:InK .u8 n):0≤n∧n < 256:=by
 unfold InK at h;simp [IntKind.min,IntKind.max,IntKind.signed,IntKind.bits] at h;omega
theorem inU32 {n:Int} (h:InK .u32 n):0≤n∧n < 4294967296:=by
 unfold InK at h;simp [IntKind.min,IntKind.max,IntKind.signed,IntKind.bits] at h;omega
theorem wrapU64 {n:Int} (h:0≤n∧n < 18446744073709551616):IntKind.wrap .u64 n=n:=by
 rw [IntKind.wrap_u64];omega
def numT (n:Int):zM:=Lib.decDigits n.toNat
theorem number_is {n:Int} (h:0≤n∧n < 18446744073709551616):xe n=some (numT n):=by
 unfold xe vR fmtU numT
 rw [if_pos ⟨h.1,h.2,rfl⟩]
 rfl
theorem vV {n:Int} (h:0≤n∧n < 18446744073709551616):(numT n).length≤20:=vZ _ (by omega)
def dotT (d:GDot):zM:=(((numT d.actor.rep++[46])++numT d.actor.inc)++[46])++numT d.seq
theorem dotT_len {d:GDot} (h:GDot.wf d):(dotT d).length≤62:=by
 obtain ⟨⟨h1,h2⟩,h3⟩:=h
 have k1:=vV (n:=d.actor.rep) (by have:=inU8 h1;omega)
 have k2:=vV (n:=d.actor.inc) (by have:=inU32 h2;omega)
 have k3:=vV (inU64 h3)
 simp only [dotT,List.length_append,List.length_cons,List.length_nil]
 omega
theorem dot_is {d:GDot} (h:GDot.wf d):xk d=some (dotT d):=by
 obtain ⟨⟨h1,h2⟩,h3⟩:=h
 have g1:0≤d.actor.rep∧d.actor.rep < 18446744073709551616:=by have:=inU8 h1;omega
 have g2:0≤d.actor.inc∧d.actor.inc < 18446744073709551616:=by have:=inU32 h2;omega
 have g3:=inU64 h3
 have k1:=vV g1
 have k2:=vV g2
 have k3:=vV g3
 have hm:maxLen=9223372036854775807:=rfl
 unfold xk
 rw [wrapU64 g1,wrapU64 g2,number_is g1,number_is g2,number_is g3]
 simp only [Option.bind_some]
 rw [yg (by simp only [List.length_append,List.length_cons,List.length_nil];omega),yg (by simp only [List.length_append,List.length_cons,List.length_nil];omega),yg (by simp only [List.length_append,List.length_cons,List.length_nil];omega),yg (by simp only [List.length_append,List.length_cons,List.length_nil];omega)]
 rfl
def hexL (s:zM):zM:=if s=[] then [45] else Proofs.hexs s
theorem hexL_len (s:zM):(hexL s).length≤2 * s.length+1:=by
 unfold hexL
 split
 ·simp
 ·rw [Proofs.hexs_len];omega
theorem hex_is {s:zM} (h:s.length≤1048576):qn s=some (hexL s):=by
 unfold qn hexT hexL
 split
 ·rfl
 ·rw [if_pos (by omega)]
def itemT (x:GItem):zM:=(dotT x.dot++[61])++hexL x.text
def tombT (d:GDot):zM:=[33]++dotT d
def logT (x:GItem):zM:=(((numT x.time++[64])++dotT x.dot)++[61])++hexL x.text
theorem bk_item (x:GItem):x.bk=x.text.length+8:=by
 unfold GItem.bk GDot.bk GActor.bk;omega
theorem bk_dot (x:GDot):x.bk=5:=rfl
theorem itemT_len {x:GItem} (h:GItem.wf x):(itemT x).length+1≤20 * x.bk:=by
 have:=dotT_len h.2.1
 have:=hexL_len x.text
 rw [bk_item]
 simp only [itemT,List.length_append,List.length_cons,List.length_nil]
 omega
theorem tombT_len {d:GDot} (h:GDot.wf d):(tombT d).length+1≤20 * d.bk:=by
 have:=dotT_len h
 rw [bk_dot]
 simp only [tombT,List.length_append,List.length_cons,List.length_nil]
 omega
theorem logT_len {x:GItem} (h:GItem.wf x):(logT x).length+1≤20 * x.bk:=by
 have:=dotT_len h.2.1
 have:=vV (inU64 h.1)
 have:=hexL_len x.text
 rw [bk_item]
 simp only [logT,List.length_append,List.length_cons,List.length_nil]
 omega
theorem lens_map {α:Type} {f:α→zM} {b:α→Nat} {c:Nat}:∀ (L:List α),(∀ x ∈ L,(f x).length+1≤c * b x)→Lib.lens (L.map f)+L.length≤c * (L.map b).sum
 | [],_=>by simp [Lib.lens]
 | x::r,h=>by
  have h1:=h x (by simp)
  have h2:=lens_map (f:=f) r fun y hy=>h y (by simp [hy])
  simp only [Lib.lens,List.map_cons,List.sum_cons,List.length_cons,Nat.mul_add] at h2 ⊢
  omega
theorem mem_bk {α:Type} {b:α→Nat} {x:α} {L:List α} (h:x ∈ L):b x≤(L.map b).sum:=sum_mem h
theorem len_bk {α:Type} {b:α→Nat} (hb:∀ x,1≤b x):∀ L:List α,L.length≤(L.map b).sum
 | []=>by simp
 | x::r=>by have:=len_bk hb r;have:=hb x;simp only [List.length_cons,List.map_cons,List.sum_cons];omega
theorem bk_leaf (l:GLeaf):l.bk=l.text.length+(l.items.map GItem.bk).sum+(l.tombs.map GDot.bk).sum+12:=by
 have:=bk_dot l.dot
 unfold GLeaf.bk
 omega
def xi (l:GLeaf):List zM :=
 if l.typ=1 then [Lib.itoa l.n]
 else if l.typ=2 then (if l.time=0 then [[45]] else [numT l.time,dotT l.dot,hexL l.text])
 else if l.typ=3 then l.items.map itemT++l.tombs.map tombT
 else l.items.map logT
theorem parts_is {l:GLeaf} (h:GLeaf.wf l) (hb:l.bk≤1048576) (ht:l.typ=1 ∨ l.typ=2 ∨ l.typ=3 ∨ l.typ=4):qq l.typ.toNat l=some (xi l)∧Lib.lens (xi l)+(xi l).length≤40 * l.bk:=by
 obtain ⟨w1,w2,w3,w4,w5,⟨w6,w7⟩,w8,w9⟩:=h
 have hbk:=bk_leaf l
 have hm:maxLen=9223372036854775807:=rfl
 have hlim:vQ=2147483648:=rfl
 have hit:∀ x ∈ l.items,x.text.length≤1048576:=fun x hx=>by
  have:=mem_bk (b:=GItem.bk) hx
  have:=bk_item x
  omega
 have li:=len_bk (b:=GItem.bk) (fun x=>by rw [bk_item];omega) l.items
 have lt:=len_bk (b:=GDot.bk) (fun x=>by rw [bk_dot];omega) l.tombs
 rcases ht with e | e | e | e
 ·have hi:=inI64 w2
  have e1:xi l=[Lib.itoa l.n]:=by simp [xi,e]
  rw [e1,e]
  refine ⟨?_,?_⟩
  ·show wV l=_
   unfold wV qc fmtI
   rw [if_pos ⟨hi.1,hi.2,rfl⟩]
   rfl
  ·have:(Lib.itoa l.n).length≤21:=by
    unfold Lib.itoa
    split
    ·have:=vZ l.n.natAbs (by omega)
     simp only [List.length_cons];omega
    ·have:=vZ l.n.toNat (by omega)
     omega
   simp only [Lib.lens,List.map_cons,List.map_nil,List.sum_cons,List.sum_nil,List.length_cons,List.length_nil]
   omega
 ·have hn:=inU64 w3
  rw [e]
  by_cases h0:l.time=0
  ·have e1:xi l=[[45]]:=by simp [xi,e,h0]
   rw [e1]
   refine ⟨?_,by simp [Lib.lens];omega⟩
   show xq l=_
   unfold xq
   simp [h0]
  ·have e1:xi l=[numT l.time,dotT l.dot,hexL l.text]:=by simp [xi,e,h0]
   rw [e1]
   have k1:=vV hn
   have k2:=dotT_len w4
   have k3:=hexL_len l.text
   refine ⟨?_,by simp [Lib.lens];omega⟩
   show xq l=_
   unfold xq
   rw [if_neg (by simpa using h0),number_is hn,dot_is w4,hex_is (by omega)]
   rfl
 ·have e1:xi l=l.items.map itemT++l.tombs.map tombT:=by simp [xi,e]
  rw [e1,e]
  refine ⟨?_,?_⟩
  ·show exportXset l=_
   unfold exportXset
   rw [loopL_push (g:=itemT) l.items 0 [] fun i x s hx hs=>?_]
   ·simp only [lp,List.nil_append]
    rw [loopL_push (g:=tombT) l.tombs 0 _ fun i x s hx hs=>?_]
    have k1:=dotT_len (w9 x hx)
    simp only [List.length_map] at hs
    rw [dot_is (w9 x hx)]
    simp only [Option.bind_some]
    rw [yg (by simp only [List.length_append,List.length_cons,List.length_nil];omega),yg (by simp only [List.length_append,List.length_cons,List.length_nil];omega)]
    rfl
   ·have k1:=dotT_len (w7 x hx).2.1
    have k2:=hexL_len x.text
    have k3:=hit x hx
    simp only [List.length_nil] at hs
    rw [dot_is (w7 x hx).2.1,hex_is k3]
    simp only [Option.bind_some]
    rw [yg (by simp only [List.length_append,List.length_cons,List.length_nil];omega),yg (by simp only [List.length_append,List.length_cons,List.length_nil];omega),yg (by simp only [List.length_append,List.length_cons,List.length_nil];omega)]
    rfl
  ·have h1:=lens_map (f:=itemT) (b:=GItem.bk) (c:=20) l.items fun x hx=>itemT_len (w7 x hx)
   have h2:=lens_map (f:=tombT) (b:=GDot.bk) (c:=20) l.tombs fun x hx=>tombT_len (w9 x hx)
   have h3:Lib.lens (l.items.map itemT++l.tombs.map tombT)=Lib.lens (l.items.map itemT)+Lib.lens (l.tombs.map tombT):=by simp [Lib.lens]
   rw [h3,List.length_append,List.length_map,List.length_map]
   omega
 ·have e1:xi l=l.items.map logT:=by simp [xi,e]
  rw [e1,e]
  refine ⟨?_,?_⟩
  ·show exportXlog l=_
   unfold exportXlog
   rw [loopL_push (g:=logT) l.items 0 [] fun i x s hx hs=>?_]
   ·rfl
   ·have k0:=vV (inU64 (w7 x hx).1)
    have k1:=dotT_len (w7 x hx).2.1
    have k2:=hexL_len x.text
    have k3:=hit x hx
    simp only [List.length_nil] at hs
    rw [number_is (inU64 (w7 x hx).1),dot_is (w7 x hx).2.1,hex_is k3]
    simp only [Option.bind_some]
    rw [yg (by simp only [List.length_append,List.length_cons,List.length_nil];omega),yg (by simp only [List.length_append,List.length_cons,List.length_nil];omega),yg (by simp only [List.length_append,List.length_cons,List.length_nil];omega),yg (by simp only [List.length_append,List.length_cons,List.length_nil];omega),yg (by simp only [List.length_append,List.length_cons,List.length_nil];omega)]
    rfl
  ·have h1:=lens_map (f:=logT) (b:=GItem.bk) (c:=20) l.items fun x hx=>logT_len (w7 x hx)
   rw [List.length_map]
   omega
end
section
noncomputable def lineT (r:GRow):zM:=(y7 r).getD []
theorem join_len (xs:List zM) (sep:zM):(Lib.join xs sep).length≤Lib.lens xs+xs.length * sep.length:=by
 cases xs with
 | nil=>simp [Lib.join_nil]
 | cons x r =>
  rw [Lib.join_cons,List.length_append,Lib.joinTail_length]
  simp only [Lib.lens,List.map_cons,List.sum_cons,List.length_cons,Nat.add_mul,Nat.mul_comm sep.length]
  omega
theorem join_is {xs:List zM} {sep:zM} (h1:xs.length≤140737488355328) (h:Lib.lens xs+xs.length * sep.length≤140737488355328):xQ xs sep=some (Lib.join xs sep):=by
 unfold xQ strJoin
 rw [if_pos ⟨h1,Nat.le_trans (join_len xs sep) h⟩]
theorem lens_le {c:Nat}:∀ (xs:List zM),(∀ x ∈ xs,x.length≤c)→Lib.lens xs≤c * xs.length
 | [],_=>by simp [Lib.lens]
 | x::r,h=>by
  have h1:=h x (by simp)
  have h2:=lens_le r fun y hy=>h y (by simp [hy])
  simp only [Lib.lens,List.map_cons,List.sum_cons,List.length_cons,Nat.mul_add] at h2 ⊢
  omega
theorem leafB_typ {l:GLeaf} (h:leafB l=true):l.typ=1 ∨ l.typ=2 ∨ l.typ=3 ∨ l.typ=4:=by
 unfold leafB at h
 split at h
 ·simp_all
 ·split at h
  ·simp_all
  ·split at h
   ·simp_all
   ·split at h
    ·simp_all
    ·cases h
def wordT (n:Int):zM:=if n=1 then [99,111,117,110,116,101,114] else if n=2 then [114,101,103,105,115,116,101,114] else if n=3 then [115,101,116] else [108,111,103]
theorem line_is {r:GRow} (hw:GLeaf.wf r.leaf) (hb:r.leaf.bk≤1048576) :
  y7 r=some (if pathB r.path=true∧leafB r.leaf=true then Lib.join ([Lib.join r.path [47],wordT r.leaf.typ]++xi r.leaf) [32] else []) ∧
   (lineT r).length+1≤60 * r.leaf.bk:=by
 have hbk:=bk_leaf r.leaf
 have hm:maxLen=9223372036854775807:=rfl
 have hlim:vQ=2147483648:=rfl
 have key:y7 r=some (if pathB r.path=true∧leafB r.leaf=true then Lib.join ([Lib.join r.path [47],wordT r.leaf.typ]++xi r.leaf) [32] else [])∧((if pathB r.path=true∧leafB r.leaf=true then Lib.join ([Lib.join r.path [47],wordT r.leaf.typ]++xi r.leaf) [32] else []):zM).length+1≤60 * r.leaf.bk:=by
  unfold y7
  rw [opMayPath_is]
  simp only [Option.bind_some]
  cases hp:pathB r.path with
  | false=>simp;omega
  | true =>
   have w6:=hw.2.2.2.2.2.1.1
   have w8:=hw.2.2.2.2.2.2.1
   simp only [Bool.not_true,beq_self_eq_true,if_true,leafMay_is w6 w8,Option.bind_some,Bool.false_or]
   cases hl:leafB r.leaf with
   | false=>simp;omega
   | true =>
    have ht:=leafB_typ hl
    obtain ⟨p1,p2⟩:=parts_is hw hb ht
    have hpath:r.path.length≤3∧∀ s ∈ r.path,s.length≤12:=by
     unfold pathB at hp
     simp only [Bool.and_eq_true,decide_eq_true_eq,List.all_eq_true] at hp
     refine ⟨hp.1.2,fun s hs=>?_⟩
     have:=hp.2 s hs
     unfold nameB at this
     simp only [Bool.and_eq_true,decide_eq_true_eq] at this
     exact this.1.2
    have hl1:=lens_le r.path hpath.2
    have hj:=join_len r.path [47]
    simp only [List.length_cons,List.length_nil] at hj
    have j1:xQ r.path [47]=some (Lib.join r.path [47]):=join_is (by omega) (by simp;omega)
    have hw2:(wordT r.leaf.typ).length≤8:=by
     unfold wordT
     repeat' split
     all_goals simp
    have hl2:Lib.lens ([Lib.join r.path [47],wordT r.leaf.typ]++xi r.leaf)=(Lib.join r.path [47]).length+(wordT r.leaf.typ).length+Lib.lens (xi r.leaf):=by
     simp [Lib.lens];omega
    have j2:xQ ([Lib.join r.path [47],wordT r.leaf.typ]++xi r.leaf) [32]=some (Lib.join ([Lib.join r.path [47],wordT r.leaf.typ]++xi r.leaf) [32]):=by
     refine join_is ?_ ?_
     ·simp only [List.length_append,List.length_cons,List.length_nil];omega
     ·rw [hl2];simp only [List.length_append,List.length_cons,List.length_nil];omega
    have hjl:=join_len ([Lib.join r.path [47],wordT r.leaf.typ]++xi r.leaf) [32]
    rw [hl2] at hjl
    simp only [List.length_append,List.length_cons,List.length_nil] at hjl
    refine ⟨?_,by simp only [and_self,if_true];omega⟩
    simp only [Bool.not_true,Bool.false_eq_true,if_false,and_self,if_true]
    unfold exportXkinds
    simp only [Option.bind_some]
    have fin:∀ y:GExportKind,y.parts=r.leaf.typ.toNat→y.word=wordT r.leaf.typ→((xQ r.path [47]).bind fun v6=>(qq y.parts r.leaf).bind fun v7=>vP (([v6,y.word]:List zM).length+v7.length≤vQ) ((xQ (([v6,y.word]:List zM)++v7) [32]).bind fun v9=>some v9))=some (Lib.join ([Lib.join r.path [47],wordT r.leaf.typ]++xi r.leaf) [32]):=by
     intro y h1 h2
     rw [j1,h1,p1,h2]
     simp only [Option.bind_some]
     rw [yg (by simp only [List.length_cons,List.length_nil];omega),j2]
     rfl
    rcases ht with e | e | e | e
    ·rw [e] at fin ⊢
     exact fin _ rfl rfl
    ·rw [e] at fin ⊢
     exact fin _ rfl rfl
    ·rw [e] at fin ⊢
     exact fin _ rfl rfl
    ·rw [e] at fin ⊢
     exact fin _ rfl rfl
 refine ⟨key.1,?_⟩
 unfold lineT
 rw [key.1]
 exact key.2
theorem rows_sum:∀ (t:List GNode) (a:List zM),(GNode.wfs t→∀ r ∈ xT a t,GLeaf.wf r.leaf)∧((xT a t).map fun r=>r.leaf.bk).sum≤GNode.bks t:=by
 refine tree_ind (fun a=>⟨fun _ r hr=>by simp [xT] at hr,by simp [xT,GNode.bks]⟩) ?_
 intro x r hx hr a
 have h1:=hx (a++[x.name])
 have h2:=hr a
 have e:xT a (x::r)=(x.leaves.map (fun l=>GRow.mk (a++[x.name]) l)++xT (a++[x.name]) x.subs)++xT a r:=by
  simp only [xT]
  rw [rowsN_eq]
 rw [e]
 refine ⟨fun hw q hq=>?_,?_⟩
 ·simp only [GNode.wfs] at hw
  have hx2:=hw.1
  rw [List.mem_append,List.mem_append] at hq
  rcases hq with (hq | hq) | hq
  ·obtain ⟨l,hl,rfl⟩:=List.mem_map.1 hq
   cases x
   simp only [GNode.wf] at hx2
   exact hx2.2.1.2 l hl
  ·refine h1.1 ?_ q hq
   cases x
   simp only [GNode.wf] at hx2
   exact hx2.2.2
  ·exact h2.1 hw.2 q hq
 ·have hb:=bk_node x
  simp only [List.map_append,List.sum_append,List.map_map,GNode.bks]
  have e2:(x.leaves.map ((fun r:GRow=>r.leaf.bk) ∘ fun l=>GRow.mk (a++[x.name]) l)).sum=(x.leaves.map GLeaf.bk).sum:=rfl
  rw [e2]
  have:=h1.2
  have:=h2.2
  omega
def RowsFine (R:List GRow):Prop:=(∀ r ∈ R,GLeaf.wf r.leaf)∧(R.map fun r=>r.leaf.bk).sum≤1048576
theorem rows_fine {t:List GNode} (h:Small t):RowsFine (xT [] t):=⟨(rows_sum t []).1 h.1,Nat.le_trans (rows_sum t []).2 h.2⟩
theorem RowsFine.filter {R:List GRow} (h:RowsFine R) (q:GRow→Bool):RowsFine (R.filter q):=by
 refine ⟨fun r hr=>h.1 r (List.mem_filter.1 hr).1,Nat.le_trans ?_ h.2⟩
 have:∀ L:List GRow,((L.filter q).map fun r=>r.leaf.bk).sum≤(L.map fun r=>r.leaf.bk).sum:=by
  intro L
  induction L with
  | nil=>simp
  | cons x r ih =>
   simp only [List.filter_cons]
   split
   ·simp only [List.map_cons,List.sum_cons];omega
   ·simp only [List.map_cons,List.sum_cons];omega
 exact this R
theorem RowsFine.line {R:List GRow} (h:RowsFine R) {r:GRow} (hr:r ∈ R):y7 r=some (lineT r)∧(lineT r).length+1≤60 * r.leaf.bk:=by
 have hb:r.leaf.bk≤1048576:=Nat.le_trans (mem_bk (b:=fun r:GRow=>r.leaf.bk) hr) h.2
 obtain ⟨h1,h2⟩:=line_is (h.1 r hr) hb
 refine ⟨?_,h2⟩
 unfold lineT
 rw [h1]
 rfl
theorem lines_len:∀ (R:List GRow),(∀ r ∈ R,(lineT r).length+1≤60 * r.leaf.bk)→(we lineT R).length≤60 * (R.map fun r=>r.leaf.bk).sum
 | [],_=>by simp [we]
 | x::r,h=>by
  have h1:=h x (by simp)
  have h2:=lines_len r fun y hy=>h y (by simp [hy])
  simp only [we,List.flatMap_cons,List.length_append,List.length_cons,List.length_nil,List.map_cons,List.sum_cons,Nat.mul_add] at h2 ⊢
  omega
theorem RowsFine.len {R:List GRow} (h:RowsFine R):(we lineT R).length≤62914560:=by
 have:=lines_len R fun r hr=>(h.line hr).2
 have:=h.2
 omega
theorem text_is {t:List GNode} (h:Small t) (ht:treeB 0 t=true):exportText t=some (we lineT (xT [] t)):=by
 have hf:=rows_fine h
 unfold exportText
 rw [pathsRows_is h,if_pos ht,Option.bind_some]
 unfold linesO
 have hl:=hf.len
 rw [if_pos ⟨fun x hx=>by rw [(hf.line hx).1];rfl,by show (we lineT _).length≤_;omega⟩]
 rfl
theorem sel_loop {p:List zM} (hp:p.length≤maxLen) {f:Nat→GRow→zM→Option (Out Bool zM)} (hf:∀ n x s,f n x s=((vE p x.path).bind fun v19=>(if v19=true then ((y7 x).bind fun v21=>(vP ((v21).length+(([10]:zM)).length≤maxLen) ((vP ((s).length+((v21++([10]:zM))).length≤maxLen) (some (.nxt (s++(v21++([10]:zM))))))))) else some (.nxt s)))) :
  ∀ (R:List GRow) (k:Nat) (s:zM),RowsFine R→s.length+60 * (R.map fun r=>r.leaf.bk).sum≤1000000000→z8 f R k s=some (.inr (s++we lineT (R.filter fun r=>matchB p r.path)))
 | [],k,s,_,_=>by simp [z8,we]
 | x::r,k,s,hR,hs=>by
  obtain ⟨h1,h2⟩:=hR.line (r:=x) (by simp)
  have hR2:RowsFine r:=⟨fun y hy=>hR.1 y (by simp [hy]),by have:=hR.2;simp only [List.map_cons,List.sum_cons] at this;omega⟩
  have hm:maxLen=9223372036854775807:=rfl
  simp only [List.map_cons,List.sum_cons,Nat.mul_add] at hs
  simp only [z8]
  rw [hf,pathsMatch_is hp,Option.bind_some]
  cases hq:matchB p x.path with
  | false =>
   simp only [Bool.false_eq_true,if_false,List.filter_cons,hq]
   exact sel_loop hp hf r (k+1) s hR2 (by omega)
  | true =>
   simp only [if_true,List.filter_cons,hq,h1,Option.bind_some]
   rw [yg (by simp only [List.length_cons,List.length_nil];omega),yg (by simp only [List.length_append,List.length_cons,List.length_nil];omega)]
   show z8 f r (k+1) (s++(lineT x++[10]))=_
   rw [sel_loop hp hf r (k+1) _ hR2 (by simp only [List.length_append,List.length_cons,List.length_nil];omega)]
   simp [we]
end
section
theorem numT_small {n:Int} (h0:0≤n) (h:n < 10):numT n=[UInt8.ofNat (48+n.toNat)]:=by
 unfold numT
 rw [Lib.decDigits,dif_pos (by omega)]
theorem known44:vL=some true:=by
 have a1:y7 (GRow.mk ([([97]:zM),([98]:zM)]:List zM) (GLeaf.mk (1:Int) (-5:Int) (0:Int) (GDot.mk (GActor.mk (0:Int) (0:Int)) (0:Int)) ([]:zM) ([]:List GItem) ([]:List GDot)))=some ([97,47,98,32,99,111,117,110,116,101,114,32,45,53]:zM):=by
  rw [(line_is (by simp [GLeaf.wf,GDot.wf,GActor.wf,InK,IntKind.min,IntKind.max,IntKind.signed,IntKind.bits]) (by simp [GLeaf.bk,GDot.bk,GActor.bk])).1]
  rw [if_pos ⟨by decide,by decide⟩]
  have e:xi (GLeaf.mk (1:Int) (-5:Int) (0:Int) (GDot.mk (GActor.mk (0:Int) (0:Int)) (0:Int)) ([]:zM) ([]:List GItem) ([]:List GDot))=[[45,53]]:=by
   have h5:Lib.decDigits 5=[53]:=by rw [Lib.decDigits,dif_pos (by omega)];rfl
   simp only [xi,if_true,Lib.itoa]
   rw [if_pos (by omega)]
   show [45::Lib.decDigits 5]=_
   rw [h5]
  rw [e]
  rfl
 have a2:y7 (GRow.mk ([([97]:zM)]:List zM) (GLeaf.mk (3:Int) (0:Int) (0:Int) (GDot.mk (GActor.mk (0:Int) (0:Int)) (0:Int)) ([]:zM) ([(GItem.mk (0:Int) (GDot.mk (GActor.mk (0:Int) (1:Int)) 2) ([117]:zM))]:List GItem) ([GDot.mk (GActor.mk (0:Int) (1:Int)) 1]:List GDot)))=some ([97,32,115,101,116,32,48,46,49,46,50,61,55,53,32,33,48,46,49,46,49]:zM):=by
  rw [(line_is (by simp [GLeaf.wf,GItem.wf,GDot.wf,GActor.wf,InK,IntKind.min,IntKind.max,IntKind.signed,IntKind.bits,maxLen]) (by simp [GLeaf.bk,GItem.bk,GDot.bk,GActor.bk])).1]
  rw [if_pos ⟨by decide,by decide⟩]
  have e:xi (GLeaf.mk (3:Int) (0:Int) (0:Int) (GDot.mk (GActor.mk (0:Int) (0:Int)) (0:Int)) ([]:zM) ([(GItem.mk (0:Int) (GDot.mk (GActor.mk (0:Int) (1:Int)) 2) ([117]:zM))]:List GItem) ([GDot.mk (GActor.mk (0:Int) (1:Int)) 1]:List GDot))=[[48,46,49,46,50,61,55,53],[33,48,46,49,46,49]]:=by
   simp only [xi,itemT,tombT,dotT,List.map_cons,List.map_nil]
   rw [numT_small (n:=0) (by omega) (by omega),numT_small (n:=1) (by omega) (by omega),numT_small (n:=2) (by omega) (by omega)]
   rfl
  rw [e]
  rfl
 unfold vL vt
 rw [a1]
 simp only [Option.bind_some]
 rw [a2]
 rfl
theorem law44ExportSelect_is {t:List GNode} (h:Small t) {p:List zM} (hp:p.length≤maxLen):xV t p=some true:=by
 unfold xV
 obtain ⟨b1,e1⟩:=ref07Great_tot h
 rw [e1,Option.bind_some]
 cases b1 with
 | true=>simp [known44]
 | false =>
  rw [show (if (false==false)=true then ref07May t else some default)=some (treeB 0 t) from (if_pos rfl).trans (ref07May_is h),Option.bind_some]
  cases ht:treeB 0 t with
  | false=>simp [known44]
  | true =>
   by_cases h5:decide ((p.length:Int) > 5)=true
   ·simp [h5,known44]
   ·have h5:decide ((p.length:Int) > 5)=false:=by simpa using h5
    simp only [h5,Bool.not_true,Bool.or_self,beq_self_eq_true,if_true,vD hp,Option.bind_some,Bool.false_or]
    cases hm:patB p with
    | false=>simp [known44]
    | true =>
     have ks:=h.keep (is:=matchB p) []
     have km:=keep_may (is:=matchB p) t 0 [] ht
     have hf:=rows_fine h
     simp only [Bool.not_true,Bool.false_eq_true,if_false,pathsSelect_is h hp,ht,hm,Bool.and_self,if_true,Option.bind_some,pathsRows_is h]
     rw [sel_loop hp (fun n x s=>rfl) _ 0 [] hf (by have:=hf.2;simp only [List.length_nil];omega)]
     simp only [lp,List.nil_append,beq_self_eq_true,if_true,text_is ks km,Option.bind_some,keep_rows,Bool.and_self,known44,Bool.true_and]
theorem law44ExportSelect_top (t:List GNode) (p:List zM) (h1:t.length≤maxLen∧∀ y ∈ t,GNode.wf y) (h2:p.length≤maxLen∧∀ y ∈ p,y.length≤maxLen)
  (hb:((t.map GNode.bk).sum+1)+((p.map (fun s=>s.length+1)).sum+1)≤1048576):xV t p=some true :=
 law44ExportSelect_is (small_of h1 (by omega)) h2.1
end
end Go.Vv
