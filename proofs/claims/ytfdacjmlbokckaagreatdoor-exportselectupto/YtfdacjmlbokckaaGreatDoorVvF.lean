/- Each operation of the model, on values that stand to abstract ones, comes to what the abstract operation says: loads, stores, addresses, parts. -/
import Derived.Test.YtfdacjmlbokckaaGreatDoorVvD
import Derived.Great.BuildSlice
import Derived.ChangeKeysEq
set_option linter.all false
namespace Go.Vv
open Go Go.RowKit

theorem xz (b o i:Nat):(⟨b,o,none⟩:Addr).add i=⟨b,o+i,none⟩:=by unfold Addr.add;split <;> simp_all

section
variable {P:Program} {w:World} {g:Gh} {h:AH} {B:Nat} {w0:World}

theorem yp {t:TypeId} {d:TypeDesc} (h:P.underlying t=some d):(underlying t).run P w=.ok d w:=run_underlying h w
theorem run_ti {t:TypeId} {i:TypeInfo} (h:P.info? t=some i):(typeInfo t).run P w=.ok i w:=by simp [typeInfo,h]
theorem xg {t:TypeId} {i:TypeInfo} (h:P.info? t=some i):(sizeOf t).run P w=.ok i.size w:=by simp [sizeOf,run_ti h]
theorem qt {t:TypeId} {d:TypeDesc} (h:P.underlying t=some d):(isAgg t).run P w=.ok (yq d) w:=by
 simp only [isAgg,Sem.run_bind,yp h,Result.andThen_ok]
 cases d <;> rfl
theorem run_zero {t:TypeId} {i:TypeInfo} {z:Value} (h:P.info? t=some i) (hz:i.zero=some z):(zeroValue t).run P w=.ok z w:=by
 simp [zeroValue,run_ti h,hz]

theorem loadCells_at (b o:Nat) (us:List Value) (h:∀ j u,us[j]?=some u→w.cell? ⟨b,o+j,none⟩=some u):(loadCells ⟨b,o,none⟩ us.length).run P w=.ok us.toArray w :=
 run_loadCells_list w ⟨b,o,none⟩ us fun j u hu=>by rw [xz];exact h j u hu

theorem V.ofUndef:V g za undef:=by simp only [za,V];exact ⟨#[],rfl,by simp [VL]⟩

theorem V.cv1 {v:Value} (h:okc1 v=true):V g (cv1 v) v:=by
 unfold okc1 at h
 split at h <;> simp only [Vv.cv1,V] <;> first | trivial | skip
 ·simp_all
theorem cv1_one {v:Value} (h:okc1 v=true):(Vv.cv1 v).one=true:=by
 unfold okc1 at h
 split at h <;> first | rfl | cases h
theorem VA.cvs:∀ {vs:List Value},vs.all okc1=true→VA g (vs.map Vv.cv1) vs
 | [],_=>by rfl
 | v::r,h=>by
  simp only [List.all_cons,Bool.and_eq_true] at h
  simp only [List.map_cons,VA]
  exact ⟨v,r,rfl,⟨cv1_one h.1,V.cv1 h.1⟩,VA.cvs h.2⟩
theorem V.cv {v:Value} (h:okc v=true):V g (cv v) v:=by
 unfold okc at h
 split at h
 ·rename_i cs
  simp only [Vv.cv,V]
  exact ⟨cs,rfl,VA.cvs h⟩
 ·rename_i vs
  have:vs=#[]:=by simpa using h
  subst this
  exact V.ofUndef
 ·rename_i hn1 hn2
  cases v <;> first | exact V.cv1 h | exact absurd rfl (hn1 _) | exact absurd rfl (hn2 _)

theorem V.cells1 {a:AV} {v:Value} (h0:a.one=true) (h1:V g a v):v.cells.toList=[v]:=by
 cases a <;> simp only [V] at h1 <;> first
  | (subst h1;rfl)
  | (obtain ⟨rfl,_⟩:=h1;rfl)
  | (obtain ⟨_,_,rfl⟩:=h1;rfl)
  | (obtain ⟨_,_,rfl,_⟩:=h1;rfl)
  | (obtain ⟨_,_,_,rfl,_⟩:=h1;rfl)
  | (obtain ⟨_,rfl,_⟩:=h1;rfl)
  | (simp [AV.one] at h0;done)
  | (cases v <;> first | rfl | cases h1)
theorem cells?_cases {a:AV} {cs:List AV} (hc:a.cells?=some cs):(a=.agg cs) ∨ (a.one=true∧cs=[a]):=by
 cases a <;> simp only [AV.cells?,Option.some.injEq,reduceCtorEq] at hc <;> first
  | (subst hc;exact .inl rfl)
  | (subst hc;exact .inr ⟨rfl,rfl⟩)
theorem V.cells {a:AV} {v:Value} {cs:List AV} (h:V g a v) (hc:a.cells?=some cs):VA g cs v.cells.toList:=by
 rcases cells?_cases hc with rfl | ⟨h0,rfl⟩
 ·simp only [V] at h
  obtain ⟨vs,rfl,h'⟩:=h
  exact h'
 ·rw [V.cells1 h0 h]
  simp only [VA]
  simp_all

theorem V.tyfix {t:TypeId} {a:AV} {v:Value} (h:V g a v):V g (tyfix P t a) v:=by
 unfold Vv.tyfix
 split
 ·split
  ·simp only [V] at h ⊢
   simp_all
  ·exact h
 ·exact h

theorem V.ev {env:List AV} {a:Act} (he:VL g env a.tmps.toList) {x:Operand} (ho:yo x=true):V g (ev env x) (a.eval x):=by
 cases x with
 | tmp t =>
  simp only [Vv.ev,Act.eval]
  rcases ht:env[t]? with _ | av
  ·have hl:env.length≤t:=by simpa using ht
   have h2:a.tmps.getD t undef=undef:=by
    have:=he.length
    simp_all
   rw [h2,List.getD_eq_getElem?_getD,ht]
   exact V.ofUndef
  ·obtain ⟨v,hv,hV⟩:=he.get t av ht
   simp_all
 | const v=>exact V.cv ho
 | global n=>simp only [Vv.ev,Act.eval,V]
 | func f=>simp only [Vv.ev,Act.eval,V,VL];exact ⟨#[],#[],rfl,rfl,rfl⟩

theorem qM:∀ {a5 bs:List AV} {vs:List Value},VA g a5 vs→xJ a5=some bs→VA g bs vs
 | [],bs,vs,h,hc=>by simp only [xJ,Option.some.injEq] at hc;subst hc;exact h
 | a::r,bs,vs,h,hc=>by
  simp only [xJ] at hc
  split at hc
  ·rename_i a' r' ha hr
   cases hc
   simp only [VA] at h ⊢
   obtain ⟨v,s,rfl,⟨h0,h1⟩,h2⟩:=h
   refine ⟨v,s,rfl,?_,qM h2 hr⟩
   unfold aClean at ha
   split at ha
   ·cases ha
    refine ⟨rfl,?_⟩
    simp only [V] at h1 ⊢
    grind
   ·cases ha
   ·simp_all
  ·cases hc
theorem clean_pure:∀ {a5 bs:List AV},xJ a5=some bs→bs.all AV.pure=true
 | [],bs,h=>by simp only [xJ,Option.some.injEq] at h;subst h;rfl
 | a::r,bs,h=>by
  simp only [xJ] at h
  split at h
  ·rename_i a' r' ha hr
   cases h
   have h1:a'.pure=true:=by
    unfold aClean at ha
    split at ha
    ·cases ha;rfl
    ·cases ha
    ·grind
   simp [h1,clean_pure hr]
  ·cases h
theorem rows_flat {k:Nat}:∀ (n:Nat) (cs:List AV),cs.length=n * k→(rows k n cs).flatten=cs∧(rows k n cs).length=n∧∀ e ∈ rows k n cs,e.length=k
 | 0,cs,h=>by simp at h;subst h;simp [rows]
 | n+1,cs,h=>by
  rw [Nat.succ_mul] at h
  obtain ⟨h1,h2,h3⟩:=rows_flat (k:=k) n (cs.drop k) (by simp;omega)
  refine ⟨by simp [rows,h1],by simp [rows,h2],fun e he=>?_⟩
  simp only [rows,List.mem_cons] at he
  grind
theorem clean_len:∀ {a5 bs:List AV},xJ a5=some bs→bs.length=a5.length
 | [],bs,h=>by simp only [xJ,Option.some.injEq] at h;rw [← h]
 | a::r,bs,h=>by
  simp only [xJ] at h
  split at h
  ·rename_i a' r' _ hr
   cases h
   simp [clean_len hr]
  ·cases h

theorem load_sound (r:Rel B w0 g h w) {t:TypeId} {d:TypeDesc} {i:TypeInfo} (hd:P.underlying t=some d) (hi:P.info? t=some i) {p v:AV} {pv:Value} (hp:V g p pv)
  (hl:aLoad h (yq d) i.size p=some v):∃ u,(Instr.loadAt t pv).run P w=.ok u w∧V g v u:=by
 have main:∀ (b o:Nat) (cs:List AV) (us:List Value),VA g cs us→(∀ j u,us[j]?=some u→w.cell? ⟨b,o+j,none⟩=some u) →
   (if yq d then (if i.size≤cs.length then some (AV.agg (cs.take i.size)) else none) else cs[0]?)=some v →
   ∃ u,(Instr.loadAt t (.pointer (some ⟨b,o,none⟩))).run P w=.ok u w∧V g v u:=by
  intro b o cs us hv hc hl
  cases ha:yq d with
  | true =>
   simp only [ha,if_true] at hl
   split at hl
   ·rename_i hle
    cases hl
    have hlen:(us.take i.size).length=i.size:=by rw [List.length_take,← hv.length];omega
    have hlc:=loadCells_at (P:=P) (w:=w) b o (us.take i.size) fun j u hu=>by
     grind
    rw [hlen] at hlc
    refine ⟨.agg (us.take i.size).toArray,?_,?_⟩
    ·simp [Instr.loadAt,Instr.sureAddr,loadVar,qt hd,ha,xg hi,hlc]
    ·simp only [V];exact ⟨_,rfl,VA.take _ hv⟩
   ·cases hl
  | false =>
   simp only [ha,Bool.false_eq_true,if_false] at hl
   obtain ⟨u,hu,hV⟩:=hv.toVL.get 0 v hl
   refine ⟨u,?_,hV⟩
   have:=hc 0 u hu
   rw [Nat.add_zero] at this
   simp [Instr.loadAt,Instr.sureAddr,loadVar,qt hd,ha,run_load,this]
 unfold aLoad at hl
 split at hl
 ·rename_i id off
  simp only [V] at hp
  obtain ⟨c,hc,rfl⟩:=hp
  split at hl
  ·rename_i cs hb
   obtain ⟨h1,h2,⟨vs,ty,hheap,hva⟩,h4⟩:=r.blk id c _ hc hb
   refine main c off (cs.drop off) (vs.toList.drop off) (VA.drop off hva) (fun j u hu=>?_) ?_
   ·rw [List.getElem?_drop] at hu
    rw [cell_of_row w c (off+j) vs ty (0,0) hheap,← Array.getElem?_toList]
    exact hu
   ·grind
  ·rename_i T x hb
   split at hl
   ·rename_i hc1
    obtain ⟨ha,rfl⟩:=hc1
    cases hl
    obtain ⟨h1,h2,⟨a,u,hheap,_,hone,hV⟩,h4⟩:=r.blk id c _ hc hb
    refine main c 1 [v] [u] (by simp only [VA];exact ⟨u,[],rfl,⟨hone,hV⟩,rfl⟩) (fun j y hy=>?_) (by rw [ha];rfl)
    rw [cell_of_row w c (1+j) #[a,u] T (0,0) hheap]
    cases j with
    | zero=>simpa using hy
    | succ j=>simp at hy
   ·cases hl
  ·cases hl
 ·rename_i cs
  simp only [V] at hp
  obtain ⟨b,o,rfl,hvc⟩:=hp
  obtain ⟨us,hva,_,hus⟩:=hvc.toVA
  exact main b o cs us hva (fun j u hu=>r.phi _ _ _ (hus j u hu)) hl
 ·rename_i id q k m p
  simp only [V] at hp
  obtain ⟨b,o,rfl,t2,ht2,hrd,hle,hpt⟩:=hp
  split at hl
  ·rename_i q' k' es hb
   split at hl
   ·rename_i hc
    obtain ⟨rfl,rfl,rfl⟩:=hc
    obtain ⟨_,ti,hti,htr,htn,hlen,hpe,hrow⟩:=r.rowAt hb
    obtain rfl:ti=t2:=by simp_all
    obtain ⟨o',e',rfl,hloc⟩:=hpt htn.symm
    have hl':(if yq d then (if i.size≤(es.flatten.drop p).length then some (AV.agg ((es.flatten.drop p).take i.size)) else none) else (es.flatten.drop p)[0]?)=some v:=by
     grind
    rcases hrow with rfl | ⟨b2,o2,e2,cs,ty2,k1,k2,k3,k4,k5⟩
    ·exact main b (o'+p) _ [] (by simp [VA]) (fun j u hu=>by simp at hu) hl'
    ·rw [hloc] at k1;injection k1 with k1;injection k1 with e1 k1;injection k1 with k1 _
     obtain rfl:o'=o2:=by omega
     subst e1
     refine main b (o'+p) _ _ (VA.drop p k3) (fun j u hu=>?_) hl'
     rw [List.getElem?_drop,List.getElem?_take] at hu
     split at hu
     ·rw [List.getElem?_drop,Array.getElem?_toList] at hu
      rw [cell_of_row w b (o'+p+j) cs ty2 (0,0) k2,← hu];congr 1;omega
     ·cases hu
   ·cases hl
  ·cases hl
 ·cases hl

theorem splice_VA {cs vs:List AV} {us xs:List Value} {off:Nat} (h:VA g cs us) (k:VA g vs xs):VA g (xw cs off vs) (us.take off++xs++us.drop (off+xs.length)):=by
 unfold xw
 rw [k.length]
 exact ((VA.take off h).append k).append (VA.drop _ h)

theorem store_sound (r:Rel B w0 g h w) {t:TypeId} {i:TypeInfo} (hi:P.info? t=some i) {p v:AV} {pv u:Value} (hp:V g p pv) (hv:V g v u) {h':AH}
  (hs:aStore h i.size p v=some h'):∃ w',(Instr.storeAt t pv u).run P w=.ok () w'∧Rel B w0 g h' w':=by
 unfold aStore at hs
 split at hs
 ·rename_i id off vs hcs
  split at hs
  ·rename_i cs hb
   split at hs
   ·rename_i hle
    cases hs
    simp only [V] at hp
    obtain ⟨c,hc,rfl⟩:=hp
    obtain ⟨h1,h2,⟨xs,ty,hheap,hva⟩,h4⟩:=r.blk id c _ hc hb
    have hus:=hv.cells hcs
    have hsz:u.cells.size=i.size:=by rw [← hle.1,hus.length];rfl
    have hxl:cs.length=xs.size:=by rw [hva.length];rfl
    have hst:=run_storeCells_at P c off ty u.cells.toList 0 xs w hheap (by simp_all) hus.one'
    simp only [Nat.add_zero] at hst
    refine ⟨w.setRow c (xs.toList.take off++u.cells.toList++xs.toList.drop (off+u.cells.toList.length)).toArray,?_,r.putObj hc hb (by simp) (setRow_os _ _ _) (setRow_tape _ _ _) (setRow_output _ _ _) (setRow_size _ _ _) (fun b hb'=>setRow_other w c b _ hb')
     ⟨_,ty,setRow_heap w c xs _ ty (0,0) hheap,?_⟩⟩
    ·simp [Instr.storeAt,Instr.sureAddr,storeVar,xg hi,hsz,hst]
    ·have:=splice_VA (off:=off) hva hus
     omega
   ·cases hs
  ·rename_i T x hb
   split at hs
   ·rename_i y
    split at hs
    ·rename_i hc1
     obtain ⟨hn1,rfl⟩:=hc1
     cases hs
     simp only [V] at hp
     obtain ⟨c,hc,rfl⟩:=hp
     obtain ⟨h1,h2,⟨a,v0,hheap,hself,_,_⟩,h4⟩:=r.blk id c _ hc hb
     have hus:=hv.cells hcs
     have hsz:u.cells.size=i.size:=by rw [hn1];exact hus.length.symm
     have hst:=run_storeCells_at P c 1 T u.cells.toList 0 #[a,v0] w hheap (by simp_all) hus.one'
     simp only [Nat.add_zero] at hst
     simp only [VA] at hus
     obtain ⟨y1,_,hy,⟨hone,hV⟩,rfl⟩:=hus
     have hnew:((#[a,v0]:Array Value).toList.take 1++u.cells.toList++(#[a,v0]:Array Value).toList.drop (1+u.cells.toList.length)).toArray=#[a,y1]:=by rw [hy];rfl
     rw [hnew] at hst
     refine ⟨w.setRow c #[a,y1],?_,r.putObj hc hb (by simp) (setRow_os _ _ _) (setRow_tape _ _ _) (setRow_output _ _ _) (setRow_size _ _ _) (fun b hb'=>setRow_other w c b _ hb')
      ⟨a,y1,setRow_heap w c _ _ T (0,0) hheap,hself,hone,hV⟩⟩
     simp [Instr.storeAt,Instr.sureAddr,storeVar,xg hi,hsz,hst]
    ·cases hs
   ·cases hs
  ·cases hs
 ·rename_i id q k m p vs hcs
  split at hs
  ·rename_i q' k' es hb
   split at hs
   ·rename_i hle
    obtain ⟨rfl,rfl,rfl,hvl,hfit⟩:=hle
    split at hs
    ·rename_i vs' hcl
     cases hs
     simp only [V] at hp
     obtain ⟨b,o,rfl,t2,ht2,hrd,hle,hpt⟩:=hp
     obtain ⟨_,ti,hti,htr,htn,hlen,hpe,hrow⟩:=r.rowAt hb
     obtain rfl:ti=t2:=by simp_all
     obtain ⟨o',e',rfl,hloc⟩:=hpt htn.symm
     have hfl:es.flatten.length=es.length * k':=yz hlen
     have hus:=qM (hv.cells hcs) hcl
     have hvl':vs'.length=i.size:=by rw [clean_len hcl,hvl]
     have hsz:u.cells.size=i.size:=by rw [← hvl',hus.length];rfl
     by_cases hes:es=[]
     ·subst hes
      have hz:i.size=0:=by simp_all
      have hnil:u.cells=#[]:=Array.eq_empty_of_size_eq_zero (by omega)
      refine ⟨w,by simp [Instr.storeAt,Instr.sureAddr,storeVar,xg hi,hz,hnil,storeCells],?_⟩
      have:rows k' ([]:List (List AV)).length (xw ([]:List (List AV)).flatten p vs')=[]:=rfl
      rw [this]
      have e:h.put id (.row q' k' [])=h:=by
       cases h with
       | mk B T =>
        simp only [AH.put,AH.mk.injEq,and_true]
        refine List.ext_getElem? fun j=>?_
        by_cases hj:j=id
        ·subst hj;rw [List.getElem?_set_self (List.getElem?_eq_some_iff.1 hb).1];exact hb.symm
        ·grind
      simp_all
     ·obtain ⟨b2,o2,e2,cs,ty2,k1,k2,k3,k4,k5⟩:=hrow.resolve_left hes
      rw [hloc] at k1;injection k1 with k1;injection k1 with e1 k1;injection k1 with k1 _
      obtain rfl:o'=o2:=by omega
      subst e1
      have hst:=run_storeCells_at P b (o'+p) ty2 u.cells.toList 0 cs w k2 (by grind) hus.one'
      simp only [Nat.add_zero] at hst
      generalize hnew:(cs.toList.take (o'+p)++u.cells.toList++cs.toList.drop (o'+p+u.cells.toList.length)).toArray=new at hst
      have hul:u.cells.toList.length=i.size:=by simp [hsz]
      have hspl:(xw es.flatten p vs').length=es.length * k':=by unfold xw;rw [List.length_append,List.length_append,List.length_take,List.length_drop,hfl];omega
      obtain ⟨f1,f2,f3⟩:=rows_flat (k:=k') es.length (xw es.flatten p vs') hspl
      refine ⟨w.setRow b new,?_,r.storeRow (e:=e') (cur:=cs) (ty:=ty2) (o:=o') hb hti hloc k2 (by grind) (fun j hj=>?_) f2 f3 ?_ ?_ hes⟩
      ·simp [Instr.storeAt,Instr.sureAddr,storeVar,xg hi,hsz,hst]
      ·rw [← hnew,List.getElem?_toArray,List.append_assoc,List.getElem?_append_left (by simp;omega),List.getElem?_take,if_pos (by omega),Array.getElem?_toList]
      ·rw [f1];unfold xw
       simp only [List.all_append,Bool.and_eq_true]
       exact ⟨⟨all_take _ hpe,clean_pure hcl⟩,all_drop _ hpe⟩
      ·rw [f1]
       have hcont:(new.toList.drop o').take (es.length * k')=((cs.toList.drop o').take (es.length * k')).take p++u.cells.toList++((cs.toList.drop o').take (es.length * k')).drop (p+u.cells.toList.length):=by
        rw [← hnew]
        apply List.ext_getElem?
        intro j
        have hcl:cs.toList.length=cs.size:=by simp
        by_cases h1:j < p
        ·rw [List.getElem?_take,if_pos (by omega),List.getElem?_drop,List.append_assoc,List.getElem?_append_left (by simp;omega),List.getElem?_take,if_pos (by omega)]
         rw [List.append_assoc,List.getElem?_append_left (by simp;omega),List.getElem?_take,if_pos h1,List.getElem?_take,if_pos (by omega),List.getElem?_drop]
        ·by_cases h2:j < p+i.size
         ·rw [List.getElem?_take,if_pos (by omega),List.getElem?_drop,List.append_assoc,List.getElem?_append_right (by simp;omega),List.getElem?_append_left (by simp;omega)]
          rw [List.append_assoc,List.getElem?_append_right (by simp;omega),List.getElem?_append_left (by simp;omega)]
          congr 1;simp;omega
         ·by_cases h3:j < es.length * k'
          ·rw [List.getElem?_take,if_pos h3,List.getElem?_drop,List.getElem?_append_right (by simp;omega),List.getElem?_drop]
           rw [List.getElem?_append_right (by simp;omega),List.getElem?_drop,List.getElem?_take,if_pos (by simp;omega),List.getElem?_drop]
           congr 1;simp;omega
          ·rw [List.getElem?_take,if_neg h3,List.getElem?_eq_none]
           grind
       rw [hcont]
       exact splice_VA (off:=p) k3 hus
    ·cases hs
   ·cases hs
  ·cases hs
 ·rename_i m vs hcs
  split at hs
  ·rename_i hle
   cases hs
   simp only [V] at hp
   obtain ⟨b,o,s,rfl,hn,hos⟩:=hp
   obtain ⟨_,_,⟨xs,ty,hheap,hxs⟩,_⟩:=r.nb b _ hn
   have hus:=hv.cells hcs
   have hsz:u.cells.size=i.size:=by rw [← hle.1,hus.length];rfl
   have hst:=run_storeCells_at P b o ty u.cells.toList 0 xs w hheap (by grind) hus.one'
   simp only [Nat.add_zero] at hst
   refine ⟨w.setRow b (xs.toList.take o++u.cells.toList++xs.toList.drop (o+u.cells.toList.length)).toArray,?_,r.scribble hn hheap (by simp;omega)⟩
   simp [Instr.storeAt,Instr.sureAddr,storeVar,xg hi,hsz,hst]
  ·cases hs
 ·cases hs

theorem fieldAddr_sound {s:TypeId} {f off:Nat} {u:TypeId} {i:TypeInfo} (hf:qJ P s f=some (off,u)) (hi:P.info? u=some i) (hz:i.size ≠ 0) {p v:AV} {pv:Value} (hp:V g p pv)
  (ha:aFieldAddr off p=some v):∃ x,(Instr.fieldAt s pv f).run P w=.ok x w∧V g v x:=by
 unfold qJ at hf
 split at hf
 ·rename_i fs hs
  rcases hff:fs[f]? with _ | fd
  ·simp [hff] at hf
  ·simp [hff] at hf
   obtain ⟨rfl,rfl⟩:=hf
   have hrun:∀ b o,(Instr.fieldAt s (.pointer (some ⟨b,o,none⟩)) f).run P w=.ok (.pointer (some ⟨b,o+fd.offset,none⟩)) w:=fun b o=>by
    simp [Instr.fieldAt,Instr.sureAddr,yp hs,hff,fieldPlace,xg hi,hz,xz]
   unfold aFieldAddr at ha
   split at ha
   ·cases ha
    simp only [V] at hp
    obtain ⟨c,hc,rfl⟩:=hp
    exact ⟨_,hrun _ _,by simp only [V];exact ⟨c,hc,rfl⟩⟩
   ·cases ha
    simp only [V] at hp
    obtain ⟨b,o,rfl,hvc⟩:=hp
    exact ⟨_,hrun _ _,by simp only [V];exact ⟨b,_,rfl,VC.drop _ hvc⟩⟩
   ·cases ha
    simp only [V] at hp
    obtain ⟨b,q,rfl,t,ht,hr,hle,hpt⟩:=hp
    exact ⟨_,hrun _ _,by
     simp only [V]
     exact ⟨b,_,rfl,t,ht,hr,hle,fun e=>by
      obtain ⟨o,e',rfl,h2⟩:=hpt e
      exact ⟨o,e',by omega,h2⟩⟩⟩
   ·split at ha
    ·cases ha
     simp only [V] at hp
     obtain ⟨b,o,s,rfl,hn,hos⟩:=hp
     exact ⟨_,hrun _ _,by simp only [V];exact ⟨b,_,s,rfl,hn,by omega⟩⟩
    ·cases ha
   ·cases ha
 ·cases hf

theorem part_sound {t:TypeId} {d:TypeDesc} {i:TypeInfo} (hd:P.underlying t=some d) (hi:P.info? t=some i) {off:Nat} {x v:AV} {xv:Value} (hx:V g x xv)
  (ha:aPart (yq d) off i.size x=some v):∃ cs u,xv=.agg cs∧(part t cs off).run P w=.ok u w∧V g v u:=by
 unfold aPart at ha
 split at ha
 ·rename_i cs
  simp only [V] at hx
  obtain ⟨vs,rfl,hva⟩:=hx
  refine ⟨vs,?_⟩
  cases hag:yq d with
  | true =>
   simp only [hag,if_true,Option.some.injEq] at ha
   subst ha
   refine ⟨.agg (vs.extract off (off+i.size)),rfl,by simp [part,qt hd,hag,xg hi],?_⟩
   simp only [V]
   refine ⟨_,rfl,?_⟩
   have:=VA.take i.size (VA.drop off hva)
   simp_all
  | false =>
   simp only [hag,Bool.false_eq_true,if_false] at ha
   obtain ⟨u,hu,hV⟩:=hva.toVL.get _ _ ha
   have hu':vs[off]?=some u:=by simp_all
   exact ⟨u,rfl,by simp [part,qt hd,hag,hu'],hV⟩
 ·cases ha

theorem field_sound {s:TypeId} {f off:Nat} {u:TypeId} {d:TypeDesc} {i:TypeInfo} (hf:qJ P s f=some (off,u)) (hd:P.underlying u=some d) (hi:P.info? u=some i) {x v:AV} {xv:Value} (hx:V g x xv)
  (ha:aPart (yq d) off i.size x=some v):∃ y,(Instr.field s xv f).run P w=.ok y w∧V g v y:=by
 unfold qJ at hf
 split at hf
 ·rename_i fs hs
  rcases hff:fs[f]? with _ | fd
  ·simp_all
  ·simp [hff] at hf
   obtain ⟨rfl,rfl⟩:=hf
   obtain ⟨cs,y,rfl,hrun,hV⟩:=part_sound (w:=w) hd hi hx ha
   exact ⟨y,by simp [Instr.field,yp hs,hff,asAgg,hrun],hV⟩
 ·cases hf

theorem indexAddr_slice_sound {t e:TypeId} {i:TypeInfo} (ht:P.underlying t=some (.slice e)) (hi:P.info? e=some i) {x n v:AV} {xv nv:Value} (hx:V g x xv) (hn:V g n nv)
  (ha:aIndexAddr i.size x n=some v):∃ y,(Instr.indexAt t xv nv).run P w=.ok y w∧V g v y:=by
 have main:∀ (k:Nat) (es:List (List AV)) (kd:IntKind) (z:Int) (a:Option Addr) (c:Nat),k=i.size→0≤z→(es[z.toNat]?).map AV.fptr=some v→(es=[] ∨ ∃ b o,a=some ⟨b,o,none⟩∧VE g b k o es) →
   ∃ y,(Instr.indexAt t (.slice a es.length c) (.int kd z)).run P w=.ok y w∧V g v y:=by
  intro k es kd z a c hk hz hm hes
  rcases he:es[z.toNat]? with _ | e
  ·simp_all
  ·simp only [he,Option.map_some,Option.some.injEq] at hm
   subst hm
   rcases hes with rfl | ⟨b,o,rfl,hve⟩
   ·simp at he
   ·obtain ⟨h1,h2⟩:=hve.get _ _ he
    have hlt:z.toNat < es.length:=(List.getElem?_eq_some_iff.1 he).1
    have hzl:z < (es.length:Int):=by omega
    refine ⟨.pointer (some ⟨b,o+z.toNat * i.size,none⟩),?_,?_⟩
    ·simp [Instr.indexAt,asIntOf,yp ht,hz,hzl,xg hi,xz]
    ·simp only [V]
     grind
 unfold aIndexAddr at ha
 split at ha
 ·rename_i k es kd z
  split at ha
  ·rename_i hc
   simp only [V] at hx hn
   obtain ⟨a,c,rfl,h1,h2,h3⟩:=hx
   subst hn
   exact main k es kd z a c hc.1 hc.2 ha h3
  ·cases ha
 ·rename_i q k es kd z
  split at ha
  ·rename_i hc
   simp only [V] at hx hn
   obtain ⟨a,c,rfl,h1,h2,h3,h4⟩:=hx
   subst hn
   exact main k es kd z a c hc.1 hc.2 ha h3
  ·cases ha
 ·rename_i k es kd z
  split at ha
  ·rename_i hc
   simp only [V] at hx hn
   obtain ⟨a,c,rfl,h1,h2,h3⟩:=hx
   subst hn
   exact main k es kd z a c hc.1 hc.2 ha (h3.imp id fun ⟨b,o,e,hh,_⟩=>⟨b,o,e,hh⟩)
  ·cases ha
 ·rename_i k es kd z
  split at ha
  ·rename_i hc
   simp only [V] at hx hn
   obtain ⟨a,c,rfl,h1,h2,h3⟩:=hx
   subst hn
   exact main k es kd z a c hc.1 hc.2 ha (h3.imp id fun ⟨b,o,e,hh,_⟩=>⟨b,o,e,hh⟩)
  ·cases ha
 ·rename_i k m kd z
  split at ha
  ·rename_i hc
   cases ha
   simp only [V] at hx hn
   obtain ⟨a,c,rfl,h1,h2,h3⟩:=hx
   subst hn
   obtain ⟨rfl,hz0,hzm⟩:=hc
   rcases h3 with h3 | ⟨b,o,s,rfl,hn,hs⟩
   ·omega
   ·refine ⟨.pointer (some ⟨b,o+z.toNat * i.size,none⟩),?_,?_⟩
    ·simp [Instr.indexAt,asIntOf,yp ht,hz0,hzm,xg hi,xz]
    ·simp only [V]
     have h5:(z.toNat+1) * i.size≤m * i.size:=Nat.mul_le_mul_right _ (by omega)
     grind
  ·cases ha
 ·rename_i k id off len kd z
  split at ha
  ·rename_i hc
   cases ha
   simp only [V] at hx hn
   obtain ⟨c,cap,hσ,rfl,h2,h3⟩:=hx
   subst hn
   refine ⟨.pointer (some ⟨c,off+z.toNat * i.size,none⟩),?_,by simp only [V];exact ⟨c,hσ,rfl⟩⟩
   simp [Instr.indexAt,asIntOf,yp ht,hc.2.1,hc.2.2,xg hi,xz]
  ·cases ha
 ·rename_i id q k m kd z
  split at ha
  ·rename_i hc
   cases ha
   simp only [V] at hx hn
   obtain ⟨a,c,rfl,h1,h2,t,ht',hr,hle,hloc⟩:=hx
   subst hn
   rcases hloc with ⟨h0,_⟩ | ⟨b,o,rfl,hloc⟩
   ·omega
   ·refine ⟨.pointer (some ⟨b,o+z.toNat * i.size,none⟩),?_,by simp only [V];exact ⟨b,_,rfl,t,ht',hr,hle,fun e=>⟨o,_,rfl,by rw [hc.1] at hloc;exact hloc e⟩⟩⟩
    simp [Instr.indexAt,asIntOf,yp ht,hc.2.1,hc.2.2,xg hi,xz]
  ·cases ha
 ·rename_i id q k m p kd z
  split at ha
  ·rename_i hc
   cases ha
   simp only [V] at hx hn
   obtain ⟨a,c,rfl,h1,t,ht',hloc⟩:=hx
   subst hn
   rcases hloc with h0 | ⟨b,o,rfl,hr,hle,hloc⟩
   ·omega
   ·refine ⟨.pointer (some ⟨b,o+z.toNat * i.size,none⟩),?_,by simp only [V];exact ⟨b,_,rfl,t,ht',hr,hle,fun e=>by grind⟩⟩
    simp [Instr.indexAt,asIntOf,yp ht,hc.2.1,hc.2.2,xg hi,xz]
  ·cases ha
 ·cases ha

theorem indexAddr_array_sound {t e:TypeId} {len:Nat} {i:TypeInfo} (ht:P.underlying t=some (.array len e)) (hi:P.info? e=some i) {x n v:AV} {xv nv:Value} (hx:V g x xv) (hn:V g n nv)
  (ha:aIndexArr len i.size x n=some v):∃ y,(Instr.indexAt t xv nv).run P w=.ok y w∧V g v y:=by
 have main:∀ (b o:Nat) (kd:IntKind) (z:Int),0≤z→z < len→(Instr.indexAt t (.pointer (some ⟨b,o,none⟩)) (.int kd z)).run P w=.ok (.pointer (some ⟨b,o+z.toNat * i.size,none⟩)) w:=by
  intro b o kd z h0 h1
  simp [Instr.indexAt,Instr.sureAddr,asIntOf,yp ht,h0,h1,xg hi,xz]
 unfold aIndexArr at ha
 split at ha
 ·split at ha
  ·rename_i hc
   cases ha
   simp only [V] at hx hn
   obtain ⟨c,hσ,rfl⟩:=hx
   subst hn
   exact ⟨_,main _ _ _ _ hc.1 hc.2,by simp only [V];exact ⟨c,hσ,rfl⟩⟩
  ·cases ha
 ·split at ha
  ·rename_i hc
   cases ha
   simp only [V] at hx hn
   obtain ⟨b,o,rfl,hvc⟩:=hx
   subst hn
   exact ⟨_,main _ _ _ _ hc.1 hc.2,by simp only [V];exact ⟨b,_,rfl,VC.drop _ hvc⟩⟩
  ·cases ha
 ·cases ha

theorem index_str_sound {t:TypeId} (ht:P.underlying t=some .string) {x n v:AV} {xv nv:Value} (hx:V g x xv) (hn:V g n nv)
  (ha:aIndexStr x n=some v):∃ y,(Instr.index t xv nv).run P w=.ok y w∧V g v y:=by
 unfold aIndexStr at ha
 split at ha
 ·rename_i s kd z
  split at ha
  ·rename_i hz
   rcases hs:s[z.toNat]? with _ | b
   ·simp_all
   ·simp only [hs,Option.map_some,Option.some.injEq] at ha
    subst ha
    simp only [V] at hx hn
    obtain ⟨rfl,_⟩:=hx
    subst hn
    refine ⟨.int .u8 b.toNat,?_,by simp only [V]⟩
    obtain ⟨hlt,hg⟩:=List.getElem?_eq_some_iff.1 hs
    have hb:(⟨s.toArray⟩:ByteArray)[z.toNat]?=some b:=by
     rw [getElem?_pos _ _ (by simpa [ByteArray.size] using hlt)]
     exact congrArg some hg
    simp [Instr.index,asIntOf,yp ht,hz,hb]
  ·cases ha
 ·cases ha

theorem index_agg_sound {t e:TypeId} {len:Nat} {d:TypeDesc} {i:TypeInfo} (ht:P.underlying t=some (.array len e)) (hd:P.underlying e=some d) (hi:P.info? e=some i) {x n v:AV} {xv nv:Value} (hx:V g x xv) (hn:V g n nv)
  (ha:aIndexAgg (yq d) len i.size x n=some v):∃ y,(Instr.index t xv nv).run P w=.ok y w∧V g v y:=by
 unfold aIndexAgg at ha
 split at ha
 ·rename_i kd z
  split at ha
  ·rename_i hc
   simp only [V] at hn
   subst hn
   obtain ⟨cs,y,rfl,hrun,hV⟩:=part_sound (w:=w) hd hi hx ha
   exact ⟨y,by simp [Instr.index,asIntOf,yp ht,hc.1,hc.2,xg hi,hrun],hV⟩
  ·cases ha
 ·cases ha
end
end Go.Vv
namespace Go.Vv
open Go Go.RowKit Go.Lib
section
variable {P:Program} {w:World} {g:Gh} {h:AH} {B:Nat} {w0:World}

def VO (g:Gh):Option AV→Option Value→Prop
 | none,v=>v=none
 | some a,v=>∃ u,v=some u∧V g a u

theorem bound_cases {d n:Nat} {x:Option AV} {xv:Option Value} (hx:VO g x xv) (hb:aBound d x=some n):(xv=none∧x=none∧n=d) ∨ ∃ (k:IntKind) (z:Int),xv=some (.int k z)∧x.isSome=true∧0≤z∧z=n:=by
 unfold aBound at hb
 split at hb
 ·simp only [VO] at hx
  simp_all
 ·rename_i k z
  split at hb
  ·rename_i hz
   simp only [VO,V] at hx
   grind
  ·cases hb
 ·cases hb


theorem slice_bounds {isS:Bool} {len cap l hh m d:Nat} {lo hi mx:Option Value}
  (hl:(lo=none∧l=0) ∨ ∃ (k:IntKind) (z:Int),lo=some (.int k z)∧0≤z∧z=l)
  (hh':(hi=none∧mx=none∧hh=len) ∨ ∃ (k:IntKind) (z:Int),hi=some (.int k z)∧0≤z∧z=hh)
  (hm:(mx=none∧m=cap) ∨ ∃ (k:IntKind) (z:Int),mx=some (.int k z)∧0≤z∧z=m) (h1:l≤hh) (h2:hh≤m) (h3:m≤cap) (_:d=0) :
  (Instr.sliceBounds isS len cap lo hi mx).run P w=.ok (l,hh,m) w:=by
 rcases hm with ⟨rfl,rfl⟩ | ⟨km,zm,rfl,hm0,hm1⟩ <;> rcases hh' with ⟨rfl,hmx,rfl⟩ | ⟨kh,zh,rfl,hh0,hh1⟩ <;> rcases hl with ⟨rfl,rfl⟩ | ⟨kl,zl,rfl,hl0,hl1⟩ <;>
  first
  | (cases hmx;done)
  | (
       have e1:zl.toNat=l:=by omega
       have e2:zh.toNat=hh:=by omega
       have e3:zm.toNat=m:=by omega
       have b1:zl≤hh:=by omega
       have b2:zh≤m:=by omega
       have b3:zm≤cap:=by omega
       simp [Instr.sliceBounds,run_sliceBound, *];done)
  | (
       have e2:zh.toNat=hh:=by omega
       have e3:zm.toNat=m:=by omega
       have b2:zh≤m:=by omega
       have b3:zm≤cap:=by omega
       simp [Instr.sliceBounds,run_sliceBound, *];done)
  | (
       have e1:zl.toNat=l:=by omega
       have e2:zh.toNat=hh:=by omega
       have b1:zl≤hh:=by omega
       have b2:zh≤m:=by omega
       simp [Instr.sliceBounds,run_sliceBound, *];done)
  | (
       have e1:zl.toNat=l:=by omega
       have b1:zl≤hh:=by omega
       simp [Instr.sliceBounds,run_sliceBound, *];done)
  | (
       have e2:zh.toNat=hh:=by omega
       have b2:zh≤m:=by omega
       simp [Instr.sliceBounds,run_sliceBound, *];done)
  | (simp [Instr.sliceBounds];done)

theorem sliceAt_of {t:TypeId} {d:TypeDesc} (ht:P.underlying t=some d) (hd:∀ n e,d ≠ .array n e) (x:Value) (lo hi mx:Option Value):(Instr.sliceAt t x lo hi mx).run P w=(Instr.slice t x lo hi mx).run P w:=by
 cases d <;> (first | exact absurd rfl (hd _ _) | simp only [Instr.sliceAt,Sem.run_bind,yp ht,Result.andThen_ok])

theorem lo_cases {l:Nat} {lo:Option AV} {lov:Option Value} (hlo:VO g lo lov) (hbl:aBound 0 lo=some l):(lov=none∧l=0) ∨ ∃ (k:IntKind) (z:Int),lov=some (.int k z)∧0≤z∧z=l:=by
 rcases bound_cases hlo hbl with ⟨e,_,e'⟩ | ⟨k,z,e,_,h0,h1⟩
 ·simp_all
 ·simp_all
theorem hi_cases {l len:Nat} {lo:Option AV} {lov mxv:Option Value} (hlo:VO g lo lov) (hbl:aBound len lo=some l) (hm:mxv ≠ none→lov ≠ none) :
  (lov=none∧mxv=none∧l=len) ∨ ∃ (k:IntKind) (z:Int),lov=some (.int k z)∧0≤z∧z=l:=by
 rcases bound_cases hlo hbl with ⟨e,_,e'⟩ | ⟨k,z,e,_,h0,h1⟩
 ·simp_all
 ·simp_all

theorem slice_str_sound {t:TypeId} (ht:P.underlying t=some .string) {s:List UInt8} {xv:Value} {lo hi mx:Option AV} {lov hiv mxv:Option Value} (hx:V g (.str s) xv) (hlo:VO g lo lov) (hhi:VO g hi hiv) (hmx:VO g mx mxv)
  {v:AV} (ha:aSlice (.str s) lo hi mx=some v):∃ y,(Instr.sliceAt t xv lov hiv mxv).run P w=.ok y w∧V g v y:=by
 simp only [V] at hx
 obtain ⟨rfl,hs⟩:=hx
 unfold aSlice at ha
 simp only at ha
 split at ha
 ·rename_i hm
  have:mx=none:=by simp_all
  subst this
  simp only [VO] at hmx
  subst hmx
  unfold aSliceStr at ha
  split at ha
  ·rename_i l hh hbl hbh
   split at ha
   ·rename_i hle
    cases ha
    rw [sliceAt_of ht (by simp)]
    have hsz:(⟨s.toArray⟩:ByteArray).size=s.length:=by rfl
    have hb:=slice_bounds (P:=P) (w:=w) (isS:=false) (len:=s.length) (cap:=s.length) (l:=l) (hh:=hh) (m:=s.length) (d:=0) (mx:=none)
     (lo_cases hlo hbl) (hi_cases hhi hbh fun h=>absurd rfl h)
     (.inl ⟨rfl,rfl⟩) hle.1 hle.2 (Nat.le_refl _) rfl
    refine ⟨.string ((⟨s.toArray⟩:ByteArray).extract l hh),?_,?_⟩
    ·simp [Instr.slice,yp ht,hsz,hb]
    ·simp only [V]
     refine ⟨?_,by simp;omega⟩
     congr 1
     apply ByteArray.ext
     simp [ByteArray.data_extract,List.extract_eq_take_drop,List.drop_take]
   ·cases ha
  ·cases ha
 ·cases ha

theorem slice_sl_sound {t e:TypeId} {i:TypeInfo} (ht:P.underlying t=some (.slice e)) (hi:P.info? e=some i) {full:Bool} {es:List (List AV)} {a:Option Addr} {c:Nat} {lo hi' mx:Option AV} {lov hiv mxv:Option Value}
  (h1:es.length≤c) (h2:c≤maxLen) (h3:es=[] ∨ ∃ b o,a=some ⟨b,o,none⟩∧VE g b i.size o es) (hfull:full=true→c=es.length) (hlo:VO g lo lov) (hhi:VO g hi' hiv) (hmx:VO g mx mxv)
  {v:AV} (ha:aSliceSl full i.size es lo hi' mx=some v):∃ y,(Instr.sliceAt t (.slice a es.length c) lov hiv mxv).run P w=.ok y w∧V g v y:=by
 unfold aSliceSl at ha
 split at ha
 ·rename_i l hh hbl hbh
  split at ha
  ·rename_i hle
   -- the place of what is cut
   have place:∀ m,hh≤m→(es.take hh).drop l=[] ∨ ∃ b o,(if m=l then a else a.map (·.add (l * i.size)))=some ⟨b,o,none⟩∧VE g b i.size o ((es.take hh).drop l):=by
    intro m hm
    by_cases hl:l=hh
    ·simp_all
    ·rcases h3 with rfl | ⟨b,o,rfl,hve⟩
     ·left;simp
     ·right
      have hml:m ≠ l:=by omega
      refine ⟨b,o+l * i.size,by simp [hml,xz],VE.drop l (VE.take hh hve)⟩
   have hlen:((es.take hh).drop l).length=hh - l:=by simp;omega
   rw [sliceAt_of ht (by simp)]
   have fin:∀ (m:Nat) (v:AV),hh≤m→m≤c→(mxv=none∧m=c ∨ ∃ (k:IntKind) (z:Int),mxv=some (.int k z)∧0≤z∧z=m)→(mxv ≠ none→hiv ≠ none) →
     (v=.sl i.size ((es.take hh).drop l) ∨ (v=.osl none i.size ((es.take hh).drop l)∧m=hh))→∃ y,(Instr.slice t (.slice a es.length c) lov hiv mxv).run P w=.ok y w∧V g v y:=by
    intro m v hm hmc hM hMh hv
    have hb:=slice_bounds (P:=P) (w:=w) (isS:=true) (len:=es.length) (cap:=c) (l:=l) (hh:=hh) (m:=m) (d:=0) (lo_cases hlo hbl)
     (hi_cases hhi hbh hMh) hM hle.1 hm hmc rfl
    refine ⟨.slice (if m=l then a else a.map (·.add (l * i.size))) (hh - l) (m - l),?_,?_⟩
    ·simp [Instr.slice,yp ht,hb,xg hi]
    ·rcases hv with rfl | ⟨rfl,rfl⟩
     ·simp only [V]
      exact ⟨_,m - l,by rw [hlen],by omega,by omega,place m hm⟩
     ·simp only [V]
      exact ⟨_,m - l,by rw [hlen],by omega,by omega,place m hm,by rw [hlen]⟩
   cases mx with
   | none =>
    simp only [VO] at hmx
    subst hmx
    simp only [Option.some.injEq] at ha
    split at ha
    ·rename_i hf
     subst ha
     simp only [Bool.and_eq_true,Option.isNone_iff_eq_none] at hf
     have hc:=hfull hf.1
     have hhl:hh=es.length:=by
      rw [hf.2] at hbh
      simpa [aBound] using hbh.symm
     have e1:es.drop l=(es.take hh).drop l:=by simp_all
     rw [e1]
     exact fin c _ (by omega) (Nat.le_refl _) (.inl ⟨rfl,rfl⟩) (fun h=>absurd rfl h) (.inr ⟨rfl,by omega⟩)
    ·subst ha
     exact fin c _ (by omega) (Nat.le_refl _) (.inl ⟨rfl,rfl⟩) (fun h=>absurd rfl h) (.inl rfl)
   | some xm =>
    cases xm with
    | int km zm =>
     simp only at ha
     split at ha
     ·rename_i hmh
      cases ha
      simp only [VO,V] at hmx
      obtain ⟨u,rfl,rfl⟩:=hmx
      refine fin hh _ (Nat.le_refl _) (by omega) (.inr ⟨km,zm,rfl,by omega,by omega⟩) (fun _=>?_) (.inr ⟨rfl,rfl⟩)
      rcases bound_cases hhi hbh with ⟨_,e,_⟩ | ⟨k,z,e,_⟩
      ·simp_all
      ·simp_all
     ·cases ha
    | _=>simp at ha
  ·cases ha
 ·cases ha

theorem foldl_splice:∀ (vs:List Value) (cells:Array Value) (off j0:Nat),off+j0+vs.length≤cells.size →
  ((vs.zipIdx j0).foldl (fun cs p=>cs.setIfInBounds (off+p.2) p.1) cells).toList=cells.toList.take (off+j0)++vs++cells.toList.drop (off+j0+vs.length)
 | [],cells,off,j0,_=>by simp
 | v::r,cells,off,j0,h=>by
  simp only [List.length_cons] at h
  simp only [List.zipIdx_cons,List.foldl_cons]
  rw [foldl_splice r (cells.setIfInBounds (off+j0) v) off (j0+1) (by simp;omega)]
  simp only [Array.toList_setIfInBounds]
  have e1:(cells.toList.set (off+j0) v).take (off+(j0+1))=cells.toList.take (off+j0)++[v]:=by
   rw [show off+(j0+1)=off+j0+1 by omega,List.take_add_one,List.getElem?_set_self (by simp;omega),List.take_set_of_le (Nat.le_refl _)];rfl
  rw [e1,List.drop_set_of_lt (by omega),List.length_cons,show off+(j0+1)+r.length=off+j0+(r.length+1) by omega]
  simp

theorem qm {place:Nat→Option (Nat×Nat)} {place':Nat→Option (Nat×Nat)} (hpl:∀ i x,place i=some x→place' i=some x):∀ {parts:List (Nat×AV)} {pvs:List (Nat×Value)} {cs out:List AV} {us:Array Value},
  VA g cs us.toList→parts.length=pvs.length→(∀ (j:Nat) (p:Nat×AV) (q:Nat×Value),parts[j]?=some p→pvs[j]?=some q→p.1=q.1∧V g p.2 q.2) →
  vg place cs parts=some out→∃ xs:Array Value,Instr.fill place' us pvs=some xs∧VA g out xs.toList
 | [],[],cs,out,us,hv,_,_,ha=>by
  simp only [vg,Option.some.injEq] at ha
  subst ha
  exact ⟨us,rfl,hv⟩
 | (i,a)::r,(i',u)::s,cs,out,us,hv,hl,hp,ha=>by
  obtain ⟨rfl,hV⟩:=hp 0 _ _ rfl rfl
  simp only [vg] at ha
  split at ha
  ·rename_i off size vs hpi hcs
   split at ha
   ·rename_i hle
    have hus:=hV.cells hcs
    have hul:u.cells.size=size:=by rw [← hle.1,hus.length];rfl
    have hcl:cs.length=us.size:=by rw [hv.length];rfl
    have hfold:=foldl_splice u.cells.toList us off 0 (by simp;omega)
    simp only [Nat.add_zero] at hfold
    have hva:=splice_VA (off:=off) hv hus
    obtain ⟨xs,hx1,hx2⟩:=qm hpl (parts:=r) (pvs:=s) (us:=(u.cells.toList.zipIdx 0).foldl (fun cs p=>cs.setIfInBounds (off+p.2) p.1) us) (by grind) (by grind)
     (fun j p q h1 h2=>hp (j+1) p q (by grind) (by grind)) ha
    refine ⟨xs,?_,hx2⟩
    have h1:¬ (u.cells.size ≠ size ∨ off+u.cells.size > us.size):=by omega
    simp only [Instr.fill,hpl _ _ hpi]
    rw [if_neg (by grind)]
    rw [← hx1]
    congr 1
    rw [← Array.foldl_toList,Array.toList_zipIdx]
   ·cases ha
  ·cases ha
 | [],_::_,_,_,_,_,hl,_,_=>by simp at hl
 | _::_,[],_,_,_,_,hl,_,_=>by simp at hl
end
end Go.Vv
namespace Go.Vv
open Go Go.RowKit Go.Lib
section
variable {P:Program} {w:World} {g:Gh} {h:AH} {B:Nat} {w0:World}

theorem tyfix_one {t:TypeId} {a:AV} (h:a.one=true):(tyfix P t a).one=true:=by
 unfold tyfix
 split
 ·split <;> rfl
 ·exact h
theorem VA.fix:∀ {ts:List TypeId} {a5:List AV} {vs:List Value},VA g a5 vs→VA g (fixCells P ts a5) vs
 | [],_,_,h=>by simp only [fixCells];exact h
 | _::_,[],_,h=>by simp only [fixCells];exact h
 | t::ts,a::a5,vs,h=>by
  simp only [VA] at h
  obtain ⟨v,s,rfl,⟨h0,h1⟩,h2⟩:=h
  simp only [fixCells,VA]
  exact ⟨v,s,rfl,⟨tyfix_one h0,h1.tyfix⟩,VA.fix h2⟩
theorem wM {t:TypeId} {cs:List AV} (hz:xO P t=some cs):∃ i z,P.info? t=some i∧i.zero=some z∧VA g cs z.cells.toList:=by
 unfold xO at hz
 split at hz
 ·rename_i i hi
  split at hz
  ·rename_i z hzz
   split at hz
   ·rename_i hok
    split at hz
    ·rename_i cs' hc
     cases hz
     exact ⟨i,z,hi,hzz,((V.cv hok).cells hc).fix⟩
    ·cases hz
   ·cases hz
  ·cases hz
 ·cases hz

theorem parts_rel {d:TypeDesc} {env:List AV} {a:Act} (he:VL g env a.tmps.toList) {parts:Array (Nat×Operand)} (hok:(parts.all fun p=>yo p.2)=true) :
  (y8 P d env parts).length=(parts.map fun (i,x)=>(i,a.eval x)).toList.length ∧
  ∀ (j:Nat) (p:Nat×AV) (q:Nat×Value),(y8 P d env parts)[j]?=some p→(parts.map fun (i,x)=>(i,a.eval x)).toList[j]?=some q→p.1=q.1∧V g p.2 q.2:=by
 refine ⟨by simp [y8],fun j p q h1 h2=>?_⟩
 simp only [y8,List.getElem?_map,Array.toList_map,Option.map_eq_some_iff] at h1 h2
 obtain ⟨x,hx,rfl⟩:=h1
 obtain ⟨y,hy,rfl⟩:=h2
 rw [hx] at hy
 injection hy with hy
 subst hy
 have hmem:x ∈ parts:=by
  grind
 have hx2:=(Array.all_eq_true_iff_forall_mem.1 hok) x hmem
 exact ⟨rfl,(V.ev he hx2).tyfix⟩

theorem build_sound {t:TypeId} {env:List AV} {a:Act} (he:VL g env a.tmps.toList) {parts:Array (Nat×Operand)} (hok:(parts.all fun p=>yo p.2)=true) {z out:List AV} (hz:xO P t=some z)
  (hcase:(∃ fs pl,P.underlying t=some (.struct fs)∧vU P fs=some pl∧vg (fun i=>pl[i]?) z (y8 P (.struct fs) env parts)=some out) ∨
   ∃ n e j,P.underlying t=some (.array n e)∧P.info? e=some j∧vg (fun i=>some (i * j.size,j.size)) z (y8 P (.array n e) env parts)=some out) :
  ∃ u,(Instr.build t (parts.map fun (i,x)=>(i,a.eval x))).run P w=.ok u w∧V g (.agg out) u:=by
 obtain ⟨i,zv,hi,hzv,hva⟩:=wM (g:=g) hz
 rcases hcase with ⟨fs,pl,hu,hpl,hf⟩ | ⟨n,e,j,hu,hj,hf⟩
 ·obtain ⟨h1,h2⟩:=parts_rel (P:=P) (d:=.struct fs) he hok
  obtain ⟨xs,hx1,hx2⟩:=qm (place':=(pl.toArray[·]?)) (fun i x h=>by simpa using h) hva h1 h2 hf
  refine ⟨.agg xs,run_build w t _ xs ?_,by simp only [V];exact ⟨xs,rfl,hx2⟩⟩
  unfold vU at hpl
  simp only [Program.built,hi,hu,hzv,hpl]
  omega
 ·obtain ⟨h1,h2⟩:=parts_rel (P:=P) (d:=.array n e) he hok
  obtain ⟨xs,hx1,hx2⟩:=qm (place':=fun i=>some (i * j.size,j.size)) (fun i x h=>h) hva h1 h2 hf
  refine ⟨.agg xs,run_build w t _ xs ?_,by simp only [V];exact ⟨xs,rfl,hx2⟩⟩
  simp only [Program.built,hi,hu,hzv,hj]
  omega

theorem aEqL_split:∀ (ks:List Kd) {ls:List Kd} {a5 bs:List AV} {r:Bool},qa (ks++ls) a5 bs=some r →
  ∃ r1 r2,qa ks (a5.take ks.length) (bs.take ks.length)=some r1∧qa ls (a5.drop ks.length) (bs.drop ks.length)=some r2∧r=(r1&&r2)∧ks.length≤a5.length∧ks.length≤bs.length
 | [],ls,a5,bs,r,h=>⟨true,r,by simp [qa],by simpa using h,by simp,by simp,by simp⟩
 | k::ks,ls,[],bs,r,h=>by simp [qa] at h
 | k::ks,ls,a::a5,[],r,h=>by simp [qa] at h
 | k::ks,ls,a::a5,b::bs,r,h=>by
  simp only [List.cons_append,qa] at h
  split at h
  ·rename_i x y hx hy
   obtain ⟨r1,r2,h1,h2,h3,h4,h5⟩:=aEqL_split ks hy
   cases h
   exact ⟨x&&r1,r2,by simp [qa,hx,h1],by simp_all,by grind,by simp_all,by simp_all⟩
  ·cases h

def KdOk (P:Program) (t:TypeId):Kd→Prop
 | .b=>P.underlying t=some .bool
 | .i=>∃ j,P.underlying t=some (.int j)
 | .s=>P.underlying t=some .string

theorem eq1_run {t:TypeId} {k:Kd} {a b:AV} {x y:Value} {r:Bool} (ha:V g a x) (hb:V g b y) (hr:aEq1 k a b=some r)
  (hd:KdOk P t k) (D:Nat):(Op.equalIn (D+1) t x y).run P w=.ok r w:=by
 unfold aEq1 at hr
 split at hr
 ·cases hr
  simp only [V] at ha hb
  subst ha hb
  exact run_equalIn_bool w D t _ _ hd
 ·split at hr
  ·rename_i hk
   cases hr
   simp only [V] at ha hb
   subst ha hb hk
   obtain ⟨j,hd⟩:=hd
   simp [Op.equalIn,run_underlying hd]
  ·cases hr
 ·cases hr
  simp only [V] at ha hb
  obtain ⟨rfl,_⟩:=ha
  obtain ⟨rfl,_⟩:=hb
  rw [run_equalIn_string w D t _ _ hd,ByteArray.toList_mk,ByteArray.toList_mk]
 ·cases hr

def EqE (P:Program) (w:World) (g:Gh) (d:Nat):Prop:=∀ {t:TypeId} {ks:List Kd} {i:TypeInfo},xy P d t=some ks→P.info? t=some i→i.size=ks.length→∀ {xs ys:Array Value} {a5 bs:List AV} {off:Nat} {r:Bool},VA g a5 xs.toList→VA g bs ys.toList →
  qa ks ((a5.drop off).take ks.length) ((bs.drop off).take ks.length)=some r→∀ D,d≤D→∃ u v,(part t xs off).run P w=.ok u w∧(part t ys off).run P w=.ok v w∧(Op.equalIn D t u v).run P w=.ok r w

theorem eqF {d:Nat} (E:EqE P w g d):∀ (fs:List Field) (acc:Nat) {ks:List Kd},plainFs P d fs acc=some ks→∀ {xs ys:Array Value} {a5 bs:List AV} {r:Bool},VA g a5 xs.toList→VA g bs ys.toList →
  qa ks (a5.drop acc) (bs.drop acc)=some r→∀ D,d≤D→(Op.eqFields D xs ys fs).run P w=.ok r w
 | [],acc,ks,h,xs,ys,a5,bs,r,ha,hb,hr,D,_=>by
  simp only [plainFs,plainFsOf,Option.some.injEq] at h
  subst h
  have:r=true:=by
   rcases h1:a5.drop acc with _ | ⟨a,as'⟩ <;> rcases h2:bs.drop acc with _ | ⟨b,bs'⟩ <;> simp [h1,h2,qa] at hr
   exact hr
  subst this
  rfl
 | f::fs,acc,ks,h,xs,ys,a5,bs,r,ha,hb,hr,D,hD=>by
  simp only [plainFs,plainFsOf] at h
  split at h
  ·rename_i hf
   split at h
   ·rename_i k1 i hk1 hi
    split at h
    ·rename_i hsz
     split at h
     ·rename_i k2 hk2
      cases h
      obtain ⟨r1,r2,h1,h2,h3,h4,h5⟩:=aEqL_split k1 hr
      obtain ⟨u,v,e1,e2,e3⟩:=E hk1 hi hsz ha hb h1 D hD
      have e4:=eqF E fs (acc+i.size) hk2 ha hb (by rw [List.drop_drop,List.drop_drop,← hsz] at h2;exact h2) D hD
      simp only [Op.eqFields,if_pos hf.1,hf.2,Sem.run_bind,e1,e2,e3,Result.andThen_ok]
      cases r1 with
      | true=>simp at h3;subst h3;simpa using e4
      | false=>simp at h3;subst h3;simp
     ·cases h
    ·cases h
   ·cases h
  ·cases h
theorem eqE:∀ (d:Nat),EqE P w g d:=by
 intro d
 induction d with
 | zero=>intro t ks i h;simp [xy] at h
 | succ d ih =>
  intro t ks i h hi hsz xs ys a5 bs off r ha hb hr D hD
  obtain ⟨D,rfl⟩:∃ D',D=D'+1:=⟨D - 1,by omega⟩
  have one:∀ (k:Kd),ks=[k]→KdOk P t k →
    ∃ u v,(part t xs off).run P w=.ok u w∧(part t ys off).run P w=.ok v w∧(Op.equalIn (D+1) t u v).run P w=.ok r w:=by
   intro k hk hd
   subst hk
   simp only [List.length_singleton] at hr
   rcases h1:a5.drop off with _ | ⟨a,as'⟩
   ·simp [h1,qa] at hr
   ·rcases h2:bs.drop off with _ | ⟨b,bs'⟩
    ·simp [h1,h2,qa] at hr
    ·have h1':a5[off]?=some a:=by have:=congrArg (·[0]?) h1;simpa using this
     have h2':bs[off]?=some b:=by have:=congrArg (·[0]?) h2;simpa using this
     obtain ⟨u,hu,hVu⟩:=ha.toVL.get _ _ h1'
     obtain ⟨v,hv,hVv⟩:=hb.toVL.get _ _ h2'
     rw [Array.getElem?_toList] at hu hv
     have hr':aEq1 k a b=some r:=by
      simp [h1,h2,qa] at hr
      grind
     have hag:∀ dd,P.underlying t=some dd→yq dd=false→∃ u v,(part t xs off).run P w=.ok u w∧(part t ys off).run P w=.ok v w∧(Op.equalIn (D+1) t u v).run P w=.ok r w:=fun dd hdd hf =>
      ⟨u,v,by simp [part,qt hdd,hf,hu],by simp [part,qt hdd,hf,hv],eq1_run hVu hVv hr' hd D⟩
     cases k with
     | b=>exact hag _ hd rfl
     | i=>obtain ⟨j,hd'⟩:=hd;exact hag _ hd' rfl
     | s=>exact hag _ hd rfl
  simp only [xy] at h
  split at h
  ·rename_i hu;cases h;exact one .b rfl hu
  ·rename_i j hu;cases h;exact one .i rfl ⟨j,hu⟩
  ·rename_i hu;cases h;exact one .s rfl hu
  ·rename_i fs hu
   split at h
   ·cases h
   ·rename_i hst
    have hfo:P.fieldsOf t=fs:=by simp [Program.fieldsOf,hu]
    have hx:(part t xs off).run P w=.ok (.agg (xs.extract off (off+i.size))) w:=by simp [part,qt hu,yq,xg hi]
    have hy:(part t ys off).run P w=.ok (.agg (ys.extract off (off+i.size))) w:=by simp [part,qt hu,yq,xg hi]
    refine ⟨_,_,hx,hy,?_⟩
    rw [run_equalIn_struct w D t _ _ (by simp_all) (by simp_all),hfo]
    have hxa:VA g ((a5.drop off).take ks.length) (xs.extract off (off+i.size)).toList:=by
     rw [Array.toList_extract,List.extract_eq_take_drop,show off+i.size - off=i.size by omega,hsz]
     exact VA.take _ (VA.drop _ ha)
    have hya:VA g ((bs.drop off).take ks.length) (ys.extract off (off+i.size)).toList:=by
     rw [Array.toList_extract,List.extract_eq_take_drop,show off+i.size - off=i.size by omega,hsz]
     exact VA.take _ (VA.drop _ hb)
    exact eqF ih fs.toList 0 h hxa hya (by simp_all) D (by omega)
  ·cases h
theorem eqItems_sound {e:TypeId} {i:TypeInfo} (hp:xy P 1 e=some [.i]) (hi:P.info? e=some i) (hs:i.size=1) {us vs:Array Value} {cs ds:List AV} (hu:VA g cs us.toList) (hv:VA g ds vs.toList):∀ (m s:Nat) {r:Bool},
  qa (List.replicate m .i) (cs.drop s) (ds.drop s)=some r→∀ D,1≤D→(Op.eqItems D e (P.cellsOf e) us vs (List.range' s m)).run P w=.ok r w:=by
 have hc:P.cellsOf e=1:=by simp [Program.cellsOf,hi,hs]
 intro m
 induction m with
 | zero =>
  intro s r h D _
  rcases h1:cs.drop s with _ | ⟨a,a5⟩ <;> rcases h2:ds.drop s with _ | ⟨b,bs⟩ <;> simp [h1,h2,qa] at h
  subst h
  rfl
 | succ m ih =>
  intro s r h D hD
  obtain ⟨r1,r2,h1,h2,h3,_⟩:=aEqL_split [.i] (ls:=List.replicate m .i) (by simpa [List.replicate_succ] using h)
  obtain ⟨u,v,e1,e2,e3⟩:=eqE (P:=P) (w:=w) 1 hp hi hs hu hv (off:=s) h1 D hD
  have e4:=ih (s+1) (by rw [List.drop_drop,List.drop_drop] at h2;exact h2) D hD
  rw [hc] at e4 ⊢
  simp only [List.range'_succ,Op.eqItems,Nat.mul_one,Sem.run_bind,e1,e2,e3,Result.andThen_ok]
  cases r1 with
  | true=>simp at h3;subst h3;simpa using e4
  | false=>simp at h3;subst h3;simp
end
end Go.Vv
namespace Go.Vv
open Go Go.RowKit Go.Lib
section
variable {P:Program} {w:World} {g:Gh} {h:AH} {B:Nat} {w0:World}
theorem str_size (s:List UInt8):(⟨s.toArray⟩:ByteArray).size=s.length:=by rfl

def scal:AV→Value
 | .bool b=>.bool b
 | .int k n=>.int k n
 | .str s=>.string ⟨s.toArray⟩
 | _=>undef

theorem int_sound {op:BinOp} {t:TypeId} {k k':IntKind} {a b:Int} (hk:k=k' ∨ op=.shl ∨ op=.shr) {ox oy:Operand} {v:AV} (ha:aInt op k a b=some v) :
  ∃ u,(do eqGuard op t ox oy (.int k a) (.int k' b);binOp op t (.int k a) (.int k' b):Sem Value).run P w=.ok u w∧V g v u:=by
 refine ⟨scal v,?_,?_⟩
 ·simp only [eqGuard_at_int]
  cases op <;> simp only [aInt,Option.some.injEq] at ha
  case shl =>
   split at ha
   ·cases ha
   ·rename_i hb;cases ha;simp [binOp,Op.shift,hb,scal]
  case shr =>
   split at ha
   ·cases ha
   ·rename_i hb;cases ha;simp [binOp,Op.shift,hb,scal]
  case quo =>
   have hk':k=k':=by simp_all
   split at ha
   ·cases ha
   ·rename_i hb;cases ha;simp [binOp,Op.intDiv,hb,scal,hk']
  case rem =>
   have hk':k=k':=by simp_all
   split at ha
   ·cases ha
   ·rename_i hb;cases ha;simp [binOp,Op.intDiv,hb,scal,hk']
  all_goals
   have hk':k=k':=by simp_all
   subst hk' ha
   simp [binOp,Op.intArith,Op.intCmp,Op.intBits,scal]
 ·cases op <;> simp only [aInt,Option.some.injEq] at ha <;> first
   | (subst ha;simp only [scal,V];done)
   | (
         split at ha
         · cases ha
         · cases ha;simp only [scal,V])

theorem str_sound {op:BinOp} {t:TypeId} {x y:List UInt8} {ox oy:Operand} {v:AV} (ha:aStr op x y=some v) :
  ∃ u,(do eqGuard op t ox oy (.string ⟨x.toArray⟩) (.string ⟨y.toArray⟩);binOp op t (.string ⟨x.toArray⟩) (.string ⟨y.toArray⟩):Sem Value).run P w=.ok u w∧V g v u:=by
 refine ⟨scal v,?_,?_⟩
 ·simp only [eqGuard_at_string]
  cases op <;> simp only [aStr,Option.some.injEq,reduceCtorEq] at ha
  case add =>
   split at ha
   ·rename_i hle
    cases ha
    have h1:¬ ((9223372036854775807:Int) < (x.length:Int)+(y.length:Int)):=by simp only [maxLen] at hle;omega
    simp [binOp,Op.stringOp,str_size,h1,scal]
    rfl
   ·cases ha
  all_goals
   subst ha
   simp [binOp,Op.stringOp,scal]
 ·cases op <;> simp only [aStr,Option.some.injEq,reduceCtorEq] at ha <;> first
   | (subst ha;simp only [scal,V];done)
   | (
         split at ha
         · rename_i hle
           cases ha;simp only [scal,V];exact ⟨trivial,by simp_all⟩
         · cases ha)

theorem nil_sound {d:TypeDesc} {t:TypeId} (hd:P.underlying t=some d) {a b:AV} {x y:Value} (ha:V g a x) (hb:V g b y) {r:Bool} (hr:aNil d a b=some r) (D:Nat):(Op.equalIn (D+1) t x y).run P w=.ok r w:=by
 unfold aNil at hr
 split at hr <;> first
  | (
       cases hr
       simp only [V] at ha hb
       first
         | (subst ha hb;simp [Op.equalIn,yp hd];done)
         | (obtain ⟨_,_,rfl⟩:=ha;subst hb;simp [Op.equalIn,yp hd];done)
         | (obtain ⟨_,_,rfl⟩:=hb;subst ha;simp [Op.equalIn,yp hd];done)
         | (obtain ⟨_,_,rfl,_⟩:=ha;subst hb;simp [Op.equalIn,yp hd];done)
         | (obtain ⟨_,_,rfl,_⟩:=hb;subst ha;simp [Op.equalIn,yp hd];done)
         | (obtain ⟨_,_,_,rfl,_⟩:=ha;subst hb;simp [Op.equalIn,yp hd];done)
         | (
      obtain ⟨_,_,rfl,_,_,h3⟩:=ha;subst hb
      rcases h3 with h3 | ⟨_,_,rfl,_⟩
      ·cases h3
      ·simp [Op.equalIn,yp hd])
         | (
      obtain ⟨_,_,rfl,_,_,h3,_⟩:=ha;subst hb
      rcases h3 with h3 | ⟨_,_,rfl,_⟩
      ·cases h3
      ·simp [Op.equalIn,yp hd]))
  | cases hr

theorem eq_sound {t:TypeId} {a b:AV} {x y:Value} (ha:V g a x) (hb:V g b y) {r:Bool} (hr:aEq P t a b=some r):(Op.equalIn 10000 t x y).run P w=.ok r w:=by
 unfold aEq at hr
 split at hr
 ·rename_i cs ds
  split at hr
  ·rename_i hc
   split at hr
   ·rename_i ks hks
    simp only [V] at ha hb
    obtain ⟨us,rfl,hu⟩:=ha
    obtain ⟨vs,rfl,hv⟩:=hb
    have h2:=hc.2
    rcases hd:P.underlying t with _ | d
    ·simp_all
    ·cases d <;> simp [hd,yq] at h2
     ·rename_i n e
      simp only [xy,arrKs,hd,Option.none_or] at hks
      split at hks
      ·rename_i j i hj hi
       split at hks
       ·rename_i hs
        cases hks
        rw [show (10000:Nat)=9999+1 from rfl,run_equalIn_array w 9999 us vs hd hi,List.range_eq_range']
        exact eqItems_sound (by simp [xy,hj]) hi hs hu hv n 0 (by simp_all) 9999 (by omega)
       ·cases hks
      ·cases hks
     ·rename_i fs
      have hfo:P.fieldsOf t=fs:=by simp [Program.fieldsOf,hd]
      simp only [xy,arrKs,hd,Option.or_none] at hks
      split at hks
      ·cases hks
      ·rename_i hst
       rw [show (10000:Nat)=9999+1 from rfl,run_equalIn_struct w 9999 t _ _ (by simp_all) (by simp_all),hfo]
       exact eqF (eqE 5) fs.toList 0 hks hu hv (by simp_all) 9999 (by omega)
   ·cases hr
  ·cases hr
 ·split at hr
  ·rename_i hd
   cases hr
   simp only [V] at ha hb
   subst ha hb
   exact run_equalIn_bool w 9999 t _ _ hd
  ·cases hr
 ·split at hr
  ·rename_i d hd
   exact nil_sound hd ha hb hr 9999
  ·cases hr

theorem eq_bin {t:TypeId} {ox oy:Operand} {a b:AV} {x y:Value} (ha:V g a x) (hb:V g b y) {r:Bool} (hr:aEq P t a b=some r) :
  (do eqGuard .eql t ox oy x y;binOp .eql t x y:Sem Value).run P w=.ok (.bool r) w∧(do eqGuard .neq t ox oy x y;binOp .neq t x y:Sem Value).run P w=.ok (.bool !r) w:=by
 have he:=eq_sound (w:=w) ha hb hr
 unfold aEq at hr
 split at hr
 ·split at hr
  ·rename_i hc
   simp only [V] at ha hb
   obtain ⟨us,rfl,_⟩:=ha
   obtain ⟨vs,rfl,_⟩:=hb
   simp [run_eqGuard_agg w _ t ox oy us vs hc.1,run_eql_struct,run_neq_struct,he]
  ·cases hr
 ·simp only [V] at ha hb
  subst ha hb
  simp [eqGuard_at_bool,binOp,Op.equal,Op.maxDepth,he]
 ·split at hr
  ·unfold aNil at hr
   split at hr <;> first
    | (cases hr;done)
    | (
           simp only [V] at ha hb
           first
             | (subst ha hb;simp [eqGuard,binOp,Op.equal,Op.maxDepth,he];done)
             | (obtain ⟨_,_,rfl⟩:=ha;subst hb;simp [eqGuard,binOp,Op.equal,Op.maxDepth,he];done)
             | (obtain ⟨_,_,rfl⟩:=hb;subst ha;simp [eqGuard,binOp,Op.equal,Op.maxDepth,he];done)
             | (obtain ⟨_,_,rfl,_⟩:=ha;subst hb;simp [eqGuard,binOp,Op.equal,Op.maxDepth,he];done)
             | (obtain ⟨_,_,rfl,_⟩:=hb;subst ha;simp [eqGuard,binOp,Op.equal,Op.maxDepth,he];done)
             | (obtain ⟨_,_,_,rfl,_⟩:=ha;subst hb;simp [eqGuard,binOp,Op.equal,Op.maxDepth,he];done)
             | (obtain ⟨A,C,hx,_⟩:=ha;subst hb;rw [hx] at he ⊢;revert he;generalize List.length _=n;intro he;simp [eqGuard,binOp,Op.equal,Op.maxDepth,he];done))
  ·cases hr

theorem nilq_sound {op:BinOp} {t:TypeId} {h:AH} {ox oy:Operand} {a b:AV} {x y:Value} (ha:V g a x) (hb:V g b y) {S:AV→AH→Prop} (hS:aNilq P op t h a b=some S) :
  ∃ r,(do eqGuard op t ox oy x y;binOp op t x y:Sem Value).run P w=.ok (.bool r) w∧S (.bool r) h:=by
 have keyD:∀ (D:Nat) (es:List (List AV)) (ad:Option Addr) (c:Nat) (e:TypeId),P.underlying t=some (.slice e)→(es=[] ∨ ∃ b o,ad=some ⟨b,o,none⟩)→∃ r,(Op.equalIn (D+1) t (.slice ad es.length c) (.slice none 0 0)).run P w=.ok r w∧(r=true→es=[]):=by
  intro D es ad c e hu hes
  cases ad with
  | none =>
   rcases hes with rfl | ⟨_,_,h⟩
   ·exact ⟨true,by simp [Op.equalIn,yp hu],fun _=>rfl⟩
   ·cases h
  | some ad=>exact ⟨false,by simp [Op.equalIn,yp hu],fun h=>by cases h⟩
 have key:∀ (es:List (List AV)) (ad:Option Addr) (c:Nat) (e:TypeId),P.underlying t=some (.slice e)→(es=[] ∨ ∃ b o,ad=some ⟨b,o,none⟩)→∃ r,(Op.equalIn 10000 t (.slice ad es.length c) (.slice none 0 0)).run P w=.ok r w∧(r=true→es=[]):=fun es ad c e hu hes=>keyD 9999 es ad c e hu hes
 unfold aNilq at hS
 split at hS
 ·rename_i k es
  simp only [V] at ha hb
  obtain ⟨ad,c,rfl,_,_,hes⟩:=ha
  subst hb
  split at hS
  ·rename_i e hu
   obtain ⟨r,he,hr⟩:=key es ad c e hu (hes.imp id fun ⟨b,o,h,_⟩=>⟨b,o,h⟩)
   cases hS
   exact ⟨r,by simp [eqGuard,binOp,Op.equal,Op.maxDepth,he],rfl,r,rfl,hr⟩
  ·rename_i e hu
   obtain ⟨r,he,hr⟩:=key es ad c e hu (hes.imp id fun ⟨b,o,h,_⟩=>⟨b,o,h⟩)
   cases hS
   exact ⟨!r,by simp [eqGuard,binOp,Op.equal,Op.maxDepth,he],rfl,r,rfl,hr⟩
  ·cases hS
 ·rename_i q k es
  simp only [V] at ha hb
  obtain ⟨ad,c,rfl,_,_,hes,_⟩:=ha
  subst hb
  split at hS
  ·rename_i e hu
   obtain ⟨r,he,hr⟩:=key es ad c e hu (hes.imp id fun ⟨b,o,h,_⟩=>⟨b,o,h⟩)
   cases hS
   exact ⟨r,by simp [eqGuard,binOp,Op.equal,Op.maxDepth,he],rfl,r,rfl,hr⟩
  ·rename_i e hu
   obtain ⟨r,he,hr⟩:=key es ad c e hu (hes.imp id fun ⟨b,o,h,_⟩=>⟨b,o,h⟩)
   cases hS
   exact ⟨!r,by simp [eqGuard,binOp,Op.equal,Op.maxDepth,he],rfl,r,rfl,hr⟩
  ·cases hS
 ·cases hS
theorem bin_sound {op:BinOp} {t:TypeId} {ox oy:Operand} {a b v:AV} {x y:Value} (ha:V g a x) (hb:V g b y) (hv:aBin P op t a b=some v) :
  ∃ u,(do eqGuard op t ox oy x y;binOp op t x y:Sem Value).run P w=.ok u w∧V g v u:=by
 unfold aBin at hv
 split at hv
 ·split at hv
  ·rename_i hk
   simp only [V] at ha hb
   subst ha hb
   exact int_sound hk hv
  ·cases hv
 ·simp only [V] at ha hb
  obtain ⟨rfl,_⟩:=ha
  obtain ⟨rfl,_⟩:=hb
  exact str_sound hv
 ·split at hv
  ·rcases hr:aEq P t a b with _ | r
   ·simp_all
   ·simp [hr] at hv;subst hv
    exact ⟨_,(eq_bin ha hb hr).1,by simp only [V]⟩
  ·rcases hr:aEq P t a b with _ | r
   ·simp_all
   ·simp [hr] at hv;subst hv
    exact ⟨_,(eq_bin ha hb hr).2,by simp only [V]⟩
  ·cases hv

theorem un_sound {op:UnOp} {a v:AV} {x:Value} (ha:V g a x) (hv:aUn op a=some v):∃ u,(Op.unary op x).run P w=.ok u w∧V g v u:=by
 unfold aUn at hv
 split at hv
 ·simp only [V] at ha
  subst ha
  split at hv
  ·cases hv;exact ⟨_,rfl,by simp only [V]⟩
  ·cases hv;exact ⟨_,rfl,by simp only [V]⟩
  ·cases hv
 ·simp only [V] at ha
  subst ha
  split at hv
  ·cases hv;exact ⟨_,by rfl,by simp only [V]⟩
  ·cases hv
 ·cases hv

theorem convert_sound {s t:TypeId} {ds d:TypeDesc} (hs:P.underlying s=some ds) (hd:P.underlying t=some d) {a v:AV} {x:Value} (ha:V g a x) (hv:aConvert d a=some v) :
  ∃ u,(convert s t x).run P w=.ok u w∧V g v u:=by
 unfold aConvert at hv
 split at hv
 ·simp only [V] at ha
  subst ha
  split at hv
  ·cases hv
   exact ⟨_,by simp [convert,yp hs,yp hd,Conv.intToInt];rfl,by simp only [V]⟩
  ·cases hv
 ·simp only [V] at ha
  obtain ⟨rfl,hl⟩:=ha
  split at hv
  ·cases hv
   exact ⟨_,by simp [convert,yp hs,yp hd];rfl,by simp only [V];exact ⟨trivial,hl⟩⟩
  ·cases hv
 ·cases hv

theorem len_str_sound {t ty:TypeId} (ht:P.underlying t=some .string) {s:List UInt8} {x:Value} (ha:V g (.str s) x) :
  (Builtin.len_ #[t] ty #[x]).run P w=.ok (.int .i64 s.length) w∧s.length≤maxLen:=by
 simp only [V] at ha
 obtain ⟨rfl,hl⟩:=ha
 exact ⟨by simp [Builtin.len_,yp ht,str_size,goInt],hl⟩
theorem len_sl_sound {t ty e:TypeId} (ht:P.underlying t=some (.slice e)) {a:AV} {x:Value} (ha:V g a x) {n:Nat} (hn:aLen a=some n) :
  (Builtin.len_ #[t] ty #[x]).run P w=.ok (.int .i64 n) w∧n≤maxLen:=by
 unfold aLen at hn
 split at hn <;> first
  | (
       cases hn
       simp only [V] at ha
       first
         | (obtain ⟨_,_,rfl,h1,h2,_⟩:=ha;exact ⟨by simp [Builtin.len_,yp ht,goInt],by omega⟩)
         | (obtain ⟨_,_,_,rfl,h1,h2⟩:=ha;exact ⟨by simp [Builtin.len_,yp ht,goInt],by omega⟩)
         | (subst ha;exact ⟨by simp [Builtin.len_,yp ht,goInt],by simp⟩))
  | cases hn

theorem VA.flatten {z:List AV} {zs:List Value} (h:VA g z zs):∀ n,VA g (List.replicate n z).flatten (List.replicate n zs).flatten
 | 0=>by rfl
 | n+1=>by
  simp only [List.replicate_succ,List.flatten_cons]
  exact VA.append h (VA.flatten h n)
theorem range_rep (zs:Array Value):∀ n:Nat,(List.range (n * zs.size)).map (fun i=>zs[i % zs.size]!)=(List.replicate n zs.toList).flatten
 | 0=>by simp
 | n+1=>by
  rw [Nat.succ_mul,Nat.add_comm,List.range_add,List.map_append,List.replicate_succ,List.flatten_cons,← range_rep zs n,List.map_map]
  congr 1
  ·apply List.ext_getElem
   ·simp
   ·intro i h1 h2
    simp at h1 h2
    simp [Nat.mod_eq_of_lt h2,h2]
  ·simp_all

theorem aFill_len {place:Nat→Option (Nat×Nat)}:∀ {parts:List (Nat×AV)} {cs out:List AV},vg place cs parts=some out→out.length=cs.length
 | [],cs,out,h=>by simp only [vg,Option.some.injEq] at h;rw [h]
 | (i,v)::r,cs,out,h=>by
  simp only [vg] at h
  split at h
  ·split at h
   ·rename_i hle
    rw [aFill_len h]
    simp [xw];omega
   ·cases h
  ·cases h
theorem buildSlice_sound (r:Rel B w0 g h w) {t e:TypeId} {n:Nat} {i:TypeInfo} {z cs out:List AV} {env:List AV} {a:Act} (he:VL g env a.tmps.toList) {parts:Array (Nat×Operand)} (hok:(parts.all fun p=>yo p.2)=true)
  (hu:P.underlying t=some (.slice e)) (hi:P.info? e=some i) (hz:xO P e=some z) (hpos:0 < i.size) (hsm:n * i.size≤65536) (hzl:z.length=i.size)
  (hf:vg (fun j=>some (j * i.size,i.size)) ((List.replicate n z).flatten) (y8 P (.slice e) env parts)=some cs) (hc:xJ cs=some out) :
  ∃ u w' g',(Instr.buildSlice t n (parts.map fun (i,x)=>(i,a.eval x))).run P w=.ok u w'∧g.le g'∧Rel B w0 g' h w'∧V g' (.osl none i.size (rows i.size n out)) u:=by
 obtain ⟨i',zv,hi',hzv,hva⟩:=wM (g:=g) hz
 rw [hi] at hi'
 injection hi' with hi'
 subst hi'
 have hzs:zv.cells.size=i.size:=by rw [← hzl,hva.length];rfl
 rcases Nat.eq_zero_or_pos n with rfl | hn
 ·-- empty
  simp only [List.replicate_zero,List.flatten_nil] at hf
  rcases hp:y8 P (.slice e) env parts with _ | ⟨⟨j,v⟩,rest⟩
  ·have hpe:parts=#[]:=by
    have:parts.toList=[]:=by simpa [y8] using hp
    simp_all
   subst hpe
   refine ⟨.slice (some ⟨w.heap.size,0,none⟩) 0 0,w.alloc (.cells #[] e),g,by simp [Instr.buildSlice,yp hu,xg hi,Instr.fill,newRow];congr 2;apply Array.ext';simp,Gh.le.refl g,r.alloc0 _,?_⟩
   simp only [rows,V]
   simp_all
  ·rw [hp] at hf
   simp only [vg] at hf
   grind
 ·have hn0:¬ (n * i.size=0):=by
   have:=Nat.mul_pos hn hpos;omega
  obtain ⟨h1,h2⟩:=parts_rel (P:=P) (d:=.slice e) he hok
  have hva':=VA.flatten hva n
  obtain ⟨xs,hx1,hx2⟩:=qm (place':=fun j=>some (j * i.size,i.size)) (fun i x h=>h) (us:=(Array.range (n * i.size)).map (zv.cells[· % zv.cells.size]!))
   (by rw [← hzs,Array.toList_map,Array.toList_range,range_rep];exact hva') h1 h2 hf
  have hout:=qM hx2 hc
  have hol:out.length=n * i.size:=by
   rw [clean_len hc,aFill_len hf]
   simp [hzl]
  have hxs:xs.size=n * i.size:=by rw [← hol,hout.length];rfl
  have hrun:=run_buildSlice w t e n _ xs i zv hu hi hzv (by omega) hn0 hx1
  have r1:=r.newRow xs e xs.size
  have hle:=g.le_vow w.heap.size fun j=>if j < xs.size then xs[j]? else none
  obtain ⟨e1,e2,e3⟩:=rows_flat (k:=i.size) n out hol
  refine ⟨_,_,_,hrun,hle,r1,?_⟩
  simp only [V]
  refine ⟨some ⟨w.heap.size,0,none⟩,n,by rw [e2],by omega,by simp only [maxLen];have:=Nat.le_mul_of_pos_right n hpos;omega,.inr ⟨w.heap.size,0,rfl,?_⟩,by rw [e2]⟩
  refine VE_iff.2 ⟨e3,?_⟩
  rw [e1]
  refine VC.ofVA (hout.mono hle _ _) (clean_pure hc) fun j u hu'=>?_
  have hj:j < xs.size:=by
   grind
  have hnone:g.Φ w.heap.size j=none:=by
   rcases he':g.Φ w.heap.size j with _ | v
   ·rfl
   ·exact absurd (r.phi_lt he') (Nat.lt_irrefl _)
  simp only [Gh.vow,if_true,Nat.zero_add,hnone,if_pos hj]
  grind
end
end Go.Vv
