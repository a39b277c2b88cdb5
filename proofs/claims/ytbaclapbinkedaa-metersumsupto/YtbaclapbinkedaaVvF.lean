/- Each operation of the model, on values that stand to abstract ones, comes to what the abstract operation says: loads, stores, addresses, parts. -/
import Derived.Test.YtbaclapbinkedaaVvE
namespace Go.Vv
open Go Go.RowKit

theorem qT (b o i:Nat):(⟨b,o,none⟩:Addr).add i=⟨b,o+i,none⟩:=by unfold Addr.add;split <;> simp_all

section
variable {P:Program} {w:World} {g:Gh} {h:AH} {B:Nat} {w0:World}

theorem yN {t:TypeId} {d:TypeDesc} (h:P.underlying t=some d):(underlying t).run P w=.ok d w:=run_underlying h w
theorem run_ti {t:TypeId} {i:TypeInfo} (h:P.info? t=some i):(typeInfo t).run P w=.ok i w:=by simp [typeInfo,h]
theorem wN {t:TypeId} {i:TypeInfo} (h:P.info? t=some i):(sizeOf t).run P w=.ok i.size w:=by simp [sizeOf,run_ti h]
theorem run_agg {t:TypeId} {d:TypeDesc} (h:P.underlying t=some d):(isAgg t).run P w=.ok (yI d) w:=by
 simp only [isAgg,Sem.run_bind,yN h,Result.andThen_ok]
 cases d <;> rfl
theorem run_zero {t:TypeId} {i:TypeInfo} {z:Value} (h:P.info? t=some i) (hz:i.zero=some z):(zeroValue t).run P w=.ok z w:=by
 simp [zeroValue,run_ti h,hz]

theorem loadCells_at (b o:Nat) (us:List Value) (h:∀ j u,us[j]?=some u→w.cell? ⟨b,o+j,none⟩=some u):(loadCells ⟨b,o,none⟩ us.length).run P w=.ok us.toArray w :=
 run_loadCells_list w ⟨b,o,none⟩ us fun j u hu=>by rw [qT];exact h j u hu

theorem V.ofUndef:V g za undef:=by simp only [za,V];exact ⟨#[],rfl,by simp [VL]⟩

theorem V.cv1 {v:Value} (h:okc1 v=true):V g (cv1 v) v:=by
 unfold okc1 at h
 split at h <;> simp only [Vv.cv1,V] <;> first | trivial | skip
 ·rename_i s
  simp at h
  exact ⟨trivial,by simpa using h⟩
theorem cv1_one {v:Value} (h:okc1 v=true):(Vv.cv1 v).one=true:=by
 unfold okc1 at h
 split at h <;> first | rfl | cases h
theorem VA.cvs:∀ {vs:List Value},vs.all okc1=true→VA g (vs.map Vv.cv1) vs
 | [],_=>by simp only [List.map_nil,VA]
 | v::r,h=>by
  simp only [List.all_cons,Bool.and_eq_true] at h
  simp only [List.map_cons,VA]
  exact ⟨v,r,rfl,⟨cv1_one h.1,V.cv1 h.1⟩,VA.cvs h.2⟩
theorem V.cv {v:Value} (h:okc v=true):V g (cv v) v:=by
 unfold okc at h
 split at h
 ·rename_i cs
  simp only [Vv.cv,V]
  exact ⟨cs,rfl,VA.cvs h⟩
 ·rename_i vs
  have:vs=#[]:=by simpa using h
  subst this
  exact V.ofUndef
 ·rename_i hn1 hn2
  cases v <;> first | exact V.cv1 h | exact absurd rfl (hn1 _) | exact absurd rfl (hn2 _)

theorem V.cells1 {a:AV} {v:Value} (h0:a.one=true) (h1:V g a v):v.cells.toList=[v]:=by
 cases a <;> simp only [V] at h1 <;> first
  | (subst h1;rfl)
  | (obtain ⟨rfl,_⟩:=h1;rfl)
  | (obtain ⟨_,_,rfl⟩:=h1;rfl)
  | (obtain ⟨_,_,rfl,_⟩:=h1;rfl)
  | (obtain ⟨_,_,_,rfl,_⟩:=h1;rfl)
  | (obtain ⟨_,rfl,_⟩:=h1;rfl)
  | (simp [AV.one] at h0;done)
  | (cases v <;> first | rfl | cases h1)
theorem cells?_cases {a:AV} {cs:List AV} (hc:a.cells?=some cs):(a=.agg cs) ∨ (a.one=true∧cs=[a]):=by
 cases a <;> simp only [AV.cells?,Option.some.injEq,reduceCtorEq] at hc <;> first
  | (subst hc;exact .inl rfl)
  | (subst hc;exact .inr ⟨rfl,rfl⟩)
theorem V.cells {a:AV} {v:Value} {cs:List AV} (h:V g a v) (hc:a.cells?=some cs):VA g cs v.cells.toList:=by
 rcases cells?_cases hc with rfl | ⟨h0,rfl⟩
 ·simp only [V] at h
  obtain ⟨vs,rfl,h'⟩:=h
  exact h'
 ·rw [V.cells1 h0 h]
  simp only [VA]
  exact ⟨v,[],rfl,⟨h0,h⟩,rfl⟩

theorem V.tyfix {t:TypeId} {a:AV} {v:Value} (h:V g a v):V g (tyfix P t a) v:=by
 unfold Vv.tyfix
 split
 ·split
  ·simp only [V] at h ⊢
   exact ⟨none,0,by rw [h];rfl,Nat.le_refl _,by simp [maxLen],.inl trivial,rfl⟩
  ·exact h
 ·exact h

theorem V.ev {env:List AV} {a:Act} (he:VL g env a.tmps.toList) {x:Operand} (ho:yF x=true):V g (ev env x) (a.eval x):=by
 cases x with
 | tmp t =>
  simp only [Vv.ev,Act.eval]
  rcases ht:env[t]? with _ | av
  ·have hl:env.length≤t:=by simpa using ht
   have h2:a.tmps.getD t undef=undef:=by
    have:=he.length
    simp only [Array.length_toList] at this
    rw [Array.getD_eq_getD_getElem?,Array.getElem?_eq_none (by omega)];rfl
   rw [h2,List.getD_eq_getElem?_getD,ht]
   exact V.ofUndef
  ·obtain ⟨v,hv,hV⟩:=he.get t av ht
   rw [List.getD_eq_getElem?_getD,ht,Array.getD_eq_getD_getElem?,← Array.getElem?_toList,hv]
   exact hV
 | const v=>exact V.cv ho
 | global n=>simp only [Vv.ev,Act.eval,V]
 | func f=>simp only [Vv.ev,Act.eval,V,VL];exact ⟨#[],#[],rfl,rfl,rfl⟩

theorem clean_sound:∀ {as bs:List AV} {vs:List Value},VA g as vs→wr as=some bs→VA g bs vs
 | [],bs,vs,h,hc=>by simp only [wr,Option.some.injEq] at hc;subst hc;exact h
 | a::r,bs,vs,h,hc=>by
  simp only [wr] at hc
  split at hc
  ·rename_i a' r' ha hr
   cases hc
   simp only [VA] at h ⊢
   obtain ⟨v,s,rfl,⟨h0,h1⟩,h2⟩:=h
   refine ⟨v,s,rfl,?_,clean_sound h2 hr⟩
   unfold aClean at ha
   split at ha
   ·cases ha
    refine ⟨rfl,?_⟩
    simp only [V] at h1 ⊢
    obtain ⟨x,c,e,k1,k2,k3,_⟩:=h1
    exact ⟨x,c,e,k1,k2,k3⟩
   ·cases ha
   ·split at ha
    ·cases ha;exact ⟨h0,h1⟩
    ·cases ha
  ·cases hc
theorem clean_pure:∀ {as bs:List AV},wr as=some bs→bs.all AV.pure=true
 | [],bs,h=>by simp only [wr,Option.some.injEq] at h;subst h;rfl
 | a::r,bs,h=>by
  simp only [wr] at h
  split at h
  ·rename_i a' r' ha hr
   cases h
   have h1:a'.pure=true:=by
    unfold aClean at ha
    split at ha
    ·cases ha;rfl
    ·cases ha
    ·split at ha
     ·rename_i hp;cases ha;exact hp
     ·cases ha
   simp [h1,clean_pure hr]
  ·cases h
theorem rows_flat {k:Nat}:∀ (n:Nat) (cs:List AV),cs.length=n * k→(rows k n cs).flatten=cs∧(rows k n cs).length=n∧∀ e ∈ rows k n cs,e.length=k
 | 0,cs,h=>by simp at h;subst h;simp [rows]
 | n+1,cs,h=>by
  rw [Nat.succ_mul] at h
  obtain ⟨h1,h2,h3⟩:=rows_flat (k:=k) n (cs.drop k) (by simp;omega)
  refine ⟨by simp [rows,h1],by simp [rows,h2],fun e he=>?_⟩
  simp only [rows,List.mem_cons] at he
  rcases he with rfl | he
  ·simp;omega
  ·exact h3 e he
theorem clean_len:∀ {as bs:List AV},wr as=some bs→bs.length=as.length
 | [],bs,h=>by simp only [wr,Option.some.injEq] at h;rw [← h]
 | a::r,bs,h=>by
  simp only [wr] at h
  split at h
  ·rename_i a' r' _ hr
   cases h
   simp [clean_len hr]
  ·cases h

theorem load_sound (r:Rel B w0 g h w) {t:TypeId} {d:TypeDesc} {i:TypeInfo} (hd:P.underlying t=some d) (hi:P.info? t=some i) {p v:AV} {pv:Value} (hp:V g p pv)
  (hl:aLoad h (yI d) i.size p=some v):∃ u,(Instr.loadAt t pv).run P w=.ok u w∧V g v u:=by
 have main:∀ (b o:Nat) (cs:List AV) (us:List Value),VA g cs us→(∀ j u,us[j]?=some u→w.cell? ⟨b,o+j,none⟩=some u) →
   (if yI d then (if i.size≤cs.length then some (AV.agg (cs.take i.size)) else none) else cs[0]?)=some v →
   ∃ u,(Instr.loadAt t (.pointer (some ⟨b,o,none⟩))).run P w=.ok u w∧V g v u:=by
  intro b o cs us hv hc hl
  cases ha:yI d with
  | true =>
   simp only [ha,if_true] at hl
   split at hl
   ·rename_i hle
    cases hl
    have hlen:(us.take i.size).length=i.size:=by rw [List.length_take,← hv.length];omega
    have hlc:=loadCells_at (P:=P) (w:=w) b o (us.take i.size) fun j u hu=>by
     rw [List.getElem?_take] at hu
     split at hu
     ·exact hc j u hu
     ·cases hu
    rw [hlen] at hlc
    refine ⟨.agg (us.take i.size).toArray,?_,?_⟩
    ·simp [Instr.loadAt,Instr.sureAddr,loadVar,run_agg hd,ha,wN hi,hlc]
    ·simp only [V];exact ⟨_,rfl,VA.take _ hv⟩
   ·cases hl
  | false =>
   simp only [ha,Bool.false_eq_true,if_false] at hl
   obtain ⟨u,hu,hV⟩:=hv.toVL.get 0 v hl
   refine ⟨u,?_,hV⟩
   have:=hc 0 u hu
   rw [Nat.add_zero] at this
   simp [Instr.loadAt,Instr.sureAddr,loadVar,run_agg hd,ha,run_load,this]
 unfold aLoad at hl
 split at hl
 ·rename_i id off
  simp only [V] at hp
  obtain ⟨c,hc,rfl⟩:=hp
  split at hl
  ·rename_i cs hb
   obtain ⟨h1,h2,⟨vs,ty,hheap,hva⟩,h4⟩:=r.blk id c _ hc hb
   refine main c off (cs.drop off) (vs.toList.drop off) (VA.drop off hva) (fun j u hu=>?_) ?_
   ·rw [List.getElem?_drop] at hu
    rw [cell_of_row w c (off+j) vs ty (0,0) hheap,← Array.getElem?_toList]
    exact hu
   ·rw [List.getElem?_drop]
    cases ha:yI d with
    | true =>
     simp only [ha,if_true] at hl ⊢
     split at hl
     ·rename_i hle
      rw [if_pos (by rw [List.length_drop];omega)];exact hl
     ·cases hl
    | false=>simpa [ha] using hl
  ·cases hl
 ·rename_i cs
  simp only [V] at hp
  obtain ⟨b,o,rfl,hvc⟩:=hp
  obtain ⟨us,hva,_,hus⟩:=hvc.toVA
  exact main b o cs us hva (fun j u hu=>r.phi _ _ _ (hus j u hu)) hl
 ·rename_i id q k m p
  simp only [V] at hp
  obtain ⟨b,o,rfl,t2,ht2,hrd,hle,hpt⟩:=hp
  split at hl
  ·rename_i q' k' es hb
   split at hl
   ·rename_i hc
    obtain ⟨rfl,rfl,rfl⟩:=hc
    obtain ⟨_,ti,hti,htr,htn,hlen,hpe,hrow⟩:=r.rowAt hb
    obtain rfl:ti=t2:=by rw [hti] at ht2;injection ht2
    obtain ⟨o',e',rfl,hloc⟩:=hpt htn.symm
    have hl':(if yI d then (if i.size≤(es.flatten.drop p).length then some (AV.agg ((es.flatten.drop p).take i.size)) else none) else (es.flatten.drop p)[0]?)=some v:=by
     rw [List.getElem?_drop]
     cases ha:yI d with
     | true =>
      simp only [ha,if_true] at hl ⊢
      split at hl
      ·rename_i hle
       rw [if_pos (by rw [List.length_drop];omega)];exact hl
      ·cases hl
     | false=>simpa [ha] using hl
    rcases hrow with rfl | ⟨b2,o2,e2,cs,ty2,k1,k2,k3,k4,k5⟩
    ·exact main b (o'+p) _ [] (by simp [VA]) (fun j u hu=>by simp at hu) hl'
    ·rw [hloc] at k1;injection k1 with k1;injection k1 with e1 k1;injection k1 with k1 _
     obtain rfl:o'=o2:=by omega
     subst e1
     refine main b (o'+p) _ _ (VA.drop p k3) (fun j u hu=>?_) hl'
     rw [List.getElem?_drop,List.getElem?_take] at hu
     split at hu
     ·rw [List.getElem?_drop,Array.getElem?_toList] at hu
      rw [cell_of_row w b (o'+p+j) cs ty2 (0,0) k2,← hu];congr 1;omega
     ·cases hu
   ·cases hl
  ·cases hl
 ·cases hl

theorem splice_VA {cs vs:List AV} {us xs:List Value} {off:Nat} (h:VA g cs us) (k:VA g vs xs):VA g (xJ cs off vs) (us.take off++xs++us.drop (off+xs.length)):=by
 unfold xJ
 rw [k.length]
 exact ((VA.take off h).append k).append (VA.drop _ h)

theorem store_sound (r:Rel B w0 g h w) {t:TypeId} {i:TypeInfo} (hi:P.info? t=some i) {p v:AV} {pv u:Value} (hp:V g p pv) (hv:V g v u) {h':AH}
  (hs:aStore h i.size p v=some h'):∃ w',(Instr.storeAt t pv u).run P w=.ok () w'∧Rel B w0 g h' w':=by
 unfold aStore at hs
 split at hs
 ·rename_i id off vs hcs
  split at hs
  ·rename_i cs hb
   split at hs
   ·rename_i hle
    cases hs
    simp only [V] at hp
    obtain ⟨c,hc,rfl⟩:=hp
    obtain ⟨h1,h2,⟨xs,ty,hheap,hva⟩,h4⟩:=r.blk id c _ hc hb
    have hus:=hv.cells hcs
    have hsz:u.cells.size=i.size:=by rw [← hle.1,hus.length];rfl
    have hxl:cs.length=xs.size:=by rw [hva.length];rfl
    have hst:=run_storeCells_at P c off ty u.cells.toList 0 xs w hheap (by simp only [Array.length_toList];omega) hus.one'
    simp only [Nat.add_zero] at hst
    refine ⟨w.setRow c (xs.toList.take off++u.cells.toList++xs.toList.drop (off+u.cells.toList.length)).toArray,?_,r.putObj hc hb (by simp) (setRow_os _ _ _) (setRow_tape _ _ _) (setRow_output _ _ _) (setRow_size _ _ _) (fun b hb'=>setRow_other w c b _ hb')
     ⟨_,ty,setRow_heap w c xs _ ty (0,0) hheap,?_⟩⟩
    ·simp [Instr.storeAt,Instr.sureAddr,storeVar,wN hi,hsz,hst]
    ·have:=splice_VA (off:=off) hva hus
     simpa using this
   ·cases hs
  ·cases hs
 ·rename_i id q k m p vs hcs
  split at hs
  ·rename_i q' k' es hb
   split at hs
   ·rename_i hle
    obtain ⟨rfl,rfl,rfl,hvl,hfit⟩:=hle
    split at hs
    ·rename_i vs' hcl
     cases hs
     simp only [V] at hp
     obtain ⟨b,o,rfl,t2,ht2,hrd,hle,hpt⟩:=hp
     obtain ⟨_,ti,hti,htr,htn,hlen,hpe,hrow⟩:=r.rowAt hb
     obtain rfl:ti=t2:=by rw [hti] at ht2;injection ht2
     obtain ⟨o',e',rfl,hloc⟩:=hpt htn.symm
     have hfl:es.flatten.length=es.length * k':=xO hlen
     have hus:=clean_sound (hv.cells hcs) hcl
     have hvl':vs'.length=i.size:=by rw [clean_len hcl,hvl]
     have hsz:u.cells.size=i.size:=by rw [← hvl',hus.length];rfl
     by_cases hes:es=[]
     ·subst hes
      have hz:i.size=0:=by simp at hfit;omega
      have hnil:u.cells=#[]:=Array.eq_empty_of_size_eq_zero (by omega)
      refine ⟨w,by simp [Instr.storeAt,Instr.sureAddr,storeVar,wN hi,hz,hnil,storeCells],?_⟩
      have:rows k' ([]:List (List AV)).length (xJ ([]:List (List AV)).flatten p vs')=[]:=rfl
      rw [this]
      have e:h.put id (.row q' k' [])=h:=by
       cases h with
       | mk B T =>
        simp only [AH.put,AH.mk.injEq,and_true]
        refine List.ext_getElem? fun j=>?_
        by_cases hj:j=id
        ·subst hj;rw [List.getElem?_set_self (List.getElem?_eq_some_iff.1 hb).1];exact hb.symm
        ·rw [List.getElem?_set_ne (fun e=>hj e.symm)]
      rw [e];exact r
     ·obtain ⟨b2,o2,e2,cs,ty2,k1,k2,k3,k4,k5⟩:=hrow.resolve_left hes
      rw [hloc] at k1;injection k1 with k1;injection k1 with e1 k1;injection k1 with k1 _
      obtain rfl:o'=o2:=by omega
      subst e1
      have hst:=run_storeCells_at P b (o'+p) ty2 u.cells.toList 0 cs w k2 (by simp only [Array.length_toList];omega) hus.one'
      simp only [Nat.add_zero] at hst
      generalize hnew:(cs.toList.take (o'+p)++u.cells.toList++cs.toList.drop (o'+p+u.cells.toList.length)).toArray=new at hst
      have hul:u.cells.toList.length=i.size:=by simp [hsz]
      have hspl:(xJ es.flatten p vs').length=es.length * k':=by unfold xJ;rw [List.length_append,List.length_append,List.length_take,List.length_drop,hfl];omega
      obtain ⟨f1,f2,f3⟩:=rows_flat (k:=k') es.length (xJ es.flatten p vs') hspl
      refine ⟨w.setRow b new,?_,r.storeRow (e:=e') (cur:=cs) (ty:=ty2) (o:=o') hb hti hloc k2 (by rw [← hnew];simp;omega) (fun j hj=>?_) f2 f3 ?_ ?_ hes⟩
      ·simp [Instr.storeAt,Instr.sureAddr,storeVar,wN hi,hsz,hst]
      ·rw [← hnew,List.getElem?_toArray,List.append_assoc,List.getElem?_append_left (by simp;omega),List.getElem?_take,if_pos (by omega),Array.getElem?_toList]
      ·rw [f1];unfold xJ
       simp only [List.all_append,Bool.and_eq_true]
       exact ⟨⟨all_take _ hpe,clean_pure hcl⟩,all_drop _ hpe⟩
      ·rw [f1]
       have hcont:(new.toList.drop o').take (es.length * k')=((cs.toList.drop o').take (es.length * k')).take p++u.cells.toList++((cs.toList.drop o').take (es.length * k')).drop (p+u.cells.toList.length):=by
        rw [← hnew]
        apply List.ext_getElem?
        intro j
        have hcl:cs.toList.length=cs.size:=by simp
        by_cases h1:j < p
        ·rw [List.getElem?_take,if_pos (by omega),List.getElem?_drop,List.append_assoc,List.getElem?_append_left (by simp;omega),List.getElem?_take,if_pos (by omega)]
         rw [List.append_assoc,List.getElem?_append_left (by simp;omega),List.getElem?_take,if_pos h1,List.getElem?_take,if_pos (by omega),List.getElem?_drop]
        ·by_cases h2:j < p+i.size
         ·rw [List.getElem?_take,if_pos (by omega),List.getElem?_drop,List.append_assoc,List.getElem?_append_right (by simp;omega),List.getElem?_append_left (by simp;omega)]
          rw [List.append_assoc,List.getElem?_append_right (by simp;omega),List.getElem?_append_left (by simp;omega)]
          congr 1;simp;omega
         ·by_cases h3:j < es.length * k'
          ·rw [List.getElem?_take,if_pos h3,List.getElem?_drop,List.getElem?_append_right (by simp;omega),List.getElem?_drop]
           rw [List.getElem?_append_right (by simp;omega),List.getElem?_drop,List.getElem?_take,if_pos (by simp;omega),List.getElem?_drop]
           congr 1;simp;omega
          ·rw [List.getElem?_take,if_neg h3,List.getElem?_eq_none]
           simp;omega
       rw [hcont]
       exact splice_VA (off:=p) k3 hus
    ·cases hs
   ·cases hs
  ·cases hs
 ·rename_i m vs hcs
  split at hs
  ·rename_i hle
   cases hs
   simp only [V] at hp
   obtain ⟨b,o,s,rfl,hn,hos⟩:=hp
   obtain ⟨_,_,⟨xs,ty,hheap,hxs⟩,_⟩:=r.nb b _ hn
   have hus:=hv.cells hcs
   have hsz:u.cells.size=i.size:=by rw [← hle.1,hus.length];rfl
   have hst:=run_storeCells_at P b o ty u.cells.toList 0 xs w hheap (by simp only [Array.length_toList];omega) hus.one'
   simp only [Nat.add_zero] at hst
   refine ⟨w.setRow b (xs.toList.take o++u.cells.toList++xs.toList.drop (o+u.cells.toList.length)).toArray,?_,r.scribble hn hheap (by simp;omega)⟩
   simp [Instr.storeAt,Instr.sureAddr,storeVar,wN hi,hsz,hst]
  ·cases hs
 ·cases hs

theorem fieldAddr_sound {s:TypeId} {f off:Nat} {u:TypeId} {i:TypeInfo} (hf:fieldOff P s f=some (off,u)) (hi:P.info? u=some i) (hz:i.size ≠ 0) {p v:AV} {pv:Value} (hp:V g p pv)
  (ha:aFieldAddr off p=some v):∃ x,(Instr.fieldAt s pv f).run P w=.ok x w∧V g v x:=by
 unfold fieldOff at hf
 split at hf
 ·rename_i fs hs
  rcases hff:fs[f]? with _ | fd
  ·simp [hff] at hf
  ·simp [hff] at hf
   obtain ⟨rfl,rfl⟩:=hf
   have hrun:∀ b o,(Instr.fieldAt s (.pointer (some ⟨b,o,none⟩)) f).run P w=.ok (.pointer (some ⟨b,o+fd.offset,none⟩)) w:=fun b o=>by
    simp [Instr.fieldAt,Instr.sureAddr,yN hs,hff,fieldPlace,wN hi,hz,qT]
   unfold aFieldAddr at ha
   split at ha
   ·cases ha
    simp only [V] at hp
    obtain ⟨c,hc,rfl⟩:=hp
    exact ⟨_,hrun _ _,by simp only [V];exact ⟨c,hc,rfl⟩⟩
   ·cases ha
    simp only [V] at hp
    obtain ⟨b,o,rfl,hvc⟩:=hp
    exact ⟨_,hrun _ _,by simp only [V];exact ⟨b,_,rfl,VC.drop _ hvc⟩⟩
   ·cases ha
    simp only [V] at hp
    obtain ⟨b,q,rfl,t,ht,hr,hle,hpt⟩:=hp
    exact ⟨_,hrun _ _,by
     simp only [V]
     exact ⟨b,_,rfl,t,ht,hr,hle,fun e=>by
      obtain ⟨o,e',rfl,h2⟩:=hpt e
      exact ⟨o,e',by omega,h2⟩⟩⟩
   ·split at ha
    ·cases ha
     simp only [V] at hp
     obtain ⟨b,o,s,rfl,hn,hos⟩:=hp
     exact ⟨_,hrun _ _,by simp only [V];exact ⟨b,_,s,rfl,hn,by omega⟩⟩
    ·cases ha
   ·cases ha
 ·cases hf

theorem part_sound {t:TypeId} {d:TypeDesc} {i:TypeInfo} (hd:P.underlying t=some d) (hi:P.info? t=some i) {off:Nat} {x v:AV} {xv:Value} (hx:V g x xv)
  (ha:aPart (yI d) off i.size x=some v):∃ cs u,xv=.agg cs∧(part t cs off).run P w=.ok u w∧V g v u:=by
 unfold aPart at ha
 split at ha
 ·rename_i cs
  simp only [V] at hx
  obtain ⟨vs,rfl,hva⟩:=hx
  refine ⟨vs,?_⟩
  cases hag:yI d with
  | true =>
   simp only [hag,if_true,Option.some.injEq] at ha
   subst ha
   refine ⟨.agg (vs.extract off (off+i.size)),rfl,by simp [part,run_agg hd,hag,wN hi],?_⟩
   simp only [V]
   refine ⟨_,rfl,?_⟩
   have:=VA.take i.size (VA.drop off hva)
   rw [Array.toList_extract,List.extract_eq_take_drop]
   rw [show off+i.size - off=i.size by omega]
   exact this
  | false =>
   simp only [hag,Bool.false_eq_true,if_false] at ha
   obtain ⟨u,hu,hV⟩:=hva.toVL.get _ _ ha
   have hu':vs[off]?=some u:=by rw [← Array.getElem?_toList];exact hu
   exact ⟨u,rfl,by simp [part,run_agg hd,hag,hu'],hV⟩
 ·cases ha

theorem field_sound {s:TypeId} {f off:Nat} {u:TypeId} {d:TypeDesc} {i:TypeInfo} (hf:fieldOff P s f=some (off,u)) (hd:P.underlying u=some d) (hi:P.info? u=some i) {x v:AV} {xv:Value} (hx:V g x xv)
  (ha:aPart (yI d) off i.size x=some v):∃ y,(Instr.field s xv f).run P w=.ok y w∧V g v y:=by
 unfold fieldOff at hf
 split at hf
 ·rename_i fs hs
  rcases hff:fs[f]? with _ | fd
  ·simp [hff] at hf
  ·simp [hff] at hf
   obtain ⟨rfl,rfl⟩:=hf
   obtain ⟨cs,y,rfl,hrun,hV⟩:=part_sound (w:=w) hd hi hx ha
   exact ⟨y,by simp [Instr.field,yN hs,hff,asAgg,hrun],hV⟩
 ·cases hf

theorem indexAddr_slice_sound {t e:TypeId} {i:TypeInfo} (ht:P.underlying t=some (.slice e)) (hi:P.info? e=some i) {x n v:AV} {xv nv:Value} (hx:V g x xv) (hn:V g n nv)
  (ha:aIndexAddr i.size x n=some v):∃ y,(Instr.indexAt t xv nv).run P w=.ok y w∧V g v y:=by
 have main:∀ (k:Nat) (es:List (List AV)) (kd:IntKind) (z:Int) (a:Option Addr) (c:Nat),k=i.size→0≤z→(es[z.toNat]?).map AV.fptr=some v→(es=[] ∨ ∃ b o,a=some ⟨b,o,none⟩∧VE g b k o es) →
   ∃ y,(Instr.indexAt t (.slice a es.length c) (.int kd z)).run P w=.ok y w∧V g v y:=by
  intro k es kd z a c hk hz hm hes
  rcases he:es[z.toNat]? with _ | e
  ·simp [he] at hm
  ·simp only [he,Option.map_some,Option.some.injEq] at hm
   subst hm
   rcases hes with rfl | ⟨b,o,rfl,hve⟩
   ·simp at he
   ·obtain ⟨h1,h2⟩:=hve.get _ _ he
    have hlt:z.toNat < es.length:=(List.getElem?_eq_some_iff.1 he).1
    have hzl:z < (es.length:Int):=by omega
    refine ⟨.pointer (some ⟨b,o+z.toNat * i.size,none⟩),?_,?_⟩
    ·simp [Instr.indexAt,asIntOf,yN ht,hz,hzl,wN hi,qT]
    ·simp only [V]
     subst hk
     exact ⟨b,_,rfl,h2⟩
 unfold aIndexAddr at ha
 split at ha
 ·rename_i k es kd z
  split at ha
  ·rename_i hc
   simp only [V] at hx hn
   obtain ⟨a,c,rfl,h1,h2,h3⟩:=hx
   subst hn
   exact main k es kd z a c hc.1 hc.2 ha h3
  ·cases ha
 ·rename_i q k es kd z
  split at ha
  ·rename_i hc
   simp only [V] at hx hn
   obtain ⟨a,c,rfl,h1,h2,h3,h4⟩:=hx
   subst hn
   exact main k es kd z a c hc.1 hc.2 ha h3
  ·cases ha
 ·rename_i k es kd z
  split at ha
  ·rename_i hc
   simp only [V] at hx hn
   obtain ⟨a,c,rfl,h1,h2,h3⟩:=hx
   subst hn
   exact main k es kd z a c hc.1 hc.2 ha (h3.imp id fun ⟨b,o,e,hh,_⟩=>⟨b,o,e,hh⟩)
  ·cases ha
 ·rename_i k es kd z
  split at ha
  ·rename_i hc
   simp only [V] at hx hn
   obtain ⟨a,c,rfl,h1,h2,h3⟩:=hx
   subst hn
   exact main k es kd z a c hc.1 hc.2 ha (h3.imp id fun ⟨b,o,e,hh,_⟩=>⟨b,o,e,hh⟩)
  ·cases ha
 ·rename_i k m kd z
  split at ha
  ·rename_i hc
   cases ha
   simp only [V] at hx hn
   obtain ⟨a,c,rfl,h1,h2,h3⟩:=hx
   subst hn
   obtain ⟨rfl,hz0,hzm⟩:=hc
   rcases h3 with h3 | ⟨b,o,s,rfl,hn,hs⟩
   ·omega
   ·refine ⟨.pointer (some ⟨b,o+z.toNat * i.size,none⟩),?_,?_⟩
    ·simp [Instr.indexAt,asIntOf,yN ht,hz0,hzm,wN hi,qT]
    ·simp only [V]
     have h5:(z.toNat+1) * i.size≤m * i.size:=Nat.mul_le_mul_right _ (by omega)
     rw [Nat.add_mul] at h5
     exact ⟨b,_,s,rfl,hn,by omega⟩
  ·cases ha
 ·rename_i k id off len kd z
  split at ha
  ·rename_i hc
   cases ha
   simp only [V] at hx hn
   obtain ⟨c,cap,hσ,rfl,h2,h3⟩:=hx
   subst hn
   refine ⟨.pointer (some ⟨c,off+z.toNat * i.size,none⟩),?_,by simp only [V];exact ⟨c,hσ,rfl⟩⟩
   simp [Instr.indexAt,asIntOf,yN ht,hc.2.1,hc.2.2,wN hi,qT]
  ·cases ha
 ·rename_i id q k m kd z
  split at ha
  ·rename_i hc
   cases ha
   simp only [V] at hx hn
   obtain ⟨a,c,rfl,h1,h2,t,ht',hr,hle,hloc⟩:=hx
   subst hn
   rcases hloc with ⟨h0,_⟩ | ⟨b,o,rfl,hloc⟩
   ·omega
   ·refine ⟨.pointer (some ⟨b,o+z.toNat * i.size,none⟩),?_,by simp only [V];exact ⟨b,_,rfl,t,ht',hr,hle,fun e=>⟨o,_,rfl,by rw [hc.1] at hloc;exact hloc e⟩⟩⟩
    simp [Instr.indexAt,asIntOf,yN ht,hc.2.1,hc.2.2,wN hi,qT]
  ·cases ha
 ·rename_i id q k m p kd z
  split at ha
  ·rename_i hc
   cases ha
   simp only [V] at hx hn
   obtain ⟨a,c,rfl,h1,t,ht',hloc⟩:=hx
   subst hn
   rcases hloc with h0 | ⟨b,o,rfl,hr,hle,hloc⟩
   ·omega
   ·refine ⟨.pointer (some ⟨b,o+z.toNat * i.size,none⟩),?_,by simp only [V];exact ⟨b,_,rfl,t,ht',hr,hle,fun e=>by obtain ⟨o',e',h2,h3⟩:=hloc e;exact ⟨o',e',by rw [h2,hc.1,Nat.add_mul,Nat.add_assoc],by rw [hc.1] at h3;exact h3⟩⟩⟩
    simp [Instr.indexAt,asIntOf,yN ht,hc.2.1,hc.2.2,wN hi,qT]
  ·cases ha
 ·cases ha

theorem indexAddr_array_sound {t e:TypeId} {len:Nat} {i:TypeInfo} (ht:P.underlying t=some (.array len e)) (hi:P.info? e=some i) {x n v:AV} {xv nv:Value} (hx:V g x xv) (hn:V g n nv)
  (ha:aIndexArr len i.size x n=some v):∃ y,(Instr.indexAt t xv nv).run P w=.ok y w∧V g v y:=by
 have main:∀ (b o:Nat) (kd:IntKind) (z:Int),0≤z→z < len→(Instr.indexAt t (.pointer (some ⟨b,o,none⟩)) (.int kd z)).run P w=.ok (.pointer (some ⟨b,o+z.toNat * i.size,none⟩)) w:=by
  intro b o kd z h0 h1
  simp [Instr.indexAt,Instr.sureAddr,asIntOf,yN ht,h0,h1,wN hi,qT]
 unfold aIndexArr at ha
 split at ha
 ·split at ha
  ·rename_i hc
   cases ha
   simp only [V] at hx hn
   obtain ⟨c,hσ,rfl⟩:=hx
   subst hn
   exact ⟨_,main _ _ _ _ hc.1 hc.2,by simp only [V];exact ⟨c,hσ,rfl⟩⟩
  ·cases ha
 ·split at ha
  ·rename_i hc
   cases ha
   simp only [V] at hx hn
   obtain ⟨b,o,rfl,hvc⟩:=hx
   subst hn
   exact ⟨_,main _ _ _ _ hc.1 hc.2,by simp only [V];exact ⟨b,_,rfl,VC.drop _ hvc⟩⟩
  ·cases ha
 ·cases ha

theorem index_str_sound {t:TypeId} (ht:P.underlying t=some .string) {x n v:AV} {xv nv:Value} (hx:V g x xv) (hn:V g n nv)
  (ha:aIndexStr x n=some v):∃ y,(Instr.index t xv nv).run P w=.ok y w∧V g v y:=by
 unfold aIndexStr at ha
 split at ha
 ·rename_i s kd z
  split at ha
  ·rename_i hz
   rcases hs:s[z.toNat]? with _ | b
   ·simp [hs] at ha
   ·simp only [hs,Option.map_some,Option.some.injEq] at ha
    subst ha
    simp only [V] at hx hn
    obtain ⟨rfl,_⟩:=hx
    subst hn
    refine ⟨.int .u8 b.toNat,?_,by simp only [V]⟩
    obtain ⟨hlt,hg⟩:=List.getElem?_eq_some_iff.1 hs
    have hb:(⟨s.toArray⟩:ByteArray)[z.toNat]?=some b:=by
     rw [getElem?_pos _ _ (by simpa [ByteArray.size] using hlt)]
     exact congrArg some hg
    simp [Instr.index,asIntOf,yN ht,hz,hb]
  ·cases ha
 ·cases ha

theorem index_agg_sound {t e:TypeId} {len:Nat} {d:TypeDesc} {i:TypeInfo} (ht:P.underlying t=some (.array len e)) (hd:P.underlying e=some d) (hi:P.info? e=some i) {x n v:AV} {xv nv:Value} (hx:V g x xv) (hn:V g n nv)
  (ha:aIndexAgg (yI d) len i.size x n=some v):∃ y,(Instr.index t xv nv).run P w=.ok y w∧V g v y:=by
 unfold aIndexAgg at ha
 split at ha
 ·rename_i kd z
  split at ha
  ·rename_i hc
   simp only [V] at hn
   subst hn
   obtain ⟨cs,y,rfl,hrun,hV⟩:=part_sound (w:=w) hd hi hx ha
   exact ⟨y,by simp [Instr.index,asIntOf,yN ht,hc.1,hc.2,wN hi,hrun],hV⟩
  ·cases ha
 ·cases ha
end
end Go.Vv
