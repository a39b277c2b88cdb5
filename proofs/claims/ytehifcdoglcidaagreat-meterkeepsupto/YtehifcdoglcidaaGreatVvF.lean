/- Each operation of the model, on values that stand to abstract ones, comes to what the abstract operation says: loads, stores, addresses, parts. -/
import Derived.Test.YtehifcdoglcidaaGreatVvE
namespace Go.Vv
open Go Go.RowKit

theorem xS (b o i:Nat):(⟨b,o,none⟩:Addr).add i=⟨b,o+i,none⟩:=by unfold Addr.add;split <;> simp_all

section
variable {P:Program} {w:World} {g:Gh} {h:AH} {B:Nat} {w0:World}

theorem yc {t:TypeId} {d:TypeDesc} (h:P.underlying t=some d):(underlying t).run P w=.ok d w:=run_underlying h w
theorem run_ti {t:TypeId} {i:TypeInfo} (h:P.info? t=some i):(typeInfo t).run P w=.ok i w:=by simp [typeInfo,h]
theorem xJ {t:TypeId} {i:TypeInfo} (h:P.info? t=some i):(sizeOf t).run P w=.ok i.size w:=by simp [sizeOf,run_ti h]
theorem qM {t:TypeId} {d:TypeDesc} (h:P.underlying t=some d):(isAgg t).run P w=.ok (zS d) w:=by
 simp only [isAgg,Sem.run_bind,yc h,Result.andThen_ok];cases d <;> rfl
theorem run_zero {t:TypeId} {i:TypeInfo} {z:Value} (h:P.info? t=some i) (a:i.zero=some z):(zeroValue t).run P w=.ok z w:=by
 simp [zeroValue,run_ti h,a]

theorem loadCells_at (b o:Nat) (us:List Value) (h:∀j u,us[j]?=some u->w.cell? ⟨b,o+j,none⟩=some u):(loadCells ⟨b,o,none⟩ us.length).run P w=.ok us.toArray w :=
 run_loadCells_list w ⟨b,o,none⟩ us λj u a=>by rw [xS];exact h j u a

theorem V.ofUndef:V g aundef undef:=by simp only [aundef,V];exact ⟨#[],rfl,by simp [VL]⟩

theorem V.cv1 {v:Value} (h:okc1 v=true):V g (cv1 v) v:=by
 unfold okc1 at h;split at h <;> simp only [Vv.cv1,V] <;> first | trivial | skip
 ·rename_i s;simp at h;exact ⟨trivial,by simpa using h⟩
theorem cv1_one {v:Value} (h:okc1 v=true):(Vv.cv1 v).one=true:=by
 unfold okc1 at h;split at h <;> first | rfl | cases h
theorem VA.cvs:∀{vs:List Value},vs.all okc1=true->VA g (vs.map Vv.cv1) vs
 | [],_=>by simp only [List.map_nil,VA]
 | v::r,h=>by
  simp only [List.all_cons,Bool.and_eq_true] at h;simp only [List.map_cons,VA];exact ⟨v,r,rfl,⟨cv1_one h.1,V.cv1 h.1⟩,VA.cvs h.2⟩
theorem V.cv {v:Value} (h:okc v=true):V g (cv v) v:=by
 unfold okc at h;split at h
 ·rename_i cs;simp only [Vv.cv,V];exact ⟨cs,rfl,VA.cvs h⟩
 ·rename_i vs;have:vs=#[]:=by simpa using h
  subst this;exact V.ofUndef
 ·rename_i b a;cases v <;> first | exact V.cv1 h | exact absurd rfl (b _) | exact absurd rfl (a _)

theorem V.cells1 {a:AV} {v:Value} (h0:a.one=true) (b:V g a v):v.cells.toList=[v]:=by
 cases a <;> simp only [V] at b <;> first
  | (subst b;rfl)
  | (obtain ⟨rfl,_⟩:=b;rfl)
  | (obtain ⟨_,_,rfl⟩:=b;rfl)
  | (obtain ⟨_,_,rfl,_⟩:=b;rfl)
  | (obtain ⟨_,_,_,rfl,_⟩:=b;rfl)
  | (obtain ⟨_,rfl,_⟩:=b;rfl)
  | (simp [AV.one] at h0;done)
  | (cases v <;> first | rfl | cases b)
theorem cells?_cases {a:AV} {cs:List AV} (b:a.cells?=some cs):(a=.agg cs) \/ (a.one=true/\cs=[a]):=by
 cases a <;> simp only [AV.cells?,Option.some.injEq,reduceCtorEq] at b <;> first
  | (subst b;exact .inl rfl)
  | (subst b;exact .inr ⟨rfl,rfl⟩)
theorem V.cells {a:AV} {v:Value} {cs:List AV} (h:V g a v) (c:a.cells?=some cs):VA g cs v.cells.toList:=by
 rcases cells?_cases c with rfl | ⟨h0,rfl⟩
 ·simp only [V] at h;obtain ⟨vs,rfl,b⟩:=h;exact b
 ·rw [V.cells1 h0 h];simp only [VA];exact ⟨v,[],rfl,⟨h0,h⟩,rfl⟩

theorem V.tyfix {t:TypeId} {a:AV} {v:Value} (h:V g a v):V g (tyfix P t a) v:=by
 unfold Vv.tyfix;split
 ·split
  ·simp only [V] at h ⊢;exact ⟨none,0,by rw [h];rfl,Nat.le_refl _,by simp [maxLen],.inl trivial,rfl⟩
  ·exact h
 ·exact h

theorem V.ev {env:List AV} {a:Act} (b:VL g env a.tmps.toList) {x:Operand} (c:z7 x=true):V g (ev env x) (a.eval x):=by
 cases x with
 | tmp t =>
  simp only [Vv.ev,Act.eval];rcases ht:env[t]? with _ | j
  ·have k:env.length<=t:=by simpa using ht
   have e:a.tmps.getD t undef=undef:=by
    have:=b.length;simp only [Array.length_toList] at this;rw [Array.getD_eq_getD_getElem?,Array.getElem?_eq_none (by omega)];rfl
   rw [e,List.getD_eq_getElem?_getD,ht];exact V.ofUndef
  ·obtain ⟨v,i,d⟩:=b.get t j ht;rw [List.getD_eq_getElem?_getD,ht,Array.getD_eq_getD_getElem?,<- Array.getElem?_toList,i];exact d
 | const v=>exact V.cv c
 | global n=>simp only [Vv.ev,Act.eval,V]
 | func f=>simp only [Vv.ev,Act.eval,V,VL];exact ⟨#[],#[],rfl,rfl,rfl⟩

theorem clean_sound:∀{f bs:List AV} {vs:List Value},VA g f vs->xD f=some bs->VA g bs vs
 | [],bs,vs,h,hc=>by simp only [xD,Option.some.injEq] at hc;subst hc;exact h
 | a::r,bs,vs,h,hc=>by
  simp only [xD] at hc;split at hc
  ·rename_i a' n b i;cases hc;simp only [VA] at h ⊢;obtain ⟨v,s,rfl,⟨h0,d⟩,l⟩:=h;refine ⟨v,s,rfl,?_,clean_sound l i⟩;unfold aClean at b;split at b
   ·cases b;refine ⟨rfl,?_⟩;simp only [V] at d ⊢;obtain ⟨x,c,e,k,j,m,_⟩:=d;exact ⟨x,c,e,k,j,m⟩
   ·cases b
   ·split at b
    ·cases b;exact ⟨h0,d⟩
    ·cases b
  ·cases hc
theorem clean_pure:∀{c bs:List AV},xD c=some bs->bs.all AV.pure=true
 | [],bs,h=>by simp only [xD,Option.some.injEq] at h;subst h;rfl
 | a::r,bs,h=>by
  simp only [xD] at h;split at h
  ·rename_i a' i b d;cases h;have e:a'.pure=true:=by
    unfold aClean at b;split at b
    ·cases b;rfl
    ·cases b
    ·split at b
     ·rename_i f;cases b;exact f
     ·cases b
   simp [e,clean_pure d]
  ·cases h
theorem rows_flat {k:Nat}:∀(n:Nat) (cs:List AV),cs.length=n * k->(rows k n cs).flatten=cs/\(rows k n cs).length=n/\∀e ∈ rows k n cs,e.length=k
 | 0,cs,h=>by simp at h;subst h;simp [rows]
 | n+1,cs,h=>by
  rw [Nat.succ_mul] at h;obtain ⟨d,c,b⟩:=rows_flat (k:=k) n (cs.drop k) (by simp;omega);refine ⟨by simp [rows,d],by simp [rows,c],λe a=>?_⟩;simp only [rows,List.mem_cons] at a;rcases a with rfl | a
  ·simp;omega
  ·exact b e a
theorem clean_len:∀{b bs:List AV},xD b=some bs->bs.length=b.length
 | [],bs,h=>by simp only [xD,Option.some.injEq] at h;rw [<- h]
 | a::r,bs,h=>by
  simp only [xD] at h;split at h
  ·rename_i a' d _ c;cases h;simp [clean_len c]
  ·cases h

theorem load_sound (r:Rel B w0 g h w) {t:TypeId} {d:TypeDesc} {i:TypeInfo} (hd:P.underlying t=some d) (hi:P.info? t=some i) {p v:AV} {pv:Value} (z:V g p pv)
  (a:aLoad h (zS d) i.size p=some v):∃u,(Instr.loadAt t pv).run P w=.ok u w/\V g v u:=by
 have f:∀(b o:Nat) (cs:List AV) (us:List Value),VA g cs us->(∀j u,us[j]?=some u->w.cell? ⟨b,o+j,none⟩=some u) ->
   (if zS d then (if i.size<=cs.length then some (AV.agg (cs.take i.size)) else none) else cs[0]?)=some v ->
   ∃u,(Instr.loadAt t (.pointer (some ⟨b,o,none⟩))).run P w=.ok u w/\V g v u:=by
  intro b o cs us J A a;cases ha:zS d with
  | true =>
   simp only [ha,if_true] at a;split at a
   ·rename_i x;cases a;have l:(us.take i.size).length=i.size:=by rw [List.length_take,<- J.length];omega
    have F:=loadCells_at (P:=P) (w:=w) b o (us.take i.size) λj u e=>by
     rw [List.getElem?_take] at e;split at e
     ·exact A j u e
     ·cases e
    rw [l] at F;refine ⟨.agg (us.take i.size).toArray,?_,?_⟩
    ·simp [Instr.loadAt,Instr.sureAddr,loadVar,qM hd,ha,xJ hi,F]
    ·simp only [V];exact ⟨_,rfl,VA.take _ J⟩
   ·cases a
  | false =>
   simp only [ha,Bool.false_eq_true,if_false] at a;obtain ⟨u,e,Y⟩:=J.toVL.get 0 v a;refine ⟨u,?_,Y⟩;have:=A 0 u e;rw [Nat.add_zero] at this;simp [Instr.loadAt,Instr.sureAddr,loadVar,qM hd,ha,run_load,this]
 unfold aLoad at a;split at a
 ·rename_i id off;simp only [V] at z;obtain ⟨c,A,rfl⟩:=z;split at a
  ·rename_i cs N;obtain ⟨h1,h2,⟨vs,ty,n,s⟩,h4⟩:=r.blk id c _ A N;refine f c off (cs.drop off) (vs.toList.drop off) (VA.drop off s) (λj u e=>?_) ?_
   ·rw [List.getElem?_drop] at e;rw [cell_of_row w c (off+j) vs ty (0,0) n,<- Array.getElem?_toList];exact e
   ·rw [List.getElem?_drop];cases ha:zS d with
    | true =>
     simp only [ha,if_true] at a ⊢;split at a
     ·rename_i x;rw [if_pos (by rw [List.length_drop];omega)];exact a
     ·cases a
    | false=>simpa [ha] using a
  ·cases a
 ·rename_i cs;simp only [V] at z;obtain ⟨b,o,rfl,L⟩:=z;obtain ⟨us,s,_,M⟩:=L.toVA;exact f b o cs us s (λj u e=>r.phi _ _ _ (M j u e)) a
 ·rename_i id q k m p;simp only [V] at z;obtain ⟨b,o,rfl,U,D,hrd,x,O⟩:=z;split at a
  ·rename_i q' k' es N;split at a
   ·rename_i A;obtain ⟨rfl,rfl,rfl⟩:=A;obtain ⟨_,R,I,S,K,l,Q,E⟩:=r.rowAt N;obtain rfl:R=U:=by rw [I] at D;injection D
    obtain ⟨H,e',rfl,C⟩:=O K.symm;have G:(if zS d then (if i.size<=(es.flatten.drop p).length then some (AV.agg ((es.flatten.drop p).take i.size)) else none) else (es.flatten.drop p)[0]?)=some v:=by
     rw [List.getElem?_drop];cases ha:zS d with
     | true =>
      simp only [ha,if_true] at a ⊢;split at a
      ·rename_i x;rw [if_pos (by rw [List.length_drop];omega)];exact a
      ·cases a
     | false=>simpa [ha] using a
    rcases E with rfl | ⟨b2,X,e2,cs,ty2,y,T,Z,k4,k5⟩
    ·exact f b (H+p) _ [] (by simp [VA]) (λj u e=>by simp at e) G
    ·rw [C] at y;injection y with y;injection y with W y;injection y with y _;obtain rfl:H=X:=by omega
     subst W;refine f b (H+p) _ _ (VA.drop p Z) (λj u e=>?_) G;rw [List.getElem?_drop,List.getElem?_take] at e;split at e
     ·rw [List.getElem?_drop,Array.getElem?_toList] at e;rw [cell_of_row w b (H+p+j) cs ty2 (0,0) T,<- e];congr 1;omega
     ·cases e
   ·cases a
  ·cases a
 ·cases a

theorem splice_VA {cs vs:List AV} {us xs:List Value} {off:Nat} (h:VA g cs us) (k:VA g vs xs):VA g (yy cs off vs) (us.take off++xs++us.drop (off+xs.length)):=by
 unfold yy;rw [k.length];exact ((VA.take off h).append k).append (VA.drop _ h)

theorem store_sound (r:Rel B w0 g h w) {t:TypeId} {i:TypeInfo} (hi:P.info? t=some i) {p v:AV} {pv u:Value} (Q:V g p pv) (hv:V g v u) {h':AH}
  (hs:aStore h i.size p v=some h'):∃w',(Instr.storeAt t pv u).run P w=.ok () w'/\Rel B w0 g h' w':=by
 unfold aStore at hs;split at hs
 ·rename_i id off vs C;split at hs
  ·rename_i cs D;split at hs
   ·rename_i n;cases hs;simp only [V] at Q;obtain ⟨c,hc,rfl⟩:=Q;obtain ⟨Z,h2,⟨xs,ty,f,G⟩,h4⟩:=r.blk id c _ hc D;have a:=hv.cells C;have l:u.cells.size=i.size:=by rw [<- n.1,a.length];rfl
    have hxl:cs.length=xs.size:=by rw [G.length];rfl
    have d:=run_storeCells_at P c off ty u.cells.toList 0 xs w f (by simp only [Array.length_toList];omega) a.one';simp only [Nat.add_zero] at d;refine ⟨w.setRow c (xs.toList.take off++u.cells.toList++xs.toList.drop (off+u.cells.toList.length)).toArray,?_,r.putObj hc D (by simp) (setRow_os _ _ _) (setRow_tape _ _ _) (setRow_output _ _ _) (setRow_size _ _ _) (λb Y=>setRow_other w c b _ Y)
     ⟨_,ty,setRow_heap w c xs _ ty (0,0) f,?_⟩⟩
    ·simp [Instr.storeAt,Instr.sureAddr,storeVar,xJ hi,l,d]
    ·have:=splice_VA (off:=off) G a;simpa using this
   ·cases hs
  ·cases hs
 ·rename_i id q k m p vs C;split at hs
  ·rename_i q' k' es D;split at hs
   ·rename_i n;obtain ⟨rfl,rfl,rfl,U,O⟩:=n;split at hs
    ·rename_i s x;cases hs;simp only [V] at Q;obtain ⟨b,o,rfl,t2,J,hrd,n,R⟩:=Q;obtain ⟨_,ti,I,htr,W,N,L,K⟩:=r.rowAt D;obtain rfl:ti=t2:=by rw [I] at J;injection J
     obtain ⟨z,e',rfl,y⟩:=R W.symm;have S:es.flatten.length=es.length * k':=yC N;have a:=clean_sound (hv.cells C) x;have F:s.length=i.size:=by rw [clean_len x,U]
     have l:u.cells.size=i.size:=by rw [<- F,a.length];rfl
     by_cases hes:es=[]
     ·subst hes;have hz:i.size=0:=by simp at O;omega
      have M:u.cells=#[]:=Array.eq_empty_of_size_eq_zero (by omega);refine ⟨w,by simp [Instr.storeAt,Instr.sureAddr,storeVar,xJ hi,hz,M,storeCells],?_⟩;have:rows k' ([]:List (List AV)).length (yy ([]:List (List AV)).flatten p s)=[]:=rfl;rw [this];have e:h.put id (.row q' k' [])=h:=by
       cases h with
       | mk B T =>
        simp only [AH.put,AH.mk.injEq,and_true];refine List.ext_getElem? λj=>?_;by_cases X:j=id
        ·subst X;rw [List.getElem?_set_self (List.getElem?_eq_some_iff.1 D).1];exact D.symm
        ·rw [List.getElem?_set_ne (λe=>X e.symm)]
      rw [e];exact r
     ·obtain ⟨b2,o2,e2,cs,ty2,E,k2,k3,k4,k5⟩:=K.resolve_left hes;rw [y] at E;injection E with E;injection E with e1 E;injection E with E _;obtain rfl:z=o2:=by omega
      subst e1;have d:=run_storeCells_at P b (z+p) ty2 u.cells.toList 0 cs w k2 (by simp only [Array.length_toList];omega) a.one';simp only [Nat.add_zero] at d;generalize hnew:(cs.toList.take (z+p)++u.cells.toList++cs.toList.drop (z+p+u.cells.toList.length)).toArray=new at d;have hul:u.cells.toList.length=i.size:=by simp [l]
      have H:(yy es.flatten p s).length=es.length * k':=by unfold yy;rw [List.length_append,List.length_append,List.length_take,List.length_drop,S];omega
      obtain ⟨f1,f2,f3⟩:=rows_flat (k:=k') es.length (yy es.flatten p s) H;refine ⟨w.setRow b new,?_,r.storeRow (e:=e') (cur:=cs) (ty:=ty2) (o:=z) D I y k2 (by rw [<- hnew];simp;omega) (λj X=>?_) f2 f3 ?_ ?_ hes⟩
      ·simp [Instr.storeAt,Instr.sureAddr,storeVar,xJ hi,l,d]
      ·rw [<- hnew,List.getElem?_toArray,List.append_assoc,List.getElem?_append_left (by simp;omega),List.getElem?_take,if_pos (by omega),Array.getElem?_toList]
      ·rw [f1];unfold yy;simp only [List.all_append,Bool.and_eq_true];exact ⟨⟨all_take _ L,clean_pure x⟩,all_drop _ L⟩
      ·rw [f1];have A:(new.toList.drop z).take (es.length * k')=((cs.toList.drop z).take (es.length * k')).take p++u.cells.toList++((cs.toList.drop z).take (es.length * k')).drop (p+u.cells.toList.length):=by
        rw [<- hnew];apply List.ext_getElem?;intro j;have x:cs.toList.length=cs.size:=by simp
        by_cases Z:j < p
        ·rw [List.getElem?_take,if_pos (by omega),List.getElem?_drop,List.append_assoc,List.getElem?_append_left (by simp;omega),List.getElem?_take,if_pos (by omega)];rw [List.append_assoc,List.getElem?_append_left (by simp;omega),List.getElem?_take,if_pos Z,List.getElem?_take,if_pos (by omega),List.getElem?_drop]
        ·by_cases h2:j < p+i.size
         ·rw [List.getElem?_take,if_pos (by omega),List.getElem?_drop,List.append_assoc,List.getElem?_append_right (by simp;omega),List.getElem?_append_left (by simp;omega)];rw [List.append_assoc,List.getElem?_append_right (by simp;omega),List.getElem?_append_left (by simp;omega)];congr 1;simp;omega
         ·by_cases h3:j < es.length * k'
          ·rw [List.getElem?_take,if_pos h3,List.getElem?_drop,List.getElem?_append_right (by simp;omega),List.getElem?_drop];rw [List.getElem?_append_right (by simp;omega),List.getElem?_drop,List.getElem?_take,if_pos (by simp;omega),List.getElem?_drop];congr 1;simp;omega
          ·rw [List.getElem?_take,if_neg h3,List.getElem?_eq_none];simp;omega
       rw [A];exact splice_VA (off:=p) k3 a
    ·cases hs
   ·cases hs
  ·cases hs
 ·cases hs

theorem fieldAddr_sound {s:TypeId} {f off:Nat} {u:TypeId} {i:TypeInfo} (d:fieldOff P s f=some (off,u)) (hi:P.info? u=some i) (z:i.size ≠ 0) {p v:AV} {pv:Value} (j:V g p pv)
  (k:vE off p=some v):∃x,(Instr.fieldAt s pv f).run P w=.ok x w/\V g v x:=by
 unfold fieldOff at d;split at d
 ·rename_i fs hs;rcases hff:fs[f]? with _ | r
  ·simp [hff] at d
  ·simp [hff] at d;obtain ⟨rfl,rfl⟩:=d;have a:∀b o,(Instr.fieldAt s (.pointer (some ⟨b,o,none⟩)) f).run P w=.ok (.pointer (some ⟨b,o+r.offset,none⟩)) w:=λb o=>by
    simp [Instr.fieldAt,Instr.sureAddr,yc hs,hff,fieldPlace,xJ hi,z,xS]
   unfold vE at k;split at k
   ·cases k;simp only [V] at j;obtain ⟨c,D,rfl⟩:=j;exact ⟨_,a _ _,by simp only [V];exact ⟨c,D,rfl⟩⟩
   ·cases k;simp only [V] at j;obtain ⟨b,o,rfl,l⟩:=j;exact ⟨_,a _ _,by simp only [V];exact ⟨b,_,rfl,VC.drop _ l⟩⟩
   ·cases k;simp only [V] at j;obtain ⟨b,q,rfl,t,A,y,m,n⟩:=j;exact ⟨_,a _ _,by
     simp only [V];exact ⟨b,_,rfl,t,A,y,m,λe=>by
      obtain ⟨o,E,rfl,C⟩:=n e;exact ⟨o,E,by omega,C⟩⟩⟩
   ·cases k
 ·cases d

theorem part_sound {t:TypeId} {d:TypeDesc} {i:TypeInfo} (hd:P.underlying t=some d) (hi:P.info? t=some i) {off:Nat} {x v:AV} {f:Value} (e:V g x f)
  (a:aPart (zS d) off i.size x=some v):∃cs u,f=.agg cs/\(part t cs off).run P w=.ok u w/\V g v u:=by
 unfold aPart at a;split at a
 ·rename_i cs;simp only [V] at e;obtain ⟨vs,rfl,b⟩:=e;refine ⟨vs,?_⟩;cases hag:zS d with
  | true =>
   simp only [hag,if_true,Option.some.injEq] at a;subst a;refine ⟨.agg (vs.extract off (off+i.size)),rfl,by simp [part,qM hd,hag,xJ hi],?_⟩;simp only [V];refine ⟨_,rfl,?_⟩;have:=VA.take i.size (VA.drop off b);rw [Array.toList_extract,List.extract_eq_take_drop];rw [show off+i.size - off=i.size by omega];exact this
  | false =>
   simp only [hag,Bool.false_eq_true,if_false] at a;obtain ⟨u,j,k⟩:=b.toVL.get _ _ a;have c:vs[off]?=some u:=by rw [<- Array.getElem?_toList];exact j
   exact ⟨u,rfl,by simp [part,qM hd,hag,c],k⟩
 ·cases a

theorem field_sound {s:TypeId} {f off:Nat} {u:TypeId} {d:TypeDesc} {i:TypeInfo} (a:fieldOff P s f=some (off,u)) (hd:P.underlying u=some d) (hi:P.info? u=some i) {x v:AV} {c:Value} (e:V g x c)
  (k:aPart (zS d) off i.size x=some v):∃y,(Instr.field s c f).run P w=.ok y w/\V g v y:=by
 unfold fieldOff at a;split at a
 ·rename_i fs hs;rcases hff:fs[f]? with _ | l
  ·simp [hff] at a
  ·simp [hff] at a;obtain ⟨rfl,rfl⟩:=a;obtain ⟨cs,y,rfl,b,j⟩:=part_sound (w:=w) hd hi e k;exact ⟨y,by simp [Instr.field,yc hs,hff,asAgg,b],j⟩
 ·cases a

theorem indexAddr_slice_sound {t e:TypeId} {i:TypeInfo} (F:P.underlying t=some (.slice e)) (hi:P.info? e=some i) {x n v:AV} {O N:Value} (r:V g x O) (l:V g n N)
  (f:vD i.size x n=some v):∃y,(Instr.indexAt t O N).run P w=.ok y w/\V g v y:=by
 have u:∀(k:Nat) (es:List (List AV)) (s:IntKind) (z:Int) (a:Option Addr) (c:Nat),k=i.size->0<=z->(es[z.toNat]?).map AV.fptr=some v->(es=[] \/ ∃b o,a=some ⟨b,o,none⟩/\VE g b k o es) ->
   ∃y,(Instr.indexAt t (.slice a es.length c) (.int s z)).run P w=.ok y w/\V g v y:=by
  intro k es s z a c T R M I;rcases he:es[z.toNat]? with _ | e
  ·simp [he] at M
  ·simp only [he,Option.map_some,Option.some.injEq] at M;subst M;rcases I with rfl | ⟨b,o,rfl,K⟩
   ·simp at he
   ·obtain ⟨G,E⟩:=K.get _ _ he;have Q:z.toNat < es.length:=(List.getElem?_eq_some_iff.1 he).1;have L:z < (es.length:Int):=by omega
    refine ⟨.pointer (some ⟨b,o+z.toNat * i.size,none⟩),?_,?_⟩
    ·simp [Instr.indexAt,asIntOf,yc F,R,L,xJ hi,xS]
    ·simp only [V];subst T;exact ⟨b,_,rfl,E⟩
 unfold vD at f;split at f
 ·rename_i k es s z;split at f
  ·rename_i j;simp only [V] at r l;obtain ⟨a,c,rfl,G,E,A⟩:=r;subst l;exact u k es s z a c j.1 j.2 f A
  ·cases f
 ·rename_i q k es s z;split at f
  ·rename_i j;simp only [V] at r l;obtain ⟨a,c,rfl,G,E,A,W⟩:=r;subst l;exact u k es s z a c j.1 j.2 f A
  ·cases f
 ·rename_i k id off len s z;split at f
  ·rename_i j;cases f;simp only [V] at r l;obtain ⟨c,cap,J,rfl,E,A⟩:=r;subst l;refine ⟨.pointer (some ⟨c,off+z.toNat * i.size,none⟩),?_,by simp only [V];exact ⟨c,J,rfl⟩⟩;simp [Instr.indexAt,asIntOf,yc F,j.2.1,j.2.2,xJ hi,xS]
  ·cases f
 ·rename_i id q k m s z;split at f
  ·rename_i j;cases f;simp only [V] at r l;obtain ⟨a,c,rfl,G,E,t,D,H,C,d⟩:=r;subst l;rcases d with ⟨h0,_⟩ | ⟨b,o,rfl,d⟩
   ·omega
   ·refine ⟨.pointer (some ⟨b,o+z.toNat * i.size,none⟩),?_,by simp only [V];exact ⟨b,_,rfl,t,D,H,C,λe=>⟨o,_,rfl,by rw [j.1] at d;exact d e⟩⟩⟩;simp [Instr.indexAt,asIntOf,yc F,j.2.1,j.2.2,xJ hi,xS]
  ·cases f
 ·rename_i id q k m p s z;split at f
  ·rename_i j;cases f;simp only [V] at r l;obtain ⟨a,c,rfl,G,t,D,d⟩:=r;subst l;rcases d with h0 | ⟨b,o,rfl,H,C,d⟩
   ·omega
   ·refine ⟨.pointer (some ⟨b,o+z.toNat * i.size,none⟩),?_,by simp only [V];exact ⟨b,_,rfl,t,D,H,C,λe=>by obtain ⟨S,U,E,A⟩:=d e;exact ⟨S,U,by rw [E,j.1,Nat.add_mul,Nat.add_assoc],by rw [j.1] at A;exact A⟩⟩⟩;simp [Instr.indexAt,asIntOf,yc F,j.2.1,j.2.2,xJ hi,xS]
  ·cases f
 ·cases f

theorem indexAddr_array_sound {t e:TypeId} {len:Nat} {i:TypeInfo} (s:P.underlying t=some (.array len e)) (hi:P.info? e=some i) {x n v:AV} {r q:Value} (k:V g x r) (j:V g n q)
  (a:aIndexArr len i.size x n=some v):∃y,(Instr.indexAt t r q).run P w=.ok y w/\V g v y:=by
 have d:∀(b o:Nat) (p:IntKind) (z:Int),0<=z->z < len->(Instr.indexAt t (.pointer (some ⟨b,o,none⟩)) (.int p z)).run P w=.ok (.pointer (some ⟨b,o+z.toNat * i.size,none⟩)) w:=by
  intro b o p z h0 u;simp [Instr.indexAt,Instr.sureAddr,asIntOf,yc s,h0,u,xJ hi,xS]
 unfold aIndexArr at a;split at a
 ·split at a
  ·rename_i f;cases a;simp only [V] at k j;obtain ⟨c,m,rfl⟩:=k;subst j;exact ⟨_,d _ _ _ _ f.1 f.2,by simp only [V];exact ⟨c,m,rfl⟩⟩
  ·cases a
 ·split at a
  ·rename_i f;cases a;simp only [V] at k j;obtain ⟨b,o,rfl,l⟩:=k;subst j;exact ⟨_,d _ _ _ _ f.1 f.2,by simp only [V];exact ⟨b,_,rfl,VC.drop _ l⟩⟩
  ·cases a
 ·cases a

theorem index_str_sound {t:TypeId} (k:P.underlying t=some .string) {x n v:AV} {i f:Value} (e:V g x i) (d:V g n f)
  (a:aIndexStr x n=some v):∃y,(Instr.index t i f).run P w=.ok y w/\V g v y:=by
 unfold aIndexStr at a;split at a
 ·rename_i s o z;split at a
  ·rename_i j;rcases hs:s[z.toNat]? with _ | b
   ·simp [hs] at a
   ·simp only [hs,Option.map_some,Option.some.injEq] at a;subst a;simp only [V] at e d;obtain ⟨rfl,_⟩:=e;subst d;refine ⟨.int .u8 b.toNat,?_,by simp only [V]⟩;obtain ⟨c,m⟩:=List.getElem?_eq_some_iff.1 hs;have l:(⟨s.toArray⟩:ByteArray)[z.toNat]?=some b:=by
     rw [getElem?_pos _ _ (by simpa [ByteArray.size] using c)];exact congrArg some m
    simp [Instr.index,asIntOf,yc k,j,l]
  ·cases a
 ·cases a

theorem index_agg_sound {t e:TypeId} {len:Nat} {d:TypeDesc} {i:TypeInfo} (m:P.underlying t=some (.array len e)) (hd:P.underlying e=some d) (hi:P.info? e=some i) {x n v:AV} {j f:Value} (l:V g x j) (c:V g n f)
  (a:aIndexAgg (zS d) len i.size x n=some v):∃y,(Instr.index t j f).run P w=.ok y w/\V g v y:=by
 unfold aIndexAgg at a;split at a
 ·rename_i p z;split at a
  ·rename_i k;simp only [V] at c;subst c;obtain ⟨cs,y,rfl,b,o⟩:=part_sound (w:=w) hd hi l a;exact ⟨y,by simp [Instr.index,asIntOf,yc m,k.1,k.2,xJ hi,b],o⟩
  ·cases a
 ·cases a
end
end Go.Vv
