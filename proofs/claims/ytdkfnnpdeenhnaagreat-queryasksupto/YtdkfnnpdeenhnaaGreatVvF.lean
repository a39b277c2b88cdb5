/- Each operation of the model, on values that stand to abstract ones, comes to what the abstract operation says: loads, stores, addresses, parts. -/
import Derived.Test.YtdkfnnpdeenhnaaGreatVvE
namespace Go.Vv
open Go Go.RowKit

theorem xb (b o i:Nat):(⟨b,o,none⟩:Addr).add i=⟨b,o+i,none⟩:=by unfold Addr.add;split <;> simp_all

section
variable {P:Program} {w:World} {g:Gh} {h:AH} {B:Nat} {w0:World}

theorem zP {t:TypeId} {d:TypeDesc} (h:P.underlying t=some d):(underlying t).run P w=.ok d w:=run_underlying h w
theorem run_ti {t:TypeId} {i:TypeInfo} (h:P.info? t=some i):(typeInfo t).run P w=.ok i w:=by simp [typeInfo,h]
theorem yV {t:TypeId} {i:TypeInfo} (h:P.info? t=some i):(sizeOf t).run P w=.ok i.size w:=by simp [sizeOf,run_ti h]
theorem vu {t:TypeId} {d:TypeDesc} (h:P.underlying t=some d):(isAgg t).run P w=.ok (zK d) w:=by
 simp only [isAgg,Sem.run_bind,zP h,Result.andThen_ok];cases d <;> rfl
theorem run_zero {t:TypeId} {i:TypeInfo} {z:Value} (h:P.info? t=some i) (a:i.zero=some z):(zeroValue t).run P w=.ok z w:=by
 simp [zeroValue,run_ti h,a]

theorem loadCells_at (b o:Nat) (us:List Value) (h:∀j u,us[j]?=some u->w.cell? ⟨b,o+j,none⟩=some u):(loadCells ⟨b,o,none⟩ us.length).run P w=.ok us.toArray w :=
 run_loadCells_list w ⟨b,o,none⟩ us λj u a=>by rw [xb];exact h j u a

theorem V.ofUndef:V g aundef undef:=by simp only [aundef,V];exact ⟨#[],rfl,by simp [VL]⟩

theorem V.cv1 {v:Value} (h:okc1 v=true):V g (cv1 v) v:=by
 unfold okc1 at h;split at h <;> simp only [Vv.cv1,V] <;> first | trivial | skip
 ·rename_i s;simp at h;exact ⟨trivial,by simpa using h⟩
theorem cv1_one {v:Value} (h:okc1 v=true):(Vv.cv1 v).one=true:=by
 unfold okc1 at h;split at h <;> first | rfl | cases h
theorem VA.cvs:∀{vs:List Value},vs.all okc1=true->VA g (vs.map Vv.cv1) vs
 | [],_=>by simp only [List.map_nil,VA]
 | v::r,h=>by
  simp only [List.all_cons,Bool.and_eq_true] at h;simp only [List.map_cons,VA];exact ⟨v,r,rfl,⟨cv1_one h.1,V.cv1 h.1⟩,VA.cvs h.2⟩
theorem V.cv {v:Value} (h:okc v=true):V g (cv v) v:=by
 unfold okc at h;split at h
 ·rename_i cs;simp only [Vv.cv,V];exact ⟨cs,rfl,VA.cvs h⟩
 ·rename_i vs;have:vs=#[]:=by simpa using h
  subst this;exact V.ofUndef
 ·rename_i a b;cases v <;> first | exact V.cv1 h | exact absurd rfl (a _) | exact absurd rfl (b _)

theorem V.cells1 {a:AV} {v:Value} (h0:a.one=true) (b:V g a v):v.cells.toList=[v]:=by
 cases a <;> simp only [V] at b <;> first
  | (subst b;rfl)
  | (obtain ⟨rfl,_⟩:=b;rfl)
  | (obtain ⟨_,_,rfl⟩:=b;rfl)
  | (obtain ⟨_,_,rfl,_⟩:=b;rfl)
  | (obtain ⟨_,_,_,rfl,_⟩:=b;rfl)
  | (obtain ⟨_,rfl,_⟩:=b;rfl)
  | (simp [AV.one] at h0;done)
  | (cases v <;> first | rfl | cases b)
theorem cells?_cases {a:AV} {cs:List AV} (b:a.cells?=some cs):(a=.agg cs) \/ (a.one=true/\cs=[a]):=by
 cases a <;> simp only [AV.cells?,Option.some.injEq,reduceCtorEq] at b <;> first
  | (subst b;exact .inl rfl)
  | (subst b;exact .inr ⟨rfl,rfl⟩)
theorem V.cells {a:AV} {v:Value} {cs:List AV} (h:V g a v) (c:a.cells?=some cs):VA g cs v.cells.toList:=by
 rcases cells?_cases c with rfl | ⟨h0,rfl⟩
 ·simp only [V] at h;obtain ⟨vs,rfl,b⟩:=h;exact b
 ·rw [V.cells1 h0 h];simp only [VA];exact ⟨v,[],rfl,⟨h0,h⟩,rfl⟩

theorem V.tyfix {t:TypeId} {a:AV} {v:Value} (h:V g a v):V g (tyfix P t a) v:=by
 unfold Vv.tyfix;split
 ·split
  ·simp only [V] at h ⊢;exact ⟨none,0,by rw [h];rfl,Nat.le_refl _,by simp [maxLen],.inl trivial,rfl⟩
  ·exact h
 ·exact h

theorem V.ev {env:List AV} {a:Act} (b:VL g env a.tmps.toList) {x:Operand} (e:zO x=true):V g (ev env x) (a.eval x):=by
 cases x with
 | tmp t =>
  simp only [Vv.ev,Act.eval];rcases ht:env[t]? with _ | c
  ·have k:env.length<=t:=by simpa using ht
   have i:a.tmps.getD t undef=undef:=by
    have:=b.length;simp only [Array.length_toList] at this;rw [Array.getD_eq_getD_getElem?,Array.getElem?_eq_none (by omega)];rfl
   rw [i,List.getD_eq_getElem?_getD,ht];exact V.ofUndef
  ·obtain ⟨v,d,j⟩:=b.get t c ht;rw [List.getD_eq_getElem?_getD,ht,Array.getD_eq_getD_getElem?,<- Array.getElem?_toList,d];exact j
 | const v=>exact V.cv e
 | global n=>simp only [Vv.ev,Act.eval,V]
 | func f=>simp only [Vv.ev,Act.eval,V,VL];exact ⟨#[],#[],rfl,rfl,rfl⟩

theorem vL:∀{i d:List AV} {vs:List Value},VA g i vs->yA i=some d->VA g d vs
 | [],d,vs,h,hc=>by simp only [yA,Option.some.injEq] at hc;subst hc;exact h
 | a::r,d,vs,h,hc=>by
  simp only [yA] at hc;split at hc
  ·rename_i a' o b k;cases hc;simp only [VA] at h ⊢;obtain ⟨v,s,rfl,⟨h0,f⟩,l⟩:=h;refine ⟨v,s,rfl,?_,vL l k⟩;unfold aClean at b;split at b
   ·cases b;refine ⟨rfl,?_⟩;simp only [V] at f ⊢;obtain ⟨x,c,e,j,n,m,_⟩:=f;exact ⟨x,c,e,j,n,m⟩
   ·cases b
   ·split at b
    ·cases b;exact ⟨h0,f⟩
    ·cases b
  ·cases hc
theorem qD:∀{e c:List AV},yA e=some c->c.all AV.pure=true
 | [],c,h=>by simp only [yA,Option.some.injEq] at h;subst h;rfl
 | a::r,c,h=>by
  simp only [yA] at h;split at h
  ·rename_i a' j b f;cases h;have d:a'.pure=true:=by
    unfold aClean at b;split at b
    ·cases b;rfl
    ·cases b
    ·split at b
     ·rename_i i;cases b;exact i
     ·cases b
   simp [d,qD f]
  ·cases h
theorem rows_flat {k:Nat}:∀(n:Nat) (cs:List AV),cs.length=n * k->(rows k n cs).flatten=cs/\(rows k n cs).length=n/\∀e ∈ rows k n cs,e.length=k
 | 0,cs,h=>by simp at h;subst h;simp [rows]
 | n+1,cs,h=>by
  rw [Nat.succ_mul] at h;obtain ⟨c,d,b⟩:=rows_flat (k:=k) n (cs.drop k) (by simp;omega);refine ⟨by simp [rows,c],by simp [rows,d],λe a=>?_⟩;simp only [rows,List.mem_cons] at a;rcases a with rfl | a
  ·simp;omega
  ·exact b e a
theorem qf:∀{c b:List AV},yA c=some b->b.length=c.length
 | [],b,h=>by simp only [yA,Option.some.injEq] at h;rw [<- h]
 | a::r,b,h=>by
  simp only [yA] at h;split at h
  ·rename_i a' e _ d;cases h;simp [qf d]
  ·cases h

theorem load_sound (r:Rel B w0 g h w) {t:TypeId} {d:TypeDesc} {i:TypeInfo} (hd:P.underlying t=some d) (hi:P.info? t=some i) {p v:AV} {pv:Value} (z:V g p pv)
  (a:qG h (zK d) i.size p=some v):∃u,(Instr.loadAt t pv).run P w=.ok u w/\V g v u:=by
 have f:∀(b o:Nat) (cs:List AV) (us:List Value),VA g cs us->(∀j u,us[j]?=some u->w.cell? ⟨b,o+j,none⟩=some u) ->
   (if zK d then (if i.size<=cs.length then some (AV.agg (cs.take i.size)) else none) else cs[0]?)=some v ->
   ∃u,(Instr.loadAt t (.pointer (some ⟨b,o,none⟩))).run P w=.ok u w/\V g v u:=by
  intro b o cs us K A a;cases ha:zK d with
  | true =>
   simp only [ha,if_true] at a;split at a
   ·rename_i s;cases a;have l:(us.take i.size).length=i.size:=by rw [List.length_take,<- K.length];omega
    have E:=loadCells_at (P:=P) (w:=w) b o (us.take i.size) λj u e=>by
     rw [List.getElem?_take] at e;split at e
     ·exact A j u e
     ·cases e
    rw [l] at E;refine ⟨.agg (us.take i.size).toArray,?_,?_⟩
    ·simp [Instr.loadAt,Instr.sureAddr,loadVar,vu hd,ha,yV hi,E]
    ·simp only [V];exact ⟨_,rfl,VA.take _ K⟩
   ·cases a
  | false =>
   simp only [ha,Bool.false_eq_true,if_false] at a;obtain ⟨u,e,T⟩:=K.toVL.get 0 v a;refine ⟨u,?_,T⟩;have:=A 0 u e;rw [Nat.add_zero] at this;simp [Instr.loadAt,Instr.sureAddr,loadVar,vu hd,ha,run_load,this]
 unfold qG at a;split at a
 ·rename_i id off;simp only [V] at z;obtain ⟨c,A,rfl⟩:=z;split at a
  ·rename_i cs J;obtain ⟨h1,h2,⟨vs,ty,y,x⟩,h4⟩:=r.blk id c _ A J;refine f c off (cs.drop off) (vs.toList.drop off) (VA.drop off x) (λj u e=>?_) ?_
   ·rw [List.getElem?_drop] at e;rw [cell_of_row w c (off+j) vs ty (0,0) y,<- Array.getElem?_toList];exact e
   ·rw [List.getElem?_drop];cases ha:zK d with
    | true =>
     simp only [ha,if_true] at a ⊢;split at a
     ·rename_i s;rw [if_pos (by rw [List.length_drop];omega)];exact a
     ·cases a
    | false=>simpa [ha] using a
  ·cases a
 ·rename_i cs;simp only [V] at z;obtain ⟨b,o,rfl,I⟩:=z;obtain ⟨us,x,_,N⟩:=I.toVA;exact f b o cs us x (λj u e=>r.phi _ _ _ (N j u e)) a
 ·rename_i id q k m p;simp only [V] at z;obtain ⟨b,o,rfl,U,F,Q,s,O⟩:=z;split at a
  ·rename_i q' k' es J;split at a
   ·rename_i A;obtain ⟨rfl,rfl,rfl⟩:=A;obtain ⟨_,S,M,htr,L,l,Z,C⟩:=r.rowAt J;obtain rfl:S=U:=by rw [M] at F;injection F
    obtain ⟨H,e',rfl,D⟩:=O L.symm;have G:(if zK d then (if i.size<=(es.flatten.drop p).length then some (AV.agg ((es.flatten.drop p).take i.size)) else none) else (es.flatten.drop p)[0]?)=some v:=by
     rw [List.getElem?_drop];cases ha:zK d with
     | true =>
      simp only [ha,if_true] at a ⊢;split at a
      ·rename_i s;rw [if_pos (by rw [List.length_drop];omega)];exact a
      ·cases a
     | false=>simpa [ha] using a
    rcases C with rfl | ⟨b2,R,e2,cs,ty2,n,W,X,k4,k5⟩
    ·exact f b (H+p) _ [] (by simp [VA]) (λj u e=>by simp at e) G
    ·rw [D] at n;injection n with n;injection n with Y n;injection n with n _;obtain rfl:H=R:=by omega
     subst Y;refine f b (H+p) _ _ (VA.drop p X) (λj u e=>?_) G;rw [List.getElem?_drop,List.getElem?_take] at e;split at e
     ·rw [List.getElem?_drop,Array.getElem?_toList] at e;rw [cell_of_row w b (H+p+j) cs ty2 (0,0) W,<- e];congr 1;omega
     ·cases e
   ·cases a
  ·cases a
 ·cases a

theorem splice_VA {cs vs:List AV} {us xs:List Value} {off:Nat} (h:VA g cs us) (k:VA g vs xs):VA g (ye cs off vs) (us.take off++xs++us.drop (off+xs.length)):=by
 unfold ye;rw [k.length];exact ((VA.take off h).append k).append (VA.drop _ h)

theorem store_sound (r:Rel B w0 g h w) {t:TypeId} {i:TypeInfo} (hi:P.info? t=some i) {p v:AV} {pv u:Value} (R:V g p pv) (hv:V g v u) {h':AH}
  (hs:aStore h i.size p v=some h'):∃w',(Instr.storeAt t pv u).run P w=.ok () w'/\Rel B w0 g h' w':=by
 unfold aStore at hs;split at hs
 ·rename_i id off vs D;split at hs
  ·rename_i cs F;split at hs
   ·rename_i x;cases hs;simp only [V] at R;obtain ⟨c,hc,rfl⟩:=R;obtain ⟨h1,h2,⟨xs,ty,f,Q⟩,h4⟩:=r.blk id c _ hc F;have a:=hv.cells D;have y:u.cells.size=i.size:=by rw [<- x.1,a.length];rfl
    have hxl:cs.length=xs.size:=by rw [Q.length];rfl
    have d:=run_storeCells_at P c off ty u.cells.toList 0 xs w f (by simp only [Array.length_toList];omega) a.one';simp only [Nat.add_zero] at d;refine ⟨w.setRow c (xs.toList.take off++u.cells.toList++xs.toList.drop (off+u.cells.toList.length)).toArray,?_,r.putObj hc F (by simp) (setRow_os _ _ _) (setRow_tape _ _ _) (setRow_output _ _ _) (setRow_size _ _ _) (λb Z=>setRow_other w c b _ Z)
     ⟨_,ty,setRow_heap w c xs _ ty (0,0) f,?_⟩⟩
    ·simp [Instr.storeAt,Instr.sureAddr,storeVar,yV hi,y,d]
    ·have:=splice_VA (off:=off) Q a;simpa using this
   ·cases hs
  ·cases hs
 ·rename_i id q k m p vs D;split at hs
  ·rename_i q' l es F;split at hs
   ·rename_i x;obtain ⟨rfl,rfl,rfl,S,G⟩:=x;split at hs
    ·rename_i n s;cases hs;simp only [V] at R;obtain ⟨b,o,rfl,t2,H,hrd,x,U⟩:=R;obtain ⟨_,ti,N,htr,Y,I,J,L⟩:=r.rowAt F;obtain rfl:ti=t2:=by rw [N] at H;injection H
     obtain ⟨z,e',rfl,A⟩:=U Y.symm;have X:es.flatten.length=es.length * l:=yc I;have a:=vL (hv.cells D) s;have O:n.length=i.size:=by rw [qf s,S]
     have y:u.cells.size=i.size:=by rw [<- O,a.length];rfl
     by_cases hes:es=[]
     ·subst hes;have hz:i.size=0:=by simp at G;omega
      have K:u.cells=#[]:=Array.eq_empty_of_size_eq_zero (by omega);refine ⟨w,by simp [Instr.storeAt,Instr.sureAddr,storeVar,yV hi,hz,K,storeCells],?_⟩;have:rows l ([]:List (List AV)).length (ye ([]:List (List AV)).flatten p n)=[]:=rfl;rw [this];have e:h.put id (.row q' l [])=h:=by
       cases h with
       | mk B T =>
        simp only [AH.put,AH.mk.injEq,and_true];refine List.ext_getElem? λj=>?_;by_cases W:j=id
        ·subst W;rw [List.getElem?_set_self (List.getElem?_eq_some_iff.1 F).1];exact F.symm
        ·rw [List.getElem?_set_ne (λe=>W e.symm)]
      rw [e];exact r
     ·obtain ⟨b2,o2,e2,cs,ty2,C,k2,k3,k4,k5⟩:=L.resolve_left hes;rw [A] at C;injection C with C;injection C with e1 C;injection C with C _;obtain rfl:z=o2:=by omega
      subst e1;have d:=run_storeCells_at P b (z+p) ty2 u.cells.toList 0 cs w k2 (by simp only [Array.length_toList];omega) a.one';simp only [Nat.add_zero] at d;generalize hnew:(cs.toList.take (z+p)++u.cells.toList++cs.toList.drop (z+p+u.cells.toList.length)).toArray=new at d;have hul:u.cells.toList.length=i.size:=by simp [y]
      have M:(ye es.flatten p n).length=es.length * l:=by unfold ye;rw [List.length_append,List.length_append,List.length_take,List.length_drop,X];omega
      obtain ⟨f1,f2,f3⟩:=rows_flat (k:=l) es.length (ye es.flatten p n) M;refine ⟨w.setRow b new,?_,r.storeRow (e:=e') (cur:=cs) (ty:=ty2) (o:=z) F N A k2 (by rw [<- hnew];simp;omega) (λj W=>?_) f2 f3 ?_ ?_ hes⟩
      ·simp [Instr.storeAt,Instr.sureAddr,storeVar,yV hi,y,d]
      ·rw [<- hnew,List.getElem?_toArray,List.append_assoc,List.getElem?_append_left (by simp;omega),List.getElem?_take,if_pos (by omega),Array.getElem?_toList]
      ·rw [f1];unfold ye;simp only [List.all_append,Bool.and_eq_true];exact ⟨⟨all_take _ J,qD s⟩,all_drop _ J⟩
      ·rw [f1];have E:(new.toList.drop z).take (es.length * l)=((cs.toList.drop z).take (es.length * l)).take p++u.cells.toList++((cs.toList.drop z).take (es.length * l)).drop (p+u.cells.toList.length):=by
        rw [<- hnew];apply List.ext_getElem?;intro j;have s:cs.toList.length=cs.size:=by simp
        by_cases h1:j < p
        ·rw [List.getElem?_take,if_pos (by omega),List.getElem?_drop,List.append_assoc,List.getElem?_append_left (by simp;omega),List.getElem?_take,if_pos (by omega)];rw [List.append_assoc,List.getElem?_append_left (by simp;omega),List.getElem?_take,if_pos h1,List.getElem?_take,if_pos (by omega),List.getElem?_drop]
        ·by_cases h2:j < p+i.size
         ·rw [List.getElem?_take,if_pos (by omega),List.getElem?_drop,List.append_assoc,List.getElem?_append_right (by simp;omega),List.getElem?_append_left (by simp;omega)];rw [List.append_assoc,List.getElem?_append_right (by simp;omega),List.getElem?_append_left (by simp;omega)];congr 1;simp;omega
         ·by_cases h3:j < es.length * l
          ·rw [List.getElem?_take,if_pos h3,List.getElem?_drop,List.getElem?_append_right (by simp;omega),List.getElem?_drop];rw [List.getElem?_append_right (by simp;omega),List.getElem?_drop,List.getElem?_take,if_pos (by simp;omega),List.getElem?_drop];congr 1;simp;omega
          ·rw [List.getElem?_take,if_neg h3,List.getElem?_eq_none];simp;omega
       rw [E];exact splice_VA (off:=p) k3 a
    ·cases hs
   ·cases hs
  ·cases hs
 ·cases hs

theorem fieldAddr_sound {s:TypeId} {f off:Nat} {u:TypeId} {i:TypeInfo} (k:vH P s f=some (off,u)) (hi:P.info? u=some i) (z:i.size ≠ 0) {p v:AV} {pv:Value} (j:V g p pv)
  (d:wB off p=some v):∃x,(Instr.fieldAt s pv f).run P w=.ok x w/\V g v x:=by
 unfold vH at k;split at k
 ·rename_i fs hs;rcases hff:fs[f]? with _ | D
  ·simp [hff] at k
  ·simp [hff] at k;obtain ⟨rfl,rfl⟩:=k;have a:∀b o,(Instr.fieldAt s (.pointer (some ⟨b,o,none⟩)) f).run P w=.ok (.pointer (some ⟨b,o+D.offset,none⟩)) w:=λb o=>by
    simp [Instr.fieldAt,Instr.sureAddr,zP hs,hff,fieldPlace,yV hi,z,xb]
   unfold wB at d;split at d
   ·cases d;simp only [V] at j;obtain ⟨c,E,rfl⟩:=j;exact ⟨_,a _ _,by simp only [V];exact ⟨c,E,rfl⟩⟩
   ·cases d;simp only [V] at j;obtain ⟨b,o,rfl,l⟩:=j;exact ⟨_,a _ _,by simp only [V];exact ⟨b,_,rfl,VC.drop _ l⟩⟩
   ·cases d;simp only [V] at j;obtain ⟨b,q,rfl,t,C,y,m,n⟩:=j;exact ⟨_,a _ _,by
     simp only [V];exact ⟨b,_,rfl,t,C,y,m,λe=>by
      obtain ⟨o,r,rfl,A⟩:=n e;exact ⟨o,r,by omega,A⟩⟩⟩
   ·cases d
 ·cases k

theorem part_sound {t:TypeId} {d:TypeDesc} {i:TypeInfo} (hd:P.underlying t=some d) (hi:P.info? t=some i) {off:Nat} {x v:AV} {e:Value} (f:V g x e)
  (a:aPart (zK d) off i.size x=some v):∃cs u,e=.agg cs/\(part t cs off).run P w=.ok u w/\V g v u:=by
 unfold aPart at a;split at a
 ·rename_i cs;simp only [V] at f;obtain ⟨vs,rfl,b⟩:=f;refine ⟨vs,?_⟩;cases hag:zK d with
  | true =>
   simp only [hag,if_true,Option.some.injEq] at a;subst a;refine ⟨.agg (vs.extract off (off+i.size)),rfl,by simp [part,vu hd,hag,yV hi],?_⟩;simp only [V];refine ⟨_,rfl,?_⟩;have:=VA.take i.size (VA.drop off b);rw [Array.toList_extract,List.extract_eq_take_drop];rw [show off+i.size - off=i.size by omega];exact this
  | false =>
   simp only [hag,Bool.false_eq_true,if_false] at a;obtain ⟨u,k,j⟩:=b.toVL.get _ _ a;have c:vs[off]?=some u:=by rw [<- Array.getElem?_toList];exact k
   exact ⟨u,rfl,by simp [part,vu hd,hag,c],j⟩
 ·cases a

theorem field_sound {s:TypeId} {f off:Nat} {u:TypeId} {d:TypeDesc} {i:TypeInfo} (a:vH P s f=some (off,u)) (hd:P.underlying u=some d) (hi:P.info? u=some i) {x v:AV} {c:Value} (k:V g x c)
  (e:aPart (zK d) off i.size x=some v):∃y,(Instr.field s c f).run P w=.ok y w/\V g v y:=by
 unfold vH at a;split at a
 ·rename_i fs hs;rcases hff:fs[f]? with _ | l
  ·simp [hff] at a
  ·simp [hff] at a;obtain ⟨rfl,rfl⟩:=a;obtain ⟨cs,y,rfl,b,j⟩:=part_sound (w:=w) hd hi k e;exact ⟨y,by simp [Instr.field,zP hs,hff,asAgg,b],j⟩
 ·cases a

theorem indexAddr_slice_sound {t e:TypeId} {i:TypeInfo} (F:P.underlying t=some (.slice e)) (hi:P.info? e=some i) {x n v:AV} {N O:Value} (l:V g x N) (r:V g n O)
  (f:wA i.size x n=some v):∃y,(Instr.indexAt t N O).run P w=.ok y w/\V g v y:=by
 have u:∀(k:Nat) (es:List (List AV)) (s:IntKind) (z:Int) (a:Option Addr) (c:Nat),k=i.size->0<=z->(es[z.toNat]?).map AV.fptr=some v->(es=[] \/ ∃b o,a=some ⟨b,o,none⟩/\VE g b k o es) ->
   ∃y,(Instr.indexAt t (.slice a es.length c) (.int s z)).run P w=.ok y w/\V g v y:=by
  intro k es s z a c U R J I;rcases he:es[z.toNat]? with _ | e
  ·simp [he] at J
  ·simp only [he,Option.map_some,Option.some.injEq] at J;subst J;rcases I with rfl | ⟨b,o,rfl,K⟩
   ·simp at he
   ·obtain ⟨G,E⟩:=K.get _ _ he;have T:z.toNat < es.length:=(List.getElem?_eq_some_iff.1 he).1;have H:z < (es.length:Int):=by omega
    refine ⟨.pointer (some ⟨b,o+z.toNat * i.size,none⟩),?_,?_⟩
    ·simp [Instr.indexAt,asIntOf,zP F,R,H,yV hi,xb]
    ·simp only [V];subst U;exact ⟨b,_,rfl,E⟩
 unfold wA at f;split at f
 ·rename_i k es s z;split at f
  ·rename_i j;simp only [V] at l r;obtain ⟨a,c,rfl,G,E,A⟩:=l;subst r;exact u k es s z a c j.1 j.2 f A
  ·cases f
 ·rename_i q k es s z;split at f
  ·rename_i j;simp only [V] at l r;obtain ⟨a,c,rfl,G,E,A,W⟩:=l;subst r;exact u k es s z a c j.1 j.2 f A
  ·cases f
 ·rename_i k id off len s z;split at f
  ·rename_i j;cases f;simp only [V] at l r;obtain ⟨c,cap,L,rfl,E,A⟩:=l;subst r;refine ⟨.pointer (some ⟨c,off+z.toNat * i.size,none⟩),?_,by simp only [V];exact ⟨c,L,rfl⟩⟩;simp [Instr.indexAt,asIntOf,zP F,j.2.1,j.2.2,yV hi,xb]
  ·cases f
 ·rename_i id q k m s z;split at f
  ·rename_i j;cases f;simp only [V] at l r;obtain ⟨a,c,rfl,G,E,t,C,M,D,d⟩:=l;subst r;rcases d with ⟨h0,_⟩ | ⟨b,o,rfl,d⟩
   ·omega
   ·refine ⟨.pointer (some ⟨b,o+z.toNat * i.size,none⟩),?_,by simp only [V];exact ⟨b,_,rfl,t,C,M,D,λe=>⟨o,_,rfl,by rw [j.1] at d;exact d e⟩⟩⟩;simp [Instr.indexAt,asIntOf,zP F,j.2.1,j.2.2,yV hi,xb]
  ·cases f
 ·rename_i id q k m p s z;split at f
  ·rename_i j;cases f;simp only [V] at l r;obtain ⟨a,c,rfl,G,t,C,d⟩:=l;subst r;rcases d with h0 | ⟨b,o,rfl,M,D,d⟩
   ·omega
   ·refine ⟨.pointer (some ⟨b,o+z.toNat * i.size,none⟩),?_,by simp only [V];exact ⟨b,_,rfl,t,C,M,D,λe=>by obtain ⟨S,Q,E,A⟩:=d e;exact ⟨S,Q,by rw [E,j.1,Nat.add_mul,Nat.add_assoc],by rw [j.1] at A;exact A⟩⟩⟩;simp [Instr.indexAt,asIntOf,zP F,j.2.1,j.2.2,yV hi,xb]
  ·cases f
 ·cases f

theorem indexAddr_array_sound {t e:TypeId} {len:Nat} {i:TypeInfo} (s:P.underlying t=some (.array len e)) (hi:P.info? e=some i) {x n v:AV} {q r:Value} (j:V g x q) (k:V g n r)
  (a:aIndexArr len i.size x n=some v):∃y,(Instr.indexAt t q r).run P w=.ok y w/\V g v y:=by
 have d:∀(b o:Nat) (p:IntKind) (z:Int),0<=z->z < len->(Instr.indexAt t (.pointer (some ⟨b,o,none⟩)) (.int p z)).run P w=.ok (.pointer (some ⟨b,o+z.toNat * i.size,none⟩)) w:=by
  intro b o p z h0 u;simp [Instr.indexAt,Instr.sureAddr,asIntOf,zP s,h0,u,yV hi,xb]
 unfold aIndexArr at a;split at a
 ·split at a
  ·rename_i f;cases a;simp only [V] at j k;obtain ⟨c,m,rfl⟩:=j;subst k;exact ⟨_,d _ _ _ _ f.1 f.2,by simp only [V];exact ⟨c,m,rfl⟩⟩
  ·cases a
 ·split at a
  ·rename_i f;cases a;simp only [V] at j k;obtain ⟨b,o,rfl,l⟩:=j;subst k;exact ⟨_,d _ _ _ _ f.1 f.2,by simp only [V];exact ⟨b,_,rfl,VC.drop _ l⟩⟩
  ·cases a
 ·cases a

theorem index_str_sound {t:TypeId} (m:P.underlying t=some .string) {x n v:AV} {d i:Value} (e:V g x d) (f:V g n i)
  (a:aIndexStr x n=some v):∃y,(Instr.index t d i).run P w=.ok y w/\V g v y:=by
 unfold aIndexStr at a;split at a
 ·rename_i s o z;split at a
  ·rename_i k;rcases hs:s[z.toNat]? with _ | b
   ·simp [hs] at a
   ·simp only [hs,Option.map_some,Option.some.injEq] at a;subst a;simp only [V] at e f;obtain ⟨rfl,_⟩:=e;subst f;refine ⟨.int .u8 b.toNat,?_,by simp only [V]⟩;obtain ⟨c,l⟩:=List.getElem?_eq_some_iff.1 hs;have j:(⟨s.toArray⟩:ByteArray)[z.toNat]?=some b:=by
     rw [getElem?_pos _ _ (by simpa [ByteArray.size] using c)];exact congrArg some l
    simp [Instr.index,asIntOf,zP m,k,j]
  ·cases a
 ·cases a

theorem index_agg_sound {t e:TypeId} {len:Nat} {d:TypeDesc} {i:TypeInfo} (o:P.underlying t=some (.array len e)) (hd:P.underlying e=some d) (hi:P.info? e=some i) {x n v:AV} {c j:Value} (m:V g x c) (f:V g n j)
  (a:aIndexAgg (zK d) len i.size x n=some v):∃y,(Instr.index t c j).run P w=.ok y w/\V g v y:=by
 unfold aIndexAgg at a;split at a
 ·rename_i p z;split at a
  ·rename_i k;simp only [V] at f;subst f;obtain ⟨cs,y,rfl,b,l⟩:=part_sound (w:=w) hd hi m a;exact ⟨y,by simp [Instr.index,asIntOf,zP o,k.1,k.2,yV hi,b],l⟩
  ·cases a
 ·cases a
end
end Go.Vv
