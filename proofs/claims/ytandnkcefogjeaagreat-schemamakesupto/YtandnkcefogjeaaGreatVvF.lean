/- Each operation of the model, on values that stand to abstract ones, comes to what the abstract operation says: loads, stores, addresses, parts. -/
import Derived.Test.YtandnkcefogjeaaGreatVvE
namespace Go.Vv
open Go Go.RowKit

theorem x4 (b o i:Nat):(⟨b,o,none⟩:Addr).add i=⟨b,o+i,none⟩:=by unfold Addr.add;split <;> simp_all

section
variable {P:Program} {w:World} {g:Gh} {h:AH} {B:Nat} {w0:World}

theorem yi {t:TypeId} {d:TypeDesc} (h:P.underlying t=some d):(underlying t).run P w=.ok d w:=run_underlying h w
theorem run_ti {t:TypeId} {i:TypeInfo} (h:P.info? t=some i):(typeInfo t).run P w=.ok i w:=by simp [typeInfo,h]
theorem xP {t:TypeId} {i:TypeInfo} (h:P.info? t=some i):(sizeOf t).run P w=.ok i.size w:=by simp [sizeOf,run_ti h]
theorem run_agg {t:TypeId} {d:TypeDesc} (h:P.underlying t=some d):(isAgg t).run P w=.ok (z7 d) w:=by
 simp only [isAgg,Sem.run_bind,yi h,Result.andThen_ok];cases d <;> rfl
theorem run_zero {t:TypeId} {i:TypeInfo} {z:Value} (h:P.info? t=some i) (a:i.zero=some z):(zeroValue t).run P w=.ok z w:=by
 simp [zeroValue,run_ti h,a]

theorem loadCells_at (b o:Nat) (us:List Value) (h:∀j u,us[j]?=some u->w.cell? ⟨b,o+j,none⟩=some u):(loadCells ⟨b,o,none⟩ us.length).run P w=.ok us.toArray w :=
 run_loadCells_list w ⟨b,o,none⟩ us λj u a=>by rw [x4];exact h j u a

theorem V.ofUndef:V g aundef undef:=by simp only [aundef,V];exact ⟨#[],rfl,by simp [VL]⟩

theorem V.cv1 {v:Value} (h:okc1 v=true):V g (cv1 v) v:=by
 unfold okc1 at h;split at h <;> simp only [Vv.cv1,V] <;> first | trivial | skip
 ·rename_i s;simp at h;exact ⟨trivial,by simpa using h⟩
theorem cv1_one {v:Value} (h:okc1 v=true):(Vv.cv1 v).one=true:=by
 unfold okc1 at h;split at h <;> first | rfl | cases h
theorem VA.cvs:∀{vs:List Value},vs.all okc1=true->VA g (vs.map Vv.cv1) vs
 | [],_=>by simp only [List.map_nil,VA]
 | v::r,h=>by
  simp only [List.all_cons,Bool.and_eq_true] at h;simp only [List.map_cons,VA];exact ⟨v,r,rfl,⟨cv1_one h.1,V.cv1 h.1⟩,VA.cvs h.2⟩
theorem V.cv {v:Value} (h:okc v=true):V g (cv v) v:=by
 unfold okc at h;split at h
 ·rename_i cs;simp only [Vv.cv,V];exact ⟨cs,rfl,VA.cvs h⟩
 ·rename_i vs;have:vs=#[]:=by simpa using h
  subst this;exact V.ofUndef
 ·rename_i a b;cases v <;> first | exact V.cv1 h | exact absurd rfl (a _) | exact absurd rfl (b _)

theorem V.cells1 {a:AV} {v:Value} (h0:a.one=true) (b:V g a v):v.cells.toList=[v]:=by
 cases a <;> simp only [V] at b <;> first
  | (subst b;rfl)
  | (obtain ⟨rfl,_⟩:=b;rfl)
  | (obtain ⟨_,_,rfl⟩:=b;rfl)
  | (obtain ⟨_,_,rfl,_⟩:=b;rfl)
  | (obtain ⟨_,_,_,rfl,_⟩:=b;rfl)
  | (obtain ⟨_,rfl,_⟩:=b;rfl)
  | (simp [AV.one] at h0;done)
  | (cases v <;> first | rfl | cases b)
theorem cells?_cases {a:AV} {cs:List AV} (b:a.cells?=some cs):(a=.agg cs) \/ (a.one=true/\cs=[a]):=by
 cases a <;> simp only [AV.cells?,Option.some.injEq,reduceCtorEq] at b <;> first
  | (subst b;exact .inl rfl)
  | (subst b;exact .inr ⟨rfl,rfl⟩)
theorem V.cells {a:AV} {v:Value} {cs:List AV} (h:V g a v) (c:a.cells?=some cs):VA g cs v.cells.toList:=by
 rcases cells?_cases c with rfl | ⟨h0,rfl⟩
 ·simp only [V] at h;obtain ⟨vs,rfl,b⟩:=h;exact b
 ·rw [V.cells1 h0 h];simp only [VA];exact ⟨v,[],rfl,⟨h0,h⟩,rfl⟩

theorem V.tyfix {t:TypeId} {a:AV} {v:Value} (h:V g a v):V g (tyfix P t a) v:=by
 unfold Vv.tyfix;split
 ·split
  ·simp only [V] at h ⊢;exact ⟨none,0,by rw [h];rfl,Nat.le_refl _,by simp [maxLen],.inl trivial,rfl⟩
  ·exact h
 ·exact h

theorem V.ev {env:List AV} {a:Act} (b:VL g env a.tmps.toList) {x:Operand} (i:yg x=true):V g (ev env x) (a.eval x):=by
 cases x with
 | tmp t =>
  simp only [Vv.ev,Act.eval];rcases ht:env[t]? with _ | j
  ·have k:env.length<=t:=by simpa using ht
   have d:a.tmps.getD t undef=undef:=by
    have:=b.length;simp only [Array.length_toList] at this;rw [Array.getD_eq_getD_getElem?,Array.getElem?_eq_none (by omega)];rfl
   rw [d,List.getD_eq_getElem?_getD,ht];exact V.ofUndef
  ·obtain ⟨v,c,e⟩:=b.get t j ht;rw [List.getD_eq_getElem?_getD,ht,Array.getD_eq_getD_getElem?,<- Array.getElem?_toList,c];exact e
 | const v=>exact V.cv i
 | global n=>simp only [Vv.ev,Act.eval,V]
 | func f=>simp only [Vv.ev,Act.eval,V,VL];exact ⟨#[],#[],rfl,rfl,rfl⟩

theorem clean_sound:∀{f bs:List AV} {vs:List Value},VA g f vs->xI f=some bs->VA g bs vs
 | [],bs,vs,h,hc=>by simp only [xI,Option.some.injEq] at hc;subst hc;exact h
 | a::r,bs,vs,h,hc=>by
  simp only [xI] at hc;split at hc
  ·rename_i a' n b k;cases hc;simp only [VA] at h ⊢;obtain ⟨v,s,rfl,⟨h0,d⟩,l⟩:=h;refine ⟨v,s,rfl,?_,clean_sound l k⟩;unfold aClean at b;split at b
   ·cases b;refine ⟨rfl,?_⟩;simp only [V] at d ⊢;obtain ⟨x,c,e,i,m,j,_⟩:=d;exact ⟨x,c,e,i,m,j⟩
   ·cases b
   ·split at b
    ·cases b;exact ⟨h0,d⟩
    ·cases b
  ·cases hc
theorem clean_pure:∀{c bs:List AV},xI c=some bs->bs.all AV.pure=true
 | [],bs,h=>by simp only [xI,Option.some.injEq] at h;subst h;rfl
 | a::r,bs,h=>by
  simp only [xI] at h;split at h
  ·rename_i a' i b d;cases h;have e:a'.pure=true:=by
    unfold aClean at b;split at b
    ·cases b;rfl
    ·cases b
    ·split at b
     ·rename_i f;cases b;exact f
     ·cases b
   simp [e,clean_pure d]
  ·cases h
theorem rows_flat {k:Nat}:∀(n:Nat) (cs:List AV),cs.length=n * k->(rows k n cs).flatten=cs/\(rows k n cs).length=n/\∀e ∈ rows k n cs,e.length=k
 | 0,cs,h=>by simp at h;subst h;simp [rows]
 | n+1,cs,h=>by
  rw [Nat.succ_mul] at h;obtain ⟨b,c,d⟩:=rows_flat (k:=k) n (cs.drop k) (by simp;omega);refine ⟨by simp [rows,b],by simp [rows,c],λe a=>?_⟩;simp only [rows,List.mem_cons] at a;rcases a with rfl | a
  ·simp;omega
  ·exact d e a
theorem clean_len:∀{b bs:List AV},xI b=some bs->bs.length=b.length
 | [],bs,h=>by simp only [xI,Option.some.injEq] at h;rw [<- h]
 | a::r,bs,h=>by
  simp only [xI] at h;split at h
  ·rename_i a' d _ c;cases h;simp [clean_len c]
  ·cases h

theorem load_sound (r:Rel B w0 g h w) {t:TypeId} {d:TypeDesc} {i:TypeInfo} (hd:P.underlying t=some d) (hi:P.info? t=some i) {p v:AV} {pv:Value} (z:V g p pv)
  (a:aLoad h (z7 d) i.size p=some v):∃u,(Instr.loadAt t pv).run P w=.ok u w/\V g v u:=by
 have f:∀(b o:Nat) (cs:List AV) (us:List Value),VA g cs us->(∀j u,us[j]?=some u->w.cell? ⟨b,o+j,none⟩=some u) ->
   (if z7 d then (if i.size<=cs.length then some (AV.agg (cs.take i.size)) else none) else cs[0]?)=some v ->
   ∃u,(Instr.loadAt t (.pointer (some ⟨b,o,none⟩))).run P w=.ok u w/\V g v u:=by
  intro b o cs us I A a;cases ha:z7 d with
  | true =>
   simp only [ha,if_true] at a;split at a
   ·rename_i n;cases a;have l:(us.take i.size).length=i.size:=by rw [List.length_take,<- I.length];omega
    have C:=loadCells_at (P:=P) (w:=w) b o (us.take i.size) λj u e=>by
     rw [List.getElem?_take] at e;split at e
     ·exact A j u e
     ·cases e
    rw [l] at C;refine ⟨.agg (us.take i.size).toArray,?_,?_⟩
    ·simp [Instr.loadAt,Instr.sureAddr,loadVar,run_agg hd,ha,xP hi,C]
    ·simp only [V];exact ⟨_,rfl,VA.take _ I⟩
   ·cases a
  | false =>
   simp only [ha,Bool.false_eq_true,if_false] at a;obtain ⟨u,e,Y⟩:=I.toVL.get 0 v a;refine ⟨u,?_,Y⟩;have:=A 0 u e;rw [Nat.add_zero] at this;simp [Instr.loadAt,Instr.sureAddr,loadVar,run_agg hd,ha,run_load,this]
 unfold aLoad at a;split at a
 ·rename_i id off;simp only [V] at z;obtain ⟨c,A,rfl⟩:=z;split at a
  ·rename_i cs L;obtain ⟨h1,h2,⟨vs,ty,y,x⟩,h4⟩:=r.blk id c _ A L;refine f c off (cs.drop off) (vs.toList.drop off) (VA.drop off x) (λj u e=>?_) ?_
   ·rw [List.getElem?_drop] at e;rw [cell_of_row w c (off+j) vs ty (0,0) y,<- Array.getElem?_toList];exact e
   ·rw [List.getElem?_drop];cases ha:z7 d with
    | true =>
     simp only [ha,if_true] at a ⊢;split at a
     ·rename_i n;rw [if_pos (by rw [List.length_drop];omega)];exact a
     ·cases a
    | false=>simpa [ha] using a
  ·cases a
 ·rename_i cs;simp only [V] at z;obtain ⟨b,o,rfl,M⟩:=z;obtain ⟨us,x,_,K⟩:=M.toVA;exact f b o cs us x (λj u e=>r.phi _ _ _ (K j u e)) a
 ·rename_i id q k m p;simp only [V] at z;obtain ⟨b,o,rfl,Q,D,X,n,O⟩:=z;split at a
  ·rename_i q' k' es L;split at a
   ·rename_i A;obtain ⟨rfl,rfl,rfl⟩:=A;obtain ⟨_,U,J,htr,N,l,R,G⟩:=r.rowAt L;obtain rfl:U=Q:=by rw [J] at D;injection D
    obtain ⟨H,e',rfl,F⟩:=O N.symm;have E:(if z7 d then (if i.size<=(es.flatten.drop p).length then some (AV.agg ((es.flatten.drop p).take i.size)) else none) else (es.flatten.drop p)[0]?)=some v:=by
     rw [List.getElem?_drop];cases ha:z7 d with
     | true =>
      simp only [ha,if_true] at a ⊢;split at a
      ·rename_i n;rw [if_pos (by rw [List.length_drop];omega)];exact a
      ·cases a
     | false=>simpa [ha] using a
    rcases G with rfl | ⟨b2,S,e2,cs,ty2,s,Z,W,k4,k5⟩
    ·exact f b (H+p) _ [] (by simp [VA]) (λj u e=>by simp at e) E
    ·rw [F] at s;injection s with s;injection s with T s;injection s with s _;obtain rfl:H=S:=by omega
     subst T;refine f b (H+p) _ _ (VA.drop p W) (λj u e=>?_) E;rw [List.getElem?_drop,List.getElem?_take] at e;split at e
     ·rw [List.getElem?_drop,Array.getElem?_toList] at e;rw [cell_of_row w b (H+p+j) cs ty2 (0,0) Z,<- e];congr 1;omega
     ·cases e
   ·cases a
  ·cases a
 ·cases a

theorem splice_VA {cs vs:List AV} {us xs:List Value} {off:Nat} (h:VA g cs us) (k:VA g vs xs):VA g (yG cs off vs) (us.take off++xs++us.drop (off+xs.length)):=by
 unfold yG;rw [k.length];exact ((VA.take off h).append k).append (VA.drop _ h)

theorem store_sound (r:Rel B w0 g h w) {t:TypeId} {i:TypeInfo} (hi:P.info? t=some i) {p v:AV} {pv u:Value} (Q:V g p pv) (hv:V g v u) {h':AH}
  (hs:aStore h i.size p v=some h'):∃w',(Instr.storeAt t pv u).run P w=.ok () w'/\Rel B w0 g h' w':=by
 unfold aStore at hs;split at hs
 ·rename_i id off vs E;split at hs
  ·rename_i cs C;split at hs
   ·rename_i n;cases hs;simp only [V] at Q;obtain ⟨c,hc,rfl⟩:=Q;obtain ⟨h1,h2,⟨xs,ty,f,K⟩,h4⟩:=r.blk id c _ hc C;have a:=hv.cells E;have s:u.cells.size=i.size:=by rw [<- n.1,a.length];rfl
    have hxl:cs.length=xs.size:=by rw [K.length];rfl
    have d:=run_storeCells_at P c off ty u.cells.toList 0 xs w f (by simp only [Array.length_toList];omega) a.one';simp only [Nat.add_zero] at d;refine ⟨w.setRow c (xs.toList.take off++u.cells.toList++xs.toList.drop (off+u.cells.toList.length)).toArray,?_,r.putObj hc C (by simp) (setRow_os _ _ _) (setRow_tape _ _ _) (setRow_output _ _ _) (setRow_size _ _ _) (λb R=>setRow_other w c b _ R)
     ⟨_,ty,setRow_heap w c xs _ ty (0,0) f,?_⟩⟩
    ·simp [Instr.storeAt,Instr.sureAddr,storeVar,xP hi,s,d]
    ·have:=splice_VA (off:=off) K a;simpa using this
   ·cases hs
  ·cases hs
 ·rename_i id q k m p vs E;split at hs
  ·rename_i q' k' es C;split at hs
   ·rename_i n;obtain ⟨rfl,rfl,rfl,U,H⟩:=n;split at hs
    ·rename_i x l;cases hs;simp only [V] at Q;obtain ⟨b,o,rfl,t2,F,hrd,n,S⟩:=Q;obtain ⟨_,ti,N,htr,Y,M,I,G⟩:=r.rowAt C;obtain rfl:ti=t2:=by rw [N] at F;injection F
     obtain ⟨y,e',rfl,z⟩:=S Y.symm;have W:es.flatten.length=es.length * k':=yJ M;have a:=clean_sound (hv.cells E) l;have J:x.length=i.size:=by rw [clean_len l,U]
     have s:u.cells.size=i.size:=by rw [<- J,a.length];rfl
     by_cases hes:es=[]
     ·subst hes;have hz:i.size=0:=by simp at H;omega
      have O:u.cells=#[]:=Array.eq_empty_of_size_eq_zero (by omega);refine ⟨w,by simp [Instr.storeAt,Instr.sureAddr,storeVar,xP hi,hz,O,storeCells],?_⟩;have:rows k' ([]:List (List AV)).length (yG ([]:List (List AV)).flatten p x)=[]:=rfl;rw [this];have e:h.put id (.row q' k' [])=h:=by
       cases h with
       | mk B T =>
        simp only [AH.put,AH.mk.injEq,and_true];refine List.ext_getElem? λj=>?_;by_cases X:j=id
        ·subst X;rw [List.getElem?_set_self (List.getElem?_eq_some_iff.1 C).1];exact C.symm
        ·rw [List.getElem?_set_ne (λe=>X e.symm)]
      rw [e];exact r
     ·obtain ⟨b2,o2,e2,cs,ty2,A,k2,k3,k4,k5⟩:=G.resolve_left hes;rw [z] at A;injection A with A;injection A with e1 A;injection A with A _;obtain rfl:y=o2:=by omega
      subst e1;have d:=run_storeCells_at P b (y+p) ty2 u.cells.toList 0 cs w k2 (by simp only [Array.length_toList];omega) a.one';simp only [Nat.add_zero] at d;generalize hnew:(cs.toList.take (y+p)++u.cells.toList++cs.toList.drop (y+p+u.cells.toList.length)).toArray=new at d;have hul:u.cells.toList.length=i.size:=by simp [s]
      have L:(yG es.flatten p x).length=es.length * k':=by unfold yG;rw [List.length_append,List.length_append,List.length_take,List.length_drop,W];omega
      obtain ⟨Z,f2,f3⟩:=rows_flat (k:=k') es.length (yG es.flatten p x) L;refine ⟨w.setRow b new,?_,r.storeRow (e:=e') (cur:=cs) (ty:=ty2) (o:=y) C N z k2 (by rw [<- hnew];simp;omega) (λj X=>?_) f2 f3 ?_ ?_ hes⟩
      ·simp [Instr.storeAt,Instr.sureAddr,storeVar,xP hi,s,d]
      ·rw [<- hnew,List.getElem?_toArray,List.append_assoc,List.getElem?_append_left (by simp;omega),List.getElem?_take,if_pos (by omega),Array.getElem?_toList]
      ·rw [Z];unfold yG;simp only [List.all_append,Bool.and_eq_true];exact ⟨⟨all_take _ I,clean_pure l⟩,all_drop _ I⟩
      ·rw [Z];have D:(new.toList.drop y).take (es.length * k')=((cs.toList.drop y).take (es.length * k')).take p++u.cells.toList++((cs.toList.drop y).take (es.length * k')).drop (p+u.cells.toList.length):=by
        rw [<- hnew];apply List.ext_getElem?;intro j;have l:cs.toList.length=cs.size:=by simp
        by_cases h1:j < p
        ·rw [List.getElem?_take,if_pos (by omega),List.getElem?_drop,List.append_assoc,List.getElem?_append_left (by simp;omega),List.getElem?_take,if_pos (by omega)];rw [List.append_assoc,List.getElem?_append_left (by simp;omega),List.getElem?_take,if_pos h1,List.getElem?_take,if_pos (by omega),List.getElem?_drop]
        ·by_cases h2:j < p+i.size
         ·rw [List.getElem?_take,if_pos (by omega),List.getElem?_drop,List.append_assoc,List.getElem?_append_right (by simp;omega),List.getElem?_append_left (by simp;omega)];rw [List.append_assoc,List.getElem?_append_right (by simp;omega),List.getElem?_append_left (by simp;omega)];congr 1;simp;omega
         ·by_cases h3:j < es.length * k'
          ·rw [List.getElem?_take,if_pos h3,List.getElem?_drop,List.getElem?_append_right (by simp;omega),List.getElem?_drop];rw [List.getElem?_append_right (by simp;omega),List.getElem?_drop,List.getElem?_take,if_pos (by simp;omega),List.getElem?_drop];congr 1;simp;omega
          ·rw [List.getElem?_take,if_neg h3,List.getElem?_eq_none];simp;omega
       rw [D];exact splice_VA (off:=p) k3 a
    ·cases hs
   ·cases hs
  ·cases hs
 ·cases hs

theorem fieldAddr_sound {s:TypeId} {f off:Nat} {u:TypeId} {i:TypeInfo} (d:fieldOff P s f=some (off,u)) (hi:P.info? u=some i) (y:i.size ≠ 0) {p v:AV} {pv:Value} (k:V g p pv)
  (j:qi off p=some v):∃x,(Instr.fieldAt s pv f).run P w=.ok x w/\V g v x:=by
 unfold fieldOff at d;split at d
 ·rename_i fs hs;rcases hff:fs[f]? with _ | r
  ·simp [hff] at d
  ·simp [hff] at d;obtain ⟨rfl,rfl⟩:=d;have a:∀b o,(Instr.fieldAt s (.pointer (some ⟨b,o,none⟩)) f).run P w=.ok (.pointer (some ⟨b,o+r.offset,none⟩)) w:=λb o=>by
    simp [Instr.fieldAt,Instr.sureAddr,yi hs,hff,fieldPlace,xP hi,y,x4]
   unfold qi at j;split at j
   ·cases j;simp only [V] at k;obtain ⟨c,E,rfl⟩:=k;exact ⟨_,a _ _,by simp only [V];exact ⟨c,E,rfl⟩⟩
   ·cases j;simp only [V] at k;obtain ⟨b,o,rfl,m⟩:=k;exact ⟨_,a _ _,by simp only [V];exact ⟨b,_,rfl,VC.drop _ m⟩⟩
   ·cases j;simp only [V] at k;obtain ⟨b,q,rfl,t,A,C,l,n⟩:=k;exact ⟨_,a _ _,by
     simp only [V];exact ⟨b,_,rfl,t,A,C,l,λe=>by
      obtain ⟨o,z,rfl,D⟩:=n e;exact ⟨o,z,by omega,D⟩⟩⟩
   ·cases j
 ·cases d

theorem part_sound {t:TypeId} {d:TypeDesc} {i:TypeInfo} (hd:P.underlying t=some d) (hi:P.info? t=some i) {off:Nat} {x v:AV} {f:Value} (e:V g x f)
  (a:aPart (z7 d) off i.size x=some v):∃cs u,f=.agg cs/\(part t cs off).run P w=.ok u w/\V g v u:=by
 unfold aPart at a;split at a
 ·rename_i cs;simp only [V] at e;obtain ⟨vs,rfl,b⟩:=e;refine ⟨vs,?_⟩;cases hag:z7 d with
  | true =>
   simp only [hag,if_true,Option.some.injEq] at a;subst a;refine ⟨.agg (vs.extract off (off+i.size)),rfl,by simp [part,run_agg hd,hag,xP hi],?_⟩;simp only [V];refine ⟨_,rfl,?_⟩;have:=VA.take i.size (VA.drop off b);rw [Array.toList_extract,List.extract_eq_take_drop];rw [show off+i.size - off=i.size by omega];exact this
  | false =>
   simp only [hag,Bool.false_eq_true,if_false] at a;obtain ⟨u,j,k⟩:=b.toVL.get _ _ a;have c:vs[off]?=some u:=by rw [<- Array.getElem?_toList];exact j
   exact ⟨u,rfl,by simp [part,run_agg hd,hag,c],k⟩
 ·cases a

theorem field_sound {s:TypeId} {f off:Nat} {u:TypeId} {d:TypeDesc} {i:TypeInfo} (a:fieldOff P s f=some (off,u)) (hd:P.underlying u=some d) (hi:P.info? u=some i) {x v:AV} {c:Value} (e:V g x c)
  (j:aPart (z7 d) off i.size x=some v):∃y,(Instr.field s c f).run P w=.ok y w/\V g v y:=by
 unfold fieldOff at a;split at a
 ·rename_i fs hs;rcases hff:fs[f]? with _ | l
  ·simp [hff] at a
  ·simp [hff] at a;obtain ⟨rfl,rfl⟩:=a;obtain ⟨cs,y,rfl,b,k⟩:=part_sound (w:=w) hd hi e j;exact ⟨y,by simp [Instr.field,yi hs,hff,asAgg,b],k⟩
 ·cases a

theorem indexAddr_slice_sound {t e:TypeId} {i:TypeInfo} (G:P.underlying t=some (.slice e)) (hi:P.info? e=some i) {x n v:AV} {O N:Value} (l:V g x O) (r:V g n N)
  (f:qh i.size x n=some v):∃y,(Instr.indexAt t O N).run P w=.ok y w/\V g v y:=by
 have u:∀(k:Nat) (es:List (List AV)) (s:IntKind) (z:Int) (a:Option Addr) (c:Nat),k=i.size->0<=z->(es[z.toNat]?).map AV.fptr=some v->(es=[] \/ ∃b o,a=some ⟨b,o,none⟩/\VE g b k o es) ->
   ∃y,(Instr.indexAt t (.slice a es.length c) (.int s z)).run P w=.ok y w/\V g v y:=by
  intro k es s z a c R S I K;rcases he:es[z.toNat]? with _ | e
  ·simp [he] at I
  ·simp only [he,Option.map_some,Option.some.injEq] at I;subst I;rcases K with rfl | ⟨b,o,rfl,J⟩
   ·simp at he
   ·obtain ⟨F,E⟩:=J.get _ _ he;have Q:z.toNat < es.length:=(List.getElem?_eq_some_iff.1 he).1;have H:z < (es.length:Int):=by omega
    refine ⟨.pointer (some ⟨b,o+z.toNat * i.size,none⟩),?_,?_⟩
    ·simp [Instr.indexAt,asIntOf,yi G,S,H,xP hi,x4]
    ·simp only [V];subst R;exact ⟨b,_,rfl,E⟩
 unfold qh at f;split at f
 ·rename_i k es s z;split at f
  ·rename_i j;simp only [V] at l r;obtain ⟨a,c,rfl,F,E,C⟩:=l;subst r;exact u k es s z a c j.1 j.2 f C
  ·cases f
 ·rename_i q k es s z;split at f
  ·rename_i j;simp only [V] at l r;obtain ⟨a,c,rfl,F,E,C,W⟩:=l;subst r;exact u k es s z a c j.1 j.2 f C
  ·cases f
 ·rename_i k id off len s z;split at f
  ·rename_i j;cases f;simp only [V] at l r;obtain ⟨c,cap,M,rfl,E,C⟩:=l;subst r;refine ⟨.pointer (some ⟨c,off+z.toNat * i.size,none⟩),?_,by simp only [V];exact ⟨c,M,rfl⟩⟩;simp [Instr.indexAt,asIntOf,yi G,j.2.1,j.2.2,xP hi,x4]
  ·cases f
 ·rename_i id q k m s z;split at f
  ·rename_i j;cases f;simp only [V] at l r;obtain ⟨a,c,rfl,F,E,t,D,L,A,d⟩:=l;subst r;rcases d with ⟨h0,_⟩ | ⟨b,o,rfl,d⟩
   ·omega
   ·refine ⟨.pointer (some ⟨b,o+z.toNat * i.size,none⟩),?_,by simp only [V];exact ⟨b,_,rfl,t,D,L,A,λe=>⟨o,_,rfl,by rw [j.1] at d;exact d e⟩⟩⟩;simp [Instr.indexAt,asIntOf,yi G,j.2.1,j.2.2,xP hi,x4]
  ·cases f
 ·rename_i id q k m p s z;split at f
  ·rename_i j;cases f;simp only [V] at l r;obtain ⟨a,c,rfl,F,t,D,d⟩:=l;subst r;rcases d with h0 | ⟨b,o,rfl,L,A,d⟩
   ·omega
   ·refine ⟨.pointer (some ⟨b,o+z.toNat * i.size,none⟩),?_,by simp only [V];exact ⟨b,_,rfl,t,D,L,A,λe=>by obtain ⟨U,T,E,C⟩:=d e;exact ⟨U,T,by rw [E,j.1,Nat.add_mul,Nat.add_assoc],by rw [j.1] at C;exact C⟩⟩⟩;simp [Instr.indexAt,asIntOf,yi G,j.2.1,j.2.2,xP hi,x4]
  ·cases f
 ·cases f

theorem indexAddr_array_sound {t e:TypeId} {len:Nat} {i:TypeInfo} (u:P.underlying t=some (.array len e)) (hi:P.info? e=some i) {x n v:AV} {r p:Value} (j:V g x r) (k:V g n p)
  (a:aIndexArr len i.size x n=some v):∃y,(Instr.indexAt t r p).run P w=.ok y w/\V g v y:=by
 have d:∀(b o:Nat) (q:IntKind) (z:Int),0<=z->z < len->(Instr.indexAt t (.pointer (some ⟨b,o,none⟩)) (.int q z)).run P w=.ok (.pointer (some ⟨b,o+z.toNat * i.size,none⟩)) w:=by
  intro b o q z h0 s;simp [Instr.indexAt,Instr.sureAddr,asIntOf,yi u,h0,s,xP hi,x4]
 unfold aIndexArr at a;split at a
 ·split at a
  ·rename_i f;cases a;simp only [V] at j k;obtain ⟨c,m,rfl⟩:=j;subst k;exact ⟨_,d _ _ _ _ f.1 f.2,by simp only [V];exact ⟨c,m,rfl⟩⟩
  ·cases a
 ·split at a
  ·rename_i f;cases a;simp only [V] at j k;obtain ⟨b,o,rfl,l⟩:=j;subst k;exact ⟨_,d _ _ _ _ f.1 f.2,by simp only [V];exact ⟨b,_,rfl,VC.drop _ l⟩⟩
  ·cases a
 ·cases a

theorem index_str_sound {t:TypeId} (l:P.underlying t=some .string) {x n v:AV} {i e:Value} (d:V g x i) (f:V g n e)
  (a:aIndexStr x n=some v):∃y,(Instr.index t i e).run P w=.ok y w/\V g v y:=by
 unfold aIndexStr at a;split at a
 ·rename_i s o z;split at a
  ·rename_i k;rcases hs:s[z.toNat]? with _ | b
   ·simp [hs] at a
   ·simp only [hs,Option.map_some,Option.some.injEq] at a;subst a;simp only [V] at d f;obtain ⟨rfl,_⟩:=d;subst f;refine ⟨.int .u8 b.toNat,?_,by simp only [V]⟩;obtain ⟨c,m⟩:=List.getElem?_eq_some_iff.1 hs;have j:(⟨s.toArray⟩:ByteArray)[z.toNat]?=some b:=by
     rw [getElem?_pos _ _ (by simpa [ByteArray.size] using c)];exact congrArg some m
    simp [Instr.index,asIntOf,yi l,k,j]
  ·cases a
 ·cases a

theorem index_agg_sound {t e:TypeId} {len:Nat} {d:TypeDesc} {i:TypeInfo} (m:P.underlying t=some (.array len e)) (hd:P.underlying e=some d) (hi:P.info? e=some i) {x n v:AV} {j c:Value} (l:V g x j) (f:V g n c)
  (a:aIndexAgg (z7 d) len i.size x n=some v):∃y,(Instr.index t j c).run P w=.ok y w/\V g v y:=by
 unfold aIndexAgg at a;split at a
 ·rename_i p z;split at a
  ·rename_i k;simp only [V] at f;subst f;obtain ⟨cs,y,rfl,b,o⟩:=part_sound (w:=w) hd hi l a;exact ⟨y,by simp [Instr.index,asIntOf,yi m,k.1,k.2,xP hi,b],o⟩
  ·cases a
 ·cases a
end
end Go.Vv
