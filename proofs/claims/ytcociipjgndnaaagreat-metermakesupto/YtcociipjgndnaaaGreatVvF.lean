/- Each operation of the model, on values that stand to abstract ones, comes to what the abstract operation says: loads, stores, addresses, parts. -/
import Derived.Test.YtcociipjgndnaaaGreatVvE
namespace Go.Vv
open Go Go.RowKit

theorem we (b o i:Nat):(⟨b,o,none⟩:Addr).add i=⟨b,o+i,none⟩:=by unfold Addr.add;split <;> simp_all

section
variable {P:Program} {w:World} {g:Gh} {h:AH} {B:Nat} {w0:World}

theorem yC {t:TypeId} {d:TypeDesc} (h:P.underlying t=some d):(underlying t).run P w=.ok d w:=run_underlying h w
theorem run_ti {t:TypeId} {i:TypeInfo} (h:P.info? t=some i):(typeInfo t).run P w=.ok i w:=by simp [typeInfo,h]
theorem x6 {t:TypeId} {i:TypeInfo} (h:P.info? t=some i):(sizeOf t).run P w=.ok i.size w:=by simp [sizeOf,run_ti h]
theorem run_agg {t:TypeId} {d:TypeDesc} (h:P.underlying t=some d):(isAgg t).run P w=.ok (yh d) w:=by
 simp only [isAgg,Sem.run_bind,yC h,Result.andThen_ok];cases d <;> rfl
theorem run_zero {t:TypeId} {i:TypeInfo} {z:Value} (h:P.info? t=some i) (a:i.zero=some z):(zeroValue t).run P w=.ok z w:=by
 simp [zeroValue,run_ti h,a]

theorem loadCells_at (b o:Nat) (us:List Value) (h:∀j u,us[j]?=some u->w.cell? ⟨b,o+j,none⟩=some u):(loadCells ⟨b,o,none⟩ us.length).run P w=.ok us.toArray w :=
 run_loadCells_list w ⟨b,o,none⟩ us λj u a=>by rw [we];exact h j u a

theorem V.ofUndef:V g aundef undef:=by simp only [aundef,V];exact ⟨#[],rfl,by simp [VL]⟩

theorem V.cv1 {v:Value} (h:okc1 v=true):V g (cv1 v) v:=by
 unfold okc1 at h;split at h <;> simp only [Vv.cv1,V] <;> first | trivial | skip
 ·rename_i s;simp at h;exact ⟨trivial,by simpa using h⟩
theorem cv1_one {v:Value} (h:okc1 v=true):(Vv.cv1 v).one=true:=by
 unfold okc1 at h;split at h <;> first | rfl | cases h
theorem VA.cvs:∀{vs:List Value},vs.all okc1=true->VA g (vs.map Vv.cv1) vs
 | [],_=>by simp only [tE,VA]
 | v::r,h=>by
  simp only [tc,ud] at h;simp only [uC,VA];exact ⟨v,r,rfl,⟨cv1_one h.1,V.cv1 h.1⟩,VA.cvs h.2⟩
theorem V.cv {v:Value} (h:okc v=true):V g (cv v) v:=by
 unfold okc at h;split at h
 ·rename_i cs;simp only [Vv.cv,V];exact ⟨cs,rfl,VA.cvs h⟩
 ·rename_i vs;have:vs=#[]:=by simpa using h
  subst this;exact V.ofUndef
 ·rename_i a b;cases v <;> first | exact V.cv1 h | exact absurd rfl (a _) | exact absurd rfl (b _)

theorem V.cells1 {a:AV} {v:Value} (h0:a.one=true) (b:V g a v):v.cells.toList=[v]:=by
 cases a <;> simp only [V] at b <;> first
  | (subst b;rfl)
  | (obtain ⟨rfl,_⟩:=b;rfl)
  | (obtain ⟨_,_,rfl⟩:=b;rfl)
  | (obtain ⟨_,_,rfl,_⟩:=b;rfl)
  | (obtain ⟨_,_,_,rfl,_⟩:=b;rfl)
  | (obtain ⟨_,rfl,_⟩:=b;rfl)
  | (simp [AV.one] at h0;done)
  | (cases v <;> first | rfl | cases b)
theorem cells?_cases {a:AV} {cs:List AV} (b:a.cells?=some cs):(a=.agg cs) \/ (a.one=true/\cs=[a]):=by
 cases a <;> simp only [AV.cells?,un,reduceCtorEq] at b <;> first
  | (subst b;exact .inl rfl)
  | (subst b;exact .inr ⟨rfl,rfl⟩)
theorem V.cells {a:AV} {v:Value} {cs:List AV} (h:V g a v) (b:a.cells?=some cs):VA g cs v.cells.toList:=by
 rcases cells?_cases b with rfl | ⟨h0,rfl⟩
 ·simp only [V] at h;obtain ⟨vs,rfl,c⟩:=h;exact c
 ·rw [V.cells1 h0 h];simp only [VA];exact ⟨v,[],rfl,⟨h0,h⟩,rfl⟩

theorem V.tyfix {t:TypeId} {a:AV} {v:Value} (h:V g a v):V g (tyfix P t a) v:=by
 unfold Vv.tyfix;split
 ·split
  ·simp only [V] at h ⊢;exact ⟨none,0,by rw [h];rfl,uh _,by simp [maxLen],.inl trivial,rfl⟩
  ·exact h
 ·exact h

theorem V.ev {env:List AV} {a:Act} (b:VL g env a.tmps.toList) {x:Operand} (j:yy x=true):V g (ev env x) (a.eval x):=by
 cases x with
 | tmp t =>
  simp only [Vv.ev,Act.eval];rcases ht:env[t]? with _ | e
  ·have k:env.length<=t:=by simpa using ht
   have d:a.tmps.getD t undef=undef:=by
    have:=b.length;simp only [t8] at this;rw [u9,tV (by omega)];rfl
   rw [d,ur,ht];exact V.ofUndef
  ·obtain ⟨v,i,c⟩:=b.get t e ht;rw [ur,ht,u9,<- uv,i];exact c
 | const v=>exact V.cv j
 | global n=>simp only [Vv.ev,Act.eval,V]
 | func f=>simp only [Vv.ev,Act.eval,V,VL];exact ⟨#[],#[],rfl,rfl,rfl⟩

theorem clean_sound:∀{f bs:List AV} {vs:List Value},VA g f vs->x5 f=some bs->VA g bs vs
 | [],bs,vs,h,hc=>by simp only [x5,un] at hc;subst hc;exact h
 | a::r,bs,vs,h,hc=>by
  simp only [x5] at hc;split at hc
  ·rename_i a' n b m;cases hc;simp only [VA] at h ⊢;obtain ⟨v,s,rfl,⟨h0,d⟩,j⟩:=h;refine ⟨v,s,rfl,?_,clean_sound j m⟩;unfold aClean at b;split at b
   ·cases b;refine ⟨rfl,?_⟩;simp only [V] at d ⊢;obtain ⟨x,c,e,k,i,l,_⟩:=d;exact ⟨x,c,e,k,i,l⟩
   ·cases b
   ·split at b
    ·cases b;exact ⟨h0,d⟩
    ·cases b
  ·cases hc
theorem clean_pure:∀{d bs:List AV},x5 d=some bs->bs.all AV.pure=true
 | [],bs,h=>by simp only [x5,un] at h;subst h;rfl
 | a::r,bs,h=>by
  simp only [x5] at h;split at h
  ·rename_i a' i b e;cases h;have f:a'.pure=true:=by
    unfold aClean at b;split at b
    ·cases b;rfl
    ·cases b
    ·split at b
     ·rename_i c;cases b;exact c
     ·cases b
   simp [f,clean_pure e]
  ·cases h
theorem rows_flat {k:Nat}:∀(n:Nat) (cs:List AV),cs.length=n * k->(rows k n cs).flatten=cs/\(rows k n cs).length=n/\∀e ∈ rows k n cs,e.length=k
 | 0,cs,h=>by simp at h;subst h;simp [rows]
 | n+1,cs,h=>by
  rw [sn] at h;obtain ⟨d,b,c⟩:=rows_flat (k:=k) n (cs.drop k) (by simp;omega);refine ⟨by simp [rows,d],by simp [rows,b],λe a=>?_⟩;simp only [rows,uD] at a;rcases a with rfl | a
  ·simp;omega
  ·exact c e a
theorem clean_len:∀{b bs:List AV},x5 b=some bs->bs.length=b.length
 | [],bs,h=>by simp only [x5,un] at h;rw [<- h]
 | a::r,bs,h=>by
  simp only [x5] at h;split at h
  ·rename_i a' d _ c;cases h;simp [clean_len c]
  ·cases h

theorem load_sound (r:Rel B w0 g h w) {t:TypeId} {d:TypeDesc} {i:TypeInfo} (hd:P.underlying t=some d) (hi:P.info? t=some i) {p v:AV} {pv:Value} (z:V g p pv)
  (a:aLoad h (yh d) i.size p=some v):∃u,(Instr.loadAt t pv).run P w=.ok u w/\V g v u:=by
 have f:∀(b o:Nat) (cs:List AV) (us:List Value),VA g cs us->(∀j u,us[j]?=some u->w.cell? ⟨b,o+j,none⟩=some u) ->
   (if yh d then (if i.size<=cs.length then some (AV.agg (cs.take i.size)) else none) else cs[0]?)=some v ->
   ∃u,(Instr.loadAt t (.pointer (some ⟨b,o,none⟩))).run P w=.ok u w/\V g v u:=by
  intro b o cs us J A a;cases ha:yh d with
  | true =>
   simp only [ha,ut] at a;split at a
   ·rename_i y;cases a;have l:(us.take i.size).length=i.size:=by rw [se,<- J.length];omega
    have F:=loadCells_at (P:=P) (w:=w) b o (us.take i.size) λj u e=>by
     rw [uw] at e;split at e
     ·exact A j u e
     ·cases e
    rw [l] at F;refine ⟨.agg (us.take i.size).toArray,?_,?_⟩
    ·simp [Instr.loadAt,Instr.sureAddr,loadVar,run_agg hd,ha,x6 hi,F]
    ·simp only [V];exact ⟨_,rfl,VA.take _ J⟩
   ·cases a
  | false =>
   simp only [ha,ul,uG] at a;obtain ⟨u,e,Y⟩:=J.toVL.get 0 v a;refine ⟨u,?_,Y⟩;have:=A 0 u e;rw [sA] at this;simp [Instr.loadAt,Instr.sureAddr,loadVar,run_agg hd,ha,run_load,this]
 unfold aLoad at a;split at a
 ·rename_i id off;simp only [V] at z;obtain ⟨c,A,rfl⟩:=z;split at a
  ·rename_i cs I;obtain ⟨h1,h2,⟨vs,ty,n,s⟩,h4⟩:=r.blk id c _ A I;refine f c off (cs.drop off) (vs.toList.drop off) (VA.drop off s) (λj u e=>?_) ?_
   ·rw [uF] at e;rw [cell_of_row w c (off+j) vs ty (0,0) n,<- uv];exact e
   ·rw [uF];cases ha:yh d with
    | true =>
     simp only [ha,ut] at a ⊢;split at a
     ·rename_i y;rw [up (by rw [sB];omega)];exact a
     ·cases a
    | false=>simpa [ha] using a
  ·cases a
 ·rename_i cs;simp only [V] at z;obtain ⟨b,o,rfl,N⟩:=z;obtain ⟨us,s,_,K⟩:=N.toVA;exact f b o cs us s (λj u e=>r.phi _ _ _ (K j u e)) a
 ·rename_i id q k m p;simp only [V] at z;obtain ⟨b,o,rfl,U,G,X,y,L⟩:=z;split at a
  ·rename_i q' k' es I;split at a
   ·rename_i A;obtain ⟨rfl,rfl,rfl⟩:=A;obtain ⟨_,Q,O,htr,M,l,S,E⟩:=r.rowAt I;obtain rfl:Q=U:=by rw [O] at G;injection G
    obtain ⟨H,e',rfl,C⟩:=L M.symm;have D:(if yh d then (if i.size<=(es.flatten.drop p).length then some (AV.agg ((es.flatten.drop p).take i.size)) else none) else (es.flatten.drop p)[0]?)=some v:=by
     rw [uF];cases ha:yh d with
     | true =>
      simp only [ha,ut] at a ⊢;split at a
      ·rename_i y;rw [up (by rw [sB];omega)];exact a
      ·cases a
     | false=>simpa [ha] using a
    rcases E with rfl | ⟨b2,W,e2,cs,ty2,x,R,Z,k4,k5⟩
    ·exact f b (H+p) _ [] (by simp [VA]) (λj u e=>by simp at e) D
    ·rw [C] at x;injection x with x;injection x with T x;injection x with x _;obtain rfl:H=W:=by omega
     subst T;refine f b (H+p) _ _ (VA.drop p Z) (λj u e=>?_) D;rw [uF,uw] at e;split at e
     ·rw [uF,uv] at e;rw [cell_of_row w b (H+p+j) cs ty2 (0,0) R,<- e];congr 1;omega
     ·cases e
   ·cases a
  ·cases a
 ·cases a

theorem splice_VA {cs vs:List AV} {us xs:List Value} {off:Nat} (h:VA g cs us) (k:VA g vs xs):VA g (yX cs off vs) (us.take off++xs++us.drop (off+xs.length)):=by
 unfold yX;rw [k.length];exact ((VA.take off h).append k).append (VA.drop _ h)

theorem store_sound (r:Rel B w0 g h w) {t:TypeId} {i:TypeInfo} (hi:P.info? t=some i) {p v:AV} {pv u:Value} (G:V g p pv) (X:V g v u) {h':AH}
  (hs:aStore h i.size p v=some h'):∃w',(Instr.storeAt t pv u).run P w=.ok () w'/\Rel B w0 g h' w':=by
 unfold aStore at hs;split at hs
 ·rename_i id off vs x;split at hs
  ·rename_i cs D;split at hs
   ·rename_i l;cases hs;simp only [V] at G;obtain ⟨c,hc,rfl⟩:=G;obtain ⟨h1,h2,⟨xs,ty,a,O⟩,h4⟩:=r.blk id c _ hc D;have d:=X.cells x;have n:u.cells.size=i.size:=by rw [<- l.1,d.length];rfl
    have hxl:cs.length=xs.size:=by rw [O.length];rfl
    have f:=run_storeCells_at P c off ty u.cells.toList 0 xs w a (by simp only [t8];omega) d.one';simp only [sA] at f;refine ⟨w.setRow c (xs.toList.take off++u.cells.toList++xs.toList.drop (off+u.cells.toList.length)).toArray,?_,r.putObj hc D (by simp) (setRow_os _ _ _) (setRow_tape _ _ _) (setRow_output _ _ _) (setRow_size _ _ _) (λb U=>setRow_other w c b _ U)
     ⟨_,ty,setRow_heap w c xs _ ty (0,0) a,?_⟩⟩
    ·simp [Instr.storeAt,Instr.sureAddr,storeVar,x6 hi,n,f]
    ·have:=splice_VA (off:=off) O d;simpa using this
   ·cases hs
  ·cases hs
 ·rename_i id q k m p vs x;split at hs
  ·rename_i q' k' es D;split at hs
   ·rename_i l;obtain ⟨rfl,rfl,rfl,W,N⟩:=l;split at hs
    ·rename_i z y;cases hs;simp only [V] at G;obtain ⟨b,o,rfl,t2,K,hrd,l,S⟩:=G;obtain ⟨_,ti,R,htr,htn,H,L,M⟩:=r.rowAt D;obtain rfl:ti=t2:=by rw [R] at K;injection K
     obtain ⟨C,e',rfl,A⟩:=S htn.symm;have Y:es.flatten.length=es.length * k':=yN H;have d:=clean_sound (X.cells x) y;have J:z.length=i.size:=by rw [clean_len y,W]
     have n:u.cells.size=i.size:=by rw [<- J,d.length];rfl
     by_cases hes:es=[]
     ·subst hes;have hz:i.size=0:=by simp at N;omega
      have I:u.cells=#[]:=pq (by omega);refine ⟨w,by simp [Instr.storeAt,Instr.sureAddr,storeVar,x6 hi,hz,I,storeCells],?_⟩;have:rows k' ([]:List (List AV)).length (yX ([]:List (List AV)).flatten p z)=[]:=rfl;rw [this];have e:h.put id (.row q' k' [])=h:=by
       cases h with
       | mk B T =>
        simp only [AH.put,AH.mk.injEq,tW];refine tu λj=>?_;by_cases Z:j=id
        ·subst Z;rw [uA (uc.1 D).1];exact D.symm
        ·rw [uK (λe=>Z e.symm)]
      rw [e];exact r
     ·obtain ⟨b2,o2,e2,cs,ty2,E,k2,k3,k4,k5⟩:=M.resolve_left hes;rw [A] at E;injection E with E;injection E with e1 E;injection E with E _;obtain rfl:C=o2:=by omega
      subst e1;have f:=run_storeCells_at P b (C+p) ty2 u.cells.toList 0 cs w k2 (by simp only [t8];omega) d.one';simp only [sA] at f;generalize hnew:(cs.toList.take (C+p)++u.cells.toList++cs.toList.drop (C+p+u.cells.toList.length)).toArray=new at f;have hul:u.cells.toList.length=i.size:=by simp [n]
      have Q:(yX es.flatten p z).length=es.length * k':=by unfold yX;rw [uo,uo,se,sB,Y];omega
      obtain ⟨f1,f2,f3⟩:=rows_flat (k:=k') es.length (yX es.flatten p z) Q;refine ⟨w.setRow b new,?_,r.storeRow (e:=e') (cur:=cs) (ty:=ty2) (o:=C) D R A k2 (by rw [<- hnew];simp;omega) (λj Z=>?_) f2 f3 ?_ ?_ hes⟩
      ·simp [Instr.storeAt,Instr.sureAddr,storeVar,x6 hi,n,f]
      ·rw [<- hnew,sE,uy,uj (by simp;omega),uw,up (by omega),uv]
      ·rw [f1];unfold yX;simp only [tD,ud];exact ⟨⟨all_take _ L,clean_pure y⟩,all_drop _ L⟩
      ·rw [f1];have F:(new.toList.drop C).take (es.length * k')=((cs.toList.drop C).take (es.length * k')).take p++u.cells.toList++((cs.toList.drop C).take (es.length * k')).drop (p+u.cells.toList.length):=by
        rw [<- hnew];apply tu;intro j;have y:cs.toList.length=cs.size:=by simp
        by_cases h1:j < p
        ·rw [uw,up (by omega),uF,uy,uj (by simp;omega),uw,up (by omega)];rw [uy,uj (by simp;omega),uw,up h1,uw,up (by omega),uF]
        ·by_cases h2:j < p+i.size
         ·rw [uw,up (by omega),uF,uy,ui (by simp;omega),uj (by simp;omega)];rw [uy,ui (by simp;omega),uj (by simp;omega)];congr 1;simp;omega
         ·by_cases h3:j < es.length * k'
          ·rw [uw,up h3,uF,ui (by simp;omega),uF];rw [ui (by simp;omega),uF,uw,up (by simp;omega),uF];congr 1;simp;omega
          ·rw [uw,uu h3,th];simp;omega
       rw [F];exact splice_VA (off:=p) k3 d
    ·cases hs
   ·cases hs
  ·cases hs
 ·rename_i m vs x;split at hs
  ·rename_i l;cases hs;simp only [V] at G;obtain ⟨b,o,s,rfl,hn,hos⟩:=G;obtain ⟨_,_,⟨xs,ty,a,hxs⟩,_⟩:=r.nb b _ hn;have d:=X.cells x;have n:u.cells.size=i.size:=by rw [<- l.1,d.length];rfl
   have f:=run_storeCells_at P b o ty u.cells.toList 0 xs w a (by simp only [t8];omega) d.one';simp only [sA] at f;refine ⟨w.setRow b (xs.toList.take o++u.cells.toList++xs.toList.drop (o+u.cells.toList.length)).toArray,?_,r.scribble hn a (by simp;omega)⟩;simp [Instr.storeAt,Instr.sureAddr,storeVar,x6 hi,n,f]
  ·cases hs
 ·cases hs

theorem fieldAddr_sound {s:TypeId} {f off:Nat} {u:TypeId} {i:TypeInfo} (k:fieldOff P s f=some (off,u)) (hi:P.info? u=some i) (G:i.size ≠ 0) {p v:AV} {pv:Value} (j:V g p pv)
  (d:qz off p=some v):∃x,(Instr.fieldAt s pv f).run P w=.ok x w/\V g v x:=by
 unfold fieldOff at k;split at k
 ·rename_i fs hs;rcases hff:fs[f]? with _ | D
  ·simp [hff] at k
  ·simp [hff] at k;obtain ⟨rfl,rfl⟩:=k;have a:∀b o,(Instr.fieldAt s (.pointer (some ⟨b,o,none⟩)) f).run P w=.ok (.pointer (some ⟨b,o+D.offset,none⟩)) w:=λb o=>by
    simp [Instr.fieldAt,Instr.sureAddr,yC hs,hff,fieldPlace,x6 hi,G,we]
   unfold qz at d;split at d
   ·cases d;simp only [V] at j;obtain ⟨c,E,rfl⟩:=j;exact ⟨_,a _ _,by simp only [V];exact ⟨c,E,rfl⟩⟩
   ·cases d;simp only [V] at j;obtain ⟨b,o,rfl,n⟩:=j;exact ⟨_,a _ _,by simp only [V];exact ⟨b,_,rfl,VC.drop _ n⟩⟩
   ·cases d;simp only [V] at j;obtain ⟨b,q,rfl,t,y,F,m,l⟩:=j;exact ⟨_,a _ _,by
     simp only [V];exact ⟨b,_,rfl,t,y,F,m,λe=>by
      obtain ⟨o,z,rfl,A⟩:=l e;exact ⟨o,z,by omega,A⟩⟩⟩
   ·split at d
    ·cases d;simp only [V] at j;obtain ⟨b,o,s,rfl,r,C⟩:=j;exact ⟨_,a _ _,by simp only [V];exact ⟨b,_,s,rfl,r,by omega⟩⟩
    ·cases d
   ·cases d
 ·cases k

theorem part_sound {t:TypeId} {d:TypeDesc} {i:TypeInfo} (hd:P.underlying t=some d) (hi:P.info? t=some i) {off:Nat} {x v:AV} {e:Value} (f:V g x e)
  (a:aPart (yh d) off i.size x=some v):∃cs u,e=.agg cs/\(part t cs off).run P w=.ok u w/\V g v u:=by
 unfold aPart at a;split at a
 ·rename_i cs;simp only [V] at f;obtain ⟨vs,rfl,b⟩:=f;refine ⟨vs,?_⟩;cases hag:yh d with
  | true =>
   simp only [hag,ut,un] at a;subst a;refine ⟨.agg (vs.extract off (off+i.size)),rfl,by simp [part,run_agg hd,hag,x6 hi],?_⟩;simp only [V];refine ⟨_,rfl,?_⟩;have:=VA.take i.size (VA.drop off b);rw [px,rh];rw [show off+i.size - off=i.size by omega];exact this
  | false =>
   simp only [hag,ul,uG] at a;obtain ⟨u,k,j⟩:=b.toVL.get _ _ a;have c:vs[off]?=some u:=by rw [<- uv];exact k
   exact ⟨u,rfl,by simp [part,run_agg hd,hag,c],j⟩
 ·cases a

theorem field_sound {s:TypeId} {f off:Nat} {u:TypeId} {d:TypeDesc} {i:TypeInfo} (a:fieldOff P s f=some (off,u)) (hd:P.underlying u=some d) (hi:P.info? u=some i) {x v:AV} {c:Value} (e:V g x c)
  (j:aPart (yh d) off i.size x=some v):∃y,(Instr.field s c f).run P w=.ok y w/\V g v y:=by
 unfold fieldOff at a;split at a
 ·rename_i fs hs;rcases hff:fs[f]? with _ | l
  ·simp [hff] at a
  ·simp [hff] at a;obtain ⟨rfl,rfl⟩:=a;obtain ⟨cs,y,rfl,b,k⟩:=part_sound (w:=w) hd hi e j;exact ⟨y,by simp [Instr.field,yC hs,hff,asAgg,b],k⟩
 ·cases a

theorem indexAddr_slice_sound {t e:TypeId} {i:TypeInfo} (H:P.underlying t=some (.slice e)) (hi:P.info? e=some i) {x n v:AV} {R S:Value} (r:V g x R) (l:V g n S)
  (d:qy i.size x n=some v):∃y,(Instr.indexAt t R S).run P w=.ok y w/\V g v y:=by
 have C:∀(k:Nat) (es:List (List AV)) (u:IntKind) (z:Int) (a:Option Addr) (c:Nat),k=i.size->0<=z->(es[z.toNat]?).map AV.fptr=some v->(es=[] \/ ∃b o,a=some ⟨b,o,none⟩/\VE g b k o es) ->
   ∃y,(Instr.indexAt t (.slice a es.length c) (.int u z)).run P w=.ok y w/\V g v y:=by
  intro k es u z a c W Z J M;rcases he:es[z.toNat]? with _ | e
  ·simp [he] at J
  ·simp only [he,u7,un] at J;subst J;rcases M with rfl | ⟨b,o,rfl,L⟩
   ·simp at he
   ·obtain ⟨E,D⟩:=L.get _ _ he;have U:z.toNat < es.length:=(uc.1 he).1;have I:z < (es.length:Int):=by omega
    refine ⟨.pointer (some ⟨b,o+z.toNat * i.size,none⟩),?_,?_⟩
    ·simp [Instr.indexAt,asIntOf,yC H,Z,I,x6 hi,we]
    ·simp only [V];subst W;exact ⟨b,_,rfl,D⟩
 unfold qy at d;split at d
 ·rename_i k es u z;split at d
  ·rename_i j;simp only [V] at r l;obtain ⟨a,c,rfl,E,D,A⟩:=r;subst l;exact C k es u z a c j.1 j.2 d A
  ·cases d
 ·rename_i q k es u z;split at d
  ·rename_i j;simp only [V] at r l;obtain ⟨a,c,rfl,E,D,A,h4⟩:=r;subst l;exact C k es u z a c j.1 j.2 d A
  ·cases d
 ·rename_i k es u z;split at d
  ·rename_i j;simp only [V] at r l;obtain ⟨a,c,rfl,E,D,A⟩:=r;subst l;exact C k es u z a c j.1 j.2 d (A.imp id λ⟨b,o,e,hh,_⟩=>⟨b,o,e,hh⟩)
  ·cases d
 ·rename_i k es u z;split at d
  ·rename_i j;simp only [V] at r l;obtain ⟨a,c,rfl,E,D,A⟩:=r;subst l;exact C k es u z a c j.1 j.2 d (A.imp id λ⟨b,o,e,hh,_⟩=>⟨b,o,e,hh⟩)
  ·cases d
 ·rename_i k m u z;split at d
  ·rename_i j;cases d;simp only [V] at r l;obtain ⟨a,c,rfl,E,D,A⟩:=r;subst l;obtain ⟨rfl,N,K⟩:=j;rcases A with A | ⟨b,o,s,rfl,l,hs⟩
   ·omega
   ·refine ⟨.pointer (some ⟨b,o+z.toNat * i.size,none⟩),?_,?_⟩
    ·simp [Instr.indexAt,asIntOf,yC H,N,K,x6 hi,we]
    ·simp only [V];have T:(z.toNat+1) * i.size<=m * i.size:=tw _ (by omega);rw [tb] at T;exact ⟨b,_,s,rfl,l,by omega⟩
  ·cases d
 ·rename_i k id off len u z;split at d
  ·rename_i j;cases d;simp only [V] at r l;obtain ⟨c,cap,O,rfl,D,A⟩:=r;subst l;refine ⟨.pointer (some ⟨c,off+z.toNat * i.size,none⟩),?_,by simp only [V];exact ⟨c,O,rfl⟩⟩;simp [Instr.indexAt,asIntOf,yC H,j.2.1,j.2.2,x6 hi,we]
  ·cases d
 ·rename_i id q k m u z;split at d
  ·rename_i j;cases d;simp only [V] at r l;obtain ⟨a,c,rfl,E,D,t,F,Q,G,f⟩:=r;subst l;rcases f with ⟨h0,_⟩ | ⟨b,o,rfl,f⟩
   ·omega
   ·refine ⟨.pointer (some ⟨b,o+z.toNat * i.size,none⟩),?_,by simp only [V];exact ⟨b,_,rfl,t,F,Q,G,λe=>⟨o,_,rfl,by rw [j.1] at f;exact f e⟩⟩⟩;simp [Instr.indexAt,asIntOf,yC H,j.2.1,j.2.2,x6 hi,we]
  ·cases d
 ·rename_i id q k m p u z;split at d
  ·rename_i j;cases d;simp only [V] at r l;obtain ⟨a,c,rfl,E,t,F,f⟩:=r;subst l;rcases f with h0 | ⟨b,o,rfl,Q,G,f⟩
   ·omega
   ·refine ⟨.pointer (some ⟨b,o+z.toNat * i.size,none⟩),?_,by simp only [V];exact ⟨b,_,rfl,t,F,Q,G,λe=>by obtain ⟨Y,X,D,A⟩:=f e;exact ⟨Y,X,by rw [D,j.1,tb,tM],by rw [j.1] at A;exact A⟩⟩⟩;simp [Instr.indexAt,asIntOf,yC H,j.2.1,j.2.2,x6 hi,we]
  ·cases d
 ·cases d

theorem indexAddr_array_sound {t e:TypeId} {len:Nat} {i:TypeInfo} (s:P.underlying t=some (.array len e)) (hi:P.info? e=some i) {x n v:AV} {q r:Value} (k:V g x q) (j:V g n r)
  (a:aIndexArr len i.size x n=some v):∃y,(Instr.indexAt t q r).run P w=.ok y w/\V g v y:=by
 have d:∀(b o:Nat) (p:IntKind) (z:Int),0<=z->z < len->(Instr.indexAt t (.pointer (some ⟨b,o,none⟩)) (.int p z)).run P w=.ok (.pointer (some ⟨b,o+z.toNat * i.size,none⟩)) w:=by
  intro b o p z h0 u;simp [Instr.indexAt,Instr.sureAddr,asIntOf,yC s,h0,u,x6 hi,we]
 unfold aIndexArr at a;split at a
 ·split at a
  ·rename_i f;cases a;simp only [V] at k j;obtain ⟨c,m,rfl⟩:=k;subst j;exact ⟨_,d _ _ _ _ f.1 f.2,by simp only [V];exact ⟨c,m,rfl⟩⟩
  ·cases a
 ·split at a
  ·rename_i f;cases a;simp only [V] at k j;obtain ⟨b,o,rfl,l⟩:=k;subst j;exact ⟨_,d _ _ _ _ f.1 f.2,by simp only [V];exact ⟨b,_,rfl,VC.drop _ l⟩⟩
  ·cases a
 ·cases a

theorem index_str_sound {t:TypeId} (k:P.underlying t=some .string) {x n v:AV} {e i:Value} (f:V g x e) (d:V g n i)
  (a:aIndexStr x n=some v):∃y,(Instr.index t e i).run P w=.ok y w/\V g v y:=by
 unfold aIndexStr at a;split at a
 ·rename_i s o z;split at a
  ·rename_i m;rcases hs:s[z.toNat]? with _ | b
   ·simp [hs] at a
   ·simp only [hs,u7,un] at a;subst a;simp only [V] at f d;obtain ⟨rfl,_⟩:=f;subst d;refine ⟨.int .u8 b.toNat,?_,by simp only [V]⟩;obtain ⟨c,l⟩:=uc.1 hs;have j:(⟨s.toArray⟩:ByteArray)[z.toNat]?=some b:=by
     rw [getElem?_pos _ _ (by simpa [ByteArray.size] using c)];exact congrArg some l
    simp [Instr.index,asIntOf,yC k,m,j]
  ·cases a
 ·cases a

theorem index_agg_sound {t e:TypeId} {len:Nat} {d:TypeDesc} {i:TypeInfo} (l:P.underlying t=some (.array len e)) (hd:P.underlying e=some d) (hi:P.info? e=some i) {x n v:AV} {f j:Value} (m:V g x f) (c:V g n j)
  (a:aIndexAgg (yh d) len i.size x n=some v):∃y,(Instr.index t f j).run P w=.ok y w/\V g v y:=by
 unfold aIndexAgg at a;split at a
 ·rename_i p z;split at a
  ·rename_i k;simp only [V] at c;subst c;obtain ⟨cs,y,rfl,b,o⟩:=part_sound (w:=w) hd hi m a;exact ⟨y,by simp [Instr.index,asIntOf,yC l,k.1,k.2,x6 hi,b],o⟩
  ·cases a
 ·cases a
end
end Go.Vv
