/- Each operation of the model, on values that stand to abstract ones, comes to what the abstract operation says: loads, stores, addresses, parts. -/
import Derived.Test.YthnmdghfecoafaaGreatVvC
import Derived.Great.BuildSlice
import Derived.ChangeKeysEq
set_option linter.all false
namespace Go.Vv
open Go Go.RowKit
variable {t u e:TypeId} {i:TypeInfo} {d:TypeDesc} {v:Value} {off:Nat}

theorem xP (b o i:Nat):(⟨b,o,none⟩:Addr).add i=⟨b,o+i,none⟩:=by unfold Addr.add;split <;> simp_all

section
variable {P:Program} {w:World} {g:Gh} {h:AH} {B:Nat} {w0:World}

theorem yp {t:TypeId} {d:TypeDesc} (h:P.underlying t=some d):(underlying t).run P w=.ok d w:=run_underlying h w
theorem run_ti (h:P.info? t=some i):(typeInfo t).run P w=.ok i w:=by simp [typeInfo,h]
theorem xp (h:P.info? t=some i):(sizeOf t).run P w=.ok i.size w:=by simp [sizeOf,run_ti h]
theorem run_agg (h:P.underlying t=some d):(isAgg t).run P w=.ok (yq d) w:=by
 simp only [isAgg,Sem.run_bind,yp h,Result.andThen_ok];cases d <;> rfl
theorem run_zero {z:Value} (h:P.info? t=some i) (a:i.zero=some z):(zeroValue t).run P w=.ok z w:=by
 simp [zeroValue,run_ti h,a]

theorem loadCells_at (b o:Nat) (us:List Value) (h:∀j u,us[j]?=some u->w.cell? ⟨b,o+j,none⟩=some u):(loadCells ⟨b,o,none⟩ us.length).run P w=.ok us.toArray w :=
 run_loadCells_list w ⟨b,o,none⟩ us λj u a=>by rw [xP];exact h j u a

theorem V.ofUndef:V g aundef undef:=by simp only [aundef,V];exact ⟨#[],rfl,by simp [VL]⟩

theorem V.cv1 {v:Value} (h:okc1 v=true):V g (cv1 v) v:=by
 unfold okc1 at h;split at h <;> simp only [Vv.cv1,V] <;> first | trivial | skip
 ·simp_all
theorem cv1_one (h:okc1 v=true):(Vv.cv1 v).one=true:=by
 unfold okc1 at h;split at h <;> first | rfl | cases h
theorem VA.cvs:∀{vs:List Value},vs.all okc1=true->VA g (vs.map Vv.cv1) vs
 | [],_=>by rfl
 | v::r,h=>by
  simp only [uZ,ud] at h;simp only [uw,VA];exact ⟨v,r,rfl,⟨cv1_one h.1,V.cv1 h.1⟩,VA.cvs h.2⟩
theorem V.cv {v:Value} (h:okc v=true):V g (cv v) v:=by
 unfold okc at h;split at h
 ·rename_i cs;simp only [Vv.cv,V];exact ⟨cs,rfl,VA.cvs h⟩
 ·rename_i vs;have:vs=#[]:=by simpa using h
  subst this;exact V.ofUndef
 ·rename_i a b;cases v <;> first | exact V.cv1 h | exact absurd rfl (a _) | exact absurd rfl (b _)

theorem V.cells1 {a:AV} (h0:a.one=true) (b:V g a v):v.cells.toList=[v]:=by
 cases a <;> simp only [V] at b <;> first
  | (subst b;rfl)
  | (obtain ⟨rfl,_⟩:=b;rfl)
  | (obtain ⟨_,_,rfl⟩:=b;rfl)
  | (obtain ⟨_,_,rfl,_⟩:=b;rfl)
  | (obtain ⟨_,_,_,rfl,_⟩:=b;rfl)
  | (obtain ⟨_,rfl,_⟩:=b;rfl)
  | (simp [AV.one] at h0;done)
  | (cases v <;> first | rfl | cases b)
theorem cells?_cases {a:AV} {cs:List AV} (b:a.cells?=some cs):(a=.agg cs) \/ (a.one=true/\cs=[a]):=by
 cases a <;> simp only [AV.cells?,uf,reduceCtorEq] at b <;> first
  | (subst b;exact .inl rfl)
  | (subst b;exact .inr ⟨rfl,rfl⟩)
theorem V.cells {a:AV} {v:Value} {cs:List AV} (h:V g a v) (b:a.cells?=some cs):VA g cs v.cells.toList:=by
 rcases cells?_cases b with rfl | ⟨h0,rfl⟩
 ·simp only [V] at h;obtain ⟨vs,rfl,h'⟩:=h;exact h'
 ·rw [V.cells1 h0 h];simp only [VA]
  simp_all

theorem V.tyfix {t:TypeId} {a:AV} {v:Value} (h:V g a v):V g (tyfix P t a) v:=by
 unfold Vv.tyfix;split
 ·split
  ·simp only [V] at h ⊢
   simp_all
  ·exact h
 ·exact h

theorem V.ev {env:List AV} {a:Act} (b:VL g env a.tmps.toList) {x:Operand} (c:yf x=true):V g (ev env x) (a.eval x):=by
 cases x with
 | tmp t =>
  simp only [Vv.ev,Act.eval];rcases ht:env[t]? with _ | k
  ·have l:env.length<=t:=by simpa using ht
   have j:a.tmps.getD t undef=undef:=by
    have:=b.length
    simp_all
   rw [j,uP,ht];exact V.ofUndef
  ·obtain ⟨v,m,o⟩:=b.get t k ht
   simp_all
 | const v=>exact V.cv c
 | global n=>simp only [Vv.ev,Act.eval,V]
 | func f=>simp only [Vv.ev,Act.eval,V,VL];exact ⟨#[],#[],rfl,rfl,rfl⟩

theorem clean_sound:∀{a5 bs:List AV} {vs:List Value},VA g a5 vs->xF a5=some bs->VA g bs vs
 | [],bs,vs,h,hc=>by simp only [xF,uf] at hc;subst hc;exact h
 | a::r,bs,vs,h,hc=>by
  simp only [xF] at hc;split at hc
  ·rename_i a' k b f;cases hc;simp only [VA] at h ⊢;obtain ⟨v,s,rfl,⟨h0,j⟩,c⟩:=h;refine ⟨v,s,rfl,?_,clean_sound c f⟩;unfold aClean at b;split at b
   ·cases b;refine ⟨rfl,?_⟩;simp only [V] at j ⊢
    grind
   ·cases b
   ·simp_all
  ·cases hc
theorem clean_pure:∀{a5 bs:List AV},xF a5=some bs->bs.all AV.pure=true
 | [],bs,h=>by simp only [xF,uf] at h;subst h;rfl
 | a::r,bs,h=>by
  simp only [xF] at h;split at h
  ·rename_i a' j b c;cases h;have f:a'.pure=true:=by
    unfold aClean at b;split at b
    ·cases b;rfl
    ·cases b
    ·grind
   simp [f,clean_pure c]
  ·cases h
theorem rows_flat {k:Nat}:∀(n:Nat) (cs:List AV),cs.length=n * k->(rows k n cs).flatten=cs/\(rows k n cs).length=n/\∀e ∈ rows k n cs,e.length=k
 | 0,cs,h=>by simp at h;subst h;simp [rows]
 | n+1,cs,h=>by
  rw [so] at h;obtain ⟨c,b,f⟩:=rows_flat (k:=k) n (cs.drop k) (by simp;omega);refine ⟨by simp [rows,c],by simp [rows,b],λe a=>?_⟩;simp only [rows,ux] at a
  grind
theorem clean_len:∀{a5 bs:List AV},xF a5=some bs->bs.length=a5.length
 | [],bs,h=>by simp only [xF,uf] at h;rw [<- h]
 | a::r,bs,h=>by
  simp only [xF] at h;split at h
  ·rename_i a' c _ b;cases h;simp [clean_len b]
  ·cases h

theorem load_sound (r:Rel B w0 g h w) {t:TypeId} {d:TypeDesc} {i:TypeInfo} (hd:P.underlying t=some d) (hi:P.info? t=some i) {p v:AV} {pv:Value} (F:V g p pv)
  (f:aLoad h (yq d) i.size p=some v):∃u,(Instr.loadAt t pv).run P w=.ok u w/\V g v u:=by
 have l:∀(b o:Nat) (cs:List AV) (us:List Value),VA g cs us->(∀j u,us[j]?=some u->w.cell? ⟨b,o+j,none⟩=some u) ->
   (if yq d then (if i.size<=cs.length then some (AV.agg (cs.take i.size)) else none) else cs[0]?)=some v ->
   ∃u,(Instr.loadAt t (.pointer (some ⟨b,o,none⟩))).run P w=.ok u w/\V g v u:=by
  intro b o cs us S D f;cases E:yq d with
  | true =>
   simp only [E,ur] at f;split at f
   ·rename_i Q;cases f;have z:(us.take i.size).length=i.size:=by rw [tI,<- S.length];omega
    have J:=loadCells_at (P:=P) (w:=w) b o (us.take i.size) λj u s=>by
     grind
    rw [z] at J;refine ⟨.agg (us.take i.size).toArray,?_,?_⟩
    ·simp [Instr.loadAt,Instr.sureAddr,loadVar,run_agg hd,E,xp hi,J]
    ·simp only [V];exact ⟨_,rfl,VA.take _ S⟩
   ·cases f
  | false =>
   simp only [E,um,uJ] at f;obtain ⟨u,s,U⟩:=S.toVL.get 0 v f;refine ⟨u,?_,U⟩;have:=D 0 u s;rw [tB] at this;simp [Instr.loadAt,Instr.sureAddr,loadVar,run_agg hd,E,run_load,this]
 unfold aLoad at f;split at f
 ·rename_i id off;simp only [V] at F;obtain ⟨c,D,rfl⟩:=F;split at f
  ·rename_i cs G;obtain ⟨h1,h2,⟨vs,ty,n,A⟩,h4⟩:=r.blk id c _ D G;refine l c off (cs.drop off) (vs.toList.drop off) (VA.drop off A) (λj u s=>?_) ?_
   ·rw [uH] at s;rw [cell_of_row w c (off+j) vs ty (0,0) n,<- uC];exact s
   ·grind
  ·rename_i T x G;split at f
   ·rename_i X;obtain ⟨E,rfl⟩:=X;cases f;obtain ⟨h1,h2,⟨a,u,n,_,H,U⟩,h4⟩:=r.blk id c _ D G;refine l c 1 [v] [u] (by simp only [VA];exact ⟨u,[],rfl,⟨H,U⟩,rfl⟩) (λj y Y=>?_) (by rw [E];rfl);rw [cell_of_row w c (1+j) #[a,u] T (0,0) n];cases j with
    | zero=>simpa using Y
    | succ j=>simp at Y
   ·cases f
  ·cases f
 ·rename_i cs;simp only [V] at F;obtain ⟨b,o,rfl,R⟩:=F;obtain ⟨us,A,_,W⟩:=R.toVA;exact l b o cs us A (λj u s=>r.phi _ _ _ (W j u s)) f
 ·rename_i id q k m p;simp only [V] at F;obtain ⟨b,o,rfl,t2,ht2,hrd,Q,O⟩:=F;split at f
  ·rename_i q' k' es G;split at f
   ·rename_i D;obtain ⟨rfl,rfl,rfl⟩:=D;obtain ⟨_,ti,hti,Z,N,z,hpe,K⟩:=r.rowAt G;obtain rfl:ti=t2:=by simp_all
    obtain ⟨M,e',rfl,I⟩:=O N.symm;have L:(if yq d then (if i.size<=(es.flatten.drop p).length then some (AV.agg ((es.flatten.drop p).take i.size)) else none) else (es.flatten.drop p)[0]?)=some v:=by
     grind
    rcases K with rfl | ⟨b2,o2,e2,cs,ty2,C,k2,k3,k4,k5⟩
    ·exact l b (M+p) _ [] (by simp [VA]) (λj u s=>by simp at s) L
    ·rw [I] at C;injection C with C;injection C with e1 C;injection C with C _;obtain rfl:M=o2:=by omega
     subst e1;refine l b (M+p) _ _ (VA.drop p k3) (λj u s=>?_) L;rw [uH,uu] at s;split at s
     ·rw [uH,uC] at s;rw [cell_of_row w b (M+p+j) cs ty2 (0,0) k2,<- s];congr 1;omega
     ·cases s
   ·cases f
  ·cases f
 ·cases f

theorem splice_VA {cs vs:List AV} {us xs:List Value} (h:VA g cs us) (k:VA g vs xs):VA g (yP cs off vs) (us.take off++xs++us.drop (off+xs.length)):=by
 unfold yP;rw [k.length];exact ((VA.take off h).append k).append (VA.drop _ h)

theorem store_sound (r:Rel B w0 g h w) {t:TypeId} {i:TypeInfo} (hi:P.info? t=some i) {p v:AV} {pv u:Value} (J:V g p pv) (hv:V g v u) {h':AH}
  (hs:aStore h i.size p v=some h'):∃w',(Instr.storeAt t pv u).run P w=.ok () w'/\Rel B w0 g h' w':=by
 unfold aStore at hs;split at hs
 ·rename_i id off vs C;split at hs
  ·rename_i cs E;split at hs
   ·rename_i D;cases hs;simp only [V] at J;obtain ⟨c,S,rfl⟩:=J;obtain ⟨h1,h2,⟨xs,ty,f,U⟩,h4⟩:=r.blk id c _ S E;have l:=hv.cells C;have z:u.cells.size=i.size:=by rw [<- D.1,l.length];rfl
    have hxl:cs.length=xs.size:=by rw [U.length];rfl
    have n:=run_storeCells_at P c off ty u.cells.toList 0 xs w f (by simp_all) l.one';simp only [tB] at n;refine ⟨w.setRow c (xs.toList.take off++u.cells.toList++xs.toList.drop (off+u.cells.toList.length)).toArray,?_,r.putObj S E (by simp) (setRow_os _ _ _) (setRow_tape _ _ _) (setRow_output _ _ _) (setRow_size _ _ _) (λb K=>setRow_other w c b _ K)
     ⟨_,ty,setRow_heap w c xs _ ty (0,0) f,?_⟩⟩
    ·simp [Instr.storeAt,Instr.sureAddr,storeVar,xp hi,z,n]
    ·have:=splice_VA (off:=off) U l;omega
   ·cases hs
  ·rename_i T x E;split at hs
   ·rename_i y;split at hs
    ·rename_i hc1;obtain ⟨hn1,rfl⟩:=hc1;cases hs;simp only [V] at J;obtain ⟨c,S,rfl⟩:=J;obtain ⟨h1,h2,⟨a,v0,f,N,_,_⟩,h4⟩:=r.blk id c _ S E;have l:=hv.cells C;have z:u.cells.size=i.size:=by rw [hn1];exact l.length.symm
     have n:=run_storeCells_at P c 1 T u.cells.toList 0 #[a,v0] w f (by simp_all) l.one';simp only [tB] at n;simp only [VA] at l;obtain ⟨y1,_,hy,⟨R,hV⟩,rfl⟩:=l;have A:((#[a,v0]:Array Value).toList.take 1++u.cells.toList++(#[a,v0]:Array Value).toList.drop (1+u.cells.toList.length)).toArray=#[a,y1]:=by rw [hy];rfl
     rw [A] at n;refine ⟨w.setRow c #[a,y1],?_,r.putObj S E (by simp) (setRow_os _ _ _) (setRow_tape _ _ _) (setRow_output _ _ _) (setRow_size _ _ _) (λb K=>setRow_other w c b _ K)
      ⟨a,y1,setRow_heap w c _ _ T (0,0) f,N,R,hV⟩⟩
     simp [Instr.storeAt,Instr.sureAddr,storeVar,xp hi,z,n]
    ·cases hs
   ·cases hs
  ·cases hs
 ·rename_i id q k m p vs C;split at hs
  ·rename_i q' k' es E;split at hs
   ·rename_i D;obtain ⟨rfl,rfl,rfl,hvl,hfit⟩:=D;split at hs
    ·rename_i F G;cases hs;simp only [V] at J;obtain ⟨b,o,rfl,t2,ht2,hrd,D,hpt⟩:=J;obtain ⟨_,ti,hti,htr,htn,O,Y,X⟩:=r.rowAt E;obtain rfl:ti=t2:=by simp_all
     obtain ⟨I,e',rfl,H⟩:=hpt htn.symm;have hfl:es.flatten.length=es.length * k':=yF O;have l:=clean_sound (hv.cells C) G;have W:F.length=i.size:=by rw [clean_len G,hvl]
     have z:u.cells.size=i.size:=by rw [<- W,l.length];rfl
     by_cases hes:es=[]
     ·subst hes;have hz:i.size=0:=by simp_all
      have Q:u.cells=#[]:=Array.eq_empty_of_size_eq_zero (by omega);refine ⟨w,by simp [Instr.storeAt,Instr.sureAddr,storeVar,xp hi,hz,Q,storeCells],?_⟩;have:rows k' ([]:List (List AV)).length (yP ([]:List (List AV)).flatten p F)=[]:=rfl;rw [this];have e:h.put id (.row q' k' [])=h:=by
       cases h with
       | mk B T =>
        simp only [AH.put,AH.mk.injEq,tT];refine uT λj=>?_;by_cases hj:j=id
        ·subst hj;rw [uz (ua.1 E).1];exact E.symm
        ·grind
      simp_all
     ·obtain ⟨b2,o2,e2,cs,ty2,M,k2,k3,k4,k5⟩:=X.resolve_left hes;rw [H] at M;injection M with M;injection M with e1 M;injection M with M _;obtain rfl:I=o2:=by omega
      subst e1;have n:=run_storeCells_at P b (I+p) ty2 u.cells.toList 0 cs w k2 (by grind) l.one';simp only [tB] at n;generalize A:(cs.toList.take (I+p)++u.cells.toList++cs.toList.drop (I+p+u.cells.toList.length)).toArray=new at n;have hul:u.cells.toList.length=i.size:=by simp [z]
      have Z:(yP es.flatten p F).length=es.length * k':=by unfold yP;rw [uq,uq,tI,s6,hfl];omega
      obtain ⟨f1,f2,f3⟩:=rows_flat (k:=k') es.length (yP es.flatten p F) Z;refine ⟨w.setRow b new,?_,r.storeRow (e:=e') (cur:=cs) (ty:=ty2) (o:=I) E hti H k2 (by grind) (λj hj=>?_) f2 f3 ?_ ?_ hes⟩
      ·simp [Instr.storeAt,Instr.sureAddr,storeVar,xp hi,z,n]
      ·rw [<- A,sr,uy,uo (by simp;omega),uu,uG (by omega),uC]
      ·rw [f1];unfold yP;simp only [t6,ud];exact ⟨⟨all_take _ Y,clean_pure G⟩,all_drop _ Y⟩
      ·rw [f1];have L:(new.toList.drop I).take (es.length * k')=((cs.toList.drop I).take (es.length * k')).take p++u.cells.toList++((cs.toList.drop I).take (es.length * k')).drop (p+u.cells.toList.length):=by
        rw [<- A];apply uT;intro j;have G:cs.toList.length=cs.size:=by simp
        by_cases h1:j < p
        ·rw [uu,uG (by omega),uH,uy,uo (by simp;omega),uu,uG (by omega)];rw [uy,uo (by simp;omega),uu,uG h1,uu,uG (by omega),uH]
        ·by_cases h2:j < p+i.size
         ·rw [uu,uG (by omega),uH,uy,un (by simp;omega),uo (by simp;omega)];rw [uy,un (by simp;omega),uo (by simp;omega)];congr 1;simp;omega
         ·by_cases h3:j < es.length * k'
          ·rw [uu,uG h3,uH,un (by simp;omega),uH];rw [un (by simp;omega),uH,uu,uG (by simp;omega),uH];congr 1;simp;omega
          ·rw [uu,te h3,tA]
           grind
       rw [L];exact splice_VA (off:=p) k3 l
    ·cases hs
   ·cases hs
  ·cases hs
 ·rename_i m vs C;split at hs
  ·rename_i D;cases hs;simp only [V] at J;obtain ⟨b,o,s,rfl,hn,hos⟩:=J;obtain ⟨_,_,⟨xs,ty,f,hxs⟩,_⟩:=r.nb b _ hn;have l:=hv.cells C;have z:u.cells.size=i.size:=by rw [<- D.1,l.length];rfl
   have n:=run_storeCells_at P b o ty u.cells.toList 0 xs w f (by grind) l.one';simp only [tB] at n;refine ⟨w.setRow b (xs.toList.take o++u.cells.toList++xs.toList.drop (o+u.cells.toList.length)).toArray,?_,r.scribble hn f (by simp;omega)⟩;simp [Instr.storeAt,Instr.sureAddr,storeVar,xp hi,z,n]
  ·cases hs
 ·cases hs

theorem fieldAddr_sound {s:TypeId} {f:Nat} (l:fieldOff P s f=some (off,u)) (hi:P.info? u=some i) (D:i.size ≠ 0) {p v:AV} {pv:Value} (k:V g p pv)
  (j:qh off p=some v):∃x,(Instr.fieldAt s pv f).run P w=.ok x w/\V g v x:=by
 unfold fieldOff at l;split at l
 ·rename_i fs hs;rcases hff:fs[f]? with _ | y
  ·simp [hff] at l
  ·simp [hff] at l;obtain ⟨rfl,rfl⟩:=l;have a:∀b o,(Instr.fieldAt s (.pointer (some ⟨b,o,none⟩)) f).run P w=.ok (.pointer (some ⟨b,o+y.offset,none⟩)) w:=λb o=>by
    simp [Instr.fieldAt,Instr.sureAddr,yp hs,hff,fieldPlace,xp hi,D,xP]
   unfold qh at j;split at j
   ·cases j;simp only [V] at k;obtain ⟨c,H,rfl⟩:=k;exact ⟨_,a _ _,by simp only [V];exact ⟨c,H,rfl⟩⟩
   ·cases j;simp only [V] at k;obtain ⟨b,o,rfl,m⟩:=k;exact ⟨_,a _ _,by simp only [V];exact ⟨b,_,rfl,VC.drop _ m⟩⟩
   ·cases j;simp only [V] at k;obtain ⟨b,q,rfl,t,A,E,r,n⟩:=k;exact ⟨_,a _ _,by
     simp only [V];exact ⟨b,_,rfl,t,A,E,r,λe=>by
      obtain ⟨o,C,rfl,z⟩:=n e;exact ⟨o,C,by omega,z⟩⟩⟩
   ·split at j
    ·cases j;simp only [V] at k;obtain ⟨b,o,s,rfl,F,G⟩:=k;exact ⟨_,a _ _,by simp only [V];exact ⟨b,_,s,rfl,F,by omega⟩⟩
    ·cases j
   ·cases j
 ·cases l

theorem part_sound (hd:P.underlying t=some d) (hi:P.info? t=some i) {off:Nat} {x v:AV} {j:Value} (f:V g x j)
  (a:aPart (yq d) off i.size x=some v):∃cs u,j=.agg cs/\(part t cs off).run P w=.ok u w/\V g v u:=by
 unfold aPart at a;split at a
 ·rename_i cs;simp only [V] at f;obtain ⟨vs,rfl,b⟩:=f;refine ⟨vs,?_⟩;cases hag:yq d with
  | true =>
   simp only [hag,ur,uf] at a;subst a;refine ⟨.agg (vs.extract off (off+i.size)),rfl,by simp [part,run_agg hd,hag,xp hi],?_⟩;simp only [V];refine ⟨_,rfl,?_⟩;have:=VA.take i.size (VA.drop off b)
   simp_all
  | false =>
   simp only [hag,um,uJ] at a;obtain ⟨u,l,k⟩:=b.toVL.get _ _ a;have c:vs[off]?=some u:=by simp_all
   exact ⟨u,rfl,by simp [part,run_agg hd,hag,c],k⟩
 ·cases a

theorem field_sound {s:TypeId} {f:Nat} (a:fieldOff P s f=some (off,u)) (hd:P.underlying u=some d) (hi:P.info? u=some i) {x v:AV} {c:Value} (j:V g x c)
  (k:aPart (yq d) off i.size x=some v):∃y,(Instr.field s c f).run P w=.ok y w/\V g v y:=by
 unfold fieldOff at a;split at a
 ·rename_i fs hs;rcases hff:fs[f]? with _ | m
  ·simp_all
  ·simp [hff] at a;obtain ⟨rfl,rfl⟩:=a;obtain ⟨cs,y,rfl,b,l⟩:=part_sound (w:=w) hd hi j k;exact ⟨y,by simp [Instr.field,yp hs,hff,asAgg,b],l⟩
 ·cases a

theorem indexAddr_slice_sound (J:P.underlying t=some (.slice e)) (hi:P.info? e=some i) {x n v:AV} {S T:Value} (A:V g x S) (r:V g n T)
  (f:aIndexAddr i.size x n=some v):∃y,(Instr.indexAt t S T).run P w=.ok y w/\V g v y:=by
 have C:∀(k:Nat) (es:List (List AV)) (D:IntKind) (z:Int) (a:Option Addr) (c:Nat),k=i.size->0<=z->(es[z.toNat]?).map AV.fptr=some v->(es=[] \/ ∃b o,a=some ⟨b,o,none⟩/\VE g b k o es) ->
   ∃y,(Instr.indexAt t (.slice a es.length c) (.int D z)).run P w=.ok y w/\V g v y:=by
  intro k es D z a c Y X U Q;rcases he:es[z.toNat]? with _ | e
  ·simp_all
  ·simp only [he,uB,uf] at U;subst U;rcases Q with rfl | ⟨b,o,rfl,K⟩
   ·simp at he
   ·obtain ⟨G,F⟩:=K.get _ _ he;have W:z.toNat < es.length:=(ua.1 he).1;have N:z < (es.length:Int):=by omega
    refine ⟨.pointer (some ⟨b,o+z.toNat * i.size,none⟩),?_,?_⟩
    ·simp [Instr.indexAt,asIntOf,yp J,X,N,xp hi,xP]
    ·simp only [V]
     grind
 unfold aIndexAddr at f;split at f
 ·rename_i k es D z;split at f
  ·rename_i l;simp only [V] at A r;obtain ⟨a,c,rfl,G,F,E⟩:=A;subst r;exact C k es D z a c l.1 l.2 f E
  ·cases f
 ·rename_i q k es D z;split at f
  ·rename_i l;simp only [V] at A r;obtain ⟨a,c,rfl,G,F,E,Z⟩:=A;subst r;exact C k es D z a c l.1 l.2 f E
  ·cases f
 ·rename_i k es D z;split at f
  ·rename_i l;simp only [V] at A r;obtain ⟨a,c,rfl,G,F,E⟩:=A;subst r;exact C k es D z a c l.1 l.2 f (E.imp id λ⟨b,o,e,hh,_⟩=>⟨b,o,e,hh⟩)
  ·cases f
 ·rename_i k es D z;split at f
  ·rename_i l;simp only [V] at A r;obtain ⟨a,c,rfl,G,F,E⟩:=A;subst r;exact C k es D z a c l.1 l.2 f (E.imp id λ⟨b,o,e,hh,_⟩=>⟨b,o,e,hh⟩)
  ·cases f
 ·rename_i k m D z;split at f
  ·rename_i l;cases f;simp only [V] at A r;obtain ⟨a,c,rfl,G,F,E⟩:=A;subst r;obtain ⟨rfl,M,L⟩:=l;rcases E with E | ⟨b,o,s,rfl,r,hs⟩
   ·omega
   ·refine ⟨.pointer (some ⟨b,o+z.toNat * i.size,none⟩),?_,?_⟩
    ·simp [Instr.indexAt,asIntOf,yp J,M,L,xp hi,xP]
    ·simp only [V];have h5:(z.toNat+1) * i.size<=m * i.size:=u9 _ (by omega)
     grind
  ·cases f
 ·rename_i k id off len D z;split at f
  ·rename_i l;cases f;simp only [V] at A r;obtain ⟨c,cap,R,rfl,F,E⟩:=A;subst r;refine ⟨.pointer (some ⟨c,off+z.toNat * i.size,none⟩),?_,by simp only [V];exact ⟨c,R,rfl⟩⟩;simp [Instr.indexAt,asIntOf,yp J,l.2.1,l.2.2,xp hi,xP]
  ·cases f
 ·rename_i id q k m D z;split at f
  ·rename_i l;cases f;simp only [V] at A r;obtain ⟨a,c,rfl,G,F,t,H,O,I,j⟩:=A;subst r;rcases j with ⟨h0,_⟩ | ⟨b,o,rfl,j⟩
   ·omega
   ·refine ⟨.pointer (some ⟨b,o+z.toNat * i.size,none⟩),?_,by simp only [V];exact ⟨b,_,rfl,t,H,O,I,λe=>⟨o,_,rfl,by rw [l.1] at j;exact j e⟩⟩⟩;simp [Instr.indexAt,asIntOf,yp J,l.2.1,l.2.2,xp hi,xP]
  ·cases f
 ·rename_i id q k m p D z;split at f
  ·rename_i l;cases f;simp only [V] at A r;obtain ⟨a,c,rfl,G,t,H,j⟩:=A;subst r;rcases j with h0 | ⟨b,o,rfl,O,I,j⟩
   ·omega
   ·refine ⟨.pointer (some ⟨b,o+z.toNat * i.size,none⟩),?_,by simp only [V];exact ⟨b,_,rfl,t,H,O,I,λe=>by grind⟩⟩;simp [Instr.indexAt,asIntOf,yp J,l.2.1,l.2.2,xp hi,xP]
  ·cases f
 ·cases f

theorem indexAddr_array_sound {len:Nat} (A:P.underlying t=some (.array len e)) (hi:P.info? e=some i) {x n v:AV} {r s:Value} (k:V g x r) (l:V g n s)
  (a:aIndexArr len i.size x n=some v):∃y,(Instr.indexAt t r s).run P w=.ok y w/\V g v y:=by
 have f:∀(b o:Nat) (q:IntKind) (z:Int),0<=z->z < len->(Instr.indexAt t (.pointer (some ⟨b,o,none⟩)) (.int q z)).run P w=.ok (.pointer (some ⟨b,o+z.toNat * i.size,none⟩)) w:=by
  intro b o q z h0 C;simp [Instr.indexAt,Instr.sureAddr,asIntOf,yp A,h0,C,xp hi,xP]
 unfold aIndexArr at a;split at a
 ·split at a
  ·rename_i j;cases a;simp only [V] at k l;obtain ⟨c,p,rfl⟩:=k;subst l;exact ⟨_,f _ _ _ _ j.1 j.2,by simp only [V];exact ⟨c,p,rfl⟩⟩
  ·cases a
 ·split at a
  ·rename_i j;cases a;simp only [V] at k l;obtain ⟨b,o,rfl,m⟩:=k;subst l;exact ⟨_,f _ _ _ _ j.1 j.2,by simp only [V];exact ⟨b,_,rfl,VC.drop _ m⟩⟩
  ·cases a
 ·cases a

theorem index_str_sound (m:P.underlying t=some .string) {x n v:AV} {f j:Value} (k:V g x f) (l:V g n j)
  (a:aIndexStr x n=some v):∃y,(Instr.index t f j).run P w=.ok y w/\V g v y:=by
 unfold aIndexStr at a;split at a
 ·rename_i s r z;split at a
  ·rename_i q;rcases hs:s[z.toNat]? with _ | b
   ·simp_all
   ·simp only [hs,uB,uf] at a;subst a;simp only [V] at k l;obtain ⟨rfl,_⟩:=k;subst l;refine ⟨.int .u8 b.toNat,?_,by simp only [V]⟩;obtain ⟨c,p⟩:=ua.1 hs;have o:(⟨s.toArray⟩:ByteArray)[z.toNat]?=some b:=by
     rw [getElem?_pos _ _ (by simpa [ByteArray.size] using c)];exact congrArg some p
    simp [Instr.index,asIntOf,yp m,q,o]
  ·cases a
 ·cases a

theorem index_agg_sound {len:Nat} (l:P.underlying t=some (.array len e)) (hd:P.underlying e=some d) (hi:P.info? e=some i) {x n v:AV} {c f:Value} (o:V g x c) (j:V g n f)
  (a:aIndexAgg (yq d) len i.size x n=some v):∃y,(Instr.index t c f).run P w=.ok y w/\V g v y:=by
 unfold aIndexAgg at a;split at a
 ·rename_i p z;split at a
  ·rename_i k;simp only [V] at j;subst j;obtain ⟨cs,y,rfl,b,m⟩:=part_sound (w:=w) hd hi o a;exact ⟨y,by simp [Instr.index,asIntOf,yp l,k.1,k.2,xp hi,b],m⟩
  ·cases a
 ·cases a
end
end Go.Vv
namespace Go.Vv
open Go Go.RowKit Go.Lib
variable {l:Nat} {lo:Option AV} {t:TypeId} {lov:Option Value}
section
variable {P:Program} {w:World} {g:Gh} {h:AH} {B:Nat} {w0:World}

def VO (g:Gh):Option AV->Option Value->Prop
 | none,v=>v=none
 | some a,v=>∃u,v=some u/\V g a u

theorem bound_cases {d n:Nat} {x:Option AV} {b:Option Value} (c:VO g x b) (a:aBound d x=some n):(b=none/\x=none/\n=d) \/ ∃(k:IntKind) (z:Int),b=some (.int k z)/\x.isSome=true/\0<=z/\z=n:=by
 unfold aBound at a;split at a
 ·simp only [VO] at c
  simp_all
 ·rename_i k z;split at a
  ·rename_i e;simp only [VO,V] at c
   grind
  ·cases a
 ·cases a


theorem slice_bounds {isS:Bool} {len cap hh m d:Nat} {lo hi mx:Option Value}
  (x:(lo=none/\l=0) \/ ∃(k:IntKind) (z:Int),lo=some (.int k z)/\0<=z/\z=l)
  (j:(hi=none/\mx=none/\hh=len) \/ ∃(k:IntKind) (z:Int),hi=some (.int k z)/\0<=z/\z=hh)
  (y:(mx=none/\m=cap) \/ ∃(k:IntKind) (z:Int),mx=some (.int k z)/\0<=z/\z=m) (E:l<=hh) (D:hh<=m) (G:m<=cap) (_:d=0) :
  (Instr.sliceBounds isS len cap lo hi mx).run P w=.ok (l,hh,m) w:=by
 rcases y with ⟨rfl,rfl⟩ | ⟨H,c,rfl,r,u⟩ <;> rcases j with ⟨rfl,e,rfl⟩ | ⟨F,a,rfl,v,s⟩ <;> rcases x with ⟨rfl,rfl⟩ | ⟨I,b,rfl,p,C⟩ <;>
  first
  | (cases e;done)
  | (
       have o:b.toNat=l:=by omega
       have f:a.toNat=hh:=by omega
       have A:c.toNat=m:=by omega
       have n:b<=hh:=by omega
       have i:a<=m:=by omega
       have q:c<=cap:=by omega
       simp [Instr.sliceBounds,run_sliceBound, *];done)
  | (
       have f:a.toNat=hh:=by omega
       have A:c.toNat=m:=by omega
       have i:a<=m:=by omega
       have q:c<=cap:=by omega
       simp [Instr.sliceBounds,run_sliceBound, *];done)
  | (
       have o:b.toNat=l:=by omega
       have f:a.toNat=hh:=by omega
       have n:b<=hh:=by omega
       have i:a<=m:=by omega
       simp [Instr.sliceBounds,run_sliceBound, *];done)
  | (
       have o:b.toNat=l:=by omega
       have n:b<=hh:=by omega
       simp [Instr.sliceBounds,run_sliceBound, *];done)
  | (
       have f:a.toNat=hh:=by omega
       have i:a<=m:=by omega
       simp [Instr.sliceBounds,run_sliceBound, *];done)
  | (simp [Instr.sliceBounds];done)

theorem sliceAt_of {d:TypeDesc} (a:P.underlying t=some d) (hd:∀n e,d ≠ .array n e) (x:Value) (lo hi mx:Option Value):(Instr.sliceAt t x lo hi mx).run P w=(Instr.slice t x lo hi mx).run P w:=by
 cases d <;> (first | exact absurd rfl (hd _ _) | simp only [Instr.sliceAt,Sem.run_bind,yp a,Result.andThen_ok])

theorem lo_cases (b:VO g lo lov) (a:aBound 0 lo=some l):(lov=none/\l=0) \/ ∃(k:IntKind) (z:Int),lov=some (.int k z)/\0<=z/\z=l:=by
 rcases bound_cases b a with ⟨e,_,d⟩ | ⟨k,z,e,_,h0,c⟩
 ·simp_all
 ·simp_all
theorem hi_cases {len:Nat} {a:Option Value} (c:VO g lo lov) (b:aBound len lo=some l) (d:a ≠ none->lov ≠ none) :
  (lov=none/\a=none/\l=len) \/ ∃(k:IntKind) (z:Int),lov=some (.int k z)/\0<=z/\z=l:=by
 rcases bound_cases c b with ⟨e,_,i⟩ | ⟨k,z,e,_,h0,f⟩
 ·simp_all
 ·simp_all

theorem slice_str_sound (p:P.underlying t=some .string) {s:List UInt8} {q:Value} {lo hi mx:Option AV} {lov e b:Option Value} (r:V g (.str s) q) (o:VO g lo lov) (k:VO g hi e) (c:VO g mx b)
  {v:AV} (a:aSlice (.str s) lo hi mx=some v):∃y,(Instr.sliceAt t q lov e b).run P w=.ok y w/\V g v y:=by
 simp only [V] at r;obtain ⟨rfl,hs⟩:=r;unfold aSlice at a;simp only at a;split at a
 ·rename_i x;have:mx=none:=by simp_all
  subst this;simp only [VO] at c;subst c;unfold aSliceStr at a;split at a
  ·rename_i l hh i j;split at a
   ·rename_i f;cases a;rw [sliceAt_of p (by simp)];have n:(⟨s.toArray⟩:ByteArray).size=s.length:=by rfl
    have u:=slice_bounds (P:=P) (w:=w) (isS:=false) (len:=s.length) (cap:=s.length) (l:=l) (hh:=hh) (m:=s.length) (d:=0) (mx:=none)
     (lo_cases o i) (hi_cases k j λh=>absurd rfl h)
     (.inl ⟨rfl,rfl⟩) f.1 f.2 (ue _) rfl
    refine ⟨.string ((⟨s.toArray⟩:ByteArray).extract l hh),?_,?_⟩
    ·simp [Instr.slice,yp p,n,u]
    ·simp only [V];refine ⟨?_,by simp;omega⟩;congr 1;apply ByteArray.ext;simp [ByteArray.data_extract,rc,r5]
   ·cases a
  ·cases a
 ·cases a

theorem slice_sl_sound {e:TypeId} {i:TypeInfo} (O:P.underlying t=some (.slice e)) (hi:P.info? e=some i) {x:Bool} {es:List (List AV)} {a:Option Addr} {c:Nat} {lo D mx:Option AV} {lov s n:Option Value}
  (Z:es.length<=c) (Y:c<=maxLen) (T:es=[] \/ ∃b o,a=some ⟨b,o,none⟩/\VE g b i.size o es) (C:x=true->c=es.length) (M:VO g lo lov) (E:VO g D s) (r:VO g mx n)
  {v:AV} (j:aSliceSl x i.size es lo D mx=some v):∃y,(Instr.sliceAt t (.slice a es.length c) lov s n).run P w=.ok y w/\V g v y:=by
 unfold aSliceSl at j;split at j
 ·rename_i l hh H q;split at j
  ·rename_i N
   -- the f of what is cut
   have f:∀m,hh<=m->(es.take hh).drop l=[] \/ ∃b o,(if m=l then a else a.map (·.add (l * i.size)))=some ⟨b,o,none⟩/\VE g b i.size o ((es.take hh).drop l):=by
    intro m F;by_cases hl:l=hh
    ·simp_all
    ·rcases T with rfl | ⟨b,o,rfl,G⟩
     ·left;simp
     ·right;have L:m ≠ l:=by omega
      refine ⟨b,o+l * i.size,by simp [L,xP],VE.drop l (VE.take hh G)⟩
   have p:((es.take hh).drop l).length=hh - l:=by simp;omega
   rw [sliceAt_of O (by simp)];have A:∀(m:Nat) (v:AV),hh<=m->m<=c->(n=none/\m=c \/ ∃(k:IntKind) (z:Int),n=some (.int k z)/\0<=z/\z=m)->(n ≠ none->s ≠ none) ->
     (v=.sl i.size ((es.take hh).drop l) \/ (v=.osl none i.size ((es.take hh).drop l)/\m=hh))->∃y,(Instr.slice t (.slice a es.length c) lov s n).run P w=.ok y w/\V g v y:=by
    intro m v F J R K X;have S:=slice_bounds (P:=P) (w:=w) (isS:=true) (len:=es.length) (cap:=c) (l:=l) (hh:=hh) (m:=m) (d:=0) (lo_cases M H)
     (hi_cases E q K) R N.1 F J rfl
    refine ⟨.slice (if m=l then a else a.map (·.add (l * i.size))) (hh - l) (m - l),?_,?_⟩
    ·simp [Instr.slice,yp O,S,xp hi]
    ·rcases X with rfl | ⟨rfl,rfl⟩
     ·simp only [V];exact ⟨_,m - l,by rw [p],by omega,by omega,f m F⟩
     ·simp only [V];exact ⟨_,m - l,by rw [p],by omega,by omega,f m F,by rw [p]⟩
   cases mx with
   | none =>
    simp only [VO] at r;subst r;simp only [uf] at j;split at j
    ·rename_i I;subst j;simp only [ud,Option.isNone_iff_eq_none] at I;have hc:=C I.1;have Q:hh=es.length:=by
      rw [I.2] at q;simpa [aBound] using q.symm
     have W:es.drop l=(es.take hh).drop l:=by simp_all
     rw [W];exact A c _ (by omega) (ue _) (.inl ⟨rfl,rfl⟩) (λh=>absurd rfl h) (.inr ⟨rfl,by omega⟩)
    ·subst j;exact A c _ (by omega) (ue _) (.inl ⟨rfl,rfl⟩) (λh=>absurd rfl h) (.inl rfl)
   | some xm =>
    cases xm with
    | int km zm =>
     simp only at j;split at j
     ·rename_i U;cases j;simp only [VO,V] at r;obtain ⟨u,rfl,rfl⟩:=r;refine A hh _ (ue _) (by omega) (.inr ⟨km,zm,rfl,by omega,by omega⟩) (λ_=>?_) (.inr ⟨rfl,rfl⟩);rcases bound_cases E q with ⟨_,e,_⟩ | ⟨k,z,e,_⟩
      ·simp_all
      ·simp_all
     ·cases j
    | _=>simp at j
  ·cases j
 ·cases j

theorem foldl_splice:∀(vs:List Value) (cells:Array Value) (off a:Nat),off+a+vs.length<=cells.size ->
  ((vs.zipIdx a).foldl (λcs p=>cs.setIfInBounds (off+p.2) p.1) cells).toList=cells.toList.take (off+a)++vs++cells.toList.drop (off+a+vs.length)
 | [],cells,off,a,_=>by simp
 | v::r,cells,off,a,h=>by
  simp only [ul] at h;simp only [sG,sy];rw [foldl_splice r (cells.setIfInBounds (off+a) v) off (a+1) (by simp;omega)];simp only [sY];have b:(cells.toList.set (off+a) v).take (off+(a+1))=cells.toList.take (off+a)++[v]:=by
   rw [show off+(a+1)=off+a+1 by omega,pg,uz (by simp;omega),List.take_set_of_le (ue _)];rfl
  rw [b,List.drop_set_of_lt (by omega),ul,show off+(a+1)+r.length=off+a+(r.length+1) by omega];simp

theorem fill_sound {b:Nat->Option (Nat×Nat)} {place':Nat->Option (Nat×Nat)} (d:∀i x,b i=some x->place' i=some x):∀{parts:List (Nat×AV)} {pvs:List (Nat×Value)} {cs out:List AV} {us:Array Value},
  VA g cs us.toList->parts.length=pvs.length->(∀(j:Nat) (p:Nat×AV) (q:Nat×Value),parts[j]?=some p->pvs[j]?=some q->p.1=q.1/\V g p.2 q.2) ->
  qc b cs parts=some out->∃xs:Array Value,Instr.fill place' us pvs=some xs/\VA g out xs.toList
 | [],[],cs,out,us,hv,_,_,ha=>by
  simp only [qc,uf] at ha;subst ha;exact ⟨us,rfl,hv⟩
 | (i,a)::r,(i',u)::s,cs,out,us,hv,hl,hp,ha=>by
  obtain ⟨rfl,C⟩:=hp 0 _ _ rfl rfl;simp only [qc] at ha;split at ha
  ·rename_i off size vs k n;split at ha
   ·rename_i o;have e:=C.cells n;have v:u.cells.size=size:=by rw [<- o.1,e.length];rfl
    have A:cs.length=us.size:=by rw [hv.length];rfl
    have c:=foldl_splice u.cells.toList us off 0 (by simp;omega);simp only [tB] at c;have z:=splice_VA (off:=off) hv e;obtain ⟨xs,m,f⟩:=fill_sound d (parts:=r) (pvs:=s) (us:=(u.cells.toList.zipIdx 0).foldl (λcs p=>cs.setIfInBounds (off+p.2) p.1) us) (by grind) (by grind)
     (λj p q y D=>hp (j+1) p q (by grind) (by grind)) ha
    refine ⟨xs,?_,f⟩;have y:¬ (u.cells.size ≠ size \/ off+u.cells.size > us.size):=by omega
    simp only [Instr.fill,d _ _ k];rw [te (by grind)];rw [<- m];congr 1;rw [<- rt,Array.toList_zipIdx]
   ·cases ha
  ·cases ha
 | [],_::_,_,_,_,_,hl,_,_=>by simp at hl
 | _::_,[],_,_,_,_,hl,_,_=>by simp at hl
end
end Go.Vv
namespace Go.Vv
open Go Go.RowKit Go.Lib
variable {t:TypeId} {env:List AV}
section
variable {P:Program} {w:World} {g:Gh} {h:AH} {B:Nat} {w0:World}

theorem tyfix_one {t:TypeId} {a:AV} (h:a.one=true):(tyfix P t a).one=true:=by
 unfold tyfix;split
 ·split <;> rfl
 ·exact h
theorem VA.fix:∀{ts:List TypeId} {a5:List AV} {vs:List Value},VA g a5 vs->VA g (fixCells P ts a5) vs
 | [],_,_,h=>by simp only [fixCells];exact h
 | _::_,[],_,h=>by simp only [fixCells];exact h
 | t::ts,a::a5,vs,h=>by
  simp only [VA] at h;obtain ⟨v,s,rfl,⟨h0,c⟩,b⟩:=h;simp only [fixCells,VA];exact ⟨v,s,rfl,⟨tyfix_one h0,c.tyfix⟩,VA.fix b⟩
theorem vj {cs:List AV} (a:xQ P t=some cs):∃i z,P.info? t=some i/\i.zero=some z/\VA g cs z.cells.toList:=by
 unfold xQ at a;split at a
 ·rename_i i hi;split at a
  ·rename_i z c;split at a
   ·rename_i b;split at a
    ·rename_i cs' d;cases a;exact ⟨i,z,hi,c,((V.cv b).cells d).fix⟩
    ·cases a
   ·cases a
  ·cases a
 ·cases a

theorem parts_rel {d:TypeDesc} {a:Act} (m:VL g env a.tmps.toList) {parts:Array (Nat×Operand)} (e:(parts.all λp=>yf p.2)=true) :
  (xj P d env parts).length=(parts.map λ(i,x)=>(i,a.eval x)).toList.length /\
  ∀(j:Nat) (p:Nat×AV) (q:Nat×Value),(xj P d env parts)[j]?=some p->(parts.map λ(i,x)=>(i,a.eval x)).toList[j]?=some q->p.1=q.1/\V g p.2 q.2:=by
 refine ⟨by simp [xj],λj p q l k=>?_⟩;simp only [xj,tO,s7,tf] at l k;obtain ⟨x,n,rfl⟩:=l;obtain ⟨y,c,rfl⟩:=k;rw [n] at c;injection c with c;subst c;have b:x ∈ parts:=by
  grind
 have f:=(tW.1 e) x b;exact ⟨rfl,(V.ev m f).tyfix⟩

theorem build_sound {a:Act} (y:VL g env a.tmps.toList) {parts:Array (Nat×Operand)} (m:(parts.all λp=>yf p.2)=true) {z out:List AV} (A:xQ P t=some z)
  (b:(∃fs pl,P.underlying t=some (.struct fs)/\vH P fs=some pl/\qc (λi=>pl[i]?) z (xj P (.struct fs) env parts)=some out) \/
   ∃n e j,P.underlying t=some (.array n e)/\P.info? e=some j/\qc (λi=>some (i * j.size,j.size)) z (xj P (.array n e) env parts)=some out) :
  ∃u,(Instr.build t (parts.map λ(i,x)=>(i,a.eval x))).run P w=.ok u w/\V g (.agg out) u:=by
 obtain ⟨i,D,hi,k,l⟩:=vj (g:=g) A;rcases b with ⟨fs,pl,v,f,s⟩ | ⟨n,e,j,v,C,s⟩
 ·obtain ⟨q,o⟩:=parts_rel (P:=P) (d:=.struct fs) y m;obtain ⟨xs,r,c⟩:=fill_sound (place':=(pl.toArray[·]?)) (λi x h=>by simpa using h) l q o s;refine ⟨.agg xs,run_build w t _ xs ?_,by simp only [V];exact ⟨xs,rfl,c⟩⟩;unfold vH at f;simp only [Program.built,hi,v,k,f];omega
 ·obtain ⟨q,o⟩:=parts_rel (P:=P) (d:=.array n e) y m;obtain ⟨xs,r,c⟩:=fill_sound (place':=λi=>some (i * j.size,j.size)) (λi x h=>h) l q o s;refine ⟨.agg xs,run_build w t _ xs ?_,by simp only [V];exact ⟨xs,rfl,c⟩⟩;simp only [Program.built,hi,v,k,C];omega

theorem aEqL_split:∀(c:List Kd) {ls:List Kd} {a5 bs:List AV} {r:Bool},qT (c++ls) a5 bs=some r ->
  ∃e d,qT c (a5.take c.length) (bs.take c.length)=some e/\qT ls (a5.drop c.length) (bs.drop c.length)=some d/\r=(e&&d)/\c.length<=a5.length/\c.length<=bs.length
 | [],ls,a5,bs,r,h=>⟨true,r,by simp [qT],by simpa using h,by simp,by simp,by simp⟩
 | k::c,ls,[],bs,r,h=>by simp [qT] at h
 | k::c,ls,a::a5,[],r,h=>by simp [qT] at h
 | k::c,ls,a::a5,b::bs,r,h=>by
  simp only [tj,qT] at h;split at h
  ·rename_i x y j f;obtain ⟨e,d,i,l,o,m,n⟩:=aEqL_split c f;cases h;exact ⟨x&&e,d,by simp [qT,j,i],by simp_all,by grind,by simp_all,by simp_all⟩
  ·cases h

def KdOk (P:Program) (t:TypeId):Kd->Prop
 | .b=>P.underlying t=some .bool
 | .i=>∃j,P.underlying t=some (.int j)
 | .s=>P.underlying t=some .string

theorem eq1_run {k:Kd} {a b:AV} {x y:Value} {r:Bool} (d:V g a x) (e:V g b y) (c:aEq1 k a b=some r)
  (hd:KdOk P t k) (D:Nat):(Op.equalIn (D+1) t x y).run P w=.ok r w:=by
 unfold aEq1 at c;split at c
 ·cases c;simp only [V] at d e;subst d e;exact run_equalIn_bool w D t _ _ hd
 ·split at c
  ·rename_i f;cases c;simp only [V] at d e;subst d e f;obtain ⟨j,hd⟩:=hd;simp [Op.equalIn,run_underlying hd]
  ·cases c
 ·cases c;simp only [V] at d e;obtain ⟨rfl,_⟩:=d;obtain ⟨rfl,_⟩:=e;rw [run_equalIn_string w D t _ _ hd,ByteArray.toList_mk,ByteArray.toList_mk]
 ·cases c

def EqE (P:Program) (w:World) (g:Gh) (d:Nat):Prop:=∀{t:TypeId} {ks:List Kd} {i:TypeInfo},xN P d t=some ks->P.info? t=some i->i.size=ks.length->∀{xs ys:Array Value} {a5 bs:List AV} {off:Nat} {r:Bool},VA g a5 xs.toList->VA g bs ys.toList ->
  qT ks ((a5.drop off).take ks.length) ((bs.drop off).take ks.length)=some r->∀D,d<=D->∃u v,(part t xs off).run P w=.ok u w/\(part t ys off).run P w=.ok v w/\(Op.equalIn D t u v).run P w=.ok r w

theorem eqF {d:Nat} (E:EqE P w g d):∀(fs:List Field) (c:Nat) {k:List Kd},plainFs P d fs c=some k->∀{xs m:Array Value} {a5 bs:List AV} {r:Bool},VA g a5 xs.toList->VA g bs m.toList ->
  qT k (a5.drop c) (bs.drop c)=some r->∀D,d<=D->(Op.eqFields D xs m fs).run P w=.ok r w
 | [],c,k,h,xs,m,a5,bs,r,ha,hb,hr,D,_=>by
  simp only [plainFs,plainFsOf,uf] at h;subst h;have:r=true:=by
   rcases p:a5.drop c with _ | ⟨a,x⟩ <;> rcases j:bs.drop c with _ | ⟨b,F⟩ <;> simp [p,j,qT] at hr;exact hr
  subst this;rfl
 | f::fs,c,k,h,xs,m,a5,bs,r,ha,hb,hr,D,hD=>by
  simp only [plainFs,plainFsOf] at h;split at h
  ·rename_i q;split at h
   ·rename_i s i o hi;split at h
    ·rename_i e;split at h
     ·rename_i K n;cases h;obtain ⟨y,J,p,j,l,H,I⟩:=aEqL_split s hr;obtain ⟨u,v,A,z,C⟩:=E o hi e ha hb p D hD;have G:=eqF E fs (c+i.size) n ha hb (by rw [tG,tG,<- e] at j;exact j) D hD;simp only [Op.eqFields,uG q.1,q.2,Sem.run_bind,A,z,C,Result.andThen_ok];cases y with
      | true=>simp at l;subst l;simpa using G
      | false=>simp at l;subst l;simp
     ·cases h
    ·cases h
   ·cases h
  ·cases h
theorem eqE:∀(d:Nat),EqE P w g d:=by
 intro d
 induction d with
 | zero=>intro t n i h;simp [xN] at h
 | succ d ih =>
  intro t n i h hi l xs m a5 bs off r I G o D R;obtain ⟨D,rfl⟩:∃D',D=D'+1:=⟨D - 1,by omega⟩
  have one:∀(k:Kd),n=[k]->KdOk P t k ->
    ∃u v,(part t xs off).run P w=.ok u w/\(part t m off).run P w=.ok v w/\(Op.equalIn (D+1) t u v).run P w=.ok r w:=by
   intro k M hd;subst M;simp only [rG] at o;rcases h1:a5.drop off with _ | ⟨a,K⟩
   ·simp [h1,qT] at o
   ·rcases h2:bs.drop off with _ | ⟨b,Q⟩
    ·simp [h1,h2,qT] at o
    ·have A:a5[off]?=some a:=by have:=congrArg (·[0]?) h1;simpa using this
     have z:bs[off]?=some b:=by have:=congrArg (·[0]?) h2;simpa using this
     obtain ⟨u,c,q⟩:=I.toVL.get _ _ A;obtain ⟨v,J,y⟩:=G.toVL.get _ _ z;rw [uC] at c J;have p:aEq1 k a b=some r:=by
      simp [h1,h2,qT] at o
      grind
     have e:∀dd,P.underlying t=some dd->yq dd=false->∃u v,(part t xs off).run P w=.ok u w/\(part t m off).run P w=.ok v w/\(Op.equalIn (D+1) t u v).run P w=.ok r w:=λdd f H =>
      ⟨u,v,by simp [part,run_agg f,H,c],by simp [part,run_agg f,H,J],eq1_run q y p hd D⟩
     cases k with
     | b=>exact e _ hd rfl
     | i=>obtain ⟨j,F⟩:=hd;exact e _ F rfl
     | s=>exact e _ hd rfl
  simp only [xN] at h;split at h
  ·rename_i c;cases h;exact one .b rfl c
  ·rename_i j c;cases h;exact one .i rfl ⟨j,c⟩
  ·rename_i c;cases h;exact one .s rfl c
  ·rename_i fs c;split at h
   ·cases h
   ·rename_i L;have x:P.fieldsOf t=fs:=by simp [Program.fieldsOf,c]
    have O:(part t xs off).run P w=.ok (.agg (xs.extract off (off+i.size))) w:=by simp [part,run_agg c,yq,xp hi]
    have N:(part t m off).run P w=.ok (.agg (m.extract off (off+i.size))) w:=by simp [part,run_agg c,yq,xp hi]
    refine ⟨_,_,O,N,?_⟩;rw [run_equalIn_struct w D t _ _ (by simp_all) (by simp_all),x];have C:VA g ((a5.drop off).take n.length) (xs.extract off (off+i.size)).toList:=by
     rw [Array.toList_extract,rc,show off+i.size - off=i.size by omega,l];exact VA.take _ (VA.drop _ I)
    have E:VA g ((bs.drop off).take n.length) (m.extract off (off+i.size)).toList:=by
     rw [Array.toList_extract,rc,show off+i.size - off=i.size by omega,l];exact VA.take _ (VA.drop _ G)
    exact eqF ih fs.toList 0 h C E (by simp_all) D (by omega)
  ·cases h
theorem eqItems_sound {e:TypeId} {i:TypeInfo} (o:xN P 1 e=some [.i]) (hi:P.info? e=some i) (hs:i.size=1) {us vs:Array Value} {cs ds:List AV} (p:VA g cs us.toList) (y:VA g ds vs.toList):∀(m s:Nat) {r:Bool},
  qT (List.replicate m .i) (cs.drop s) (ds.drop s)=some r->∀D,1<=D->(Op.eqItems D e (P.cellsOf e) us vs (List.range' s m)).run P w=.ok r w:=by
 have z:P.cellsOf e=1:=by simp [Program.cellsOf,hi,hs]
 intro m
 induction m with
 | zero =>
  intro s r h D _;rcases f:cs.drop s with _ | ⟨a,a5⟩ <;> rcases c:ds.drop s with _ | ⟨b,bs⟩ <;> simp [f,c,qT] at h;subst h;rfl
 | succ m ih =>
  intro s r h D j;obtain ⟨l,A,f,c,d,_⟩:=aEqL_split [.i] (ls:=List.replicate m .i) (by simpa [sE] using h);obtain ⟨u,v,q,n,x⟩:=eqE (P:=P) (w:=w) 1 o hi hs p y (off:=s) f D j;have k:=ih (s+1) (by rw [tG,tG] at c;exact c) D j;rw [z] at k ⊢;simp only [List.range'_succ,Op.eqItems,Nat.mul_one,Sem.run_bind,q,n,x,Result.andThen_ok];cases l with
  | true=>simp at d;subst d;simpa using k
  | false=>simp at d;subst d;simp
end
end Go.Vv
namespace Go.Vv
open Go Go.RowKit Go.Lib
variable {op:BinOp} {t ty:TypeId} {a b v:AV} {x y:Value} {ox oy:Operand} {d:TypeDesc}
section
variable {P:Program} {w:World} {g:Gh} {h:AH} {B:Nat} {w0:World}
theorem str_size (s:List UInt8):(⟨s.toArray⟩:ByteArray).size=s.length:=by rfl

def scal:AV->Value
 | .bool b=>.bool b
 | .int k n=>.int k n
 | .str s=>.string ⟨s.toArray⟩
 | _=>undef

theorem int_sound {k k':IntKind} {a b:Int} (i:k=k' \/ op=.shl \/ op=.shr) {ox oy:Operand} {v:AV} (c:yZ op k a b=some v) :
  ∃u,(do eqGuard op t ox oy (.int k a) (.int k' b);binOp op t (.int k a) (.int k' b):Sem Value).run P w=.ok u w/\V g v u:=by
 refine ⟨scal v,?_,?_⟩
 ·simp only [eqGuard_at_int];cases op <;> simp only [yZ,uf] at c
  case shl =>
   split at c
   ·cases c
   ·rename_i f;cases c;simp [binOp,Op.shift,f,scal]
  case shr =>
   split at c
   ·cases c
   ·rename_i f;cases c;simp [binOp,Op.shift,f,scal]
  case quo =>
   have e:k=k':=by simp_all
   split at c
   ·cases c
   ·rename_i f;cases c;simp [binOp,Op.intDiv,f,scal,e]
  case rem =>
   have e:k=k':=by simp_all
   split at c
   ·cases c
   ·rename_i f;cases c;simp [binOp,Op.intDiv,f,scal,e]
  all_goals
   have e:k=k':=by simp_all
   subst e c;simp [binOp,Op.intArith,Op.intCmp,Op.intBits,scal]
 ·cases op <;> simp only [yZ,uf] at c <;> first
   | (subst c;simp only [scal,V];done)
   | (
         split at c
         · cases c
         · cases c;simp only [scal,V])

theorem str_sound {x y:List UInt8} (c:aStr op x y=some v) :
  ∃u,(do eqGuard op t ox oy (.string ⟨x.toArray⟩) (.string ⟨y.toArray⟩);binOp op t (.string ⟨x.toArray⟩) (.string ⟨y.toArray⟩):Sem Value).run P w=.ok u w/\V g v u:=by
 refine ⟨scal v,?_,?_⟩
 ·simp only [eqGuard_at_string];cases op <;> simp only [aStr,uf,reduceCtorEq] at c
  case add =>
   split at c
   ·rename_i e;cases c;have f:¬ ((9223372036854775807:Int) < (x.length:Int)+(y.length:Int)):=by simp only [maxLen] at e;omega
    simp [binOp,Op.stringOp,str_size,f,scal];rfl
   ·cases c
  all_goals
   subst c;simp [binOp,Op.stringOp,scal]
 ·cases op <;> simp only [aStr,uf,reduceCtorEq] at c <;> first
   | (subst c;simp only [scal,V];done)
   | (
         split at c
         · rename_i e;cases c;simp only [scal,V];exact ⟨trivial,by simp_all⟩
         · cases c)

theorem nil_sound (hd:P.underlying t=some d) {a b:AV} {x y:Value} (c:V g a x) (e:V g b y) {r:Bool} (i:aNil d a b=some r) (D:Nat):(Op.equalIn (D+1) t x y).run P w=.ok r w:=by
 unfold aNil at i;split at i <;> first
  | (
       cases i;simp only [V] at c e
       first
         | (subst c e;simp [Op.equalIn,yp hd];done)
         | (obtain ⟨_,_,rfl⟩:=c;subst e;simp [Op.equalIn,yp hd];done)
         | (obtain ⟨_,_,rfl⟩:=e;subst c;simp [Op.equalIn,yp hd];done)
         | (obtain ⟨_,_,rfl,_⟩:=c;subst e;simp [Op.equalIn,yp hd];done)
         | (obtain ⟨_,_,rfl,_⟩:=e;subst c;simp [Op.equalIn,yp hd];done)
         | (obtain ⟨_,_,_,rfl,_⟩:=c;subst e;simp [Op.equalIn,yp hd];done)
         | (
      obtain ⟨_,_,rfl,_,_,f⟩:=c;subst e;rcases f with f | ⟨_,_,rfl,_⟩
      ·cases f
      ·simp [Op.equalIn,yp hd])
         | (
      obtain ⟨_,_,rfl,_,_,f,_⟩:=c;subst e;rcases f with f | ⟨_,_,rfl,_⟩
      ·cases f
      ·simp [Op.equalIn,yp hd]))
  | cases i

theorem eq_sound (l:V g a x) (k:V g b y) {r:Bool} (f:aEq P t a b=some r):(Op.equalIn 10000 t x y).run P w=.ok r w:=by
 unfold aEq at f;split at f
 ·rename_i cs ds;split at f
  ·rename_i z;split at f
   ·rename_i A c;simp only [V] at l k;obtain ⟨us,rfl,o⟩:=l;obtain ⟨vs,rfl,p⟩:=k;have q:=z.2;rcases hd:P.underlying t with _ | d
    ·simp_all
    ·cases d <;> simp [hd,yq] at q
     ·rename_i n e;simp only [xN,arrKs,hd,Option.none_or] at c;split at c
      ·rename_i j i u hi;split at c
       ·rename_i hs;cases c;rw [show (10000:Nat)=9999+1 from rfl,run_equalIn_array w 9999 us vs hd hi,List.range_eq_range'];exact eqItems_sound (by simp [xN,u]) hi hs o p n 0 (by simp_all) 9999 (by omega)
       ·cases c
      ·cases c
     ·rename_i fs;have m:P.fieldsOf t=fs:=by simp [Program.fieldsOf,hd]
      simp only [xN,arrKs,hd,Option.or_none] at c;split at c
      ·cases c
      ·rename_i s;rw [show (10000:Nat)=9999+1 from rfl,run_equalIn_struct w 9999 t _ _ (by simp_all) (by simp_all),m];exact eqF (eqE 5) fs.toList 0 c o p (by simp_all) 9999 (by omega)
   ·cases f
  ·cases f
 ·split at f
  ·rename_i hd;cases f;simp only [V] at l k;subst l k;exact run_equalIn_bool w 9999 t _ _ hd
  ·cases f
 ·split at f
  ·rename_i d hd;exact nil_sound hd l k f 9999
  ·cases f

theorem eq_bin (c:V g a x) (e:V g b y) {r:Bool} (i:aEq P t a b=some r) :
  (do eqGuard .eql t ox oy x y;binOp .eql t x y:Sem Value).run P w=.ok (.bool r) w/\(do eqGuard .neq t ox oy x y;binOp .neq t x y:Sem Value).run P w=.ok (.bool !r) w:=by
 have f:=eq_sound (w:=w) c e i;unfold aEq at i;split at i
 ·split at i
  ·rename_i j;simp only [V] at c e;obtain ⟨us,rfl,_⟩:=c;obtain ⟨vs,rfl,_⟩:=e;simp [run_eqGuard_agg w _ t ox oy us vs j.1,run_eql_struct,run_neq_struct,f]
  ·cases i
 ·simp only [V] at c e;subst c e;simp [eqGuard_at_bool,binOp,Op.equal,Op.maxDepth,f]
 ·split at i
  ·unfold aNil at i;split at i <;> first
    | (cases i;done)
    | (
           simp only [V] at c e
           first
             | (subst c e;simp [eqGuard,binOp,Op.equal,Op.maxDepth,f];done)
             | (obtain ⟨_,_,rfl⟩:=c;subst e;simp [eqGuard,binOp,Op.equal,Op.maxDepth,f];done)
             | (obtain ⟨_,_,rfl⟩:=e;subst c;simp [eqGuard,binOp,Op.equal,Op.maxDepth,f];done)
             | (obtain ⟨_,_,rfl,_⟩:=c;subst e;simp [eqGuard,binOp,Op.equal,Op.maxDepth,f];done)
             | (obtain ⟨_,_,rfl,_⟩:=e;subst c;simp [eqGuard,binOp,Op.equal,Op.maxDepth,f];done)
             | (obtain ⟨_,_,_,rfl,_⟩:=c;subst e;simp [eqGuard,binOp,Op.equal,Op.maxDepth,f];done)
             | (obtain ⟨A,C,k,_⟩:=c;subst e;rw [k] at f ⊢;revert f;generalize List.length _=n;intro f;simp [eqGuard,binOp,Op.equal,Op.maxDepth,f];done))
  ·cases i

theorem ifc_sound (f:V g a x) (i:V g b y) (c:aIfc P op t oy a b=some v) :
  ∃u,(do eqGuard op t ox oy x y;binOp op t x y:Sem Value).run P w=.ok u w/\V g v u:=by
 unfold aIfc at c;split at c
 ·rename_i hd;simp only [V] at f i;subst f i;have e:(Op.equalIn 10000 t .nilIface .nilIface).run P w=.ok true w:=(show ∀D,(Op.equalIn (D+1) t .nilIface .nilIface).run P w=.ok true w from λD=>by simp [Op.equalIn,yp hd]) 9999;split at c
  ·cases c;exact ⟨.bool true,by simp [eqGuard,binOp,Op.equal,Op.maxDepth,e],by simp only [V]⟩
  ·cases c;exact ⟨.bool false,by simp [eqGuard,binOp,Op.equal,Op.maxDepth,e],by simp only [V]⟩
  ·cases c
 ·rename_i hd;simp only [V] at f i;obtain ⟨u,rfl,_⟩:=f;subst i;rename_i tt _ _;have e:(Op.equalIn 10000 t (.iface tt u) .nilIface).run P w=.ok false w:=(show ∀D,(Op.equalIn (D+1) t (.iface tt u) .nilIface).run P w=.ok false w from λD=>by simp [Op.equalIn,yp hd]) 9999;split at c
  ·cases c;exact ⟨.bool false,by simp [eqGuard,binOp,Op.equal,Op.maxDepth,e],by simp only [V]⟩
  ·cases c;exact ⟨.bool true,by simp [eqGuard,binOp,Op.equal,Op.maxDepth,e],by simp only [V]⟩
  ·cases c
 ·cases c

theorem nilq_sound {h:AH} (u:V g a x) (s:V g b y) {S:AV->AH->Prop} (l:aNilq P op t h a b=some S) :
  ∃r,(do eqGuard op t ox oy x y;binOp op t x y:Sem Value).run P w=.ok (.bool r) w/\S (.bool r) h:=by
 have p:∀(D:Nat) (es:List (List AV)) (i:Option Addr) (c:Nat) (e:TypeId),P.underlying t=some (.slice e)->(es=[] \/ ∃b o,i=some ⟨b,o,none⟩)->∃r,(Op.equalIn (D+1) t (.slice i es.length c) (.slice none 0 0)).run P w=.ok r w/\(r=true->es=[]):=by
  intro D es i c e j f;cases i with
  | none =>
   rcases f with rfl | ⟨_,_,h⟩
   ·exact ⟨true,by simp [Op.equalIn,yp j],λ_=>rfl⟩
   ·cases h
  | some i=>exact ⟨false,by simp [Op.equalIn,yp j],λh=>by cases h⟩
 have key:∀(es:List (List AV)) (i:Option Addr) (c:Nat) (e:TypeId),P.underlying t=some (.slice e)->(es=[] \/ ∃b o,i=some ⟨b,o,none⟩)->∃r,(Op.equalIn 10000 t (.slice i es.length c) (.slice none 0 0)).run P w=.ok r w/\(r=true->es=[]):=λes i c e j f=>p 9999 es i c e j f;unfold aNilq at l;split at l
 ·rename_i k es;simp only [V] at u s;obtain ⟨i,c,rfl,_,_,f⟩:=u;subst s;split at l
  ·rename_i e j;obtain ⟨r,n,m⟩:=key es i c e j (f.imp id λ⟨b,o,h,_⟩=>⟨b,o,h⟩);cases l;exact ⟨r,by simp [eqGuard,binOp,Op.equal,Op.maxDepth,n],rfl,r,rfl,m⟩
  ·rename_i e j;obtain ⟨r,n,m⟩:=key es i c e j (f.imp id λ⟨b,o,h,_⟩=>⟨b,o,h⟩);cases l;exact ⟨!r,by simp [eqGuard,binOp,Op.equal,Op.maxDepth,n],rfl,r,rfl,m⟩
  ·cases l
 ·rename_i q k es;simp only [V] at u s;obtain ⟨i,c,rfl,_,_,f,_⟩:=u;subst s;split at l
  ·rename_i e j;obtain ⟨r,n,m⟩:=key es i c e j (f.imp id λ⟨b,o,h,_⟩=>⟨b,o,h⟩);cases l;exact ⟨r,by simp [eqGuard,binOp,Op.equal,Op.maxDepth,n],rfl,r,rfl,m⟩
  ·rename_i e j;obtain ⟨r,n,m⟩:=key es i c e j (f.imp id λ⟨b,o,h,_⟩=>⟨b,o,h⟩);cases l;exact ⟨!r,by simp [eqGuard,binOp,Op.equal,Op.maxDepth,n],rfl,r,rfl,m⟩
  ·cases l
 ·cases l
theorem bin_sound (e:V g a x) (f:V g b y) (c:yG P op t a b=some v) :
  ∃u,(do eqGuard op t ox oy x y;binOp op t x y:Sem Value).run P w=.ok u w/\V g v u:=by
 unfold yG at c;split at c
 ·split at c
  ·rename_i i;simp only [V] at e f;subst e f;exact int_sound i c
  ·cases c
 ·simp only [V] at e f;obtain ⟨rfl,_⟩:=e;obtain ⟨rfl,_⟩:=f;exact str_sound c
 ·split at c
  ·rcases hr:aEq P t a b with _ | r
   ·simp_all
   ·simp [hr] at c;subst c;exact ⟨_,(eq_bin e f hr).1,by simp only [V]⟩
  ·rcases hr:aEq P t a b with _ | r
   ·simp_all
   ·simp [hr] at c;subst c;exact ⟨_,(eq_bin e f hr).2,by simp only [V]⟩
  ·cases c

theorem un_sound {op:UnOp} (e:V g a x) (c:aUn op a=some v):∃u,(Op.unary op x).run P w=.ok u w/\V g v u:=by
 unfold aUn at c;split at c
 ·simp only [V] at e;subst e;split at c
  ·cases c;exact ⟨_,rfl,by simp only [V]⟩
  ·cases c;exact ⟨_,rfl,by simp only [V]⟩
  ·cases c
 ·simp only [V] at e;subst e;split at c
  ·cases c;exact ⟨_,by rfl,by simp only [V]⟩
  ·cases c
 ·cases c

theorem convert_sound {s:TypeId} {ds:TypeDesc} (hs:P.underlying s=some ds) (hd:P.underlying t=some d) {a v:AV} {x:Value} (e:V g a x) (c:aConvert d a=some v) :
  ∃u,(convert s t x).run P w=.ok u w/\V g v u:=by
 unfold aConvert at c;split at c
 ·simp only [V] at e;subst e;split at c
  ·cases c;exact ⟨_,by simp [convert,yp hs,yp hd,Conv.intToInt];rfl,by simp only [V]⟩
  ·cases c
 ·simp only [V] at e;obtain ⟨rfl,f⟩:=e;split at c
  ·cases c;exact ⟨_,by simp [convert,yp hs,yp hd];rfl,by simp only [V];exact ⟨trivial,f⟩⟩
  ·cases c
 ·cases c

theorem len_str_sound (f:P.underlying t=some .string) {s:List UInt8} {x:Value} (c:V g (.str s) x) :
  (Builtin.len_ #[t] ty #[x]).run P w=.ok (.int .i64 s.length) w/\s.length<=maxLen:=by
 simp only [V] at c;obtain ⟨rfl,e⟩:=c;exact ⟨by simp [Builtin.len_,yp f,str_size,goInt],e⟩
theorem len_sl_sound {e:TypeId} (i:P.underlying t=some (.slice e)) {a:AV} {x:Value} (c:V g a x) {n:Nat} (f:aLen a=some n) :
  (Builtin.len_ #[t] ty #[x]).run P w=.ok (.int .i64 n) w/\n<=maxLen:=by
 unfold aLen at f;split at f <;> first
  | (
       cases f;simp only [V] at c
       first
         | (obtain ⟨_,_,rfl,k,j,_⟩:=c;exact ⟨by simp [Builtin.len_,yp i,goInt],by omega⟩)
         | (obtain ⟨_,_,_,rfl,k,j⟩:=c;exact ⟨by simp [Builtin.len_,yp i,goInt],by omega⟩)
         | (subst c;exact ⟨by simp [Builtin.len_,yp i,goInt],by simp⟩))
  | cases f

theorem VA.flatten {z:List AV} {c:List Value} (h:VA g z c):∀n,VA g (List.replicate n z).flatten (List.replicate n c).flatten
 | 0=>by rfl
 | n+1=>by
  simp only [sE,uY];exact VA.append h (VA.flatten h n)
theorem range_rep (c:Array Value):∀n:Nat,(List.range (n * c.size)).map (λi=>c[i % c.size]!)=(List.replicate n c.toList).flatten
 | 0=>by simp
 | n+1=>by
  rw [so,pP,List.range_add,si,sE,uY,<- range_rep c n,s8];congr 1
  ·apply List.ext_getElem
   ·simp
   ·intro i f e;simp at f e;simp [pq e,e]
  ·simp_all

theorem aFill_len {c:Nat->Option (Nat×Nat)}:∀{parts:List (Nat×AV)} {cs out:List AV},qc c cs parts=some out->out.length=cs.length
 | [],cs,out,h=>by simp only [qc,uf] at h;rw [h]
 | (i,v)::r,cs,out,h=>by
  simp only [qc] at h;split at h
  ·split at h
   ·rename_i e;rw [aFill_len h];simp [yP];omega
   ·cases h
  ·cases h
theorem buildSlice_sound (r:Rel B w0 g h w) {t e:TypeId} {n:Nat} {i:TypeInfo} {z cs out:List AV} {env:List AV} {a:Act} (he:VL g env a.tmps.toList) {parts:Array (Nat×Operand)} (L:(parts.all λp=>yf p.2)=true)
  (Q:P.underlying t=some (.slice e)) (hi:P.info? e=some i) (X:xQ P e=some z) (f:0 < i.size) (Y:n * i.size<=65536) (q:z.length=i.size)
  (A:qc (λj=>some (j * i.size,i.size)) ((List.replicate n z).flatten) (xj P (.slice e) env parts)=some cs) (N:xF cs=some out) :
  ∃u w' g',(Instr.buildSlice t n (parts.map λ(i,x)=>(i,a.eval x))).run P w=.ok u w'/\g.le g'/\Rel B w0 g' h w'/\V g' (.osl none i.size (rows i.size n out)) u:=by
 obtain ⟨i',F,c,I,s⟩:=vj (g:=g) X;rw [hi] at c;injection c with c;subst c;have K:F.cells.size=i.size:=by rw [<- q,s.length];rfl
 rcases ru n with rfl | Z
 ·-- empty
  simp only [List.replicate_zero,rI] at A;rcases hp:xj P (.slice e) env parts with _ | ⟨⟨j,v⟩,rest⟩
  ·have H:parts=#[]:=by
    have:parts.toList=[]:=by simpa [xj] using hp
    simp_all
   subst H;refine ⟨.slice (some ⟨w.heap.size,0,none⟩) 0 0,w.alloc (.cells #[] e),g,by simp [Instr.buildSlice,yp Q,xp hi,Instr.fill,newRow];congr 2;apply rZ;simp,Gh.le.refl g,r.alloc0 _,?_⟩;simp only [rows,V]
   simp_all
  ·rw [hp] at A;simp only [qc] at A
   grind
 ·have M:¬ (n * i.size=0):=by
   have:=ph Z f;omega
  obtain ⟨U,R⟩:=parts_rel (P:=P) (d:=.slice e) he L;have D:=VA.flatten s n;obtain ⟨xs,J,G⟩:=fill_sound (place':=λj=>some (j * i.size,i.size)) (λi x h=>h) (us:=(Array.range (n * i.size)).map (F.cells[· % F.cells.size]!))
   (by rw [<- K,s7,rx,range_rep];exact D) U R A
  have l:=clean_sound G N;have o:out.length=n * i.size:=by
   rw [clean_len N,aFill_len A];simp [q]
  have T:xs.size=n * i.size:=by rw [<- o,l.length];rfl
  have C:=run_buildSlice w t e n _ xs i F Q hi I (by omega) M J;have S:=r.newRow xs e xs.size;have E:=g.le_vow w.heap.size λj=>if j < xs.size then xs[j]? else none
  obtain ⟨e1,O,e3⟩:=rows_flat (k:=i.size) n out o;refine ⟨_,_,_,C,E,S,?_⟩;simp only [V];refine ⟨some ⟨w.heap.size,0,none⟩,n,by rw [O],by omega,by simp only [maxLen];have:=rz n f;omega,.inr ⟨w.heap.size,0,rfl,?_⟩,by rw [O]⟩;refine VE_iff.2 ⟨e3,?_⟩;rw [e1];refine VC.ofVA (l.mono E _ _) (clean_pure N) λj u W=>?_;have hj:j < xs.size:=by
   grind
  have m:g.Φ w.heap.size j=none:=by
   rcases he':g.Φ w.heap.size j with _ | v
   ·rfl
   ·exact absurd (r.phi_lt he') (tu _)
  simp only [Gh.vow,ur,u5,m,uG hj]
  grind
end
end Go.Vv
