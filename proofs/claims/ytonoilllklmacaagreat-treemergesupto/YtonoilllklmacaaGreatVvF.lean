/- Each operation of the model, on values that stand to abstract ones, comes to what the abstract operation says: loads, stores, addresses, parts. -/
import Derived.Test.YtonoilllklmacaaGreatVvC
import Derived.Great.BuildSlice
import Derived.ChangeKeysEq
set_option linter.all false
namespace Go.Vv
open Go Go.RowKit
variable {t u e:TypeId} {i:TypeInfo} {d:TypeDesc} {off:Nat}

theorem wi (b o i:Nat):(⟨b,o,none⟩:Addr).add i=⟨b,o+i,none⟩:=by unfold Addr.add;split <;> simp_all

section
variable {P:Program} {w:World} {g:Gh} {h:AH} {B:Nat} {w0:World}

theorem yr {t:TypeId} {d:TypeDesc} (h:P.underlying t=some d):(underlying t).run P w=.ok d w:=run_underlying h w
theorem run_ti (h:P.info? t=some i):(typeInfo t).run P w=.ok i w:=by simp [typeInfo,h]
theorem xy (h:P.info? t=some i):(sizeOf t).run P w=.ok i.size w:=by simp [sizeOf,run_ti h]
theorem run_agg (h:P.underlying t=some d):(isAgg t).run P w=.ok (yA d) w:=by
 simp only [isAgg,Sem.run_bind,yr h,Result.andThen_ok];cases d <;> rfl
theorem run_zero {z:Value} (h:P.info? t=some i) (a:i.zero=some z):(zeroValue t).run P w=.ok z w:=by
 simp [zeroValue,run_ti h,a]

theorem loadCells_at (b o:Nat) (us:List Value) (h:∀j u,us[j]?=some u->w.cell? ⟨b,o+j,none⟩=some u):(loadCells ⟨b,o,none⟩ us.length).run P w=.ok us.toArray w :=
 run_loadCells_list w ⟨b,o,none⟩ us λj u a=>by rw [wi];exact h j u a

theorem V.ofUndef:V g aundef undef:=by simp only [aundef,V];exact ⟨#[],rfl,by simp [VL]⟩

theorem V.cv1 {v:Value} (h:okc1 v=true):V g (cv1 v) v:=by
 unfold okc1 at h;split at h <;> simp only [Vv.cv1,V] <;> first | trivial | skip
 ·simp_all
theorem cv1_one {v:Value} (h:okc1 v=true):(Vv.cv1 v).one=true:=by
 unfold okc1 at h;split at h <;> first | rfl | cases h
theorem VA.cvs:∀{vs:List Value},vs.all okc1=true->VA g (vs.map Vv.cv1) vs
 | [],_=>by rfl
 | v::r,h=>by
  simp only [tf,ud] at h;simp only [uw,VA];exact ⟨v,r,rfl,⟨cv1_one h.1,V.cv1 h.1⟩,VA.cvs h.2⟩
theorem V.cv {v:Value} (h:okc v=true):V g (cv v) v:=by
 unfold okc at h;split at h
 ·rename_i cs;simp only [Vv.cv,V];exact ⟨cs,rfl,VA.cvs h⟩
 ·rename_i vs;have:vs=#[]:=by simpa using h
  subst this;exact V.ofUndef
 ·rename_i a b;cases v <;> first | exact V.cv1 h | exact absurd rfl (a _) | exact absurd rfl (b _)

theorem V.cells1 {a:AV} {v:Value} (h0:a.one=true) (b:V g a v):v.cells.toList=[v]:=by
 cases a <;> simp only [V] at b <;> first
  | (subst b;rfl)
  | (obtain ⟨rfl,_⟩:=b;rfl)
  | (obtain ⟨_,_,rfl⟩:=b;rfl)
  | (obtain ⟨_,_,rfl,_⟩:=b;rfl)
  | (obtain ⟨_,_,_,rfl,_⟩:=b;rfl)
  | (obtain ⟨_,rfl,_⟩:=b;rfl)
  | (simp [AV.one] at h0;done)
  | (rename_i k;cases k <;> obtain ⟨_,rfl⟩:=b <;> rfl)
  | (cases v <;> first | rfl | cases b)
theorem cells?_cases {a:AV} {cs:List AV} (hc:a.cells?=some cs):(a=.agg cs) \/ (a.one=true/\cs=[a]):=by
 cases a <;> simp only [AV.cells?,ui,reduceCtorEq] at hc <;> first
  | (subst hc;exact .inl rfl)
  | (subst hc;exact .inr ⟨rfl,rfl⟩)
theorem V.cells {a:AV} {v:Value} {cs:List AV} (h:V g a v) (hc:a.cells?=some cs):VA g cs v.cells.toList:=by
 rcases cells?_cases hc with rfl | ⟨h0,rfl⟩
 ·simp only [V] at h;obtain ⟨vs,rfl,b⟩:=h;exact b
 ·rw [V.cells1 h0 h];simp only [VA]
  simp_all

theorem V.tyfix {t:TypeId} {a:AV} {v:Value} (h:V g a v):V g (tyfix P t a) v:=by
 unfold Vv.tyfix;split
 ·split
  ·simp only [V] at h ⊢
   simp_all
  ·exact h
 ·exact h

theorem V.ev {env:List AV} {a:Act} (b:VL g env a.tmps.toList) {x:Operand} (c:yv x=true):V g (ev env x) (a.eval x):=by
 cases x with
 | tmp t =>
  simp only [Vv.ev,Act.eval];rcases ht:env[t]? with _ | k
  ·have l:env.length<=t:=by simpa using ht
   have j:a.tmps.getD t undef=undef:=by
    have:=b.length
    simp_all
   rw [j,tI,ht];exact V.ofUndef
  ·obtain ⟨v,m,o⟩:=b.get t k ht
   simp_all
 | const v=>exact V.cv c
 | global n=>simp only [Vv.ev,Act.eval,V]
 | func f=>simp only [Vv.ev,Act.eval,V,VL];exact ⟨#[],#[],rfl,rfl,rfl⟩

theorem qR:∀{a5 bs:List AV} {vs:List Value},VA g a5 vs->xB a5=some bs->VA g bs vs
 | [],bs,vs,h,hc=>by simp only [xB,ui] at hc;subst hc;exact h
 | a::r,bs,vs,h,hc=>by
  simp only [xB] at hc;split at hc
  ·rename_i a' k b f;cases hc;simp only [VA] at h ⊢;obtain ⟨v,s,rfl,⟨h0,j⟩,c⟩:=h;refine ⟨v,s,rfl,?_,qR c f⟩;unfold aClean at b;split at b
   ·cases b;refine ⟨rfl,?_⟩;simp only [V] at j ⊢
    grind
   ·cases b
   ·simp_all
  ·cases hc
theorem clean_pure:∀{a5 bs:List AV},xB a5=some bs->bs.all AV.pure=true
 | [],bs,h=>by simp only [xB,ui] at h;subst h;rfl
 | a::r,bs,h=>by
  simp only [xB] at h;split at h
  ·rename_i a' j b c;cases h;have f:a'.pure=true:=by
    unfold aClean at b;split at b
    ·cases b;rfl
    ·cases b
    ·grind
   simp [f,clean_pure c]
  ·cases h
theorem rows_flat {k:Nat}:∀(n:Nat) (cs:List AV),cs.length=n * k->(rows k n cs).flatten=cs/\(rows k n cs).length=n/\∀e ∈ rows k n cs,e.length=k
 | 0,cs,h=>by simp at h;subst h;simp [rows]
 | n+1,cs,h=>by
  rw [t8] at h;obtain ⟨c,b,f⟩:=rows_flat (k:=k) n (cs.drop k) (by simp;omega);refine ⟨by simp [rows,c],by simp [rows,b],λe a=>?_⟩;simp only [rows,uP] at a
  grind
theorem qS:∀{a5 bs:List AV},xB a5=some bs->bs.length=a5.length
 | [],bs,h=>by simp only [xB,ui] at h;rw [<- h]
 | a::r,bs,h=>by
  simp only [xB] at h;split at h
  ·rename_i a' c _ b;cases h;simp [qS b]
  ·cases h

theorem load_sound (r:Rel B w0 g h w) {t:TypeId} {d:TypeDesc} {i:TypeInfo} (hd:P.underlying t=some d) (hi:P.info? t=some i) {p v:AV} {pv:Value} (C:V g p pv)
  (f:aLoad h (yA d) i.size p=some v):∃u,(Instr.loadAt t pv).run P w=.ok u w/\V g v u:=by
 have l:∀(b o:Nat) (cs:List AV) (us:List Value),VA g cs us->(∀j u,us[j]?=some u->w.cell? ⟨b,o+j,none⟩=some u) ->
   (if yA d then (if i.size<=cs.length then some (AV.agg (cs.take i.size)) else none) else cs[0]?)=some v ->
   ∃u,(Instr.loadAt t (.pointer (some ⟨b,o,none⟩))).run P w=.ok u w/\V g v u:=by
  intro b o cs us S hc f;cases G:yA d with
  | true =>
   simp only [G,ut] at f;split at f
   ·rename_i R;cases f;have A:(us.take i.size).length=i.size:=by rw [tq,<- S.length];omega
    have K:=loadCells_at (P:=P) (w:=w) b o (us.take i.size) λj u s=>by
     grind
    rw [A] at K;refine ⟨.agg (us.take i.size).toArray,?_,?_⟩
    ·simp [Instr.loadAt,Instr.sureAddr,loadVar,run_agg hd,G,xy hi,K]
    ·simp only [V];exact ⟨_,rfl,VA.take _ S⟩
   ·cases f
  | false =>
   simp only [G,um,uJ] at f;obtain ⟨u,s,U⟩:=S.toVL.get 0 v f;refine ⟨u,?_,U⟩;have:=hc 0 u s;rw [tL] at this;simp [Instr.loadAt,Instr.sureAddr,loadVar,run_agg hd,G,run_load,this]
 unfold aLoad at f;split at f
 ·rename_i id off;simp only [V] at C;obtain ⟨c,hc,rfl⟩:=C;split at f
  ·rename_i cs H;obtain ⟨h1,h2,⟨vs,ty,n,z⟩,h4⟩:=r.blk id c _ hc H;refine l c off (cs.drop off) (vs.toList.drop off) (VA.drop off z) (λj u s=>?_) ?_
   ·rw [uB] at s;rw [cell_of_row w c (off+j) vs ty (0,0) n,<- uF];exact s
   ·grind
  ·rename_i T x H;split at f
   ·rename_i W;obtain ⟨G,rfl⟩:=W;cases f;obtain ⟨h1,h2,⟨a,u,n,_,I,U⟩,h4⟩:=r.blk id c _ hc H;refine l c 1 [v] [u] (by simp only [VA];exact ⟨u,[],rfl,⟨I,U⟩,rfl⟩) (λj y X=>?_) (by rw [G];rfl);rw [cell_of_row w c (1+j) #[a,u] T (0,0) n];cases j with
    | zero=>simpa using X
    | succ j=>simp at X
   ·cases f
  ·cases f
 ·rename_i cs;simp only [V] at C;obtain ⟨b,o,rfl,D⟩:=C;obtain ⟨us,z,_,F⟩:=D.toVA;exact l b o cs us z (λj u s=>r.phi _ _ _ (F j u s)) f
 ·rename_i cs;simp only [V] at C;obtain ⟨b,o,rfl,D⟩:=C;obtain ⟨us,z,F⟩:=D.toVA r;exact l b o cs us z F f
 ·rename_i id q k m p;simp only [V] at C;obtain ⟨b,o,rfl,t2,ht2,hrd,R,Q⟩:=C;split at f
  ·rename_i q' k' es H;split at f
   ·rename_i hc;obtain ⟨rfl,rfl,rfl⟩:=hc;obtain ⟨_,ti,hti,Y,O,A,hpe,L⟩:=r.rowAt H;obtain rfl:ti=t2:=by simp_all
    obtain ⟨N,e',rfl,J⟩:=Q O.symm;have M:(if yA d then (if i.size<=(es.flatten.drop p).length then some (AV.agg ((es.flatten.drop p).take i.size)) else none) else (es.flatten.drop p)[0]?)=some v:=by
     grind
    rcases L with rfl | ⟨b2,o2,e2,cs,ty2,E,k2,k3,k4,k5⟩
    ·exact l b (N+p) _ [] (by simp [VA]) (λj u s=>by simp at s) M
    ·rw [J] at E;injection E with E;injection E with Z E;injection E with E _;obtain rfl:N=o2:=by omega
     subst Z;refine l b (N+p) _ _ (VA.drop p k3) (λj u s=>?_) M;rw [uB,uu] at s;split at s
     ·rw [uB,uF] at s;rw [cell_of_row w b (N+p+j) cs ty2 (0,0) k2,<- s];congr 1;omega
     ·cases s
   ·cases f
  ·cases f
 ·cases f

theorem splice_VA {cs vs:List AV} {us xs:List Value} (h:VA g cs us) (k:VA g vs xs):VA g (y8 cs off vs) (us.take off++xs++us.drop (off+xs.length)):=by
 unfold y8;rw [k.length];exact ((VA.take off h).append k).append (VA.drop _ h)

theorem HK.fit_ok {k:HK} {a:AV} {v:Value} (b:k.fit a=true) (c:V g a v):k.ok v:=by
 cases a with
 | hol k' =>
  have:k=k':=by cases k <;> simpa [HK.fit] using b
  subst this;simpa only [V] using c
 | _=>cases k <;> simp_all [HK.fit,V,HK.ok]
theorem hole_run {b:Nat}:∀{o:Nat} {cs vs:List AV} {us:List Value},VCh g b o cs->hfit cs vs=true->VA g vs us->vs ≠ []->∃s f,g.N b=some (.gar s f)/\∀j u,us[j]?=some u->∃y,f (o+j)=some y/\y.ok u
 | _,_,[],_,_,_,_,h=>absurd rfl h
 | _,[],_::_,_,_,hf,_,_=>by simp [hfit] at hf
 | o,c::cs,v::vs,us,hc,hf,hu,_=>by
  cases c with
  | hol k =>
   simp only [hfit,ud] at hf;simp only [VCh] at hc;simp only [VA] at hu;obtain ⟨u,C,rfl,⟨_,D⟩,a⟩:=hu;have A:∃s f,g.N b=some (.gar s f)/\f o=some k:=by
    rcases hc.1 with p | ⟨_,_,p,_⟩
    ·exact p
    ·cases p
   obtain ⟨s,f,z,q⟩:=A;refine ⟨s,f,z,λj x r=>?_⟩;cases j with
   | zero =>
    simp only [sR,ui] at r;subst r;exact ⟨k,q,HK.fit_ok hf.1 D⟩
   | succ j =>
    have l:C[j]?=some x:=by simpa using r
    by_cases hvs:vs=[]
    ·subst hvs;simp only [VA] at a;subst a;simp at l
    ·obtain ⟨E,F,m,n⟩:=hole_run hc.2 hf.2 a hvs;rw [z] at m;cases m;have:=n j x l;rw [show o+1+j=o+(j+1) by omega] at this;exact this
  | _=>simp [hfit] at hf
theorem store_sound (r:Rel B w0 g h w) {t:TypeId} {i:TypeInfo} (hi:P.info? t=some i) {p v:AV} {pv u:Value} (S:V g p pv) (hv:V g v u) {h':AH}
  (hs:aStore h i.size p v=some h'):∃w',(Instr.storeAt t pv u).run P w=.ok () w'/\Rel B w0 g h' w':=by
 unfold aStore at hs;split at hs
 ·rename_i id off vs F;split at hs
  ·rename_i cs K;split at hs
   ·rename_i D;cases hs;simp only [V] at S;obtain ⟨c,hc,rfl⟩:=S;obtain ⟨h1,h2,⟨xs,ty,l,hva⟩,h4⟩:=r.blk id c _ hc K;have n:=hv.cells F;have A:u.cells.size=i.size:=by rw [<- D.1,n.length];rfl
    have hxl:cs.length=xs.size:=by rw [hva.length];rfl
    have z:=run_storeCells_at P c off ty u.cells.toList 0 xs w l (by simp_all) n.one';simp only [tL] at z;refine ⟨w.setRow c (xs.toList.take off++u.cells.toList++xs.toList.drop (off+u.cells.toList.length)).toArray,?_,r.putObj hc K (by simp) (setRow_os _ _ _) (setRow_tape _ _ _) (setRow_output _ _ _) (setRow_size _ _ _) (λb X=>setRow_other w c b _ X)
     ⟨_,ty,setRow_heap w c xs _ ty (0,0) l,?_⟩⟩
    ·simp [Instr.storeAt,Instr.sureAddr,storeVar,xy hi,A,z]
    ·have:=splice_VA (off:=off) hva n;omega
   ·cases hs
  ·rename_i T x K;split at hs
   ·rename_i y;split at hs
    ·rename_i hc1;obtain ⟨hn1,rfl⟩:=hc1;cases hs;simp only [V] at S;obtain ⟨c,hc,rfl⟩:=S;obtain ⟨h1,h2,⟨a,v0,l,hself,_,_⟩,h4⟩:=r.blk id c _ hc K;have n:=hv.cells F;have A:u.cells.size=i.size:=by rw [hn1];exact n.length.symm
     have z:=run_storeCells_at P c 1 T u.cells.toList 0 #[a,v0] w l (by simp_all) n.one';simp only [tL] at z;simp only [VA] at n;obtain ⟨y1,_,hy,⟨hone,hV⟩,rfl⟩:=n;have E:((#[a,v0]:Array Value).toList.take 1++u.cells.toList++(#[a,v0]:Array Value).toList.drop (1+u.cells.toList.length)).toArray=#[a,y1]:=by rw [hy];rfl
     rw [E] at z;refine ⟨w.setRow c #[a,y1],?_,r.putObj hc K (by simp) (setRow_os _ _ _) (setRow_tape _ _ _) (setRow_output _ _ _) (setRow_size _ _ _) (λb X=>setRow_other w c b _ X)
      ⟨a,y1,setRow_heap w c _ _ T (0,0) l,hself,hone,hV⟩⟩
     simp [Instr.storeAt,Instr.sureAddr,storeVar,xy hi,A,z]
    ·cases hs
   ·cases hs
  ·cases hs
 ·rename_i id q k m p vs F;split at hs
  ·rename_i q' k' es K;split at hs
   ·rename_i D;obtain ⟨rfl,rfl,rfl,hvl,hfit⟩:=D;split at hs
    ·rename_i M N;cases hs;simp only [V] at S;obtain ⟨b,o,rfl,t2,ht2,hrd,D,hpt⟩:=S;obtain ⟨_,ti,hti,htr,htn,hlen,hpe,hrow⟩:=r.rowAt K;obtain rfl:ti=t2:=by simp_all
     obtain ⟨R,e',rfl,Q⟩:=hpt htn.symm;have hfl:es.flatten.length=es.length * k':=yT hlen;have n:=qR (hv.cells F) N;have hvl':M.length=i.size:=by rw [qS N,hvl]
     have A:u.cells.size=i.size:=by rw [<- hvl',n.length];rfl
     by_cases hes:es=[]
     ·subst hes;have hz:i.size=0:=by simp_all
      have G:u.cells=#[]:=rQ (by omega);refine ⟨w,by simp [Instr.storeAt,Instr.sureAddr,storeVar,xy hi,hz,G,storeCells],?_⟩;have:rows k' ([]:List (List AV)).length (y8 ([]:List (List AV)).flatten p M)=[]:=rfl;rw [this];have e:h.put id (.row q' k' [])=h:=by
       cases h with
       | mk B T =>
        simp only [AH.put,AH.mk.injEq,tM];refine uZ λj=>?_;by_cases hj:j=id
        ·subst hj;rw [uD (uc.1 K).1];exact K.symm
        ·grind
      simp_all
     ·obtain ⟨b2,o2,e2,cs,ty2,Z,k2,k3,k4,k5⟩:=hrow.resolve_left hes;rw [Q] at Z;injection Z with Z;injection Z with e1 Z;injection Z with Z _;obtain rfl:R=o2:=by omega
      subst e1;have z:=run_storeCells_at P b (R+p) ty2 u.cells.toList 0 cs w k2 (by grind) n.one';simp only [tL] at z;generalize E:(cs.toList.take (R+p)++u.cells.toList++cs.toList.drop (R+p+u.cells.toList.length)).toArray=new at z;have hul:u.cells.toList.length=i.size:=by simp [A]
      have hspl:(y8 es.flatten p M).length=es.length * k':=by unfold y8;rw [uq,uq,tq,rg,hfl];omega
      obtain ⟨f1,f2,f3⟩:=rows_flat (k:=k') es.length (y8 es.flatten p M) hspl;refine ⟨w.setRow b new,?_,r.storeRow (e:=e') (cur:=cs) (ty:=ty2) (o:=R) K hti Q k2 (by grind) (λj hj=>?_) f2 f3 ?_ ?_ hes⟩
      ·simp [Instr.storeAt,Instr.sureAddr,storeVar,xy hi,A,z]
      ·rw [<- E,sD,uC,un (by simp;omega),uu,uz (by omega),uF]
      ·rw [f1];unfold y8;simp only [pN,ud];exact ⟨⟨all_take _ hpe,clean_pure N⟩,all_drop _ hpe⟩
      ·rw [f1];have Y:(new.toList.drop R).take (es.length * k')=((cs.toList.drop R).take (es.length * k')).take p++u.cells.toList++((cs.toList.drop R).take (es.length * k')).drop (p+u.cells.toList.length):=by
        rw [<- E];apply uZ;intro j;have N:cs.toList.length=cs.size:=by simp
        by_cases h1:j < p
        ·rw [uu,uz (by omega),uB,uC,un (by simp;omega),uu,uz (by omega)];rw [uC,un (by simp;omega),uu,uz h1,uu,uz (by omega),uB]
        ·by_cases h2:j < p+i.size
         ·rw [uu,uz (by omega),uB,uC,uj (by simp;omega),un (by simp;omega)];rw [uC,uj (by simp;omega),un (by simp;omega)];congr 1;simp;omega
         ·by_cases h3:j < es.length * k'
          ·rw [uu,uz h3,uB,uj (by simp;omega),uB];rw [uj (by simp;omega),uB,uu,uz (by simp;omega),uB];congr 1;simp;omega
          ·rw [uu,uM h3,tF]
           grind
       rw [Y];exact splice_VA (off:=p) k3 n
    ·cases hs
   ·cases hs
  ·cases hs
 ·rename_i cs0 vs F;split at hs
  ·rename_i D;cases hs;simp only [V] at S;obtain ⟨b,o,rfl,hvc⟩:=S;have n:=hv.cells F;have A:u.cells.size=i.size:=by rw [<- D.1,n.length];rfl
   obtain ⟨hle1,hfit⟩:=D;rcases sU i.size with hz | hz
   ·have G:u.cells=#[]:=rQ (by omega);exact ⟨w,by simp [Instr.storeAt,Instr.sureAddr,storeVar,xy hi,hz,G,storeCells],r⟩
   ·obtain ⟨s,f,hn,H⟩:=hole_run hvc hfit n (by rintro rfl;simp at hle1;omega);obtain ⟨_,_,⟨xs,ty,l,hxs,U⟩,_⟩:=r.nb b _ hn;have hul:u.cells.toList.length=i.size:=by simpa using A
    have hlast:o+i.size<=xs.size:=by
     obtain ⟨L,J⟩:∃L,u.cells.toList[i.size - 1]?=some L:=⟨_,uh (by omega)⟩
     obtain ⟨κ,C,_⟩:=H _ _ J;obtain ⟨v1,W,_⟩:=U _ _ C;have:=(uN.1 W).1;omega
    have z:=run_storeCells_at P b o ty u.cells.toList 0 xs w l (by omega) n.one';simp only [tL] at z;refine ⟨w.setRow b (xs.toList.take o++u.cells.toList++xs.toList.drop (o+u.cells.toList.length)).toArray,?_,r.scribble hn l (by simp;omega) (λj hj=>?_) (λj κ C=>?_)⟩
    ·simp [Instr.storeAt,Instr.sureAddr,storeVar,xy hi,A,z]
    ·by_cases h1:j < o
     ·grind
     ·by_cases h2:j < o+u.cells.toList.length
      ·obtain ⟨L,J⟩:∃L,u.cells.toList[j - o]?=some L:=⟨_,uh (by omega)⟩
       obtain ⟨κ,C,_⟩:=H _ _ J;rw [show o+(j - o)=j by omega] at C;rw [C] at hj;cases hj
      ·grind
    ·by_cases h1:j < o
     ·obtain ⟨v1,W,I⟩:=U j κ C;exact ⟨v1,by grind,I⟩
     ·by_cases h2:j < o+u.cells.toList.length
      ·obtain ⟨L,J⟩:∃L,u.cells.toList[j - o]?=some L:=⟨_,uh (by omega)⟩
       obtain ⟨κ',O,I⟩:=H _ _ J;rw [show o+(j - o)=j by omega,C] at O;cases O;exact ⟨L,by grind,I⟩
      ·obtain ⟨v1,W,I⟩:=U j κ C;exact ⟨v1,by grind,I⟩
  ·cases hs
 ·cases hs

theorem fieldAddr_sound {s:TypeId} {f:Nat} (m:fieldOff P s f=some (off,u)) (hi:P.info? u=some i) (D:i.size ≠ 0) {p v:AV} {pv:Value} (j:V g p pv)
  (l:qA off p=some v):∃x,(Instr.fieldAt s pv f).run P w=.ok x w/\V g v x:=by
 unfold fieldOff at m;split at m
 ·rename_i fs hs;rcases hff:fs[f]? with _ | y
  ·simp [hff] at m
  ·simp [hff] at m;obtain ⟨rfl,rfl⟩:=m;have a:∀b o,(Instr.fieldAt s (.pointer (some ⟨b,o,none⟩)) f).run P w=.ok (.pointer (some ⟨b,o+y.offset,none⟩)) w:=λb o=>by
    simp [Instr.fieldAt,Instr.sureAddr,yr hs,hff,fieldPlace,xy hi,D,wi]
   unfold qA at l;split at l
   ·cases l;simp only [V] at j;obtain ⟨c,hc,rfl⟩:=j;exact ⟨_,a _ _,by simp only [V];exact ⟨c,hc,rfl⟩⟩
   ·cases l;simp only [V] at j;obtain ⟨b,o,rfl,k⟩:=j;exact ⟨_,a _ _,by simp only [V];exact ⟨b,_,rfl,VC.drop _ k⟩⟩
   ·cases l;simp only [V] at j;obtain ⟨b,q,rfl,t,A,E,r,n⟩:=j;exact ⟨_,a _ _,by
     simp only [V];exact ⟨b,_,rfl,t,A,E,r,λe=>by
      obtain ⟨o,C,rfl,z⟩:=n e;exact ⟨o,C,by omega,z⟩⟩⟩
   ·cases l;simp only [V] at j;obtain ⟨b,o,rfl,k⟩:=j;exact ⟨_,a _ _,by simp only [V];exact ⟨b,_,rfl,VCh.drop _ k⟩⟩
   ·cases l
 ·cases m

theorem part_sound (hd:P.underlying t=some d) (hi:P.info? t=some i) {off:Nat} {x v:AV} {j:Value} (f:V g x j)
  (a:aPart (yA d) off i.size x=some v):∃cs u,j=.agg cs/\(part t cs off).run P w=.ok u w/\V g v u:=by
 unfold aPart at a;split at a
 ·rename_i cs;simp only [V] at f;obtain ⟨vs,rfl,b⟩:=f;refine ⟨vs,?_⟩;cases hag:yA d with
  | true =>
   simp only [hag,ut,ui] at a;subst a;refine ⟨.agg (vs.extract off (off+i.size)),rfl,by simp [part,run_agg hd,hag,xy hi],?_⟩;simp only [V];refine ⟨_,rfl,?_⟩;have:=VA.take i.size (VA.drop off b)
   simp_all
  | false =>
   simp only [hag,um,uJ] at a;obtain ⟨u,l,k⟩:=b.toVL.get _ _ a;have c:vs[off]?=some u:=by simp_all
   exact ⟨u,rfl,by simp [part,run_agg hd,hag,c],k⟩
 ·cases a

theorem field_sound {s:TypeId} {f:Nat} (a:fieldOff P s f=some (off,u)) (hd:P.underlying u=some d) (hi:P.info? u=some i) {x v:AV} {c:Value} (j:V g x c)
  (k:aPart (yA d) off i.size x=some v):∃y,(Instr.field s c f).run P w=.ok y w/\V g v y:=by
 unfold fieldOff at a;split at a
 ·rename_i fs hs;rcases hff:fs[f]? with _ | m
  ·simp_all
  ·simp [hff] at a;obtain ⟨rfl,rfl⟩:=a;obtain ⟨cs,y,rfl,b,l⟩:=part_sound (w:=w) hd hi j k;exact ⟨y,by simp [Instr.field,yr hs,hff,asAgg,b],l⟩
 ·cases a

theorem indexAddr_slice_sound (K:P.underlying t=some (.slice e)) (hi:P.info? e=some i) {x n v:AV} {Q T:Value} (l:V g x Q) (r:V g n T)
  (f:vO i.size x n=some v):∃y,(Instr.indexAt t Q T).run P w=.ok y w/\V g v y:=by
 have s:∀(k:Nat) (es:List (List AV)) (A:IntKind) (z:Int) (a:Option Addr) (c:Nat),k=i.size->0<=z->(es[z.toNat]?).map AV.fptr=some v->(es=[] \/ ∃b o,a=some ⟨b,o,none⟩/\VE g b k o es) ->
   ∃y,(Instr.indexAt t (.slice a es.length c) (.int A z)).run P w=.ok y w/\V g v y:=by
  intro k es A z a c R M U I;rcases he:es[z.toNat]? with _ | e
  ·simp_all
  ·simp only [he,uY,ui] at U;subst U;rcases I with rfl | ⟨b,o,rfl,D⟩
   ·simp at he
   ·obtain ⟨F,E⟩:=D.get _ _ he;have L:z.toNat < es.length:=(uc.1 he).1;have G:z < (es.length:Int):=by omega
    refine ⟨.pointer (some ⟨b,o+z.toNat * i.size,none⟩),?_,?_⟩
    ·simp [Instr.indexAt,asIntOf,yr K,M,G,xy hi,wi]
    ·simp only [V]
     grind
 unfold vO at f;split at f
 ·rename_i k es A z;split at f
  ·rename_i hc;simp only [V] at l r;obtain ⟨a,c,rfl,F,E,C⟩:=l;subst r;exact s k es A z a c hc.1 hc.2 f C
  ·cases f
 ·rename_i q k es A z;split at f
  ·rename_i hc;simp only [V] at l r;obtain ⟨a,c,rfl,F,E,C,S⟩:=l;subst r;exact s k es A z a c hc.1 hc.2 f C
  ·cases f
 ·rename_i k es A z;split at f
  ·rename_i hc;simp only [V] at l r;obtain ⟨a,c,rfl,F,E,C⟩:=l;subst r;exact s k es A z a c hc.1 hc.2 f (C.imp id λ⟨b,o,e,hh,_⟩=>⟨b,o,e,hh⟩)
  ·cases f
 ·rename_i k es A z;split at f
  ·rename_i hc;simp only [V] at l r;obtain ⟨a,c,rfl,F,E,C⟩:=l;subst r;exact s k es A z a c hc.1 hc.2 f (C.imp id λ⟨b,o,e,hh,_⟩=>⟨b,o,e,hh⟩)
  ·cases f
 ·rename_i k es A z;split at f
  ·rename_i hc;simp only [V] at l r;obtain ⟨a,c,rfl,F,E,I⟩:=l;subst r;obtain ⟨R,M⟩:=hc;rcases he:es[z.toNat]? with _ | e
   ·simp_all
   ·simp only [he,uY,ui] at f;subst f;rcases I with rfl | ⟨b,o,rfl,D⟩
    ·simp at he
    ·obtain ⟨C,S⟩:=D.get _ _ he;have L:z.toNat < es.length:=(uc.1 he).1;have G:z < (es.length:Int):=by omega
     refine ⟨.pointer (some ⟨b,o+z.toNat * i.size,none⟩),?_,?_⟩
     ·simp [Instr.indexAt,asIntOf,yr K,M,G,xy hi,wi]
     ·simp only [V];subst R;exact ⟨b,_,rfl,S⟩
  ·cases f
 ·rename_i k id off len A z;split at f
  ·rename_i hc;cases f;simp only [V] at l r;obtain ⟨c,cap,O,rfl,E,C⟩:=l;subst r;refine ⟨.pointer (some ⟨c,off+z.toNat * i.size,none⟩),?_,by simp only [V];exact ⟨c,O,rfl⟩⟩;simp [Instr.indexAt,asIntOf,yr K,hc.2.1,hc.2.2,xy hi,wi]
  ·cases f
 ·rename_i id q k m A z;split at f
  ·rename_i hc;cases f;simp only [V] at l r;obtain ⟨a,c,rfl,F,E,t,H,N,J,j⟩:=l;subst r;rcases j with ⟨h0,_⟩ | ⟨b,o,rfl,j⟩
   ·omega
   ·refine ⟨.pointer (some ⟨b,o+z.toNat * i.size,none⟩),?_,by simp only [V];exact ⟨b,_,rfl,t,H,N,J,λe=>⟨o,_,rfl,by rw [hc.1] at j;exact j e⟩⟩⟩;simp [Instr.indexAt,asIntOf,yr K,hc.2.1,hc.2.2,xy hi,wi]
  ·cases f
 ·rename_i id q k m p A z;split at f
  ·rename_i hc;cases f;simp only [V] at l r;obtain ⟨a,c,rfl,F,t,H,j⟩:=l;subst r;rcases j with h0 | ⟨b,o,rfl,N,J,j⟩
   ·omega
   ·refine ⟨.pointer (some ⟨b,o+z.toNat * i.size,none⟩),?_,by simp only [V];exact ⟨b,_,rfl,t,H,N,J,λe=>by grind⟩⟩;simp [Instr.indexAt,asIntOf,yr K,hc.2.1,hc.2.2,xy hi,wi]
  ·cases f
 ·cases f

theorem indexAddr_array_sound {len:Nat} (s:P.underlying t=some (.array len e)) (hi:P.info? e=some i) {x n v:AV} {q r:Value} (j:V g x q) (k:V g n r)
  (a:aIndexArr len i.size x n=some v):∃y,(Instr.indexAt t q r).run P w=.ok y w/\V g v y:=by
 have f:∀(b o:Nat) (p:IntKind) (z:Int),0<=z->z < len->(Instr.indexAt t (.pointer (some ⟨b,o,none⟩)) (.int p z)).run P w=.ok (.pointer (some ⟨b,o+z.toNat * i.size,none⟩)) w:=by
  intro b o p z h0 A;simp [Instr.indexAt,Instr.sureAddr,asIntOf,yr s,h0,A,xy hi,wi]
 unfold aIndexArr at a;split at a
 ·split at a
  ·rename_i hc;cases a;simp only [V] at j k;obtain ⟨c,m,rfl⟩:=j;subst k;exact ⟨_,f _ _ _ _ hc.1 hc.2,by simp only [V];exact ⟨c,m,rfl⟩⟩
  ·cases a
 ·split at a
  ·rename_i hc;cases a;simp only [V] at j k;obtain ⟨b,o,rfl,l⟩:=j;subst k;exact ⟨_,f _ _ _ _ hc.1 hc.2,by simp only [V];exact ⟨b,_,rfl,VC.drop _ l⟩⟩
  ·cases a
 ·cases a

theorem index_str_sound (m:P.underlying t=some .string) {x n v:AV} {f j:Value} (k:V g x f) (l:V g n j)
  (a:aIndexStr x n=some v):∃y,(Instr.index t f j).run P w=.ok y w/\V g v y:=by
 unfold aIndexStr at a;split at a
 ·rename_i s r z;split at a
  ·rename_i q;rcases hs:s[z.toNat]? with _ | b
   ·simp_all
   ·simp only [hs,uY,ui] at a;subst a;simp only [V] at k l;obtain ⟨rfl,_⟩:=k;subst l;refine ⟨.int .u8 b.toNat,?_,by simp only [V]⟩;obtain ⟨c,p⟩:=uc.1 hs;have o:(⟨s.toArray⟩:ByteArray)[z.toNat]?=some b:=by
     rw [getElem?_pos _ _ (by simpa [ByteArray.size] using c)];exact congrArg some p
    simp [Instr.index,asIntOf,yr m,q,o]
  ·cases a
 ·cases a

theorem index_agg_sound {len:Nat} (k:P.underlying t=some (.array len e)) (hd:P.underlying e=some d) (hi:P.info? e=some i) {x n v:AV} {c f:Value} (m:V g x c) (j:V g n f)
  (a:aIndexAgg (yA d) len i.size x n=some v):∃y,(Instr.index t c f).run P w=.ok y w/\V g v y:=by
 unfold aIndexAgg at a;split at a
 ·rename_i o z;split at a
  ·rename_i hc;simp only [V] at j;subst j;obtain ⟨cs,y,rfl,b,l⟩:=part_sound (w:=w) hd hi m a;exact ⟨y,by simp [Instr.index,asIntOf,yr k,hc.1,hc.2,xy hi,b],l⟩
  ·cases a
 ·cases a
end
end Go.Vv
namespace Go.Vv
open Go Go.RowKit Go.Lib
variable {l:Nat} {lo:Option AV} {t:TypeId} {lov:Option Value}
section
variable {P:Program} {w:World} {g:Gh} {h:AH} {B:Nat} {w0:World}

def VO (g:Gh):Option AV->Option Value->Prop
 | none,v=>v=none
 | some a,v=>∃u,v=some u/\V g a u

theorem bound_cases {d n:Nat} {x:Option AV} {b:Option Value} (c:VO g x b) (a:aBound d x=some n):(b=none/\x=none/\n=d) \/ ∃(k:IntKind) (z:Int),b=some (.int k z)/\x.isSome=true/\0<=z/\z=n:=by
 unfold aBound at a;split at a
 ·simp only [VO] at c
  simp_all
 ·rename_i k z;split at a
  ·rename_i e;simp only [VO,V] at c
   grind
  ·cases a
 ·cases a


theorem q9 {isS:Bool} {len cap hh m d:Nat} {lo hi mx:Option Value}
  (x:(lo=none/\l=0) \/ ∃(k:IntKind) (z:Int),lo=some (.int k z)/\0<=z/\z=l)
  (j:(hi=none/\mx=none/\hh=len) \/ ∃(k:IntKind) (z:Int),hi=some (.int k z)/\0<=z/\z=hh)
  (y:(mx=none/\m=cap) \/ ∃(k:IntKind) (z:Int),mx=some (.int k z)/\0<=z/\z=m) (E:l<=hh) (D:hh<=m) (G:m<=cap) (_:d=0) :
  (Instr.sliceBounds isS len cap lo hi mx).run P w=.ok (l,hh,m) w:=by
 rcases y with ⟨rfl,rfl⟩ | ⟨H,c,rfl,r,u⟩ <;> rcases j with ⟨rfl,e,rfl⟩ | ⟨F,a,rfl,v,s⟩ <;> rcases x with ⟨rfl,rfl⟩ | ⟨I,b,rfl,p,C⟩ <;>
  first
  | (cases e;done)
  | (
       have o:b.toNat=l:=by omega
       have f:a.toNat=hh:=by omega
       have A:c.toNat=m:=by omega
       have n:b<=hh:=by omega
       have i:a<=m:=by omega
       have q:c<=cap:=by omega
       simp [Instr.sliceBounds,run_sliceBound, *];done)
  | (
       have f:a.toNat=hh:=by omega
       have A:c.toNat=m:=by omega
       have i:a<=m:=by omega
       have q:c<=cap:=by omega
       simp [Instr.sliceBounds,run_sliceBound, *];done)
  | (
       have o:b.toNat=l:=by omega
       have f:a.toNat=hh:=by omega
       have n:b<=hh:=by omega
       have i:a<=m:=by omega
       simp [Instr.sliceBounds,run_sliceBound, *];done)
  | (
       have o:b.toNat=l:=by omega
       have n:b<=hh:=by omega
       simp [Instr.sliceBounds,run_sliceBound, *];done)
  | (
       have f:a.toNat=hh:=by omega
       have i:a<=m:=by omega
       simp [Instr.sliceBounds,run_sliceBound, *];done)
  | (simp [Instr.sliceBounds];done)

theorem sliceAt_of {d:TypeDesc} (a:P.underlying t=some d) (hd:∀n e,d ≠ .array n e) (x:Value) (lo hi mx:Option Value):(Instr.sliceAt t x lo hi mx).run P w=(Instr.slice t x lo hi mx).run P w:=by
 cases d <;> (first | exact absurd rfl (hd _ _) | simp only [Instr.sliceAt,Sem.run_bind,yr a,Result.andThen_ok])

theorem lo_cases (b:VO g lo lov) (a:aBound 0 lo=some l):(lov=none/\l=0) \/ ∃(k:IntKind) (z:Int),lov=some (.int k z)/\0<=z/\z=l:=by
 rcases bound_cases b a with ⟨e,_,d⟩ | ⟨k,z,e,_,h0,c⟩
 ·simp_all
 ·simp_all
theorem hi_cases {len:Nat} {a:Option Value} (c:VO g lo lov) (b:aBound len lo=some l) (d:a ≠ none->lov ≠ none) :
  (lov=none/\a=none/\l=len) \/ ∃(k:IntKind) (z:Int),lov=some (.int k z)/\0<=z/\z=l:=by
 rcases bound_cases c b with ⟨e,_,i⟩ | ⟨k,z,e,_,h0,f⟩
 ·simp_all
 ·simp_all

theorem slice_str_sound (p:P.underlying t=some .string) {s:List UInt8} {q:Value} {lo hi mx:Option AV} {lov e b:Option Value} (r:V g (.str s) q) (o:VO g lo lov) (k:VO g hi e) (c:VO g mx b)
  {v:AV} (a:aSlice (.str s) lo hi mx=some v):∃y,(Instr.sliceAt t q lov e b).run P w=.ok y w/\V g v y:=by
 simp only [V] at r;obtain ⟨rfl,hs⟩:=r;unfold aSlice at a;simp only at a;split at a
 ·rename_i x;have:mx=none:=by simp_all
  subst this;simp only [VO] at c;subst c;unfold aSliceStr at a;split at a
  ·rename_i l hh i j;split at a
   ·rename_i f;cases a;rw [sliceAt_of p (by simp)];have n:(⟨s.toArray⟩:ByteArray).size=s.length:=by rfl
    have u:=q9 (P:=P) (w:=w) (isS:=false) (len:=s.length) (cap:=s.length) (l:=l) (hh:=hh) (m:=s.length) (d:=0) (mx:=none)
     (lo_cases o i) (hi_cases k j λh=>absurd rfl h)
     (.inl ⟨rfl,rfl⟩) f.1 f.2 (ug _) rfl
    refine ⟨.string ((⟨s.toArray⟩:ByteArray).extract l hh),?_,?_⟩
    ·simp [Instr.slice,yr p,n,u]
    ·simp only [V];refine ⟨?_,by simp;omega⟩;congr 1;apply ByteArray.ext;simp [ByteArray.data_extract,rp,pi]
   ·cases a
  ·cases a
 ·cases a

theorem slice_sl_sound {e:TypeId} {i:TypeInfo} (O:P.underlying t=some (.slice e)) (hi:P.info? e=some i) {x:Bool} {es:List (List AV)} {a:Option Addr} {c:Nat} {lo D mx:Option AV} {lov s n:Option Value}
  (Z:es.length<=c) (Y:c<=maxLen) (T:es=[] \/ ∃b o,a=some ⟨b,o,none⟩/\VE g b i.size o es) (C:x=true->c=es.length) (M:VO g lo lov) (E:VO g D s) (r:VO g mx n)
  {v:AV} (j:aSliceSl x i.size es lo D mx=some v):∃y,(Instr.sliceAt t (.slice a es.length c) lov s n).run P w=.ok y w/\V g v y:=by
 unfold aSliceSl at j;split at j
 ·rename_i l hh H q;split at j
  ·rename_i N
   -- the f of what is cut
   have f:∀m,hh<=m->(es.take hh).drop l=[] \/ ∃b o,(if m=l then a else a.map (·.add (l * i.size)))=some ⟨b,o,none⟩/\VE g b i.size o ((es.take hh).drop l):=by
    intro m F;by_cases hl:l=hh
    ·simp_all
    ·rcases T with rfl | ⟨b,o,rfl,G⟩
     ·left;simp
     ·right;have L:m ≠ l:=by omega
      refine ⟨b,o+l * i.size,by simp [L,wi],VE.drop l (VE.take hh G)⟩
   have p:((es.take hh).drop l).length=hh - l:=by simp;omega
   rw [sliceAt_of O (by simp)];have A:∀(m:Nat) (v:AV),hh<=m->m<=c->(n=none/\m=c \/ ∃(k:IntKind) (z:Int),n=some (.int k z)/\0<=z/\z=m)->(n ≠ none->s ≠ none) ->
     (v=.sl i.size ((es.take hh).drop l) \/ (v=.osl none i.size ((es.take hh).drop l)/\m=hh))->∃y,(Instr.slice t (.slice a es.length c) lov s n).run P w=.ok y w/\V g v y:=by
    intro m v F J R K X;have S:=q9 (P:=P) (w:=w) (isS:=true) (len:=es.length) (cap:=c) (l:=l) (hh:=hh) (m:=m) (d:=0) (lo_cases M H)
     (hi_cases E q K) R N.1 F J rfl
    refine ⟨.slice (if m=l then a else a.map (·.add (l * i.size))) (hh - l) (m - l),?_,?_⟩
    ·simp [Instr.slice,yr O,S,xy hi]
    ·rcases X with rfl | ⟨rfl,rfl⟩
     ·simp only [V];exact ⟨_,m - l,by rw [p],by omega,by omega,f m F⟩
     ·simp only [V];exact ⟨_,m - l,by rw [p],by omega,by omega,f m F,by rw [p]⟩
   cases mx with
   | none =>
    simp only [VO] at r;subst r;simp only [ui] at j;split at j
    ·rename_i I;subst j;simp only [ud,Option.isNone_iff_eq_none] at I;have hc:=C I.1;have Q:hh=es.length:=by
      rw [I.2] at q;simpa [aBound] using q.symm
     have W:es.drop l=(es.take hh).drop l:=by simp_all
     rw [W];exact A c _ (by omega) (ug _) (.inl ⟨rfl,rfl⟩) (λh=>absurd rfl h) (.inr ⟨rfl,by omega⟩)
    ·subst j;exact A c _ (by omega) (ug _) (.inl ⟨rfl,rfl⟩) (λh=>absurd rfl h) (.inl rfl)
   | some xm =>
    cases xm with
    | int km zm =>
     simp only at j;split at j
     ·rename_i U;cases j;simp only [VO,V] at r;obtain ⟨u,rfl,rfl⟩:=r;refine A hh _ (ug _) (by omega) (.inr ⟨km,zm,rfl,by omega,by omega⟩) (λ_=>?_) (.inr ⟨rfl,rfl⟩);rcases bound_cases E q with ⟨_,e,_⟩ | ⟨k,z,e,_⟩
      ·simp_all
      ·simp_all
     ·cases j
    | _=>simp at j
  ·cases j
 ·cases j

theorem foldl_splice:∀(vs:List Value) (cells:Array Value) (off a:Nat),off+a+vs.length<=cells.size ->
  ((vs.zipIdx a).foldl (λcs p=>cs.setIfInBounds (off+p.2) p.1) cells).toList=cells.toList.take (off+a)++vs++cells.toList.drop (off+a+vs.length)
 | [],cells,off,a,_=>by simp
 | v::r,cells,off,a,h=>by
  simp only [ux] at h;simp only [pz,tU];rw [foldl_splice r (cells.setIfInBounds (off+a) v) off (a+1) (by simp;omega)];simp only [pj];have b:(cells.toList.set (off+a) v).take (off+(a+1))=cells.toList.take (off+a)++[v]:=by
   rw [show off+(a+1)=off+a+1 by omega,tB,uD (by simp;omega),sL (ug _)];rfl
  rw [b,sM (by omega),ux,show off+(a+1)+r.length=off+a+(r.length+1) by omega];simp

theorem fill_sound {b:Nat->Option (Nat×Nat)} {place':Nat->Option (Nat×Nat)} (d:∀i x,b i=some x->place' i=some x):∀{parts:List (Nat×AV)} {pvs:List (Nat×Value)} {cs out:List AV} {us:Array Value},
  VA g cs us.toList->parts.length=pvs.length->(∀(j:Nat) (p:Nat×AV) (q:Nat×Value),parts[j]?=some p->pvs[j]?=some q->p.1=q.1/\V g p.2 q.2) ->
  qd b cs parts=some out->∃xs:Array Value,Instr.fill place' us pvs=some xs/\VA g out xs.toList
 | [],[],cs,out,us,hv,_,_,ha=>by
  simp only [qd,ui] at ha;subst ha;exact ⟨us,rfl,hv⟩
 | (i,a)::r,(i',u)::s,cs,out,us,hv,hl,hp,ha=>by
  obtain ⟨rfl,C⟩:=hp 0 _ _ rfl rfl;simp only [qd] at ha;split at ha
  ·rename_i off size vs k n;split at ha
   ·rename_i o;have e:=C.cells n;have v:u.cells.size=size:=by rw [<- o.1,e.length];rfl
    have A:cs.length=us.size:=by rw [hv.length];rfl
    have c:=foldl_splice u.cells.toList us off 0 (by simp;omega);simp only [tL] at c;have z:=splice_VA (off:=off) hv e;obtain ⟨xs,m,f⟩:=fill_sound d (parts:=r) (pvs:=s) (us:=(u.cells.toList.zipIdx 0).foldl (λcs p=>cs.setIfInBounds (off+p.2) p.1) us) (by grind) (by grind)
     (λj p q y D=>hp (j+1) p q (by grind) (by grind)) ha
    refine ⟨xs,?_,f⟩;have y:¬ (u.cells.size ≠ size \/ off+u.cells.size > us.size):=by omega
    simp only [Instr.fill,d _ _ k];rw [uM (by grind)];rw [<- m];congr 1;rw [<- pk,Array.toList_zipIdx]
   ·cases ha
  ·cases ha
 | [],_::_,_,_,_,_,hl,_,_=>by simp at hl
 | _::_,[],_,_,_,_,hl,_,_=>by simp at hl
end
end Go.Vv
namespace Go.Vv
open Go Go.RowKit Go.Lib
variable {t:TypeId} {env:List AV}
section
variable {P:Program} {w:World} {g:Gh} {h:AH} {B:Nat} {w0:World}

theorem tyfix_one {t:TypeId} {a:AV} (h:a.one=true):(tyfix P t a).one=true:=by
 unfold tyfix;split
 ·split <;> rfl
 ·exact h
theorem VA.fix:∀{ts:List TypeId} {a5:List AV} {vs:List Value},VA g a5 vs->VA g (fixCells P ts a5) vs
 | [],_,_,h=>by simp only [fixCells];exact h
 | _::_,[],_,h=>by simp only [fixCells];exact h
 | t::ts,a::a5,vs,h=>by
  simp only [VA] at h;obtain ⟨v,s,rfl,⟨h0,c⟩,b⟩:=h;simp only [fixCells,VA];exact ⟨v,s,rfl,⟨tyfix_one h0,c.tyfix⟩,VA.fix b⟩
theorem wW {cs:List AV} (a:xl P t=some cs):∃i z,P.info? t=some i/\i.zero=some z/\VA g cs z.cells.toList:=by
 unfold xl at a;split at a
 ·rename_i i hi;split at a
  ·rename_i z c;split at a
   ·rename_i b;split at a
    ·rename_i cs' hc;cases a;exact ⟨i,z,hi,c,((V.cv b).cells hc).fix⟩
    ·cases a
   ·cases a
  ·cases a
 ·cases a

theorem parts_rel {d:TypeDesc} {a:Act} (m:VL g env a.tmps.toList) {parts:Array (Nat×Operand)} (e:(parts.all λp=>yv p.2)=true) :
  (xA P d env parts).length=(parts.map λ(i,x)=>(i,a.eval x)).toList.length /\
  ∀(j:Nat) (p:Nat×AV) (q:Nat×Value),(xA P d env parts)[j]?=some p->(parts.map λ(i,x)=>(i,a.eval x)).toList[j]?=some q->p.1=q.1/\V g p.2 q.2:=by
 refine ⟨by simp [xA],λj p q l k=>?_⟩;simp only [xA,sn,rh,sd] at l k;obtain ⟨x,n,rfl⟩:=l;obtain ⟨y,c,rfl⟩:=k;rw [n] at c;injection c with c;subst c;have b:x ∈ parts:=by
  grind
 have f:=(se.1 e) x b;exact ⟨rfl,(V.ev m f).tyfix⟩

theorem build_sound {a:Act} (y:VL g env a.tmps.toList) {parts:Array (Nat×Operand)} (m:(parts.all λp=>yv p.2)=true) {z out:List AV} (A:xl P t=some z)
  (b:(∃fs pl,P.underlying t=some (.struct fs)/\vq P fs=some pl/\qd (λi=>pl[i]?) z (xA P (.struct fs) env parts)=some out) \/
   ∃n e j,P.underlying t=some (.array n e)/\P.info? e=some j/\qd (λi=>some (i * j.size,j.size)) z (xA P (.array n e) env parts)=some out) :
  ∃u,(Instr.build t (parts.map λ(i,x)=>(i,a.eval x))).run P w=.ok u w/\V g (.agg out) u:=by
 obtain ⟨i,D,hi,k,l⟩:=wW (g:=g) A;rcases b with ⟨fs,pl,v,f,s⟩ | ⟨n,e,j,v,C,s⟩
 ·obtain ⟨q,o⟩:=parts_rel (P:=P) (d:=.struct fs) y m;obtain ⟨xs,r,c⟩:=fill_sound (place':=(pl.toArray[·]?)) (λi x h=>by simpa using h) l q o s;refine ⟨.agg xs,run_build w t _ xs ?_,by simp only [V];exact ⟨xs,rfl,c⟩⟩;unfold vq at f;simp only [Program.built,hi,v,k,f];omega
 ·obtain ⟨q,o⟩:=parts_rel (P:=P) (d:=.array n e) y m;obtain ⟨xs,r,c⟩:=fill_sound (place':=λi=>some (i * j.size,j.size)) (λi x h=>h) l q o s;refine ⟨.agg xs,run_build w t _ xs ?_,by simp only [V];exact ⟨xs,rfl,c⟩⟩;simp only [Program.built,hi,v,k,C];omega

theorem aEqL_split:∀(c:List Kd) {ls:List Kd} {a5 bs:List AV} {r:Bool},aEqL (c++ls) a5 bs=some r ->
  ∃e d,aEqL c (a5.take c.length) (bs.take c.length)=some e/\aEqL ls (a5.drop c.length) (bs.drop c.length)=some d/\r=(e&&d)/\c.length<=a5.length/\c.length<=bs.length
 | [],ls,a5,bs,r,h=>⟨true,r,by simp [aEqL],by simpa using h,by simp,by simp,by simp⟩
 | k::c,ls,[],bs,r,h=>by simp [aEqL] at h
 | k::c,ls,a::a5,[],r,h=>by simp [aEqL] at h
 | k::c,ls,a::a5,b::bs,r,h=>by
  simp only [tP,aEqL] at h;split at h
  ·rename_i x y j f;obtain ⟨e,d,i,l,o,m,n⟩:=aEqL_split c f;cases h;exact ⟨x&&e,d,by simp [aEqL,j,i],by simp_all,by grind,by simp_all,by simp_all⟩
  ·cases h

def KdOk (P:Program) (t:TypeId):Kd->Prop
 | .b=>P.underlying t=some .bool
 | .i=>∃j,P.underlying t=some (.int j)
 | .s=>P.underlying t=some .string

theorem eq1_run {k:Kd} {a b:AV} {x y:Value} {r:Bool} (d:V g a x) (e:V g b y) (c:aEq1 k a b=some r)
  (hd:KdOk P t k) (D:Nat):(Op.equalIn (D+1) t x y).run P w=.ok r w:=by
 unfold aEq1 at c;split at c
 ·cases c;simp only [V] at d e;subst d e;exact run_equalIn_bool w D t _ _ hd
 ·split at c
  ·rename_i f;cases c;simp only [V] at d e;subst d e f;obtain ⟨j,hd⟩:=hd;simp [Op.equalIn,run_underlying hd]
  ·cases c
 ·cases c;simp only [V] at d e;obtain ⟨rfl,_⟩:=d;obtain ⟨rfl,_⟩:=e;rw [run_equalIn_string w D t _ _ hd,ByteArray.toList_mk,ByteArray.toList_mk]
 ·cases c

def EqE (P:Program) (w:World) (g:Gh) (d:Nat):Prop:=∀{t:TypeId} {ks:List Kd} {i:TypeInfo},wh P d t=some ks->P.info? t=some i->i.size=ks.length->∀{xs ys:Array Value} {a5 bs:List AV} {off:Nat} {r:Bool},VA g a5 xs.toList->VA g bs ys.toList ->
  aEqL ks ((a5.drop off).take ks.length) ((bs.drop off).take ks.length)=some r->∀D,d<=D->∃u v,(part t xs off).run P w=.ok u w/\(part t ys off).run P w=.ok v w/\(Op.equalIn D t u v).run P w=.ok r w

theorem eqF {d:Nat} (E:EqE P w g d):∀(fs:List Field) (acc:Nat) {j:List Kd},plainFs P d fs acc=some j->∀{xs l:Array Value} {a5 bs:List AV} {r:Bool},VA g a5 xs.toList->VA g bs l.toList ->
  aEqL j (a5.drop acc) (bs.drop acc)=some r->∀D,d<=D->(Op.eqFields D xs l fs).run P w=.ok r w
 | [],acc,j,h,xs,l,a5,bs,r,ha,hb,hr,D,_=>by
  simp only [plainFs,plainFsOf,ui] at h;subst h;have:r=true:=by
   rcases o:a5.drop acc with _ | ⟨a,s⟩ <;> rcases e:bs.drop acc with _ | ⟨b,C⟩ <;> simp [o,e,aEqL] at hr;exact hr
  subst this;rfl
 | f::fs,acc,j,h,xs,l,a5,bs,r,ha,hb,hr,D,hD=>by
  simp only [plainFs,plainFsOf] at h;split at h
  ·rename_i p;split at h
   ·rename_i q i n hi;split at h
    ·rename_i c;split at h
     ·rename_i k2 m;cases h;obtain ⟨x,I,o,e,k,G,H⟩:=aEqL_split q hr;obtain ⟨u,v,z,y,A⟩:=E n hi c ha hb o D hD;have F:=eqF E fs (acc+i.size) m ha hb (by rw [tn,tn,<- c] at e;exact e) D hD;simp only [Op.eqFields,uz p.1,p.2,Sem.run_bind,z,y,A,Result.andThen_ok];cases x with
      | true=>simp at k;subst k;simpa using F
      | false=>simp at k;subst k;simp
     ·cases h
    ·cases h
   ·cases h
  ·cases h
theorem eqE:∀(d:Nat),EqE P w g d:=by
 intro d
 induction d with
 | zero=>intro t n i h;simp [wh] at h
 | succ d ih =>
  intro t n i h hi l xs m a5 bs off r I G o D R;obtain ⟨D,rfl⟩:∃D',D=D'+1:=⟨D - 1,by omega⟩
  have one:∀(k:Kd),n=[k]->KdOk P t k ->
    ∃u v,(part t xs off).run P w=.ok u w/\(part t m off).run P w=.ok v w/\(Op.equalIn (D+1) t u v).run P w=.ok r w:=by
   intro k M hd;subst M;simp only [List.length_singleton] at o;rcases h1:a5.drop off with _ | ⟨a,K⟩
   ·simp [h1,aEqL] at o
   ·rcases h2:bs.drop off with _ | ⟨b,Q⟩
    ·simp [h1,h2,aEqL] at o
    ·have A:a5[off]?=some a:=by have:=congrArg (·[0]?) h1;simpa using this
     have z:bs[off]?=some b:=by have:=congrArg (·[0]?) h2;simpa using this
     obtain ⟨u,c,q⟩:=I.toVL.get _ _ A;obtain ⟨v,J,y⟩:=G.toVL.get _ _ z;rw [uF] at c J;have p:aEq1 k a b=some r:=by
      simp [h1,h2,aEqL] at o
      grind
     have e:∀dd,P.underlying t=some dd->yA dd=false->∃u v,(part t xs off).run P w=.ok u w/\(part t m off).run P w=.ok v w/\(Op.equalIn (D+1) t u v).run P w=.ok r w:=λdd f H =>
      ⟨u,v,by simp [part,run_agg f,H,c],by simp [part,run_agg f,H,J],eq1_run q y p hd D⟩
     cases k with
     | b=>exact e _ hd rfl
     | i=>obtain ⟨j,F⟩:=hd;exact e _ F rfl
     | s=>exact e _ hd rfl
  simp only [wh] at h;split at h
  ·rename_i c;cases h;exact one .b rfl c
  ·rename_i j c;cases h;exact one .i rfl ⟨j,c⟩
  ·rename_i c;cases h;exact one .s rfl c
  ·rename_i fs c;split at h
   ·cases h
   ·rename_i L;have x:P.fieldsOf t=fs:=by simp [Program.fieldsOf,c]
    have O:(part t xs off).run P w=.ok (.agg (xs.extract off (off+i.size))) w:=by simp [part,run_agg c,yA,xy hi]
    have N:(part t m off).run P w=.ok (.agg (m.extract off (off+i.size))) w:=by simp [part,run_agg c,yA,xy hi]
    refine ⟨_,_,O,N,?_⟩;rw [run_equalIn_struct w D t _ _ (by simp_all) (by simp_all),x];have C:VA g ((a5.drop off).take n.length) (xs.extract off (off+i.size)).toList:=by
     rw [Array.toList_extract,rp,show off+i.size - off=i.size by omega,l];exact VA.take _ (VA.drop _ I)
    have E:VA g ((bs.drop off).take n.length) (m.extract off (off+i.size)).toList:=by
     rw [Array.toList_extract,rp,show off+i.size - off=i.size by omega,l];exact VA.take _ (VA.drop _ G)
    exact eqF ih fs.toList 0 h C E (by simp_all) D (by omega)
  ·cases h
theorem eqItems_sound {e:TypeId} {i:TypeInfo} (o:wh P 1 e=some [.i]) (hi:P.info? e=some i) (hs:i.size=1) {us vs:Array Value} {cs ds:List AV} (p:VA g cs us.toList) (y:VA g ds vs.toList):∀(m s:Nat) {r:Bool},
  aEqL (List.replicate m .i) (cs.drop s) (ds.drop s)=some r->∀D,1<=D->(Op.eqItems D e (P.cellsOf e) us vs (List.range' s m)).run P w=.ok r w:=by
 have hc:P.cellsOf e=1:=by simp [Program.cellsOf,hi,hs]
 intro m
 induction m with
 | zero =>
  intro s r h D _;rcases f:cs.drop s with _ | ⟨a,a5⟩ <;> rcases c:ds.drop s with _ | ⟨b,bs⟩ <;> simp [f,c,aEqL] at h;subst h;rfl
 | succ m ih =>
  intro s r h D j;obtain ⟨l,z,f,c,d,_⟩:=aEqL_split [.i] (ls:=List.replicate m .i) (by simpa [sN] using h);obtain ⟨u,v,q,n,x⟩:=eqE (P:=P) (w:=w) 1 o hi hs p y (off:=s) f D j;have k:=ih (s+1) (by rw [tn,tn] at c;exact c) D j;rw [hc] at k ⊢;simp only [List.range'_succ,Op.eqItems,Nat.mul_one,Sem.run_bind,q,n,x,Result.andThen_ok];cases l with
  | true=>simp at d;subst d;simpa using k
  | false=>simp at d;subst d;simp
end
end Go.Vv
namespace Go.Vv
open Go Go.RowKit Go.Lib
variable {op:BinOp} {t ty:TypeId} {a b:AV} {x y:Value} {ox oy:Operand} {d:TypeDesc}
section
variable {P:Program} {w:World} {g:Gh} {h:AH} {B:Nat} {w0:World}
theorem str_size (s:List UInt8):(⟨s.toArray⟩:ByteArray).size=s.length:=by rfl

def scal:AV->Value
 | .bool b=>.bool b
 | .int k n=>.int k n
 | .str s=>.string ⟨s.toArray⟩
 | _=>undef

theorem int_sound {k k':IntKind} {a b:Int} (i:k=k' \/ op=.shl \/ op=.shr) {ox oy:Operand} {v:AV} (c:xi op k a b=some v) :
  ∃u,(do eqGuard op t ox oy (.int k a) (.int k' b);binOp op t (.int k a) (.int k' b):Sem Value).run P w=.ok u w/\V g v u:=by
 refine ⟨scal v,?_,?_⟩
 ·simp only [eqGuard_at_int];cases op <;> simp only [xi,ui] at c
  case shl =>
   split at c
   ·cases c
   ·rename_i f;cases c;simp [binOp,Op.shift,f,scal]
  case shr =>
   split at c
   ·cases c
   ·rename_i f;cases c;simp [binOp,Op.shift,f,scal]
  case quo =>
   have e:k=k':=by simp_all
   split at c
   ·cases c
   ·rename_i f;cases c;simp [binOp,Op.intDiv,f,scal,e]
  case rem =>
   have e:k=k':=by simp_all
   split at c
   ·cases c
   ·rename_i f;cases c;simp [binOp,Op.intDiv,f,scal,e]
  all_goals
   have e:k=k':=by simp_all
   subst e c;simp [binOp,Op.intArith,Op.intCmp,Op.intBits,scal]
 ·cases op <;> simp only [xi,ui] at c <;> first
   | (subst c;simp only [scal,V];done)
   | (
         split at c
         · cases c
         · cases c;simp only [scal,V])

theorem str_sound {x y:List UInt8} {v:AV} (c:aStr op x y=some v) :
  ∃u,(do eqGuard op t ox oy (.string ⟨x.toArray⟩) (.string ⟨y.toArray⟩);binOp op t (.string ⟨x.toArray⟩) (.string ⟨y.toArray⟩):Sem Value).run P w=.ok u w/\V g v u:=by
 refine ⟨scal v,?_,?_⟩
 ·simp only [eqGuard_at_string];cases op <;> simp only [aStr,ui,reduceCtorEq] at c
  case add =>
   split at c
   ·rename_i e;cases c;have f:¬ ((9223372036854775807:Int) < (x.length:Int)+(y.length:Int)):=by simp only [maxLen] at e;omega
    simp [binOp,Op.stringOp,str_size,f,scal];rfl
   ·cases c
  all_goals
   subst c;simp [binOp,Op.stringOp,scal]
 ·cases op <;> simp only [aStr,ui,reduceCtorEq] at c <;> first
   | (subst c;simp only [scal,V];done)
   | (
         split at c
         · rename_i e;cases c;simp only [scal,V];exact ⟨trivial,by simp_all⟩
         · cases c)

theorem nil_sound (hd:P.underlying t=some d) {a b:AV} {x y:Value} (c:V g a x) (e:V g b y) {r:Bool} (i:aNil d a b=some r) (D:Nat):(Op.equalIn (D+1) t x y).run P w=.ok r w:=by
 unfold aNil at i;split at i <;> first
  | (
       cases i;simp only [V] at c e
       first
         | (subst c e;simp [Op.equalIn,yr hd];done)
         | (obtain ⟨_,_,rfl⟩:=c;subst e;simp [Op.equalIn,yr hd];done)
         | (obtain ⟨_,_,rfl⟩:=e;subst c;simp [Op.equalIn,yr hd];done)
         | (obtain ⟨_,_,rfl,_⟩:=c;subst e;simp [Op.equalIn,yr hd];done)
         | (obtain ⟨_,_,rfl,_⟩:=e;subst c;simp [Op.equalIn,yr hd];done)
         | (obtain ⟨_,_,_,rfl,_⟩:=c;subst e;simp [Op.equalIn,yr hd];done)
         | (
      obtain ⟨_,_,rfl,_,_,f⟩:=c;subst e;rcases f with f | ⟨_,_,rfl,_⟩
      ·cases f
      ·simp [Op.equalIn,yr hd])
         | (
      obtain ⟨_,_,rfl,_,_,f,_⟩:=c;subst e;rcases f with f | ⟨_,_,rfl,_⟩
      ·cases f
      ·simp [Op.equalIn,yr hd]))
  | cases i

theorem eq_sound (l:V g a x) (k:V g b y) {r:Bool} (f:aEq P t a b=some r):(Op.equalIn 10000 t x y).run P w=.ok r w:=by
 unfold aEq at f;split at f
 ·rename_i cs ds;split at f
  ·rename_i hc;split at f
   ·rename_i v c;simp only [V] at l k;obtain ⟨us,rfl,o⟩:=l;obtain ⟨vs,rfl,p⟩:=k;have q:=hc.2;rcases hd:P.underlying t with _ | d
    ·simp_all
    ·cases d <;> simp [hd,yA] at q
     ·rename_i n e;simp only [wh,arrKs,hd,Option.none_or] at c;split at c
      ·rename_i j i u hi;split at c
       ·rename_i hs;cases c;rw [show (10000:Nat)=9999+1 from rfl,run_equalIn_array w 9999 us vs hd hi,List.range_eq_range'];exact eqItems_sound (by simp [wh,u]) hi hs o p n 0 (by simp_all) 9999 (by omega)
       ·cases c
      ·cases c
     ·rename_i fs;have m:P.fieldsOf t=fs:=by simp [Program.fieldsOf,hd]
      simp only [wh,arrKs,hd,Option.or_none] at c;split at c
      ·cases c
      ·rename_i s;rw [show (10000:Nat)=9999+1 from rfl,run_equalIn_struct w 9999 t _ _ (by simp_all) (by simp_all),m];exact eqF (eqE 5) fs.toList 0 c o p (by simp_all) 9999 (by omega)
   ·cases f
  ·cases f
 ·split at f
  ·rename_i hd;cases f;simp only [V] at l k;subst l k;exact run_equalIn_bool w 9999 t _ _ hd
  ·cases f
 ·split at f
  ·rename_i d hd;exact nil_sound hd l k f 9999
  ·cases f

theorem eq_bin (c:V g a x) (e:V g b y) {r:Bool} (i:aEq P t a b=some r) :
  (do eqGuard .eql t ox oy x y;binOp .eql t x y:Sem Value).run P w=.ok (.bool r) w/\(do eqGuard .neq t ox oy x y;binOp .neq t x y:Sem Value).run P w=.ok (.bool !r) w:=by
 have f:=eq_sound (w:=w) c e i;unfold aEq at i;split at i
 ·split at i
  ·rename_i hc;simp only [V] at c e;obtain ⟨us,rfl,_⟩:=c;obtain ⟨vs,rfl,_⟩:=e;simp [run_eqGuard_agg w _ t ox oy us vs hc.1,run_eql_struct,run_neq_struct,f]
  ·cases i
 ·simp only [V] at c e;subst c e;simp [eqGuard_at_bool,binOp,Op.equal,Op.maxDepth,f]
 ·split at i
  ·unfold aNil at i;split at i <;> first
    | (cases i;done)
    | (
           simp only [V] at c e
           first
             | (subst c e;simp [eqGuard,binOp,Op.equal,Op.maxDepth,f];done)
             | (obtain ⟨_,_,rfl⟩:=c;subst e;simp [eqGuard,binOp,Op.equal,Op.maxDepth,f];done)
             | (obtain ⟨_,_,rfl⟩:=e;subst c;simp [eqGuard,binOp,Op.equal,Op.maxDepth,f];done)
             | (obtain ⟨_,_,rfl,_⟩:=c;subst e;simp [eqGuard,binOp,Op.equal,Op.maxDepth,f];done)
             | (obtain ⟨_,_,rfl,_⟩:=e;subst c;simp [eqGuard,binOp,Op.equal,Op.maxDepth,f];done)
             | (obtain ⟨_,_,_,rfl,_⟩:=c;subst e;simp [eqGuard,binOp,Op.equal,Op.maxDepth,f];done)
             | (obtain ⟨A,C,j,_⟩:=c;subst e;rw [j] at f ⊢;revert f;generalize List.length _=n;intro f;simp [eqGuard,binOp,Op.equal,Op.maxDepth,f];done))
  ·cases i

theorem ifc_sound {v:AV} (f:V g a x) (i:V g b y) (c:aIfc P op t oy a b=some v) :
  ∃u,(do eqGuard op t ox oy x y;binOp op t x y:Sem Value).run P w=.ok u w/\V g v u:=by
 unfold aIfc at c;split at c
 ·rename_i hd;simp only [V] at f i;subst f i;have e:(Op.equalIn 10000 t .nilIface .nilIface).run P w=.ok true w:=(show ∀D,(Op.equalIn (D+1) t .nilIface .nilIface).run P w=.ok true w from λD=>by simp [Op.equalIn,yr hd]) 9999;split at c
  ·cases c;exact ⟨.bool true,by simp [eqGuard,binOp,Op.equal,Op.maxDepth,e],by simp only [V]⟩
  ·cases c;exact ⟨.bool false,by simp [eqGuard,binOp,Op.equal,Op.maxDepth,e],by simp only [V]⟩
  ·cases c
 ·rename_i hd;simp only [V] at f i;obtain ⟨u,rfl,_⟩:=f;subst i;rename_i j _ _;have e:(Op.equalIn 10000 t (.iface j u) .nilIface).run P w=.ok false w:=(show ∀D,(Op.equalIn (D+1) t (.iface j u) .nilIface).run P w=.ok false w from λD=>by simp [Op.equalIn,yr hd]) 9999;split at c
  ·cases c;exact ⟨.bool false,by simp [eqGuard,binOp,Op.equal,Op.maxDepth,e],by simp only [V]⟩
  ·cases c;exact ⟨.bool true,by simp [eqGuard,binOp,Op.equal,Op.maxDepth,e],by simp only [V]⟩
  ·cases c
 ·cases c

theorem nilq_sound {h:AH} (u:V g a x) (s:V g b y) {S:AV->AH->Prop} (l:aNilq P op t h a b=some S) :
  ∃r,(do eqGuard op t ox oy x y;binOp op t x y:Sem Value).run P w=.ok (.bool r) w/\S (.bool r) h:=by
 have p:∀(D:Nat) (es:List (List AV)) (i:Option Addr) (c:Nat) (e:TypeId),P.underlying t=some (.slice e)->(es=[] \/ ∃b o,i=some ⟨b,o,none⟩)->∃r,(Op.equalIn (D+1) t (.slice i es.length c) (.slice none 0 0)).run P w=.ok r w/\(r=true->es=[]):=by
  intro D es i c e j f;cases i with
  | none =>
   rcases f with rfl | ⟨_,_,h⟩
   ·exact ⟨true,by simp [Op.equalIn,yr j],λ_=>rfl⟩
   ·cases h
  | some i=>exact ⟨false,by simp [Op.equalIn,yr j],λh=>by cases h⟩
 have key:∀(es:List (List AV)) (i:Option Addr) (c:Nat) (e:TypeId),P.underlying t=some (.slice e)->(es=[] \/ ∃b o,i=some ⟨b,o,none⟩)->∃r,(Op.equalIn 10000 t (.slice i es.length c) (.slice none 0 0)).run P w=.ok r w/\(r=true->es=[]):=λes i c e j f=>p 9999 es i c e j f;unfold aNilq at l;split at l
 ·rename_i k es;simp only [V] at u s;obtain ⟨i,c,rfl,_,_,f⟩:=u;subst s;split at l
  ·rename_i e j;obtain ⟨r,n,m⟩:=key es i c e j (f.imp id λ⟨b,o,h,_⟩=>⟨b,o,h⟩);cases l;exact ⟨r,by simp [eqGuard,binOp,Op.equal,Op.maxDepth,n],rfl,r,rfl,m⟩
  ·rename_i e j;obtain ⟨r,n,m⟩:=key es i c e j (f.imp id λ⟨b,o,h,_⟩=>⟨b,o,h⟩);cases l;exact ⟨!r,by simp [eqGuard,binOp,Op.equal,Op.maxDepth,n],rfl,r,rfl,m⟩
  ·cases l
 ·rename_i q k es;simp only [V] at u s;obtain ⟨i,c,rfl,_,_,f,_⟩:=u;subst s;split at l
  ·rename_i e j;obtain ⟨r,n,m⟩:=key es i c e j (f.imp id λ⟨b,o,h,_⟩=>⟨b,o,h⟩);cases l;exact ⟨r,by simp [eqGuard,binOp,Op.equal,Op.maxDepth,n],rfl,r,rfl,m⟩
  ·rename_i e j;obtain ⟨r,n,m⟩:=key es i c e j (f.imp id λ⟨b,o,h,_⟩=>⟨b,o,h⟩);cases l;exact ⟨!r,by simp [eqGuard,binOp,Op.equal,Op.maxDepth,n],rfl,r,rfl,m⟩
  ·cases l
 ·cases l
theorem bin_sound {v:AV} (e:V g a x) (f:V g b y) (c:yV P op t a b=some v) :
  ∃u,(do eqGuard op t ox oy x y;binOp op t x y:Sem Value).run P w=.ok u w/\V g v u:=by
 unfold yV at c;split at c
 ·split at c
  ·rename_i i;simp only [V] at e f;subst e f;exact int_sound i c
  ·cases c
 ·split at c
  ·rename_i i;obtain ⟨rfl,rfl⟩:=i;cases c;simp only [V] at e f;obtain ⟨n,rfl⟩:=e;subst f;obtain ⟨u,k,j⟩:=int_sound (P:=P) (w:=w) (g:=g) (op:=.add) (t:=t) (ox:=ox) (oy:=oy) (.inl rfl) (rfl:xi .add _ n _=some _);refine ⟨u,k,?_⟩;simp only [V] at j ⊢;exact ⟨_,j⟩
  ·cases c
 ·simp only [V] at e f;obtain ⟨rfl,_⟩:=e;obtain ⟨rfl,_⟩:=f;exact str_sound c
 ·split at c
  ·rcases hr:aEq P t a b with _ | r
   ·simp_all
   ·simp [hr] at c;subst c;exact ⟨_,(eq_bin e f hr).1,by simp only [V]⟩
  ·rcases hr:aEq P t a b with _ | r
   ·simp_all
   ·simp [hr] at c;subst c;exact ⟨_,(eq_bin e f hr).2,by simp only [V]⟩
  ·cases c

theorem un_sound {op:UnOp} {v:AV} (e:V g a x) (c:aUn op a=some v):∃u,(Op.unary op x).run P w=.ok u w/\V g v u:=by
 unfold aUn at c;split at c
 ·simp only [V] at e;subst e;split at c
  ·cases c;exact ⟨_,rfl,by simp only [V]⟩
  ·cases c;exact ⟨_,rfl,by simp only [V]⟩
  ·cases c
 ·simp only [V] at e;subst e;split at c
  ·cases c;exact ⟨_,by rfl,by simp only [V]⟩
  ·cases c
 ·cases c

theorem convert_sound {s:TypeId} {ds:TypeDesc} (hs:P.underlying s=some ds) (hd:P.underlying t=some d) {a v:AV} {x:Value} (e:V g a x) (c:aConvert d a=some v) :
  ∃u,(convert s t x).run P w=.ok u w/\V g v u:=by
 unfold aConvert at c;split at c
 ·simp only [V] at e;subst e;split at c
  ·cases c;exact ⟨_,by simp [convert,yr hs,yr hd,Conv.intToInt];rfl,by simp only [V]⟩
  ·cases c
 ·simp only [V] at e;obtain ⟨rfl,f⟩:=e;split at c
  ·cases c;exact ⟨_,by simp [convert,yr hs,yr hd];rfl,by simp only [V];exact ⟨trivial,f⟩⟩
  ·cases c
 ·cases c

theorem len_str_sound (f:P.underlying t=some .string) {s:List UInt8} {x:Value} (c:V g (.str s) x) :
  (Builtin.len_ #[t] ty #[x]).run P w=.ok (.int .i64 s.length) w/\s.length<=maxLen:=by
 simp only [V] at c;obtain ⟨rfl,e⟩:=c;exact ⟨by simp [Builtin.len_,yr f,str_size,goInt],e⟩
theorem len_sl_sound {e:TypeId} (i:P.underlying t=some (.slice e)) {a:AV} {x:Value} (c:V g a x) {n:Nat} (f:aLen a=some n) :
  (Builtin.len_ #[t] ty #[x]).run P w=.ok (.int .i64 n) w/\n<=maxLen:=by
 unfold aLen at f;split at f <;> first
  | (
       cases f;simp only [V] at c
       first
         | (obtain ⟨_,_,rfl,k,j,_⟩:=c;exact ⟨by simp [Builtin.len_,yr i,goInt],by omega⟩)
         | (obtain ⟨_,_,_,rfl,k,j⟩:=c;exact ⟨by simp [Builtin.len_,yr i,goInt],by omega⟩)
         | (subst c;exact ⟨by simp [Builtin.len_,yr i,goInt],by simp⟩))
  | cases f

theorem VA.flatten {z:List AV} {c:List Value} (h:VA g z c):∀n,VA g (List.replicate n z).flatten (List.replicate n c).flatten
 | 0=>by rfl
 | n+1=>by
  simp only [sN,uU];exact VA.append h (VA.flatten h n)
theorem range_rep (c:Array Value):∀n:Nat,(List.range (n * c.size)).map (λi=>c[i % c.size]!)=(List.replicate n c.toList).flatten
 | 0=>by simp
 | n+1=>by
  rw [t8,pW,List.range_add,tN,sN,uU,<- range_rep c n,rF];congr 1
  ·apply List.ext_getElem
   ·simp
   ·intro i f e;simp at f e;simp [pA e,e]
  ·simp_all

theorem aFill_len {c:Nat->Option (Nat×Nat)}:∀{parts:List (Nat×AV)} {cs out:List AV},qd c cs parts=some out->out.length=cs.length
 | [],cs,out,h=>by simp only [qd,ui] at h;rw [h]
 | (i,v)::r,cs,out,h=>by
  simp only [qd] at h;split at h
  ·split at h
   ·rename_i e;rw [aFill_len h];simp [y8];omega
   ·cases h
  ·cases h
theorem buildSlice_sound (r:Rel B w0 g h w) {t e:TypeId} {n:Nat} {i:TypeInfo} {z cs out:List AV} {env:List AV} {a:Act} (Z:VL g env a.tmps.toList) {parts:Array (Nat×Operand)} (K:(parts.all λp=>yv p.2)=true)
  (N:P.underlying t=some (.slice e)) (hi:P.info? e=some i) (U:xl P e=some z) (f:0 < i.size) (W:n * i.size<=65536) (o:z.length=i.size)
  (s:qd (λj=>some (j * i.size,i.size)) ((List.replicate n z).flatten) (xA P (.slice e) env parts)=some cs) (hc:xB cs=some out) :
  ∃u w' g',(Instr.buildSlice t n (parts.map λ(i,x)=>(i,a.eval x))).run P w=.ok u w'/\g.le g'/\Rel B w0 g' h w'/\V g' (.osl none i.size (rows i.size n out)) u:=by
 obtain ⟨i',E,c,H,q⟩:=wW (g:=g) U;rw [hi] at c;injection c with c;subst c;have J:E.cells.size=i.size:=by rw [<- o,q.length];rfl
 rcases sU n with rfl | X
 ·-- empty
  simp only [List.replicate_zero,rP] at s;rcases hp:xA P (.slice e) env parts with _ | ⟨⟨j,v⟩,rest⟩
  ·have G:parts=#[]:=by
    have:parts.toList=[]:=by simpa [xA] using hp
    simp_all
   subst G;refine ⟨.slice (some ⟨w.heap.size,0,none⟩) 0 0,w.alloc (.cells #[] e),g,by simp [Instr.buildSlice,yr N,xy hi,Instr.fill,newRow];congr 2;apply ph;simp,Gh.le.refl g,r.alloc0 _,?_⟩;simp only [rows,V]
   simp_all
  ·rw [hp] at s;simp only [qd] at s
   grind
 ·have L:¬ (n * i.size=0):=by
   have:=rV X f;omega
  obtain ⟨S,O⟩:=parts_rel (P:=P) (d:=.slice e) Z K;have C:=VA.flatten q n;obtain ⟨xs,I,F⟩:=fill_sound (place':=λj=>some (j * i.size,i.size)) (λi x h=>h) (us:=(Array.range (n * i.size)).map (E.cells[· % E.cells.size]!))
   (by rw [<- J,rh,rB,range_rep];exact C) S O s
  have l:=qR F hc;have hol:out.length=n * i.size:=by
   rw [qS hc,aFill_len s];simp [o]
  have R:xs.size=n * i.size:=by rw [<- hol,l.length];rfl
  have A:=run_buildSlice w t e n _ xs i E N hi H (by omega) L I;have Q:=r.newRow xs e xs.size;have D:=g.le_vow w.heap.size λj=>if j < xs.size then xs[j]? else none
  obtain ⟨Y,M,e3⟩:=rows_flat (k:=i.size) n out hol;refine ⟨_,_,_,A,D,Q,?_⟩;simp only [V];refine ⟨some ⟨w.heap.size,0,none⟩,n,by rw [M],by omega,by simp only [maxLen];have:=rD n f;omega,.inr ⟨w.heap.size,0,rfl,?_⟩,by rw [M]⟩;refine VE_iff.2 ⟨e3,?_⟩;rw [Y];refine VC.ofVA (l.mono D _ _) (clean_pure hc) λj u T=>?_;have hj:j < xs.size:=by
   grind
  have m:g.Φ w.heap.size j=none:=by
   rcases he':g.Φ w.heap.size j with _ | v
   ·rfl
   ·exact absurd (r.phi_lt he') (tQ _)
  simp only [Gh.vow,ut,tx,m,uz hj]
  grind
end
end Go.Vv
