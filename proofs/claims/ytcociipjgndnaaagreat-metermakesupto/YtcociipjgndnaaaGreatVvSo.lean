/- Rows are sorted: slices.SortFunc, by the shelf's contract. -/
import Derived.Test.YtcociipjgndnaaaGreatVvRo
import Derived.Test.YtcociipjgndnaaaGreatVvDr
import Derived.ChangeAgain
import Derived.Shelf.SlSortCmp.WholeK
import Derived.Shelf.SlSortCmp.NoneTotal
namespace Go.Vv
open Go Go.RowKit Go.Lib Go.Sort Go.Shelf
section
variable {α:Type} {row:α->List AV} {k:Nat}
theorem flat_getElem {d:Type} {enc:α->List d} (b:∀x,(enc x).length=k):∀(L:List α) (t:Nat),t < L.length * k->(L.map enc).flatten[t]?=(L[t / k]?).bind λx=>(enc x)[t % k]?
 | [],t,h=>by simp at h
 | x::r,t,h=>by
  have c:0 < k:=by
   rcases su k with h0 | h0
   ·subst h0;simp at h
   ·exact h0
  simp only [uC,tq];by_cases a:t < k
  ·rw [uj (by rw [b x];exact a),Nat.div_eq_of_lt a,pZ a];rfl
  ·have a:k<=t:=by omega
   rw [ui (by rw [b x];exact a),b x];simp only [uk,sn] at h;rw [flat_getElem b r (t - k) (by omega)];obtain ⟨s,rfl⟩:∃s,t=s+k:=⟨t - k,by omega⟩
   rw [t6,Nat.add_div_right s c,Nat.add_mod_right];rfl
theorem flatten_len' {b:Type} {enc:α->List b} (a:∀x,(enc x).length=k):∀L:List α,(L.map enc).flatten.length=L.length * k
 | []=>by simp
 | x::r=>by simp only [uC,tq,uo,uk,flatten_len' a r,a x,sn];omega
theorem flatK_list [Inhabited α] {enc:α->List Value} (b:∀x,(enc x).length=k) (d:Array α):(flatK enc k d).toList=(d.toList.map enc).flatten:=by
 apply tu;intro t;by_cases ht:t < d.size * k
 ·have a:0 < k:=by
   rcases su k with h0 | h0
   ·subst h0;simp at ht
   ·exact h0
  have hd:t / k < d.size:=by rw [Nat.div_lt_iff_lt_mul a];exact ht
  rw [flat_getElem b d.toList t (by simpa using ht),uv,uv,uH (by simpa using ht),uH hd];have c:t % k < (enc d[t / k]).length:=by rw [b];exact Nat.mod_lt _ a
  rw [ua,ug c];have:=get_flatK enc k d t ht;rw [getElem!_pos (flatK enc k d) t (by simpa using ht),getElem!_pos d (t / k) hd,getElem!_pos (enc d[t / k]) (t % k) c] at this;rw [this]
 ·rw [th (by simp;omega),th (by rw [flatten_len' b];simp;omega)]
theorem mapBlock_setRow {w:World} {b:Nat} {cur:Array Value} {ty:TypeId} {fr:Nat×Nat} (f:Array Value->Array Value) (a:w.heap[b]?=some (.cells cur ty fr)):mapBlock w b f=w.setRow b (f cur):=by
 unfold mapBlock World.setRow;congr 1;apply rf;intro i;simp only [sF];by_cases hi:b=i
 ·subst hi;simp [a,onCells]
 ·simp [hi]
theorem VA.parts {g:Gh} (i:∀x,(row x).length=k):∀(L:List α) (vs:List Value),VA g (L.map row).flatten vs->∃ds:List (α×List Value),ds.map (·.1)=L/\(ds.map (·.2)).flatten=vs/\∀p ∈ ds,VA g (row p.1) p.2
 | [],vs,h=>by simp only [tE,sW,VA] at h;subst h;exact ⟨[],rfl,rfl,by simp⟩
 | x::r,vs,h=>by
  simp only [uC,tq] at h;have c:=VA.take (row x).length h;have b:=VA.drop (row x).length h;rw [pD] at c;rw [sO] at b;obtain ⟨ds,d,e,f⟩:=VA.parts i r _ b;refine ⟨(x,vs.take (row x).length)::ds,by simp [d],by simp [e],λp a=>?_⟩;rcases uD.1 a with rfl | a
  ·exact c
  ·exact f p a
theorem VA.join {g:Gh}:∀(ds:List (α×List Value)),(∀p ∈ ds,VA g (row p.1) p.2)->VA g ((ds.map (·.1)).map row).flatten (ds.map (·.2)).flatten
 | [],_=>by simp [VA]
 | p::r,h=>by
  simp only [uC,tq];exact (h p (by simp)).append (VA.join r λq a=>h q (by simp [a]))
end
section
variable {B:Nat} {w0 w:World} {g:Gh} {h:AH}
theorem Rel.ahead (r:Rel B w0 g h w):∀n,Rel B w0 g h (Go.Sort.ahead w n)
 | 0=>r
 | n+1=>by rw [<- ahead_drew];exact (Rel.ahead r n).drew
theorem below_grow (w:World) (os:Array Obj):Go.RowKit.Below w.heap.size w (grow w os) :=
 ⟨rfl,rfl,rfl,by simp [grow],λk a=>by simp only [grow];rw [rL a]⟩
end
structure SwoOn {α:Type} (L:List α) (cf:α->α->Int):Prop where
 irrefl:∀x,x ∈ L->¬ cf x x < 0
 trans:∀x y z,x ∈ L->y ∈ L->z ∈ L->cf x y < 0->cf y z < 0->cf x z < 0
 ntrans:∀x y z,x ∈ L->y ∈ L->z ∈ L->¬ cf x y < 0->¬ cf y z < 0->¬ cf x z < 0
def CmpOk {α:Type} (P:Program) (gf:Nat) (row:α->List AV) (L:List α) (cf:α->α->Int):Prop :=
 ∀(gz:Gh) (W:World) (x y:α) (vx vy:List Value),W.ShapedOpen P->gz.σ=[]->gz.τ=[]->x ∈ L->y ∈ L->(∀b j v,gz.Φ b j=some v->W.cell? ⟨b,j,none⟩=some v)->VA gz (row x) vx->VA gz (row y) vy ->
  Calls P gf #[.agg vx.toArray,.agg vy.toArray] W λe w'=>e=.returned (.int .i64 (cf x y))/\∃q os',w'=grow (W.drewN q) os'

theorem ShapedOpen.below {P:Program} {B:Nat} {w0 W:World} [a:GOk P B w0] (h:Below B w0 W):W.ShapedOpen P :=
 World.ShapedOpen.keptBut (may:=λ_=>False) a.sh ((h.mono a.sz).frame _) (λ_ h=>h.elim)
theorem grow_of_below {w w':World} (h:Below w.heap.size w w') (hd:w.drawn<=w'.drawn):∃q d,w'=grow (w.drewN q) d:=by
 refine ⟨w'.drawn - w.drawn,w'.heap.extract w.heap.size w'.heap.size,?_⟩;obtain ⟨a,e,c,d,b⟩:=w';have f:d=w.os:=h.os;have i:e=w.tape:=h.tape;have j:b=w.output:=h.output;have hs:w.heap.size<=a.size:=h.size;have m:∀k,k < w.heap.size->a[k]?=w.heap[k]?:=h.block;have hd:w.drawn<=c:=hd;subst f i j;have l:a=w.heap++a.extract w.heap.size a.size:=by
  apply rf;intro k;by_cases hk:k < w.heap.size
  ·rw [rL hk];exact m k hk
  ·rw [Array.getElem?_append_right (by omega),Array.getElem?_extract];by_cases hk2:k < a.size
   ·rw [up (by omega)];congr 1;omega
   ·rw [uu (by omega),tV (by omega)]
 simp only [grow,World.drewN];rw [<- l];congr 1;omega
theorem CmpOk.of_spec {α:Type} {P:Program} {q:Nat} {row:α->List AV} {L:List α} {cf:α->α->Int} (o:∀x,(row x).all AV.pure=true) (f:∀x,plL (row x)=true)
  (z:∀x y,x ∈ L->y ∈ L->Spec P q [.agg (row x),.agg (row y)] h0 (λr h=>r=.int .i64 (cf x y)/\h=h0)):CmpOk P q row L cf:=by
 intro D W x y u s C l d A I a m n;haveI:GOk P W.heap.size W:=⟨C,uh _⟩
 obtain ⟨Φ,σ,τ,δ,N,O⟩:=D;simp only at l d a;subst l d;have r:Rel W.heap.size W ⟨Φ,[],[],[],λ_=>none,λ_=>False⟩ h0 W:=⟨Below.refl _ _,uh _,a,rfl,λi c k h _=>by simp at h,rfl,λi t h=>by simp at h,λi j c h _=>by simp at h,λi j t t' b x y h _=>by simp at h,λi c j t b x h _=>by simp at h,
  λc h=>by simp at h,λi k h=>by simp at h,λi j t k k' J M h=>by simp [h0] at h,λb x h=>(by cases h),λb (h:False)=>h.elim⟩
 have F:VA (⟨Φ,[],[],[],λ_=>none,λ_=>False⟩:Gh) (row x) u:=VA.pl (g:=⟨Φ,[],[],δ,N,O⟩) (g':=⟨Φ,[],[],[],λ_=>none,λ_=>False⟩) (λ_ _ _ h=>h) (o x) (f x) m;have G:VA (⟨Φ,[],[],[],λ_=>none,λ_=>False⟩:Gh) (row y) s:=VA.pl (g:=⟨Φ,[],[],δ,N,O⟩) (g':=⟨Φ,[],[],[],λ_=>none,λ_=>False⟩) (λ_ _ _ h=>h) (o y) (f y) n;have H:=(z x y A I).2 W.heap.size W ⟨Φ,[],[],[],λ_=>none,λ_=>False⟩ W #[.agg u.toArray,.agg s.toArray] r (by
  simp only [VL,V];exact ⟨_,_,rfl,⟨_,rfl,F⟩,_,_,rfl,⟨_,rfl,G⟩,rfl⟩)
 refine (calls_drawn H λe w' ⟨v,_,_,_,h,_⟩=>⟨v,h⟩).mono ?_
 rintro e w' ⟨⟨v,Q,K,g',rfl,⟨rfl,rfl⟩,_,E,p⟩,hd⟩
 simp only [V] at p;subst p;exact ⟨rfl,grow_of_below E.below hd⟩
theorem spec_sort {P:Program} {ρ:Ren} (L:Go.Proofs.SlLaysF0.n6 P ρ) {k:Nat} (aE:∀w,(isAgg (ρ.t 24)).run P w=.ok true w) (zE:∀w,(Go.sizeOf (ρ.t 24)).run P w=.ok k w)
  {α:Type} {row:α->List AV} (hk:∀x,(row x).length=k) {Lx:List α} {cf:α->α->Int} {gf:Nat} (eg:∀args w,(callFunc gf args).run P w=.ok (.enter gf args) w) (hO:SwoOn Lx cf) (hc:CmpOk P gf row Lx cf)
  {id q:Nat} {h:AH} (hb:h.blk id=some (.row q k (Lx.map row))) (hlim:Lx.length<=yK) :
  Spec P (ρ.f 6) [.rsl id q k Lx.length,.fn (.func gf) [] []] h (λrr hh=>rr=.tup []/\∃L':List α,L'.Perm Lx/\L'.Pairwise (λa b=>¬ cf b a < 0)/\hh=h.put id (.row q k (L'.map row))):=by
 refine ⟨λvs w=>L.f6.enters rfl vs w,λB w0 _ g w vs r G=>?_⟩;obtain ⟨us,rfl⟩:∃us:List Value,vs=us.toArray:=⟨vs.toList,by simp⟩
 simp only [VL,V] at G;obtain ⟨v1,s1,e1,⟨a,c,rfl,hcap,hm,t2,ht2,_,_,hloc⟩,v2,s2,rfl,⟨fs,cs,rfl,hfs,hcs⟩,rfl⟩:=G;have hfs:fs=#[]:=by cases fs;simp_all
 have hcs:cs=#[]:=by cases cs;simp_all
 subst hfs hcs;subst e1;have hput:h.put id (.row q k (Lx.map row))=h:=by
  cases h with
  | mk BL T =>
   simp only [AH.put,AH.mk.injEq,tW];refine tu λj=>?_;by_cases u:j=id
   ·subst u;rw [uA (uc.1 hb).1];exact hb.symm
   ·rw [uK (λe=>u e.symm)]
 by_cases hLx:Lx=[]
 ·subst hLx;refine (Go.Proofs.AnyF.slices_SortFunc_none L a c _ w).mono ?_
  rintro e w' ⟨rfl,rfl⟩
  exact ⟨_,_,h,g,rfl,⟨rfl,[],.nil,.nil,hput.symm⟩,Gh.le.refl g,r,by simp only [V];exact ⟨#[],rfl,by simp [VL]⟩⟩
 ·obtain ⟨_,ti,hti,htr,htn,hlen,Y,hrow⟩:=r.rowAt hb;obtain rfl:ti=t2:=by rw [hti] at ht2;injection ht2
  simp only [uz] at htn;obtain ⟨b',o',rfl,O⟩:=hloc.resolve_left (λhh=>hLx (uP hh.1));have n:=O htn.symm;obtain ⟨b,o,e,cells,ty,k1,k2,k3,k4,k5⟩:=hrow.resolve_left (by simpa using hLx);simp only [uz] at k1 k3 k4;rw [k1] at n;injection n with n;injection n with e1 n;injection n with e2 _;obtain rfl:o=o':=by omega
  subst e1;have hbw:b < w.heap.size:=(uQ.1 k2).1;have k3z:VA (g.cut 0 0) (Lx.map row).flatten ((cells.toList.drop o).take (Lx.length * k)):=VA.cut _ _ (lowL_of_pure Y) k3;obtain ⟨ds,d1,d2,d3⟩:=VA.parts hk Lx _ k3z
  let A:Type:={ p:α×List Value // p.1 ∈ Lx/\VA (g.cut 0 0) (row p.1) p.2 }
  have hmem:∀p ∈ ds,p.1 ∈ Lx/\VA (g.cut 0 0) (row p.1) p.2:=λp hp=>⟨by rw [<- d1];exact tF.2 ⟨p,hp,rfl⟩,d3 p hp⟩
  let X:List A:=ds.attach.map λp=>⟨p.1,hmem p.1 p.2⟩
  have da1:X.map (λx:A=>x.1)=ds:=by
   simp only [X,rN,rl];exact List.attach_map_subtype_val ds
  have N:X.length=Lx.length:=by rw [<- d1];simp [X]
  haveI:Inhabited A:=⟨X[0]'(by rw [N];exact rd.2 hLx)⟩
  let enc:A->List Value:=λx=>x.1.2
  have I:∀x:A,(enc x).length=k:=λx=>by rw [<- x.2.2.length,hk]
  let d:Array A:=X.toArray
  have D:d.size=Lx.length:=by simp [d,N]
  have W:(flatK enc k d).toList=(cells.toList.drop o).take (Lx.length * k):=by
   rw [flatK_list I,<- d2,<- da1];simp [d,enc,rl]
  have hH:HoldsK enc k w b o d:=λj u=>by
   refine ⟨?_,frozen_of_row w b (o+j) cells ty k2⟩;rw [cell_of_row w b (o+j) cells ty (0,0) k2];have C:(flatK enc k d).toList[j]?=some ((flatK enc k d)[j]!):=by rw [uv,uH u,getElem!_pos _ j u]
   rw [W,uw] at C;split at C
   ·rw [uF,uv] at C;exact C
   ·cases C
  let K:A->A->Int:=λx y=>cf x.1.1 y.1.1
  have hO':SWO (Go.Proofs.ltOf K):=⟨λx=>by simpa [Go.Proofs.ltOf] using hO.irrefl _ x.2.1,λx y z C h2=>by
   simp only [Go.Proofs.ltOf,um] at C h2 ⊢;exact hO.trans _ _ _ x.2.1 y.2.1 z.2.1 C h2,λx y z C h2=>by
   simp only [Go.Proofs.ltOf,sg] at C h2 ⊢;exact hO.ntrans _ _ _ x.2.1 y.2.1 z.2.1 C h2⟩
  have hcmp:Go.Proofs.CmpLays P gf #[] enc k K b o d.size w:=λm os dk hs x y=>by
   have:=hc (g.cut 0 0) (Go.Proofs.sortWorldK enc k w b o m dk os) x.1.1 y.1.1 _ _ (ShapedOpen.below (B:=B) (w0:=w0) (r.below.trans ?_)) (by simp [Gh.cut]) (by simp [Gh.cut]) x.2.1 y.2.1 (λE j v G=>?_) x.2.2 y.2.2
   ·simpa using this
   ·have hBb:B<=b:=((r.tok _ _ hti).2 _ _ _ k1).lo;refine ⟨rfl,rfl,rfl,by simp [Go.Proofs.sortWorldK,grow,Go.Sort.putRowK,Go.Sort.putRow,mapBlock,Go.Sort.ahead],λi hi=>?_⟩;have hne:b ≠ i:=by omega
    have hil:i < w.heap.size:=so hi r.bsz;simp only [Go.Proofs.sortWorldK,grow,Go.Sort.putRowK,Go.Sort.putRow,mapBlock,Go.Sort.ahead];rw [rL (by simpa using hil),sF,uu hne]
   ·have G:g.Φ E j=some v:=G;have J:=r.phi E j v G;have hb2:=r.phi_lt G;by_cases hbb:E=b
    ·subst hbb;have u:j < o:=by
      rcases tz j o with u | u
      ·exact u
      ·rw [k5 j u] at G;cases G
     have hbp:E < (Go.Sort.putRow _root_.id (Go.Sort.ahead w m) E o (flatK enc k dk)).heap.size:=by simpa [Go.Sort.putRow,mapBlock,Go.Sort.ahead] using hb2
     have e1:(Go.Proofs.sortWorldK enc k w E o m dk os).cell? ⟨E,j,none⟩=(Go.Sort.putRow _root_.id (Go.Sort.ahead w m) E o (flatK enc k dk)).cell? ⟨E,j,none⟩:=(below_grow _ os).cell (p:=⟨E,j,none⟩) hbp;rw [e1,cell?_putRow_other _root_.id _ _ _ _ _ (.inr (.inl u))];exact J
    ·rw [Go.Proofs.cell?_sortWorldK_other enc k w b o m dk os ⟨E,j,none⟩ hbb hb2];exact J
  have H:=Go.Proofs.AnyQ.slices_SortFunc L k aE zE enc I (λx v G=>x.2.2.one' v G) K hO' gf #[] b o c d w eg hcmp hH hbw (by rw [D];unfold yK at hlim;omega);rw [D] at H;refine Calls.mono H ?_
  rintro e w' ⟨rfl,s,m,os,F,S,rfl⟩
  have U:s.size=Lx.length:=F.1.trans D
  let new:=putCells _root_.id o (flatK enc k s) cells
  have R:(flatK enc k s).size=Lx.length * k:=by rw [size_flatK,U]
  have hw:Go.Proofs.sortWorldK enc k w b o m s os=grow ((Go.Sort.ahead w m).setRow b new) os:=by
   unfold Go.Proofs.sortWorldK putRowK putRow;rw [mapBlock_setRow (w:=Go.Sort.ahead w m) (b:=b) _ k2]
  have hnsz:new.size=cells.size:=by simp [new,putCells]
  have M:∀j,new[j]?=(cells[j]?).map λx=>if o<=j/\j < o+Lx.length * k then (flatK enc k s)[j - o]! else x:=λj=>by
   simp only [new,putCells,Array.getElem?_mapIdx,R];rfl
  have Z:(new.toList.drop o).take (Lx.length * k)=(flatK enc k s).toList:=by
   apply tu;intro j;rw [uw];split
   ·rename_i u;have hjs:j < (flatK enc k s).size:=by rw [R];exact u
    rw [uF,uv,M,uH (by omega),u7,up ⟨by omega,by omega⟩,uq,uv,uH hjs,getElem!_pos _ j hjs]
   ·rename_i u;rw [th];simp [R];omega
  have hva:VA g ((s.toList.map (λx:A=>x.1.1)).map row).flatten (flatK enc k s).toList:=by
   rw [flatK_list I];have hlv:(g.cut 0 0).lv g:=⟨λ_ _ _ e=>e,λi c e=>by simp [Gh.cut] at e,λi t e=>by simp [Gh.cut] at e,λ_ _ e=>e,λ_ e=>e⟩
   have:=VA.join (g:=g) (row:=row) (s.toList.map (λx:A=>x.1)) (λp hp=>by
    obtain ⟨x,_,rfl⟩:=tF.1 hp;exact VA.monoV hlv _ _ x.2.2)
   simpa [rl,enc] using this
  have Q:∀e ∈ (s.toList.map (λx:A=>x.1.1)).map row,e.length=k:=λe he=>by
   obtain ⟨x,_,rfl⟩:=tF.1 he;exact hk x
  have hpu:(((s.toList.map (λx:A=>x.1.1)).map row).flatten).all AV.pure=true:=by
   rw [ux] at Y ⊢;intro a ha;obtain ⟨l,hl,ha⟩:=p4.1 ha;obtain ⟨x,hx,rfl⟩:=tF.1 hl;obtain ⟨y,_,rfl⟩:=tF.1 hx;exact Y a (p4.2 ⟨_,tF.2 ⟨_,y.2.1,rfl⟩,ha⟩)
  have r2:=(r.ahead m).storeRow (es':=(s.toList.map (λx:A=>x.1.1)).map row) (new:=new) (o:=o) hb hti (by simpa using k1) k2 hnsz (λj u=>by
    have hno:¬ (o<=j/\j < o+Lx.length * k):=by omega
    rw [M];simp only [uu hno];cases cells[j]? <;> rfl) (by simp [U]) Q hpu
   (by rw [uz,Z];exact hva) (by simpa using hLx)
  have r3:=r2.beyond (below_grow _ os);rw [hw];have hpm:(s.toList.map (λx:A=>x.1.1)).Perm Lx:=by
   have C:=F.2.2;have x1:s.extract 0 Lx.length=s:=by rw [<- U];simp
   have x2:d.extract 0 Lx.length=d:=by rw [<- D];simp
   rw [x1,x2] at C;have:=C.map (λx:A=>x.1.1);have e2:d.toList.map (λx:A=>x.1.1)=Lx:=by
    have e3:d.toList.map (λx:A=>x.1.1)=(X.map (λx:A=>x.1)).map (·.1):=by simp [d,rl]
    exact e3.trans ((congrArg (List.map (·.1)) da1).trans d1)
   rwa [e2] at this
  refine ⟨_,_,_,g,rfl,⟨rfl,_,hpm,?_,rfl⟩,Gh.le.refl g,r3,by simp only [V];exact ⟨#[],rfl,by simp [VL]⟩⟩;rw [tC];intro i j hi u hij;simp only [uz,t8] at hi u;have:=S i j (tK _) hij (by omega);rw [getElem!_pos s j u,getElem!_pos s i hi] at this;simpa [Go.Proofs.ltOf,K] using this
def SortedOf {α:Type} (cf:α->α->Int) (L L':List α):Prop:=L'.Perm L/\L'.Pairwise λa b=>¬ cf b a < 0
open Classical in
noncomputable def sortF {α:Type} (cf:α->α->Int) (L:List α):Option (List α) :=
 if h:SwoOn L cf/\L.length<=yK/\∃L',SortedOf cf L L'/\∀M,SortedOf cf L M->M=L' then some (Classical.choose h.2.2) else none
theorem sortF_is {α:Type} {cf:α->α->Int} {L R:List α} (h:sortF cf L=some R):SwoOn L cf/\L.length<=yK/\SortedOf cf L R/\∀M,SortedOf cf L M->M=R:=by
 unfold sortF at h;split at h
 ·rename_i a;injection h with h;subst h;exact ⟨a.1,a.2.1,tN a.2.2⟩
 ·cases h
theorem sortF_of {α:Type} {cf:α->α->Int} {L R:List α} (e:SwoOn L cf) (c:L.length<=yK) (d:SortedOf cf L R) (b:∀M,SortedOf cf L M->M=R):sortF cf L=some R:=by
 have a:SwoOn L cf/\L.length<=yK/\∃L',SortedOf cf L L'/\∀M,SortedOf cf L M->M=L':=⟨e,c,R,d,b⟩
 unfold sortF;rw [p9 a,b _ (tN a.2.2).1]
theorem sorted_one {α:Type} {cf:α->α->Int}:∀{M R:List α},M.Perm R->M.Pairwise (λa b=>¬ cf b a < 0)->R.Pairwise (λa b=>¬ cf b a < 0)->(∀x y,x ∈ M->y ∈ M->¬ cf x y < 0->¬ cf y x < 0->x=y)->M=R
 | [],R,hp,_,_,_=>by have:=hp.symm.eq_nil;rw [this]
 | x::M,[],hp,_,_,_=>by have:=hp.eq_nil;cases this
 | x::M,y::R,hp,hm,hr,hs=>by
  have f:x=y:=by
   have d:x ∈ y::R:=hp.subset (by simp);have c:y ∈ x::M:=hp.symm.subset (by simp);rcases uD.1 d with e | d
   ·exact e
   ·rcases uD.1 c with e | c
    ·exact e.symm
    ·have m:=(uW.1 hm).1 y c;have i:=(uW.1 hr).1 x d;exact hs x y (by simp) (by simp [c]) i m
  subst f;rw [sorted_one ((List.perm_cons x).1 hp) (uW.1 hm).2 (uW.1 hr).2 λa b j l=>hs a b (by simp [j]) (by simp [l])]
theorem spec_sortF {P:Program} {ρ:Ren} (L:Go.Proofs.SlLaysF0.n6 P ρ) {k:Nat} (m:∀w,(isAgg (ρ.t 24)).run P w=.ok true w) (j:∀w,(Go.sizeOf (ρ.t 24)).run P w=.ok k w)
  {α:Type} {row:α->List AV} (u:∀x,(row x).length=k) {Lx R:List α} {cf:α->α->Int} {a:Nat} (e:∀args w,(callFunc a args).run P w=.ok (.enter a args) w) (s:CmpOk P a row Lx cf) (c:sortF cf Lx=some R)
  {q:Nat} {h:AH} {B B':List Blk} {T:List Nat} {i:Nat} (d:B[i]?=some (.row q k (Lx.map row))) (r:B.set i (.row q k (R.map row))=B') :
  Spec P (ρ.f 6) [.rsl (h.blks.length+i) q k Lx.length,.fn (.func a) [] []] (h.ext B T) (λb hh=>b=.tup []/\hh=h.ext B' T):=by
 obtain ⟨v,n,_,p⟩:=sortF_is c;refine (spec_sort L m j u e v s (id:=h.blks.length+i) (by rw [yA];exact d) n).mono ?_
 rintro b hh ⟨rfl,L',l,o,rfl⟩
 obtain rfl:=p L' ⟨l,o⟩;exact ⟨rfl,by rw [ext_put,r]⟩
open Classical in
noncomputable def sortO {α:Type} (c:α->α->Option Int) (L:List α):Option (List α):=if ∀x ∈ L,∀y ∈ L,(c x y).isSome=true then sortF (λx y=>(c x y).getD 0) L else none
theorem sortO_is {α:Type} {c:α->α->Option Int} {L R:List α} (h:sortO c L=some R):(∀x ∈ L,∀y ∈ L,(c x y).isSome=true)/\sortF (λx y=>(c x y).getD 0) L=some R:=by
 unfold sortO at h;split at h
 ·rename_i h0;exact ⟨h0,h⟩
 ·cases h
theorem sortO_len {α:Type} {c:α->α->Option Int} {L R:List α} (h:sortO c L=some R):R.length=L.length:=(sortF_is (sortO_is h).2).2.2.1.1.length_eq
theorem enters_fn {P : Program} {f : FuncId} {fn : Func} {c : Code} (hf : P.funcs[f]? = some fn) (hb : fn.body = some c) (hname : (fn.name == "runtime.NumGoroutine") = false) : ∀ args w, (callFunc f args).run P w = .ok (.enter f args) w := fun args w => by
 have hn : ¬ fn.name = "runtime.NumGoroutine" := by simpa using hname
 simp [callFunc,hf,hb,hn]
theorem spec_sortO {P:Program} {ρ:Ren} (L:Go.Proofs.SlLaysF0.n6 P ρ) {k:Nat} (o:∀w,(isAgg (ρ.t 24)).run P w=.ok true w) (m:∀w,(Go.sizeOf (ρ.t 24)).run P w=.ok k w)
  {α:Type} {row:α->List AV} (C:∀x,(row x).length=k) (A:∀x,(row x).all AV.pure=true) (b:∀x,plL (row x)=true) {Lx R:List α} {c:α->α->Option Int} {a:Nat} (l:∀args w,(callFunc a args).run P w=.ok (.enter a args) w)
  (n:∀x y v,c x y=some v->Spec P a [.agg (row x),.agg (row y)] h0 (λr h=>r=.int .i64 v/\h=h0)) (e:sortO c Lx=some R)
  {q:Nat} {h:AH} {B B':List Blk} {T:List Nat} {i:Nat} (j:B[i]?=some (.row q k (Lx.map row))) (z:B.set i (.row q k (R.map row))=B') :
  Spec P (ρ.f 6) [.rsl (h.blks.length+i) q k Lx.length,.fn (.func a) [] []] (h.ext B T) (λu hh=>u=.tup []/\hh=h.ext B' T):=by
 obtain ⟨E,s⟩:=sortO_is e;refine spec_sortF L o m C l (CmpOk.of_spec A b λx y p D=>?_) s j z;obtain ⟨v,d⟩:=pU.1 (E x p y D);have:=n x y v d;rw [d];exact this
end Go.Vv
