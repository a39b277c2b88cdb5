/- How an argument's reading gives a value of the plain kind. -/
import Derived.Test.YtdkfnnpdeenhnaaGreatVvZ
import Derived.ProofKit
import Derived.OpenShut
namespace Go.Vv
open Go Go.RowKit Go.ChangeShapes Go.WideShapes Go.ChangeAt

def g0 (W:World):Gh:={ Φ:=λb j=>if b < W.heap.size then W.cell? ⟨b,j,none⟩ else none,σ:=[],τ:=[],δ:=[] }
def h0:AH:={ blks:=[],toks:=[] }
theorem rel0 (W:World):Rel W.heap.size W (g0 W) h0 W:=by
 refine ⟨Below.refl _ _,Nat.le_refl _,λb j v h=>?_,rfl,λi c k a _=>by simp [g0] at a,rfl,λi t d=>by simp [g0] at d,λi j c hi=>by simp [g0] at hi,λi j t t' b x y hi=>by simp [g0] at hi,λi c j t b x hi=>by simp [g0] at hi,λc a=>by simp [g0] at a,λi k hi=>by simp [g0] at hi,λi j t k e es es' hi=>by simp [h0] at hi⟩;simp only [g0] at h;split at h
 ·exact h
 ·cases h

section
variable {H:Type} {enc:TypeId×Value->H} {P:Program} {W:World}
mutual
def xH:DataW H->Nat
 | .lit (.string bytes)=>bytes.length+1
 | .lit _=>1
 | .nil=>1
 | .ptr d=>xH d+1
 | .slice elems spare=>xG elems+xG spare+1
 | .agg parts=>xG parts+1
 | .iface _ d=>xH d+1
 | .map entries=>vBulkEs entries+1
 | .held _=>1
def xG:List (DataW H)->Nat
 | []=>0
 | d::r=>xH d+xG r
def vBulkEs:List (Lit×DataW H)->Nat
 | []=>0
 | x::r=>vBulkEs r+vBulkE x
def vBulkE:Lit×DataW H->Nat
 | (.string bytes,d)=>bytes.length+xH d+1
 | (_,d)=>xH d+1
end
theorem sum_bulk {α:Type} {bk:α->Nat}:∀{l:List α} {ds:List (DataW H)},l.length=ds.length->(∀(i:Nat) (a:α) (d:DataW H),l[i]?=some a->ds[i]?=some d->bk a<=xH d)->(l.map bk).sum<=xG ds
 | [],_,_,_=>by simp
 | a::r,[],hl,_=>by simp at hl
 | a::r,d::ds,hl,h=>by
  have e:=h 0 a d rfl rfl;have f:=sum_bulk (bk:=bk) (l:=r) (ds:=ds) (by simpa using hl) (λi x y c b=>h (i+1) x y (by simpa using c) (by simpa using b));simp only [List.map_cons,List.sum_cons,xG];omega
def RdN (enc:TypeId×Value->H) (P:Program) (W:World) (n:Nat) (t:TypeId) {α:Type} (row:α->List AV) (wf:α->Prop) (bk:α->Nat):Prop :=
 ∀cs x,DataW.trod enc P W 0 (λ_=>true) true n t cs=some x->∃y,VL (g0 W) (row y) cs/\wf y/\bk y<=xH x.1
theorem RdN.zero {t:TypeId} {α:Type} {row:α->List AV} {wf:α->Prop} {bk:α->Nat}:RdN enc P W 0 t row wf bk:=λcs x h=>by simp [DataW.trod] at h
theorem RdN.map {n:Nat} {t:TypeId} {α e:Type} {row:α->List AV} {wf:α->Prop} {b:e->List AV} {d:e->Prop} {bk:α->Nat} {c:e->Nat} (f:α->e) (h:RdN enc P W n t row wf bk) (j:∀a,b (f a)=row a) (k:∀a,wf a->d (f a)) (g:∀a,c (f a)=bk a):RdN enc P W n t b d c:=λcs x m=>by
 obtain ⟨y,o,l,i⟩:=h cs x m;exact ⟨f y,by rw [j];exact o,k y l,by rw [g];exact i⟩
theorem rd_int {n:Nat} {t:TypeId} {k:IntKind} (b:P.underlying t=some (.int k)):RdN enc P W n t (intRow k) (InK k) (λ_=>1):=by
 cases n with
 | zero=>exact RdN.zero
 | succ n =>
  intro cs x h;rw [DataW.trod_step] at h;unfold DataW.trodStep at h;rw [b] at h;split at h <;> simp_all;obtain ⟨⟨rfl,a⟩,rfl⟩:=h;exact ⟨_,VL.cons (by simp only [V];rfl) (by simp [VL]),by simpa [Lit.wf,InK] using a,by simp [xH]⟩
theorem rd_str {n:Nat} {t:TypeId} (a:P.underlying t=some .string):RdN enc P W n t zd (λs=>s.length<=maxLen) (λs=>s.length+1):=by
 cases n with
 | zero=>exact RdN.zero
 | succ n =>
  intro cs x h;rw [DataW.trod_step] at h;unfold DataW.trodStep at h;rw [a] at h;split at h <;> simp_all;rename_i s;have hs:s.data.toList.length=s.size:=rfl;obtain ⟨h,rfl⟩:=h;refine ⟨s.data.toList,VL.cons ?_ (by simp [VL]),by rw [hs];exact h,by simp [xH]⟩;simp only [V];exact ⟨by simp,by rw [hs];exact h⟩
theorem mapM_get {α e:Type} {f:α->Option e}:∀{l:List α} {xs:List e},l.mapM f=some xs->∀a ∈ l,∃x,f a=some x
 | [],_,_,a,c=>by cases c
 | b::r,xs,h,a,c=>by
  simp only [List.mapM_cons,Option.bind_eq_bind,Option.bind_eq_some_iff,Option.pure_def,Option.some.injEq] at h;obtain ⟨v,g,vs,d,rfl⟩:=h;rcases List.mem_cons.1 c with rfl | c
  ·exact ⟨v,g⟩
  ·exact mapM_get d a c
theorem mapM_len {α c:Type} {f:α->Option c}:∀{l:List α} {xs:List c},l.mapM f=some xs->xs.length=l.length
 | [],_,h=>by simp at h;subst h;rfl
 | b::r,xs,h=>by
  simp only [List.mapM_cons,Option.bind_eq_bind,Option.bind_eq_some_iff,Option.pure_def,Option.some.injEq] at h;obtain ⟨v,d,vs,a,rfl⟩:=h;simp [mapM_len a]
theorem mapM_at {α d:Type} {f:α->Option d}:∀{l:List α} {xs:List d},l.mapM f=some xs->∀(i:Nat) (a:α),l[i]?=some a->∃x,f a=some x/\xs[i]?=some x
 | [],_,_,i,a,ha=>by simp at ha
 | b::r,xs,h,i,a,ha=>by
  simp only [List.mapM_cons,Option.bind_eq_bind,Option.bind_eq_some_iff,Option.pure_def,Option.some.injEq] at h;obtain ⟨v,e,vs,c,rfl⟩:=h;cases i with
  | zero=>simp at ha;subst ha;exact ⟨v,e,rfl⟩
  | succ i=>simpa using mapM_at c i a (by simpa using ha)
theorem ones_of_pure {b:List AV} (h:b.all AV.pure=true):b.all AV.one=true:=by
 rw [List.all_eq_true] at h ⊢;exact λa c=>AV.one_of_pure (h a c)
theorem rd_slice {n:Nat} {t e:TypeId} {k:Nat} {α:Type} {row:α->List AV} {wf:α->Prop} {bk:α->Nat} (hu:P.underlying t=some (.slice e)) (hc:P.cellsOf e=k) (hk:0 < k) (hl:∀y,(row y).length=k) (S:∀y,(row y).all AV.pure=true) (Y:∀m,m < n->RdN enc P W m e row wf bk) :
  RdN enc P W n t (λL=>[AV.sl k (L.map row)]) (λL:List α=>L.length<=maxLen/\∀y ∈ L,wf y) (λL=>(L.map bk).sum+1):=by
 cases n with
 | zero=>exact RdN.zero
 | succ n =>
  intro cs x h;rw [DataW.trod_step] at h;unfold DataW.trodStep at h;rw [hu] at h;split at h
  all_goals first | (exfalso;simp_all;done) | skip
  ·-- nil
   cases h;exact ⟨[],VL.cons (by simp only [V];exact ⟨none,0,rfl,by simp,by simp,.inl rfl⟩) (by simp [VL]),⟨by simp,λy r=>by cases r⟩,by simp [xH]⟩
  ·rename_i _ _ U a len cap A;injection A with A;injection A with A;subst A;simp only [hc] at h;split at h
   ·rename_i X;obtain ⟨_,M,B⟩:=X;rcases hel:(List.range len).mapM λi=>(W.cells? 0 (a.add (i * k)) k).bind (DataW.trod enc P W 0 (λ_=>true) true n e) with _ | b
    ·rw [hel] at h;simp at h
    ·-- the elements,one by one
     have N:b.length=len:=by rw [mapM_len hel];simp
     have G:xG (b.map (·.1))+1<=xH x.1:=by
      rw [hel] at h;simp only [Option.bind_some,Option.map_eq_some_iff] at h;obtain ⟨rest,_,rfl⟩:=h;simp only [xH];omega
     have key:∀i,i < len->∃y us,W.cells? 0 (a.add (i * k)) k=some us/\VL (g0 W) (row y) us/\wf y/\∀z,b[i]?=some z->bk y<=xH z.1:=by
      intro i hi;obtain ⟨z,w,Q⟩:=mapM_at hel i i (List.getElem?_range hi);rcases hcs:W.cells? 0 (a.add (i * k)) k with _ | us
      ·rw [hcs] at w;simp at w
      ·rw [hcs] at w;obtain ⟨y,p,O,I⟩:=Y n (Nat.lt_succ_self n) us z w;exact ⟨y,us,rfl,p,O,λz' D=>by rw [Q] at D;injection D with e;rw [<- e];exact I⟩
     rcases Nat.eq_zero_or_pos len with h0 | s
     ·subst h0;exact ⟨[],VL.cons (by simp only [V];exact ⟨some a,cap,rfl,by simp,B,.inl rfl⟩) (by simp [VL]),⟨by simp,λy r=>by cases r⟩,by simp;omega⟩
     ·have K:Nonempty α:=⟨(key 0 s).choose⟩
      have E:∀i,∃y,i < len->∃us,W.cells? 0 (a.add (i * k)) k=some us/\VL (g0 W) (row y) us/\wf y/\∀z,b[i]?=some z->bk y<=xH z.1:=by
       intro i;by_cases hi:i < len
       ·obtain ⟨y,us,hh⟩:=key i hi;exact ⟨y,λ_=>⟨us,hh⟩⟩
       ·exact ⟨Classical.choice K,λh=>absurd h hi⟩
      obtain ⟨f,F⟩:=Classical.axiomOfChoice E
      -- no place within a cell
      have l:a.spot=none:=by
       obtain ⟨us,p,_⟩:=F 0 s;unfold World.cells? at p;rw [if_pos (Nat.zero_le _)] at p;obtain ⟨v,g⟩:=mapM_get p 0 (by simpa using hk);simp only [Nat.zero_mul] at g;have e1:(a.add 0).add 0=a:=by simp [Addr.add]
       rw [e1] at g;unfold World.cell? at g;split at g
       ·split at g
        ·cases g
        ·rename_i hs;simpa using hs
       ·cases g
      have R:a=⟨a.block,a.off,none⟩:=by cases a;simp at l;simp [l]
      refine ⟨(List.range len).map f,VL.cons ?_ (by simp [VL]),⟨by simp;omega,λy r=>?_⟩,?_⟩
      ·simp only [V];refine ⟨some a,cap,by simp,by simpa using M,B,.inr ⟨a.block,a.off,congrArg some R,VE.mk λi U c=>?_⟩⟩;simp only [List.map_map,List.getElem?_map] at c;have hi:i < len:=by
        refine Decidable.byContradiction λhn=>?_;rw [List.getElem?_eq_none (by simp;omega)] at c;cases c
       rw [List.getElem?_range hi] at c;simp only [Option.map_some,Function.comp,Option.some.injEq] at c;subst c;obtain ⟨us,p,O,_,_⟩:=F i hi;refine ⟨hl _,VC.ofVA (VA.mk O (ones_of_pure (S _))) (S _) λj u T=>?_⟩;unfold World.cells? at p;rw [if_pos (Nat.zero_le _)] at p;have J:j < k:=by
        have:=(List.getElem?_eq_some_iff.1 T).1;rw [mapM_len p] at this;simpa using this
       obtain ⟨v,g,q⟩:=mapM_at p j j (List.getElem?_range J);rw [T] at q;injection q with q;subst q;have Z:(a.add (i * k)).add j=⟨a.block,a.off+i * k+j,none⟩:=by
        rw [R,xb,xb]
       rw [Z] at g;simp only [g0];rw [if_pos (World.block_lt_of_cell? W _ g)];exact g
      ·obtain ⟨i,hi,rfl⟩:=List.mem_map.1 r;obtain ⟨us,_,_,I,_⟩:=F i (by simpa using hi);exact I
      ·refine Nat.le_trans (Nat.add_le_add_right (sum_bulk (bk:=bk) (ds:=b.map (·.1)) (by simp [N]) λi y d r hd=>?_) 1) G;simp only [List.getElem?_map,Option.map_eq_some_iff] at r hd;obtain ⟨i',o,rfl⟩:=r;obtain ⟨z,w,rfl⟩:=hd;have C:i < len:=by have:=(List.getElem?_eq_some_iff.1 o).1;simpa using this
       rw [List.getElem?_range C] at o;injection o with o;subst o;obtain ⟨us,_,_,_,h4⟩:=F i C;exact h4 z w
   ·cases h

def RdF (enc:TypeId×Value->H) (P:Program) (W:World) (n:Nat) (total off:Nat) (fs:List Field) {α:Type} (row:α->List AV) (wf:α->Prop) (bk:α->Nat):Prop :=
 ∀(cs:List Value) xs,cs.length=total->(fs.mapM λf=>DataW.trod enc P W 0 (λ_=>true) true n f.type ((cs.drop f.offset).take (P.cellsOf f.type)))=some xs->∃y,VL (g0 W) (row y) (cs.drop off)/\wf y/\bk y<=xG (xs.map (·.1))
theorem rf_nil {n a off:Nat} (h:a<=off):RdF enc P W n a off [] (λ_:Unit=>[]) (λ_=>True) (λ_=>0):=λcs xs b _=>⟨(),by rw [List.drop_of_length_le (by omega)];simp [VL],trivial,Nat.zero_le _⟩
theorem yM {n b off k a:Nat} {f:Field} {fs:List Field} {α j:Type} {row:α->List AV} {wf:α->Prop} {c:j->List AV} {i:j->Prop} {bk:α->Nat} {g:j->Nat} (x:f.offset=off) (B:P.cellsOf f.type=k) (d:off+k=a) (h:RdN enc P W n f.type row wf bk) (r:RdF enc P W n b a fs c i g) :
  RdF enc P W n b off (f::fs) (λp:α×j=>row p.1++c p.2) (λp=>wf p.1/\i p.2) (λp=>bk p.1+g p.2):=by
 intro cs xs w m;simp only [List.mapM_cons,Option.bind_eq_bind,Option.bind_eq_some_iff,Option.pure_def,Option.some.injEq] at m;obtain ⟨v,s,vs,l,rfl⟩:=m;obtain ⟨y,o,t,C⟩:=h _ _ s;obtain ⟨z,q,u,A⟩:=r _ _ w l;refine ⟨(y,z),?_,⟨t,u⟩,by simp only [List.map_cons,xG];omega⟩;have e:cs.drop off=(cs.drop off).take k++cs.drop a:=by
  rw [<- d,<- List.drop_drop,List.take_append_drop]
 rw [e];rw [x,B] at o;exact VL.append o q
theorem qb {n:Nat} {t:TypeId} {fs:Array Field} {l:List Field} {b:Nat} {α:Type} {row:α->List AV} {wf:α->Prop} {bk:α->Nat} (k:P.underlying t=some (.struct fs)) (e:fs.toList=l) (o:P.cellsOf t=b) (h:∀m,m < n->RdF enc P W m b 0 l row wf bk):RdN enc P W n t row wf (λy=>bk y+1):=by
 cases n with
 | zero=>exact RdN.zero
 | succ n =>
  intro cs x a;rw [DataW.trod_step] at a;unfold DataW.trodStep at a;rw [k] at a;split at a
  all_goals first | (exfalso;simp_all;done) | skip
  rename_i cs _ _ g c;injection c with c;injection c with c;subst c;split at a
  ·rename_i d;rw [e] at a;rcases hm:(l.mapM λf=>DataW.trod enc P W 0 (λ_=>true) true n f.type ((cs.drop f.offset).take (P.cellsOf f.type))) with _ | xs
   ·rw [hm] at a;simp at a
   ·obtain ⟨y,j,i,p⟩:=h n (Nat.lt_succ_self n) cs xs (by rw [d,o]) hm;rw [hm] at a;simp only [Option.map_some,Option.some.injEq] at a;subst a;exact ⟨y,by simpa using j,i,by simp only [xH];omega⟩
  ·cases a
theorem rd_arg {t:TypeId} {α:Type} {row:α->List AV} {wf:α->Prop} {bk:α->Nat} {v:Value} {d:DataW H} {p:List MemPlace} (b:∀n,RdN enc P W n t row wf bk) (h:DataW.Trod enc P W 0 (λ_=>true) true t v d p):∃y,VL (g0 W) (row y) v.cells.toList/\wf y/\bk y<=xH d:=by
 obtain ⟨n,a⟩:=h;exact b n _ _ a
theorem V.of_one {a:AV} {v:Value} {g:Gh} (b:∀cs,v ≠ .agg cs) (h:VL g [a] v.cells.toList):V g a v:=by
 simp only [VL] at h;obtain ⟨u,s,e,c,rfl⟩:=h;have:v.cells=#[v]:=by cases v <;> first | rfl | exact absurd rfl (b _)
 rw [this] at e;simp at e;rw [e];exact c
theorem V.of_agg {cs:List AV} {v:Value} {g:Gh} (a:∃us,v=.agg us) (b:cs.all AV.one=true) (h:VL g cs v.cells.toList):V g (.agg cs) v:=by
 obtain ⟨us,rfl⟩:=a;simp only [V];exact ⟨us,rfl,VA.mk h b⟩
theorem post_of_below {f:Func} {s:ChangeSpec} {apart m c l:Bool} {W':World} {args:Array Value} {v:Value} {ds gs:List (DataW H)} {a q pv:List MemPlace}
  (x:DataW.Whole enc P f.params.toList s.vars apart W args.toList ds gs a) (y:Below W.heap.size W W')
  (i:∀(b:Nat) (n:Nat->Bool) (hd:Bool),DataW.TrodAll enc P W' b n hd f.resultTypes.toList (v.resultList f.resultTypes.size) (s.fn H (ds++gs)).results [])
  (g:∀n:Nat->Bool,(∀p ∈ a,n p.block=true)->DataW.TrodAll enc P W' 0 n true f.params.toList args.toList (s.fn H (ds++gs)).args q)
  (e:∀n:Nat->Bool,(∀p ∈ a,n p.block=true)->DataW.TrodVars enc P W' n s.vars (s.fn H (ds++gs)).vars pv)
  (h:a=q++pv)
  (w:∀(j:Nat) (t:TypeId) (r:Value),f.resultTypes[j]?=some t->(v.resultList f.resultTypes.size)[j]?=some r->Value.okWide P W' .any 0 t r) :
  s.post enc P f apart m c l W args v W':=by
 have u:∀p ∈ a,p.block < W.heap.size:=λp d=>by simpa using x.lt p d
 have k:∀p ∈ a,(λb=>decide (b < W.heap.size)) p.block=true:=λp d=>by simpa using u p d
 refine ⟨ds,gs,a,[],q,pv,x,i _ _ _,g _ k,e _ k,World.keptBut_mono (λp d=>⟨d,?_⟩) (y.frame (· ∈ a)),λ_=>?_⟩
 ·rw [h,List.mem_append] at d;exact Or.inr d
 ·obtain ⟨_,_,_,_,_,A,B⟩:=x;refine ⟨w,_,_,([]++q)++pv,⟨[]++q,pv,trodAll_append (g _ (λ_ _=>rfl)) (i _ _ _),e _ (λ_ _=>rfl),rfl,?_,?_⟩,?_⟩
  ·intro b off d;have o:MemPlace.cell b off ∈ a:=by rw [h];simpa using d
   rw [y.frozen (p:=⟨b,off,none⟩) (u _ o)];exact A b off o
  ·intro z;have:=B z;rw [h] at this;simpa using this
  ·intro p d _;rw [h];simpa using d
end
end Go.Vv
