/- How an argument's reading gives a value of the plain kind. -/
import Derived.Test.YtcociipjgndnaaaGreatVvZ
import Derived.ProofKit
import Derived.OpenShut
namespace Go.Vv
open Go Go.RowKit Go.ChangeShapes Go.WideShapes Go.ChangeAt

def g0 (W:World):Gh:={ Φ:=λb j=>if b < W.heap.size then W.cell? ⟨b,j,none⟩ else none,σ:=[],τ:=[],δ:=[],O:=λb=>b < W.heap.size }
def h0:AH:={ blks:=[],toks:=[] }
theorem rel0 (W:World):Rel W.heap.size W (g0 W) h0 W:=by
 refine ⟨Below.refl _ _,uh _,λb j v h=>?_,rfl,λi c k a _=>by simp [g0] at a,rfl,λi t d=>by simp [g0] at d,λi j c hi=>by simp [g0] at hi,λi j t t' b x y hi=>by simp [g0] at hi,λi c j t b x hi=>by simp [g0] at hi,λc a=>by simp [g0] at a,λi k hi=>by simp [g0] at hi,λi j t k k' es es' hi=>by simp [h0] at hi,λb x h=>by simp [g0] at h,λb h=>⟨h,λs=>by simp [g0]⟩⟩;simp only [g0] at h;split at h
 ·exact h
 ·cases h

section
variable {H:Type} {enc:TypeId×Value->H} {P:Program} {W:World}
mutual
def vh:DataW H->Nat
 | .lit (.string bytes)=>bytes.length+1
 | .lit _=>1
 | .nil=>1
 | .ptr d=>vh d+1
 | .slice elems spare=>vg elems+vg spare+1
 | .agg parts=>vg parts+1
 | .iface _ d=>vh d+1
 | .map entries=>vBulkEs entries+1
 | .held _=>1
def vg:List (DataW H)->Nat
 | []=>0
 | d::r=>vh d+vg r
def vBulkEs:List (Lit×DataW H)->Nat
 | []=>0
 | x::r=>vBulkEs r+vBulkE x
def vBulkE:Lit×DataW H->Nat
 | (.string bytes,d)=>bytes.length+vh d+1
 | (_,d)=>vh d+1
end
theorem sum_bulk {α:Type} {bk:α->Nat}:∀{l:List α} {ds:List (DataW H)},l.length=ds.length->(∀(i:Nat) (a:α) (d:DataW H),l[i]?=some a->ds[i]?=some d->bk a<=vh d)->(l.map bk).sum<=vg ds
 | [],_,_,_=>by simp
 | a::r,[],hl,_=>by simp at hl
 | a::r,d::ds,hl,h=>by
  have f:=h 0 a d rfl rfl;have e:=sum_bulk (bk:=bk) (l:=r) (ds:=ds) (by simpa using hl) (λi x y b c=>h (i+1) x y (by simpa using b) (by simpa using c));simp only [uC,tZ,vg];omega
def RdN (enc:TypeId×Value->H) (P:Program) (W:World) (n:Nat) (t:TypeId) {α:Type} (row:α->List AV) (wf:α->Prop) (bk:α->Nat):Prop :=
 ∀cs x,DataW.trod enc P W 0 (λ_=>true) true n t cs=some x->∃y,VL (g0 W) (row y) cs/\wf y/\bk y<=vh x.1
theorem RdN.zero {t:TypeId} {α:Type} {row:α->List AV} {wf:α->Prop} {bk:α->Nat}:RdN enc P W 0 t row wf bk:=λcs x h=>by simp [DataW.trod] at h
theorem RdN.map {n:Nat} {t:TypeId} {α e:Type} {row:α->List AV} {wf:α->Prop} {b:e->List AV} {c:e->Prop} {bk:α->Nat} {d:e->Nat} (f:α->e) (h:RdN enc P W n t row wf bk) (m:∀a,b (f a)=row a) (k:∀a,wf a->c (f a)) (g:∀a,d (f a)=bk a):RdN enc P W n t b c d:=λcs x i=>by
 obtain ⟨y,o,j,l⟩:=h cs x i;exact ⟨f y,by rw [m];exact o,k y j,by rw [g];exact l⟩
theorem qv {n:Nat} {t:TypeId} {k:IntKind} (a:P.underlying t=some (.int k)):RdN enc P W n t (intRow k) (InK k) (λ_=>1):=by
 cases n with
 | zero=>exact RdN.zero
 | succ n =>
  intro cs x h;rw [DataW.trod_step] at h;unfold DataW.trodStep at h;rw [a] at h;split at h <;> simp_all;obtain ⟨⟨rfl,b⟩,rfl⟩:=h;exact ⟨_,VL.cons (by simp only [V];rfl) (by simp [VL]),by simpa [Lit.wf,InK] using b,by simp [vh]⟩
theorem rd_str {n:Nat} {t:TypeId} (a:P.underlying t=some .string):RdN enc P W n t yx (λs=>s.length<=maxLen) (λs=>s.length+1):=by
 cases n with
 | zero=>exact RdN.zero
 | succ n =>
  intro cs x h;rw [DataW.trod_step] at h;unfold DataW.trodStep at h;rw [a] at h;split at h <;> simp_all;rename_i s;have hs:s.data.toList.length=s.size:=rfl;obtain ⟨h,rfl⟩:=h;refine ⟨s.data.toList,VL.cons ?_ (by simp [VL]),by rw [hs];exact h,by simp [vh]⟩;simp only [V];exact ⟨by simp,by rw [hs];exact h⟩
theorem mapM_get {α e:Type} {f:α->Option e}:∀{l:List α} {xs:List e},l.mapM f=some xs->∀a ∈ l,∃x,f a=some x
 | [],_,_,a,c=>by cases c
 | b::r,xs,h,a,c=>by
  simp only [ry,ru,tx,rX,un] at h;obtain ⟨v,g,vs,d,rfl⟩:=h;rcases uD.1 c with rfl | c
  ·exact ⟨v,g⟩
  ·exact mapM_get d a c
theorem mapM_len {α c:Type} {f:α->Option c}:∀{l:List α} {xs:List c},l.mapM f=some xs->xs.length=l.length
 | [],_,h=>by simp at h;subst h;rfl
 | b::r,xs,h=>by
  simp only [ry,ru,tx,rX,un] at h;obtain ⟨v,d,vs,a,rfl⟩:=h;simp [mapM_len a]
theorem mapM_at {α d:Type} {f:α->Option d}:∀{l:List α} {xs:List d},l.mapM f=some xs->∀(i:Nat) (a:α),l[i]?=some a->∃x,f a=some x/\xs[i]?=some x
 | [],_,_,i,a,ha=>by simp at ha
 | b::r,xs,h,i,a,ha=>by
  simp only [ry,ru,tx,rX,un] at h;obtain ⟨v,e,vs,c,rfl⟩:=h;cases i with
  | zero=>simp at ha;subst ha;exact ⟨v,e,rfl⟩
  | succ i=>simpa using mapM_at c i a (by simpa using ha)
theorem ones_of_pure {b:List AV} (h:b.all AV.pure=true):b.all AV.one=true:=by
 rw [ux] at h ⊢;exact λa c=>AV.one_of_pure (h a c)
theorem rd_slice {n:Nat} {t e:TypeId} {k:Nat} {α:Type} {row:α->List AV} {wf:α->Prop} {bk:α->Nat} (hu:P.underlying t=some (.slice e)) (hc:P.cellsOf e=k) (hk:0 < k) (Y:∀y,(row y).length=k) (T:∀y,(row y).all AV.pure=true) (hr:∀m,m < n->RdN enc P W m e row wf bk) :
  RdN enc P W n t (λL=>[AV.sl k (L.map row)]) (λL:List α=>L.length<=maxLen/\∀y ∈ L,wf y) (λL=>(L.map bk).sum+1):=by
 cases n with
 | zero=>exact RdN.zero
 | succ n =>
  intro cs x h;rw [DataW.trod_step] at h;unfold DataW.trodStep at h;rw [hu] at h;split at h
  all_goals first | (exfalso;simp_all;done) | skip
  ·-- nil
   cases h;exact ⟨[],VL.cons (by simp only [V];exact ⟨none,0,rfl,by simp,by simp,.inl rfl⟩) (by simp [VL]),⟨by simp,λy s=>by cases s⟩,by simp [vh]⟩
  ·rename_i _ _ Z a len cap A;injection A with A;injection A with A;subst A;simp only [hc] at h;split at h
   ·rename_i U;obtain ⟨_,K,D⟩:=U;rcases hel:(List.range len).mapM λi=>(W.cells? 0 (a.add (i * k)) k).bind (DataW.trod enc P W 0 (λ_=>true) true n e) with _ | b
    ·rw [hel] at h;simp at h
    ·-- the elements,one by one
     have O:b.length=len:=by rw [mapM_len hel];simp
     have J:vg (b.map (·.1))+1<=vh x.1:=by
      rw [hel] at h;simp only [ua,sP] at h;obtain ⟨rest,_,rfl⟩:=h;simp only [vh];omega
     have key:∀i,i < len->∃y us,W.cells? 0 (a.add (i * k)) k=some us/\VL (g0 W) (row y) us/\wf y/\∀z,b[i]?=some z->bk y<=vh z.1:=by
      intro i hi;obtain ⟨z,w,G⟩:=mapM_at hel i i (rt hi);rcases hcs:W.cells? 0 (a.add (i * k)) k with _ | us
      ·rw [hcs] at w;simp at w
      ·rw [hcs] at w;obtain ⟨y,p,M,Q⟩:=hr n (sX n) us z w;exact ⟨y,us,rfl,p,M,λz' E=>by rw [G] at E;injection E with e;rw [<- e];exact Q⟩
     rcases su len with h0 | r
     ·subst h0;exact ⟨[],VL.cons (by simp only [V];exact ⟨some a,cap,rfl,by simp,D,.inl rfl⟩) (by simp [VL]),⟨by simp,λy s=>by cases s⟩,by simp;omega⟩
     ·have I:Nonempty α:=⟨(key 0 r).choose⟩
      have C:∀i,∃y,i < len->∃us,W.cells? 0 (a.add (i * k)) k=some us/\VL (g0 W) (row y) us/\wf y/\∀z,b[i]?=some z->bk y<=vh z.1:=by
       intro i;by_cases hi:i < len
       ·obtain ⟨y,us,hh⟩:=key i hi;exact ⟨y,λ_=>⟨us,hh⟩⟩
       ·exact ⟨Classical.choice I,λh=>absurd h hi⟩
      obtain ⟨f,F⟩:=Classical.axiomOfChoice C
      -- no place within a cell
      have o:a.spot=none:=by
       obtain ⟨us,p,_⟩:=F 0 r;unfold World.cells? at p;rw [up (tK _)] at p;obtain ⟨v,l⟩:=mapM_get p 0 (by simpa using hk);simp only [Nat.zero_mul] at l;have X:(a.add 0).add 0=a:=by simp [Addr.add]
       rw [X] at l;unfold World.cell? at l;split at l
       ·split at l
        ·cases l
        ·rename_i hs;simpa using hs
       ·cases l
      have S:a=⟨a.block,a.off,none⟩:=by cases a;simp at o;simp [o]
      refine ⟨(List.range len).map f,VL.cons ?_ (by simp [VL]),⟨by simp;omega,λy s=>?_⟩,?_⟩
      ·simp only [V];refine ⟨some a,cap,by simp,by simpa using K,D,.inr ⟨a.block,a.off,congrArg some S,VE.mk λi Z c=>?_⟩⟩;simp only [rN,s5] at c;have hi:i < len:=by
        refine pN λhn=>?_;rw [th (by simp;omega)] at c;cases c
       rw [rt hi] at c;simp only [u7,Function.comp,un] at c;subst c;obtain ⟨us,p,M,_,_⟩:=F i hi;refine ⟨Y _,VC.ofVA (VA.mk M (ones_of_pure (T _))) (T _) λj u R=>?_⟩;unfold World.cells? at p;rw [up (tK _)] at p;have N:j < k:=by
        have:=(uc.1 R).1;rw [mapM_len p] at this;simpa using this
       obtain ⟨v,l,q⟩:=mapM_at p j j (rt N);rw [R] at q;injection q with q;subst q;have e2:(a.add (i * k)).add j=⟨a.block,a.off+i * k+j,none⟩:=by
        rw [S,we,we]
       rw [e2] at l;simp only [g0];rw [up (World.block_lt_of_cell? W _ l)];exact l
      ·obtain ⟨i,hi,rfl⟩:=tF.1 s;obtain ⟨us,_,_,Q,_⟩:=F i (by simpa using hi);exact Q
      ·refine uU (Nat.add_le_add_right (sum_bulk (bk:=bk) (ds:=b.map (·.1)) (by simp [O]) λi y d s hd=>?_) 1) J;simp only [s5,sP] at s hd;obtain ⟨i',g,rfl⟩:=s;obtain ⟨z,w,rfl⟩:=hd;have B:i < len:=by have:=(uc.1 g).1;simpa using this
       rw [rt B] at g;injection g with g;subst g;obtain ⟨us,_,_,_,h4⟩:=F i B;exact h4 z w
   ·cases h

def RdF (enc:TypeId×Value->H) (P:Program) (W:World) (n:Nat) (total off:Nat) (fs:List Field) {α:Type} (row:α->List AV) (wf:α->Prop) (bk:α->Nat):Prop :=
 ∀(cs:List Value) xs,cs.length=total->(fs.mapM λf=>DataW.trod enc P W 0 (λ_=>true) true n f.type ((cs.drop f.offset).take (P.cellsOf f.type)))=some xs->∃y,VL (g0 W) (row y) (cs.drop off)/\wf y/\bk y<=vg (xs.map (·.1))
theorem rf_nil {n a off:Nat} (h:a<=off):RdF enc P W n a off [] (λ_:Unit=>[]) (λ_=>True) (λ_=>0):=λcs xs b _=>⟨(),by rw [tI (by omega)];simp [VL],trivial,tK _⟩
theorem yT {n a off k b:Nat} {f:Field} {fs:List Field} {α j:Type} {row:α->List AV} {wf:α->Prop} {c:j->List AV} {d:j->Prop} {bk:α->Nat} {g:j->Nat} (A:f.offset=off) (B:P.cellsOf f.type=k) (i:off+k=b) (h:RdN enc P W n f.type row wf bk) (r:RdF enc P W n a b fs c d g) :
  RdF enc P W n a off (f::fs) (λp:α×j=>row p.1++c p.2) (λp=>wf p.1/\d p.2) (λp=>bk p.1+g p.2):=by
 intro cs xs q m;simp only [ry,ru,tx,rX,un] at m;obtain ⟨v,s,vs,l,rfl⟩:=m;obtain ⟨y,o,u,C⟩:=h _ _ s;obtain ⟨z,x,w,t⟩:=r _ _ q l;refine ⟨(y,z),?_,⟨u,w⟩,by simp only [uC,vg];omega⟩;have e:cs.drop off=(cs.drop off).take k++cs.drop b:=by
  rw [<- i,<- tB,sG]
 rw [e];rw [A,B] at o;exact VL.append o x
theorem qI {n:Nat} {t:TypeId} {fs:Array Field} {l:List Field} {b:Nat} {α:Type} {row:α->List AV} {wf:α->Prop} {bk:α->Nat} (k:P.underlying t=some (.struct fs)) (e:fs.toList=l) (o:P.cellsOf t=b) (h:∀m,m < n->RdF enc P W m b 0 l row wf bk):RdN enc P W n t row wf (λy=>bk y+1):=by
 cases n with
 | zero=>exact RdN.zero
 | succ n =>
  intro cs x a;rw [DataW.trod_step] at a;unfold DataW.trodStep at a;rw [k] at a;split at a
  all_goals first | (exfalso;simp_all;done) | skip
  rename_i cs _ _ g d;injection d with d;injection d with d;subst d;split at a
  ·rename_i c;rw [e] at a;rcases hm:(l.mapM λf=>DataW.trod enc P W 0 (λ_=>true) true n f.type ((cs.drop f.offset).take (P.cellsOf f.type))) with _ | xs
   ·rw [hm] at a;simp at a
   ·obtain ⟨y,j,i,p⟩:=h n (sX n) cs xs (by rw [c,o]) hm;rw [hm] at a;simp only [u7,un] at a;subst a;exact ⟨y,by simpa using j,i,by simp only [vh];omega⟩
  ·cases a
theorem rd_arg {t:TypeId} {α:Type} {row:α->List AV} {wf:α->Prop} {bk:α->Nat} {v:Value} {d:DataW H} {p:List MemPlace} (b:∀n,RdN enc P W n t row wf bk) (h:DataW.Trod enc P W 0 (λ_=>true) true t v d p):∃y,VL (g0 W) (row y) v.cells.toList/\wf y/\bk y<=vh d:=by
 obtain ⟨n,a⟩:=h;exact b n _ _ a
theorem V.of_one {a:AV} {v:Value} {g:Gh} (b:∀cs,v ≠ .agg cs) (h:VL g [a] v.cells.toList):V g a v:=by
 simp only [VL] at h;obtain ⟨u,s,e,c,rfl⟩:=h;have:v.cells=#[v]:=by cases v <;> first | rfl | exact absurd rfl (b _)
 rw [this] at e;simp at e;rw [e];exact c
theorem V.of_agg {cs:List AV} {v:Value} {g:Gh} (a:∃us,v=.agg us) (b:cs.all AV.one=true) (h:VL g cs v.cells.toList):V g (.agg cs) v:=by
 obtain ⟨us,rfl⟩:=a;simp only [V];exact ⟨us,rfl,VA.mk h b⟩
theorem post_of_below {f:Func} {s:ChangeSpec} {apart n e l:Bool} {W':World} {args:Array Value} {v:Value} {ds gs:List (DataW H)} {a q pv:List MemPlace}
  (x:DataW.Whole enc P f.params.toList s.vars apart W args.toList ds gs a) (y:Below W.heap.size W W')
  (k:∀(b:Nat) (m:Nat->Bool) (hd:Bool),DataW.TrodAll enc P W' b m hd f.resultTypes.toList (v.resultList f.resultTypes.size) (s.fn H (ds++gs)).results [])
  (c:∀m:Nat->Bool,(∀p ∈ a,m p.block=true)->DataW.TrodAll enc P W' 0 m true f.params.toList args.toList (s.fn H (ds++gs)).args q)
  (d:∀m:Nat->Bool,(∀p ∈ a,m p.block=true)->DataW.TrodVars enc P W' m s.vars (s.fn H (ds++gs)).vars pv)
  (h:a=q++pv)
  (w:∀(j:Nat) (t:TypeId) (r:Value),f.resultTypes[j]?=some t->(v.resultList f.resultTypes.size)[j]?=some r->Value.okWide P W' .any 0 t r) :
  s.post enc P f apart n e l W args v W':=by
 have o:∀p ∈ a,p.block < W.heap.size:=λp g=>by simpa using x.lt p g
 have i:∀p ∈ a,(λb=>decide (b < W.heap.size)) p.block=true:=λp g=>by simpa using o p g
 refine ⟨ds,gs,a,[],q,pv,x,k _ _ _,c _ i,d _ i,World.keptBut_mono (λp g=>⟨g,?_⟩) (y.frame (· ∈ a)),λ_=>?_⟩
 ·rw [h,uR] at g;exact Or.inr g
 ·obtain ⟨_,_,_,_,_,B,z⟩:=x;refine ⟨w,_,_,([]++q)++pv,⟨[]++q,pv,trodAll_append (c _ (λ_ _=>rfl)) (k _ _ _),d _ (λ_ _=>rfl),rfl,?_,?_⟩,?_⟩
  ·intro b off g;have u:MemPlace.cell b off ∈ a:=by rw [h];simpa using g
   rw [y.frozen (p:=⟨b,off,none⟩) (o _ u)];exact B b off u
  ·intro A;have:=z A;rw [h] at this;simpa using this
  ·intro p g _;rw [h];simpa using g
end
end Go.Vv
