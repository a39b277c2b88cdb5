/- How an argument's reading gives a value of the plain kind. -/
import Derived.Test.YtfdacjmlbokckaaGreatDoorVvV
import Derived.ProofKit
import Derived.OpenShut
import Derived.JoinedCond
import Derived.HandedShaped
import Derived.Test.YtfdacjmlbokckaaGreatDoorVvRw
set_option linter.all false
namespace Go.Vv
open Go Go.RowKit Go.ChangeShapes Go.WideShapes Go.ChangeAt

def g0 (W:World):Gh:={ Φ:=fun b j=>if b < W.heap.size then W.cell? ⟨b,j,none⟩ else none,σ:=[],τ:=[],δ:=[],O:=fun b=>b < W.heap.size }
def h0:AH:={ blks:=[],toks:=[] }
theorem rel0 (W:World):Rel W.heap.size W (g0 W) h0 W:=by
 refine ⟨Below.refl _ _,Nat.le_refl _,fun b j v h=>?_,rfl,fun i c k hc _=>by simp [g0] at hc,rfl,fun i t ht=>by simp [g0] at ht,fun i j c hi=>by simp [g0] at hi,fun i j t t' b x y hi=>by simp [g0] at hi,fun i c j t b x hi=>by simp [g0] at hi,fun c hc=>by simp [g0] at hc,fun i k hi=>by simp [g0] at hi,fun i j t k k' es es' hi=>by simp [h0] at hi,fun b x h=>by simp [g0] at h,fun b h=>⟨h,fun s=>by simp [g0]⟩,fun b _=>⟨fun i=>by simp [g0],by simp [g0],fun i t y ht=>by simp [g0] at ht⟩⟩
 simp only [g0] at h
 simp_all

section
variable {H:Type} {enc:TypeId×Value→H} {P:Program} {W:World}
mutual
def wv:DataW H→Nat
 | .lit (.string bytes)=>bytes.length+1
 | .lit _=>1
 | .nil=>1
 | .ptr d=>wv d+1
 | .slice elems spare=>wu elems+wu spare+1
 | .agg parts=>wu parts+1
 | .iface _ d=>wv d+1
 | .map entries=>vBulkEs entries+1
 | .held _=>1
def wu:List (DataW H)→Nat
 | []=>0
 | d::r=>wv d+wu r
def vBulkEs:List (Lit×DataW H)→Nat
 | []=>0
 | x::r=>vBulkEs r+vBulkE x
def vBulkE:Lit×DataW H→Nat
 | (.string bytes,d)=>bytes.length+wv d+1
 | (_,d)=>wv d+1
end
theorem sum_bulk {α:Type} {bk:α→Nat}:∀ {l:List α} {ds:List (DataW H)},l.length=ds.length→(∀ (i:Nat) (a:α) (d:DataW H),l[i]?=some a→ds[i]?=some d→bk a≤wv d)→(l.map bk).sum≤wu ds
 | [],_,_,_=>by simp
 | a::r,[],hl,_=>by simp at hl
 | a::r,d::ds,hl,h=>by
  have h1:=h 0 a d rfl rfl
  have h2:=sum_bulk (bk:=bk) (l:=r) (ds:=ds) (by simp_all) (fun i x y hx hy=>h (i+1) x y (by simp_all) (by simp_all))
  simp only [List.map_cons,List.sum_cons,wu];omega
def RdN (enc:TypeId×Value→H) (P:Program) (W:World) (n:Nat) (t:TypeId) {α:Type} (row:α→List AV) (wf:α→Prop) (bk:α→Nat):Prop :=
 ∀ cs x,DataW.trod enc P W 0 (fun _=>true) true n t cs=some x→∃ y,VL (g0 W) (row y) cs∧wf y∧bk y≤wv x.1
theorem RdN.zero {t:TypeId} {α:Type} {row:α→List AV} {wf:α→Prop} {bk:α→Nat}:RdN enc P W 0 t row wf bk:=fun cs x h=>by simp [DataW.trod] at h
theorem RdN.map {n:Nat} {t:TypeId} {α β:Type} {row:α→List AV} {wf:α→Prop} {row':β→List AV} {wf':β→Prop} {bk:α→Nat} {bk':β→Nat} (f:α→β) (h:RdN enc P W n t row wf bk) (hr:∀ a,row' (f a)=row a) (hw:∀ a,wf a→wf' (f a)) (hb:∀ a,bk' (f a)=bk a):RdN enc P W n t row' wf' bk':=fun cs x hx=>by
 obtain ⟨y,h1,h2,h3⟩:=h cs x hx
 grind
theorem rd_int {n:Nat} {t:TypeId} {k:IntKind} (hu:P.underlying t=some (.int k)):RdN enc P W n t (intRow k) (InK k) (fun _=>1):=by
 cases n with
 | zero=>exact RdN.zero
 | succ n =>
  intro cs x h
  rw [DataW.trod_step] at h
  unfold DataW.trodStep at h
  rw [hu] at h
  split at h <;> simp_all
  obtain ⟨⟨rfl,h1⟩,rfl⟩:=h
  exact ⟨_,VL.cons (by rfl) (by simp [VL]),by simpa [Lit.wf,InK] using h1,by simp [wv]⟩
theorem rd_str {n:Nat} {t:TypeId} (hu:P.underlying t=some .string):RdN enc P W n t zP (fun s=>s.length≤maxLen) (fun s=>s.length+1):=by
 cases n with
 | zero=>exact RdN.zero
 | succ n =>
  intro cs x h
  rw [DataW.trod_step] at h
  unfold DataW.trodStep at h
  rw [hu] at h
  split at h <;> simp_all
  rename_i s
  have hs:s.data.toList.length=s.size:=rfl
  obtain ⟨h,rfl⟩:=h
  refine ⟨s.data.toList,VL.cons ?_ (by simp [VL]),by omega,by simp [wv]⟩
  simp only [V]
  simp_all
theorem mapM_get {α β:Type} {f:α→Option β}:∀ {l:List α} {xs:List β},l.mapM f=some xs→∀ a ∈ l,∃ x,f a=some x
 | [],_,_,a,ha=>by cases ha
 | b::r,xs,h,a,ha=>by
  simp only [List.mapM_cons,Option.bind_eq_bind,Option.bind_eq_some_iff,Option.pure_def,Option.some.injEq] at h
  obtain ⟨v,hv,vs,hvs,rfl⟩:=h
  rcases List.mem_cons.1 ha with rfl | ha
  ·simp_all
  ·exact mapM_get hvs a ha
theorem mapM_len {α β:Type} {f:α→Option β}:∀ {l:List α} {xs:List β},l.mapM f=some xs→xs.length=l.length
 | [],_,h=>by simp_all
 | b::r,xs,h=>by
  simp only [List.mapM_cons,Option.bind_eq_bind,Option.bind_eq_some_iff,Option.pure_def,Option.some.injEq] at h
  obtain ⟨v,hv,vs,hvs,rfl⟩:=h
  simp [mapM_len hvs]
theorem mapM_at {α β:Type} {f:α→Option β}:∀ {l:List α} {xs:List β},l.mapM f=some xs→∀ (i:Nat) (a:α),l[i]?=some a→∃ x,f a=some x∧xs[i]?=some x
 | [],_,_,i,a,ha=>by simp at ha
 | b::r,xs,h,i,a,ha=>by
  simp only [List.mapM_cons,Option.bind_eq_bind,Option.bind_eq_some_iff,Option.pure_def,Option.some.injEq] at h
  obtain ⟨v,hv,vs,hvs,rfl⟩:=h
  cases i with
  | zero=>simp at ha;subst ha;exact ⟨v,hv,rfl⟩
  | succ i=>simpa using mapM_at hvs i a (by simp_all)
theorem ones_of_pure {a5:List AV} (h:a5.all AV.pure=true):a5.all AV.one=true:=by
 rw [List.all_eq_true] at h ⊢
 exact fun a ha=>AV.one_of_pure (h a ha)
theorem rd_slice {n:Nat} {t e:TypeId} {k:Nat} {α:Type} {row:α→List AV} {wf:α→Prop} {bk:α→Nat} (hu:P.underlying t=some (.slice e)) (hc:P.cellsOf e=k) (hk:0 < k) (hl:∀ y,(row y).length=k) (hp:∀ y,(row y).all AV.pure=true) (hr:∀ m,m < n→RdN enc P W m e row wf bk) :
  RdN enc P W n t (fun L=>[AV.sl k (L.map row)]) (fun L:List α=>L.length≤maxLen∧∀ y ∈ L,wf y) (fun L=>(L.map bk).sum+1):=by
 cases n with
 | zero=>exact RdN.zero
 | succ n =>
  intro cs x h
  rw [DataW.trod_step] at h
  unfold DataW.trodStep at h
  rw [hu] at h
  split at h
  all_goals first | (exfalso;simp_all;done) | skip
  ·-- nil
   cases h
   exact ⟨[],VL.cons (by simp only [V];exact ⟨none,0,rfl,by simp,by simp,.inl rfl⟩) (by simp [VL]),⟨by simp,fun y hy=>by cases hy⟩,by simp [wv]⟩
  ·rename_i _ _ e' a len cap he
   injection he with he;injection he with he;subst he
   simp only [hc] at h
   split at h
   ·rename_i hb
    obtain ⟨_,hlc,hcm⟩:=hb
    rcases hel:(List.range len).mapM fun i=>(W.cells? 0 (a.add (i * k)) k).bind (DataW.trod enc P W 0 (fun _=>true) true n e) with _ | elems
    ·simp_all
    ·-- the elements,one by one
     have hxs:elems.length=len:=by rw [mapM_len hel];simp
     have hbx:wu (elems.map (·.1))+1≤wv x.1:=by
      rw [hel] at h
      simp only [Option.bind_some,Option.map_eq_some_iff] at h
      obtain ⟨rest,_,rfl⟩:=h
      simp only [wv];omega
     have key:∀ i,i < len→∃ y us,W.cells? 0 (a.add (i * k)) k=some us∧VL (g0 W) (row y) us∧wf y∧∀ z,elems[i]?=some z→bk y≤wv z.1:=by
      intro i hi
      obtain ⟨z,hz,hz2⟩:=mapM_at hel i i (List.getElem?_range hi)
      rcases hcs:W.cells? 0 (a.add (i * k)) k with _ | us
      ·simp_all
      ·rw [hcs] at hz
       obtain ⟨y,h1,h2,h3⟩:=hr n (Nat.lt_succ_self n) us z hz
       grind
     rcases Nat.eq_zero_or_pos len with h0 | hpos
     ·subst h0
      exact ⟨[],VL.cons (by simp only [V];exact ⟨some a,cap,rfl,by simp,hcm,.inl rfl⟩) (by simp [VL]),⟨by simp,fun y hy=>by cases hy⟩,by simp;omega⟩
     ·have hne:Nonempty α:=⟨(key 0 hpos).choose⟩
      have key2:∀ i,∃ y,i < len→∃ us,W.cells? 0 (a.add (i * k)) k=some us∧VL (g0 W) (row y) us∧wf y∧∀ z,elems[i]?=some z→bk y≤wv z.1:=by
       intro i
       by_cases hi:i < len
       ·simp_all
       ·exact ⟨Classical.choice hne,fun h=>absurd h hi⟩
      obtain ⟨f,hf⟩:=Classical.axiomOfChoice key2
      -- no place within a cell
      have hspot:a.spot=none:=by
       obtain ⟨us,h1,_⟩:=hf 0 hpos
       unfold World.cells? at h1
       rw [if_pos (Nat.zero_le _)] at h1
       obtain ⟨v,hv⟩:=mapM_get h1 0 (by simp_all)
       simp only [Nat.zero_mul] at hv
       have e1:(a.add 0).add 0=a:=by rfl
       rw [e1] at hv
       unfold World.cell? at hv
       split at hv
       ·simp_all
       ·cases hv
      have ha:a=⟨a.block,a.off,none⟩:=by cases a;simp at hspot;simp [hspot]
      refine ⟨(List.range len).map f,VL.cons ?_ (by simp [VL]),⟨by simp;omega,fun y hy=>?_⟩,?_⟩
      ·simp only [V]
       refine ⟨some a,cap,by simp,by grind,hcm,.inr ⟨a.block,a.off,congrArg some ha,VE.mk fun i e' he'=>?_⟩⟩
       simp only [List.map_map,List.getElem?_map] at he'
       have hi:i < len:=by
        grind
       rw [List.getElem?_range hi] at he'
       simp only [Option.map_some,Function.comp,Option.some.injEq] at he'
       subst he'
       obtain ⟨us,h1,h2,_,_⟩:=hf i hi
       refine ⟨hl _,VC.ofVA (VA.mk h2 (ones_of_pure (hp _))) (hp _) fun j u hj=>?_⟩
       unfold World.cells? at h1
       rw [if_pos (Nat.zero_le _)] at h1
       have hjk:j < k:=by
        have:=(List.getElem?_eq_some_iff.1 hj).1
        rw [mapM_len h1] at this;simpa using this
       obtain ⟨v,hv,hv2⟩:=mapM_at h1 j j (List.getElem?_range hjk)
       rw [hj] at hv2
       injection hv2 with hv2;subst hv2
       have e2:(a.add (i * k)).add j=⟨a.block,a.off+i * k+j,none⟩:=by
        rw [ha,xz,xz]
       rw [e2] at hv
       simp only [g0]
       rw [if_pos (World.block_lt_of_cell? W _ hv)]
       exact hv
      ·grind
      ·refine Nat.le_trans (Nat.add_le_add_right (sum_bulk (bk:=bk) (ds:=elems.map (·.1)) (by simp [hxs]) fun i y d hy hd=>?_) 1) hbx
       grind
   ·cases h

def RdF (enc:TypeId×Value→H) (P:Program) (W:World) (n:Nat) (total off:Nat) (fs:List Field) {α:Type} (row:α→List AV) (wf:α→Prop) (bk:α→Nat):Prop :=
 ∀ (cs:List Value) xs,cs.length=total→(fs.mapM fun f=>DataW.trod enc P W 0 (fun _=>true) true n f.type ((cs.drop f.offset).take (P.cellsOf f.type)))=some xs→∃ y,VL (g0 W) (row y) (cs.drop off)∧wf y∧bk y≤wu (xs.map (·.1))
theorem rf_nil {n total off:Nat} (h:total≤off):RdF enc P W n total off [] (fun _:Unit=>[]) (fun _=>True) (fun _=>0):=fun cs xs hl _=>⟨(),by rw [List.drop_of_length_le (by omega)];simp [VL],trivial,Nat.zero_le _⟩
theorem xU {n total off k off':Nat} {f:Field} {fs:List Field} {α β:Type} {row:α→List AV} {wf:α→Prop} {row':β→List AV} {wf':β→Prop} {bk:α→Nat} {bk':β→Nat} (ho:f.offset=off) (hc:P.cellsOf f.type=k) (hoff:off+k=off') (h:RdN enc P W n f.type row wf bk) (r:RdF enc P W n total off' fs row' wf' bk') :
  RdF enc P W n total off (f::fs) (fun p:α×β=>row p.1++row' p.2) (fun p=>wf p.1∧wf' p.2) (fun p=>bk p.1+bk' p.2):=by
 intro cs xs hl hx
 simp only [List.mapM_cons,Option.bind_eq_bind,Option.bind_eq_some_iff,Option.pure_def,Option.some.injEq] at hx
 obtain ⟨v,hv,vs,hvs,rfl⟩:=hx
 obtain ⟨y,h1,h2,hb1⟩:=h _ _ hv
 obtain ⟨z,h3,h4,hb2⟩:=r _ _ hl hvs
 refine ⟨(y,z),?_,⟨h2,h4⟩,by simp only [List.map_cons,wu];omega⟩
 have e:cs.drop off=(cs.drop off).take k++cs.drop off':=by
  rw [← hoff,← List.drop_drop,List.take_append_drop]
 rw [e]
 rw [ho,hc] at h1
 exact VL.append h1 h3
theorem rd_struct {n:Nat} {t:TypeId} {fs:Array Field} {l:List Field} {total:Nat} {α:Type} {row:α→List AV} {wf:α→Prop} {bk:α→Nat} (hu:P.underlying t=some (.struct fs)) (hfs:fs.toList=l) (hc:P.cellsOf t=total) (h:∀ m,m < n→RdF enc P W m total 0 l row wf bk):RdN enc P W n t row wf (fun y=>bk y+1):=by
 cases n with
 | zero=>exact RdN.zero
 | succ n =>
  intro cs x hx
  rw [DataW.trod_step] at hx
  unfold DataW.trodStep at hx
  rw [hu] at hx
  split at hx
  all_goals first | (exfalso;simp_all;done) | skip
  rename_i cs _ _ fs' he
  injection he with he;injection he with he;subst he
  split at hx
  ·rename_i hlen
   rw [hfs] at hx
   rcases hm:(l.mapM fun f=>DataW.trod enc P W 0 (fun _=>true) true n f.type ((cs.drop f.offset).take (P.cellsOf f.type))) with _ | xs
   ·simp_all
   ·obtain ⟨y,h1,h2,h3⟩:=h n (Nat.lt_succ_self n) cs xs (by rw [hlen,hc]) hm
    rw [hm] at hx
    simp only [Option.map_some,Option.some.injEq] at hx
    subst hx
    exact ⟨y,by simp_all,h2,by simp only [wv];omega⟩
  ·cases hx
theorem rd_arg {t:TypeId} {α:Type} {row:α→List AV} {wf:α→Prop} {bk:α→Nat} {v:Value} {d:DataW H} {p:List MemPlace} (hr:∀ n,RdN enc P W n t row wf bk) (h:DataW.Trod enc P W 0 (fun _=>true) true t v d p):∃ y,VL (g0 W) (row y) v.cells.toList∧wf y∧bk y≤wv d:=by
 obtain ⟨n,hn⟩:=h
 exact hr n _ _ hn
theorem V.of_one {a:AV} {v:Value} {g:Gh} (hag:∀ cs,v ≠ .agg cs) (h:VL g [a] v.cells.toList):V g a v:=by
 simp only [VL] at h
 obtain ⟨u,s,e,h1,rfl⟩:=h
 have:v.cells=#[v]:=by cases v <;> first | rfl | exact absurd rfl (hag _)
 simp_all
theorem post_of_below {f:Func} {s:ChangeSpec} {apart fresh handsOn again:Bool} {W':World} {args:Array Value} {v:Value} {ds gs:List (DataW H)} {before pa pv:List MemPlace}
  (hW:DataW.Whole enc P f.params.toList s.vars apart W args.toList ds gs before) (hb:Below W.heap.size W W')
  (hres:∀ (b:Nat) (sp:Nat→Bool) (hd:Bool),DataW.TrodAll enc P W' b sp hd f.resultTypes.toList (v.resultList f.resultTypes.size) (s.fn H (ds++gs)).results [])
  (hargs:∀ sp:Nat→Bool,(∀ p ∈ before,sp p.block=true)→DataW.TrodAll enc P W' 0 sp true f.params.toList args.toList (s.fn H (ds++gs)).args pa)
  (hvars:∀ sp:Nat→Bool,(∀ p ∈ before,sp p.block=true)→DataW.TrodVars enc P W' sp s.vars (s.fn H (ds++gs)).vars pv)
  (hps:before=pa++pv)
  (hok:∀ (j:Nat) (t:TypeId) (r:Value),f.resultTypes[j]?=some t→(v.resultList f.resultTypes.size)[j]?=some r→Value.okWide P W' .any 0 t r) :
  s.post enc P f apart fresh handsOn again W args v W':=by
 have hlt:∀ p ∈ before,p.block < W.heap.size:=fun p hp=>by simpa using hW.lt p hp
 have hold:∀ p ∈ before,(fun b=>decide (b < W.heap.size)) p.block=true:=fun p hp=>by simp_all
 refine ⟨ds,gs,before,[],pa,pv,hW,hres _ _ _,hargs _ hold,hvars _ hold,World.keptBut_mono (fun p hp=>⟨hp,?_⟩) (hb.frame (· ∈ before)),fun _=>?_⟩
 ·simp_all
 ·obtain ⟨_,_,_,_,_,hz,hn⟩:=hW
  refine ⟨hok,_,_,([]++pa)++pv,⟨[]++pa,pv,trodAll_append (hargs _ (fun _ _=>rfl)) (hres _ _ _),hvars _ (fun _ _=>rfl),rfl,?_,?_⟩,?_⟩
  ·intro b off hp
   have hp':MemPlace.cell b off ∈ before:=by simp_all
   rw [hb.frozen (p:=⟨b,off,none⟩) (hlt _ hp')]
   exact hz b off hp'
  ·simp_all
  ·simp_all
end
end Go.Vv
namespace Go.Vv
open Go Go.ChangeShapes Go.WideShapes
end Go.Vv
namespace Go.Vv
open Go
section
variable {α ρ σ:Type}
@[simp] theorem lp_none {rest:σ→Option ρ}:lp (none:Option (ρ ⊕ σ)) rest=none:=rfl
@[simp] theorem lp_inl {rest:σ→Option ρ} {r:ρ}:lp (some (.inl r)) rest=some r:=rfl
@[simp] theorem lp_inr {rest:σ→Option ρ} {s:σ}:lp (some (.inr s)) rest=rest s:=rfl
theorem yg {p:Prop} [Decidable p] {o:Option ρ} (h:p):vP p o=o:=if_pos h
theorem loopL_all {f:Nat→α→Unit→Option (Out ρ Unit)} (p:α→Bool) (r:ρ):∀ (L:List α) (i:Nat),(∀ i x,x ∈ L→f i x ()=if p x=true then some (.nxt ()) else some (.ret r))→z8 f L i ()=if L.all p=true then some (.inr ()) else some (.inl r)
 | [],_,_=>rfl
 | x::t,i,h=>by
  have ih:=loopL_all p r t (i+1) (fun i y hy=>h i y (List.mem_cons_of_mem _ hy))
  simp only [z8,h i x (List.mem_cons_self ..)]
  grind
theorem loopL_fold {f:Nat→α→σ→Option (Out ρ σ)} (g:σ→α→σ):∀ (L:List α) (i:Nat) (s:σ),(∀ i x s,x ∈ L→f i x s=some (.nxt (g s x)))→z8 f L i s=some (.inr (L.foldl g s))
 | [],_,_,_=>rfl
 | x::t,i,s,h=>by
  simp only [z8,h i x s (List.mem_cons_self ..),List.foldl_cons]
  exact loopL_fold g t (i+1) (g s x) (fun i y s hy=>h i y s (List.mem_cons_of_mem _ hy))
theorem loopL_first {f:Nat→α→Unit→Option (Out ρ Unit)} (p:α→Bool) (r:Nat→α→ρ):∀ (L:List α) (i:Nat),(∀ i x,x ∈ L→f i x ()=if p x=true then some (.ret (r i x)) else some (.nxt ())) →
  z8 f L i ()=match L.findIdx? p with
   | none=>some (.inr ())
   | some j=>match L[j]? with | some x=>some (.inl (r (i+j) x)) | none=>none
 | [],_,_=>rfl
 | x::t,i,h=>by
  have ih:=loopL_first p r t (i+1) (fun i y hy=>h i y (List.mem_cons_of_mem _ hy))
  simp only [z8,h i x (List.mem_cons_self ..),List.findIdx?_cons]
  grind
def ql (q:α→Bool) (p:List α):Int:=match p.findIdx? q with | some j=>(j:Int) | none=>-1
theorem first_loop {f:α→Option Bool} {q:α→Bool} (p:List α) (hf:∀ x ∈ p,f x=some (q x)):lp (z8 (fun (n1:Nat) (x1:α) (_:Unit)=>(((f x1).bind fun v7=>(if v7=true then some (.ret (n1:Int)) else some (.nxt ()))):Option (Out _ Unit))) p 0 ()) (fun (_:Unit)=>some (-1:Int))=some (ql q p):=by
 rw [loopL_first q (fun i _=>(i:Int)) _ _ (fun i x hx=>by simp_all)]
 unfold ql
 cases h:p.findIdx? q with
 | none=>simp
 | some j =>
  obtain ⟨hj,_⟩:=List.findIdx?_eq_some_iff_getElem.1 h
  simp_all
theorem firstI_any (q:α→Bool) (p:List α):decide (ql q p ≥ 0)=p.any q:=by
 unfold ql
 grind
theorem idx_at {M:List α} {i:Nat} (h:i < M.length):idx M (i:Int)=some M[i]:=by
 unfold idx;rw [if_pos (by omega),Int.toNat_natCast,List.getElem?_eq_getElem h]
theorem slc_at {L:List α} {lo hi:Int} (h:0≤lo∧lo≤hi∧hi≤L.length):slc L lo hi=some ((L.take hi.toNat).drop lo.toNat):=if_pos h
theorem w64n {n:Int} (h:-9223372036854775808≤n∧n≤9223372036854775807):IntKind.wrap .i64 n=n:=by rw [IntKind.wrap_i64];omega
end
end Go.Vv
namespace Go.Vv
open Go Go.RowKit
section
variable {P:Program} {o:Oper} {env:List AV} {h:AH} {L:List Blk} {M:List Nat} {nb nt:Nat}
theorem n_alloc (hN:h.blks.length=nb) {t:TypeId} {cs:List AV} {n:Nat} (ho:o.op=.alloc t) (hz:xO P t=some cs) (hn:L.length=n):zK P o env (h.ext L M)=.ok (.ptr (nb+n) 0) (h.ext (L++[.cells cs]) M):=by
 subst hN;exact y9 ho hz hn
theorem n_box (hN:h.blks.length=nb) {t:TypeId} {x:Operand} {a a':AV} {cs:List AV} {n:Nat} (ho:o.op=.box t x) (hx:yC env x=some a) (hf:tyfix P t a=a') (hc:a'.cells?=some cs) (hn:L.length=n) :
  zK P o env (h.ext L M)=.ok (.ptr (nb+n) 0) (h.ext (L++[.cells cs]) M):=by
 subst hN;exact xb ho hx hf hc hn
theorem n_load (hN:h.blks.length=nb) {t:TypeId} {d:TypeDesc} {k j off:Nat} {x:Operand} {cs:List AV} {v v':AV} (ho:o.op=.load t x) (ht:Ty P t d k) (hx:yC env x=some (.ptr (nb+j) off)) (hj:L[j]?=some (.cells cs))
  (hv:ldC (yq d) k off cs=some v) (hf:tyfix P t v=v'):zK P o env (h.ext L M)=.ok v' (h.ext L M):=by
 subst hN;exact zu ho ht hx hj hv hf
theorem n_store (hN:h.blks.length=nb) {t:TypeId} {d:TypeDesc} {k j off:Nat} {x y:Operand} {cs vs cs':List AV} {b b':AV} (ho:o.op=.store t x y) (ht:Ty P t d k) (hx:yC env x=some (.ptr (nb+j) off)) (hy:yC env y=some b)
  (hf:tyfix P t b=b') (hc:b'.cells?=some vs) (hl:vs.length=k) (hj:L[j]?=some (.cells cs)) (hb:Nat.ble (off+k) cs.length=true) (hs:xw cs off vs=cs'):zK P o env (h.ext L M)=.ok za (h.ext (L.set j (.cells cs')) M):=by
 subst hN;exact yx ho ht hx hy hf hc hl hj hb hs
end
section
variable {P:Program} {o:Oper} {env:List AV} {h:AH} {α:Type} {row:α→List AV} {L M:List α} {nb nt:Nat}
theorem n_appT (hN:h.toks.length=nt) {c:Call} {x y:Operand} {t u e e':TypeId} {k k' j:Nat} {a b b':AV} {B:List Blk} {T T':List Nat} (ho:o.op=.call c) (hc:c.callee=.builtin .append) (hs:c.args=#[x,y]) (ht:c.argTypes=#[t,u]) (hu:El P t e k)
  (hu':El P u e' k') (hx:yC env x=some a) (hy:yC env y=some b) (ha:tyfix P t a=.osl (some (nt+j)) k (L.map row)) (hb:tyfix P u b=b') (hn:q7 k b'=some (M.map row)) (hl:L.length+M.length≤vQ) (hm:T[j]?=some L.length) (hT:T.set j (L++M).length=T') :
  zK P o env (h.ext B T)=.ok (.osl (some (nt+j)) k ((L++M).map row)) (h.ext B T'):=by
 subst hN;exact e_appT ho hc hs ht hu hu' hx hy ha hb hn hl hm hT
theorem n_own (hN:h.toks.length=nt) {f:FuncId} {a5:List AV} {B:List Blk} {T T':List Nat} {k n m:Nat} {R:List (List AV)} (s:Spec P f a5 (h.ext B T) (OwnK (h.ext B T) k n R)) (hm:T.length=m) (hT:T++[n]=T') :
  Spec P f a5 (h.ext B T) (fun rr hh=>rr=.osl (some (nt+m)) k R∧hh=h.ext B T'):=by
 subst hN;exact own_ext s hm hT
end

def AH.closed (h:AH) (n t:Nat):Prop:=∀ b ∈ h.blks,b.low n t=true
theorem Blk.low_up {n n' m m':Nat} (hn:n≤n') (h:m≤m'):∀ b:Blk,b.low n m=true→b.low n' m'=true
 | .cells cs,hl=>yJ hn h cs hl
 | .bld _ x,hl=>AV.low_up hn h x hl
 | .mapo es c,hl=>by
  simp only [Blk.low,List.all_eq_true,Bool.and_eq_true] at hl ⊢
  exact fun p hp=>⟨AV.low_up hn h _ (hl p hp).1,AV.low_up hn h _ (hl p hp).2⟩
 | .loop _ _ env _ _ _,hl=>yJ hn h env hl
 | .row _ _ _,hl=>by simp only [Blk.low,decide_eq_true_eq] at hl ⊢;omega
 | .miter _ _ _,hl=>by simp only [Blk.low,decide_eq_true_eq] at hl ⊢;omega
 | .siter _ _,_ | .miter0,_ | .other,_ | .dead,_=>rfl
theorem closed_of_rel {B:Nat} {w0 w:World} {g:Gh} {h:AH} (r:Rel B w0 g h w):h.closed h.blks.length h.toks.length:=fun b hb=>by
 obtain ⟨i,hi⟩:=List.mem_iff_getElem?.1 hb
 have:=r.isLow hi
 rwa [r.slen,r.tlen] at this
theorem yv {P : Program} {f : FuncId} {fn : Func} {c : Code} (hf : P.funcs[f]? = some fn) (hb : fn.body = some c) (hname : (fn.name == "runtime.NumGoroutine") = false) {args : List AV} {h : AH} {K : AV → AH → Prop} {env : List AV}
  (he:args++List.replicate (fn.ntmps - args.length) za=env) (hw:yf h.blks.length h.toks.length args=true→h.closed h.blks.length h.toks.length→qQ P c (bodyQ P fn h K) env (h.ext [] [])):Spec P f args h K:=by
 refine ⟨fun vs w=>?_,fun B w0 _ g w vs r hv=>?_⟩
 ·have hn : ¬ fn.name = "runtime.NumGoroutine" := by simpa using hname
  simp [callFunc,hf,hb,hn]
 ·have hl:=hv.isLow
  rw [r.slen,r.tlen] at hl
  exact (zr hf hb hname he (hw hl (closed_of_rel r))).2 B w0 g w vs r hv
theorem ext_len {h:AH} {L:List Blk} {M:List Nat} {n:Nat} (hN:h.blks.length=n):(h.ext L M).blks.length=n+L.length:=by simp [AH.ext,hN]
theorem ext_tlen {h:AH} {L:List Blk} {M:List Nat} {n:Nat} (hN:h.toks.length=n):(h.ext L M).toks.length=n+M.length:=by simp [AH.ext,hN]
theorem closed_ext {h:AH} {L:List Blk} {M:List Nat} {n t n' t':Nat} (hc:h.closed n t) (hn:n≤n') (ht:t≤t') (hL:L.all (fun b=>b.low n' t')=true):(h.ext L M).closed n' t':=fun b hb=>by
 simp only [AH.ext,List.mem_append] at hb
 rcases hb with hb | hb
 ·exact Blk.low_up hn ht b (hc b hb)
 ·simp_all
theorem wk_ext3s {h h':AH} {n t:Nat} (hn:h.blks.length=n) (ht:h.toks.length=t) (hn':h'.blks.length=n) (ht':h'.toks.length=t) (hc:h'.closed n t) {L0 L1 L':List Blk} {M0 M1 M':List Nat} {env:List AV}
  (hl:yf (n+L0.length) (t+M0.length) env=true) (hL:L'.take L0.length=L1) (hM:M'.take M0.length=M1) (hb:L1.all (fun b=>b.low (n+L0.length) (t+M0.length))=true):wk (h.ext L0 M0) env (h'.ext L' M') env (h'.ext L1 M1):=by
 have e1:(h.ext L0 M0).blks.length=n+L0.length:=ext_len hn
 have e2:(h.ext L0 M0).toks.length=t+M0.length:=ext_tlen ht
 have e3:(h'.ext L' M').cut (h.ext L0 M0).blks.length (h.ext L0 M0).toks.length=h'.ext L1 M1:=by
  rw [e1,e2,← hn',← ht']
  simp only [AH.cut,AH.ext,List.take_append,Nat.add_sub_cancel_left,hL,hM]
  rw [List.take_of_length_le (l:=h'.blks) (by omega),List.take_of_length_le (l:=h'.toks) (by omega)]
 have:=wk.cut (hd:=h.ext L0 M0) (env:=env) (h:=h'.ext L' M') (by rw [e1,e2];exact hl) (fun i k hi hk=>by
  right
  rw [e1] at hi
  rw [e1,e2]
  simp only [AH.ext] at hk
  rcases Nat.lt_or_ge i h'.blks.length with h1 | h1
  ·rw [List.getElem?_append_left h1] at hk
   exact Blk.low_up (by omega) (by omega) k (hc k (List.mem_of_getElem? hk))
  ·rw [List.getElem?_append_right h1] at hk
   rw [List.all_eq_true] at hb
   refine hb k (List.mem_of_getElem? (i:=i - h'.blks.length) ?_)
   rw [← hL,List.getElem?_take,if_pos (by omega)];exact hk)
 rw [e3] at this
 omega
theorem fin_exts {h h':AH} {n t:Nat} (hn:h.blks.length=n) (ht:h.toks.length=t) (hn':h'.blks.length=n) (ht':h'.toks.length=t) (hc:h'.closed n t) {L:List Blk} {M:List Nat} {K:AV→AH→Prop} {v v':AV} (hv:leV v v')
  (hl:v'.low n t=true) (hk:K v' h'):finK h K v (h'.ext L M):=by
 have:=wk_ext3s (L0:=[]) (L1:=[]) (L':=L) (M0:=[]) (M1:=[]) (M':=M) (env:=[v']) hn ht hn' ht' hc (by simp [yf,hl]) rfl rfl rfl
 rw [ext_nil,ext_nil] at this
 exact ⟨v',h',(wk.le (leL.cons hv leL.nil)).trans this,hk⟩

def lst:Option Nat→LoopState
 | none=>.ready
 | some _=>.done
def lpe:Option Nat→Option Code
 | none=>none
 | some 0=>some .ret
 | some (i+1)=>some (.exit i)
def fam {β:Type} (h:β→AH) (A:β→List Blk) (T:β→List Nat) (lp:LoopState→Option Code→Blk) (s:β×Option Nat):AH:=(h s.1).ext (A s.1++[lp (lst s.2) (lpe s.2)]) (T s.1)
def stp {β X ρ:Type} (f:β→X→Option ρ) (s:β×Option Nat) (x:X):Option ρ:=match s.2 with
 | none=>f s.1 x
 | some _=>none
def rng {β ρ:Type} (q:Option (β×Option Nat)) (N:β→Option ρ) (J:Nat→β→Option ρ):Option ρ:=match q with
 | none=>none
 | some (b,none)=>N b
 | some (b,some j)=>J j b
def jumpQ (Q:Exit→List AV→AH→Prop):Nat→List AV→AH→Prop
 | 0=>Q .ret
 | i+1=>Q (.exit i)

theorem r_range {P:Program} {Q:Exit→List AV→AH→Prop} {env E:List AV} {hd H:AH} {gop:Operand} {ps:Array Tmp} {assign body:Code} {β ρ:Type} {nb k:Nat} {first caps:List AV} {f:FuncId} (h:β→AH) (A:β→List Blk) (T:β→List Nat) (b0:β) {LA:List Blk} {LT:List Nat} {r:ρ} {q:Option (β×Option Nat)} {N:β→Option ρ} {J:Nat→β→Option ρ}
  (hF:rng q N J=some r) (hw:wk hd env hd E (H.ext LA LT)) (hN:∀ b,(h b).blks.length=nb) (hH:H=h b0) (hA:LA=A b0) (hT:LT=T b0) (hl:∀ b,(A b).length=k) (hg0:yo gop=true) (hg:yC E gop=some (.fn (.func f) first caps)) (hrf:(noRF assign&&noRF body)=true)
  (hs:∀ lp:LoopState→Option Code→Blk,lp=(fun st pe=>.loop st pe E ps assign body)→∀ r1,q=some r1→Spec P f (first++[.yld (nb+k)]++caps) (fam h A T lp (b0,none)) fun _ hh=>hh=fam h A T lp r1)
  (hk:∀ b H1,H1=(h b).ext (A b++[.dead]) (T b)→N b=some r→Q .normal E H1) (hj:∀ j b H1,H1=(h b).ext (A b++[.dead]) (T b)→J j b=some r→jumpQ Q j E H1):qQ P (.rangeFunc gop ps assign body) Q env hd:=by
 subst hH hA hT
 obtain ⟨_,h2⟩:=yk hg
 simp only [Bool.and_eq_true] at hrf
 refine ⟨hg0,hrf.1,hrf.2,E,_,hw,?_⟩
 rw [h2]
 have hid:((h b0).ext (A b0) (T b0)).blks.length=nb+k:=by simp [AH.ext,hN,hl]
 rcases q with _ | ⟨b,p⟩
 ·cases hF
 ·have hsp:=hs _ rfl (b,p) rfl
  rw [hid,ext_new]
  refine hsp.mono fun _ hh e=>?_
  subst e
  have hbk:(fam h A T (fun st pe=>.loop st pe E ps assign body) (b,p)).blk (nb+k)=some (.loop (lst p) (lpe p) E ps assign body):=by
   simp only [fam,AH.blk,AH.ext,← hN b]
   simp_all
  have hput:(fam h A T (fun st pe=>.loop st pe E ps assign body) (b,p)).put (nb+k) .dead=(h b).ext (A b++[.dead]) (T b):=by
   simp only [fam,← hN b,ext_put]
   simp_all
  refine ⟨_,_,_,_,_,_,hbk,by cases p <;> simp [lst],?_⟩
  rw [hput]
  cases p with
  | none=>exact hk b _ rfl hF
  | some j =>
   have:=hj j b _ rfl hF
   cases j with
   | zero=>exact this
   | succ i=>exact this

def roundQ (hs:AH) (id:Nat) (lp:LoopState→Option Code→Blk) (K:AV→AH→Prop):Exit→List AV→AH→Prop
 | .normal,_,h=>∃ h3,wk hs [] h [] h3∧h3.blk id=some (lp .busy none)∧K (.bool true) (h3.put id (lp .ready none))
 | .ret,_,h=>∃ h3,wk hs [] h [] h3∧h3.blk id=some (lp .busy none)∧K (.bool false) (h3.put id (lp .done (some .ret)))
 | .exit i,_,h=>∃ h3,wk hs [] h [] h3∧h3.blk id=some (lp .busy none)∧K (.bool false) (h3.put id (lp .done (some (.exit i))))
 | _,_,_=>False
def assignQ (P:Program) (hs:AH) (id:Nat) (lp:LoopState→Option Code→Blk) (body:Code) (K:AV→AH→Prop):Exit→List AV→AH→Prop
 | .normal,env,h=>h.blk id=some (lp .ready none)∧qQ P body (roundQ hs id lp K) env (h.put id (lp .busy none))
 | _,_,_=>False

def setL (env:List AV):List Tmp→List AV→List AV
 | p::ps,a::a5=>setL (env.set p a) ps a5
 | _,_=>env
theorem setL_fold {g:Gh}:∀ {ps:List Tmp} {a5:List AV} {vs:List Value} {env:List AV} {tmps:Array Value},VL g env tmps.toList→VL g a5 vs→a5.length=ps.length→VL g (setL env ps a5) ((ps.zip vs).foldl (fun t (p,v)=>t.setIfInBounds p v) tmps).toList
 | [],[],vs,env,tmps,h,_,_=>by simpa [setL] using h
 | [],_::_,_,_,_,_,_,hl=>by simp at hl
 | _::_,[],_,_,_,_,_,hl=>by simp at hl
 | p::ps,a::a5,vs,env,tmps,h,k,hl=>by
  simp only [VL] at k
  obtain ⟨v,s,rfl,h1,h2⟩:=k
  simp only [setL,List.zip_cons_cons,List.foldl_cons]
  refine setL_fold ?_ h2 (by simp_all)
  rw [Array.toList_setIfInBounds]
  exact h.set _ _ _ h1

theorem specY_of {P:Program} {id:Nat} {args:List AV} {h:AH} {K:AV→AH→Prop} {env env1:List AV} {ps:List Tmp} {assign body:Code} {lp:LoopState→Option Code→Blk} (hlp:lp=fun st pe=>.loop st pe env ⟨ps⟩ assign body) (hb:h.blk id=some (lp .ready none)) (hl:args.length=ps.length)
  (hrf:(noRF assign&&noRF body)=true) (he:setL env ps args=env1) (hw:qQ P assign (assignQ P h id lp body K) env1 h):SpecY P id args h K:=by
 subst hlp he
 simp only [Bool.and_eq_true] at hrf
 intro B w0 _ g w vs c r hv hc
 have hb':h.blks[id]?=some (.loop .ready none env ⟨ps⟩ assign body):=hb
 obtain ⟨hB,hlt,⟨fn,tmps,d,hh,hve⟩,_⟩:=r.blk id c _ hc hb'
 have hsz:vs.size=ps.length:=by rw [← hl,hv.length];rfl
 refine ⟨_,_,_,_,run_yield hh (by omega),fun n=>?_⟩
 refine roundIn_of_wpIn (F:=Fence.wide) trivial ?_
 have hte:VL g (setL env ps args) (((⟨ps⟩:Array Tmp).zip vs).foldl (fun t (p,v)=>t.setIfInBounds p v) tmps).toList:=by
  rw [← Array.foldl_toList,Array.toList_zip]
  exact setL_fold hve hv hl
 refine vf (B:=B) (w0:=w0) (gb:=g) (g0:=g) (ro:=some c) assign (.inr hrf.1) hw ⟨g,Gh.le.refl g,r,hte,Marks.nil _ _,Gh.le.refl g⟩ fun x env' h' a' w' hq hs=>?_
 obtain ⟨g1,hg1,r1,he1,hm1,hgb1⟩:=hs
 cases x with
 | normal =>
  obtain ⟨hb1,hq⟩:=hq
  have hb1':h'.blks[id]?=some (.loop .ready none env ⟨ps⟩ assign body):=hb1
  have hc1:=hg1.sig _ _ hc
  obtain ⟨_,_,⟨fn1,tmps1,d1,hh1,hve1⟩,_⟩:=r1.blk id c _ hc1 hb1'
  refine ⟨_,run_beginRound hh1 rfl,?_⟩
  have r2:Rel B w0 g1 (h'.put id (.loop .busy none env ⟨ps⟩ assign body)) (w'.putObj c (.loop { state:=.busy,pending:=none,fn:=fn1,tmps:=tmps1,params:=⟨ps⟩,assign,body,defers:=d1 })) :=
   r1.putObj hc1 hb1' (by simp) rfl rfl rfl World.putObj_size (fun b hb'=>World.putObj_heap_other hb') ⟨fn1,tmps1,d1,World.putObj_heap_same (Array.getElem?_eq_some_iff.1 hh1).1,hve1⟩
  refine vf (B:=B) (w0:=w0) (gb:=g) (g0:=g) (ro:=some c) body (.inr hrf.2) hq ⟨g1,hg1,r2,he1,hm1,hgb1⟩ fun x env3 h3 a3 w3 hq3 hs3=>?_
  obtain ⟨g3,hg3,r3,he3,_,_⟩:=hs3
  have fin:∀ (jump:Option Code),(∃ h4,wk h [] h3 [] h4∧h4.blk id=some (.loop .busy none env ⟨ps⟩ assign body)∧K (.bool jump.isNone) (h4.put id (.loop (if jump.isNone then .ready else .done) jump env ⟨ps⟩ assign body))) →
    ∃ v w4,(Instr.endRound c jump).run P w3=.ok v w4∧∃ v' r h5 g5,Ending.returned v=.returned v'∧K r h5∧g.le g5∧Rel B w0 g5 h5 w4∧V g5 r v':=by
   rintro jump ⟨h4,hwk,hb4,hK⟩
   obtain ⟨g4,k1,k2,_,_⟩:=hwk B w0 w3 w g g3 [] r hg3 r3 (by simp [VL])
   have hb4':h4.blks[id]?=some (.loop .busy none env ⟨ps⟩ assign body):=hb4
   have hc4:=k1.sig _ _ hc
   obtain ⟨_,_,⟨fn4,tmps4,d4,hh4,hve4⟩,_⟩:=k2.blk id c _ hc4 hb4'
   refine ⟨_,_,run_endRound jump hh4,_,_,_,g4,rfl,hK,k1,?_,by simp only [V]⟩
   exact k2.putObj hc4 hb4' (by simp) rfl rfl rfl World.putObj_size (fun b hb'=>World.putObj_heap_other hb') ⟨fn4,tmps4,d4,World.putObj_heap_same (Array.getElem?_eq_some_iff.1 hh4).1,hve4⟩
  cases x with
  | normal=>exact fin none hq3
  | ret=>exact fin (some .ret) hq3
  | exit i=>exact fin (some (.exit i)) hq3
  | _=>exact hq3.elim
 | _=>exact hq.elim

section
variable {P:Program} {h:AH} {A A' L B:List Blk} {T T' M C:List Nat} {nb nt:Nat} {o:Oper} {env:List AV}
theorem deep_blk (hN:h.blks.length=nb) {j:Nat} {b:Blk} (hj:A[j]?=some b):(((h.ext A T).ext L M).ext B C).blk (nb+j)=some b:=by
 simp only [wI,List.append_assoc]
 subst hN
 rw [xI,List.getElem?_append_left (List.getElem?_eq_some_iff.1 hj).1];exact hj
theorem deep_blk2 (hN:h.blks.length=nb) {j:Nat} {b:Blk} (hj:A[j]?=some b):((h.ext A T).ext L M).blk (nb+j)=some b:=by
 have:=deep_blk (h:=h) (A:=A) (T:=T) (L:=L) (M:=M) (B:=[]) (C:=[]) hN hj
 rwa [ext_nil] at this
theorem deep_put (hN:h.blks.length=nb) {j:Nat} {b:Blk} (hj:j < A.length) (hA:A.set j b=A'):(((h.ext A T).ext L M).ext B C).put (nb+j) b=((h.ext A' T).ext L M).ext B C:=by
 simp only [wI,List.append_assoc]
 subst hN hA
 rw [ext_put,List.set_append_left _ _ hj]
theorem deep_put2 (hN:h.blks.length=nb) {j:Nat} {b:Blk} (hj:j < A.length) (hA:A.set j b=A'):((h.ext A T).ext L M).put (nb+j) b=(h.ext A' T).ext L M:=by
 have:=deep_put (h:=h) (A:=A) (T:=T) (L:=L) (M:=M) (B:=[]) (C:=[]) hN hj hA
 rwa [ext_nil,ext_nil] at this
theorem qL (hN:h.blks.length=nb) {k:Nat} (hA:A.length=k):((h.ext A T).ext L M).blks.length=nb+k+L.length:=by simp [AH.ext,hN,hA,Nat.add_assoc]
theorem deep_tlen (hN:h.toks.length=nt) {k:Nat} (hA:T.length=k):((h.ext A T).ext L M).toks.length=nt+k+M.length:=by simp [AH.ext,hN,hA,Nat.add_assoc]
theorem d_load (hN:h.blks.length=nb) {t:TypeId} {d:TypeDesc} {k j off:Nat} {x:Operand} {cs:List AV} {v v':AV} (ho:o.op=.load t x) (ht:Ty P t d k) (hx:yC env x=some (.ptr (nb+j) off)) (hj:A[j]?=some (.cells cs))
  (hv:ldC (yq d) k off cs=some v) (hf:tyfix P t v=v'):zK P o env (((h.ext A T).ext L M).ext B C)=.ok v' (((h.ext A T).ext L M).ext B C):=by
 refine s_load ho ht hx ?_ hf
 simp only [aLoad,deep_blk hN hj]
 exact hv
theorem d_store (hN:h.blks.length=nb) {t:TypeId} {d:TypeDesc} {k j off:Nat} {x y:Operand} {cs vs cs':List AV} {b b':AV} (ho:o.op=.store t x y) (ht:Ty P t d k) (hx:yC env x=some (.ptr (nb+j) off)) (hy:yC env y=some b)
  (hf:tyfix P t b=b') (hc:b'.cells?=some vs) (hl:vs.length=k) (hj:A[j]?=some (.cells cs)) (hb:Nat.ble (off+k) cs.length=true) (hs:xw cs off vs=cs') (hA:A.set j (.cells cs')=A') :
  zK P o env (((h.ext A T).ext L M).ext B C)=.ok za (((h.ext A' T).ext L M).ext B C):=by
 refine s_store ho ht hx hy hf ?_
 simp only [aStore,hc,deep_blk hN hj]
 rw [if_pos ⟨hl,Nat.le_of_ble_eq_true hb⟩,hs,deep_put hN (List.getElem?_eq_some_iff.1 hj).1 hA]
theorem d_appT {α:Type} {row:α→List AV} {X Y:List α} (hN:h.toks.length=nt) {c:Call} {x y:Operand} {t u e e':TypeId} {k k' j:Nat} {a b b':AV} (ho:o.op=.call c) (hc:c.callee=.builtin .append) (hs:c.args=#[x,y]) (ht:c.argTypes=#[t,u]) (hu:El P t e k)
  (hu':El P u e' k') (hx:yC env x=some a) (hy:yC env y=some b) (ha:tyfix P t a=.osl (some (nt+j)) k (X.map row)) (hb:tyfix P u b=b') (hn:q7 k b'=some (Y.map row)) (hl:X.length+Y.length≤vQ) (hm:T[j]?=some X.length) (hT:T.set j (X++Y).length=T') :
  zK P o env (((h.ext A T).ext L M).ext B C)=.ok (.osl (some (nt+j)) k ((X++Y).map row)) (((h.ext A T').ext L M).ext B C):=by
 subst hN hT
 have hjl:=(List.getElem?_eq_some_iff.1 hm).1
 have:=e_appT (P:=P) (h:=h) (B:=A++L++B) (T:=T++M++C) (T':=(T.set j (X++Y).length)++M++C) ho hc hs ht hu hu' hx hy ha hb hn hl (by grind)
  (by simp_all)
 simp only [wI]
 omega
theorem deep_cut {h0:AH} (hc:h.closed nb nt) (hN0:h0.blks.length=nb) (hNt0:h0.toks.length=nt) (hN:h.blks.length=nb) (hNt:h.toks.length=nt) {A0:List Blk} {T0:List Nat} (hA:A'.length=A0.length) (hT:T'.length=T0.length)
  (hb:A'.all (fun b=>b.low (nb+A0.length) (nt+T0.length))=true):wk ((h0.ext A0 T0).ext L M) [] (((h.ext A' T').ext L M).ext B C) [] ((h.ext A' T').ext L M):=by
 have e1:((h0.ext A0 T0).ext L M).blks.length=nb+A0.length+L.length:=qL hN0 rfl
 have e2:((h0.ext A0 T0).ext L M).toks.length=nt+T0.length+M.length:=deep_tlen hNt0 rfl
 have e3:(((h.ext A' T').ext L M).ext B C).cut ((h0.ext A0 T0).ext L M).blks.length ((h0.ext A0 T0).ext L M).toks.length=(h.ext A' T').ext L M:=by
  have:=@ext_cut ((h.ext A' T').ext L M) B C
  rw [qL hN rfl,deep_tlen hNt rfl,hA,hT] at this
  rw [e1,e2];exact this
 have:=wk.cut (hd:=(h0.ext A0 T0).ext L M) (env:=[]) (h:=((h.ext A' T').ext L M).ext B C) rfl (fun i k hi hk=>by
  rw [e1] at hi ⊢
  rw [e2]
  rw [List.all_eq_true] at hb
  simp only [wI,AH.ext,List.append_assoc] at hk ⊢
  rcases Nat.lt_or_ge i h.blks.length with h1 | h1
  ·rw [List.getElem?_append_left h1] at hk
   exact .inr (Blk.low_up (by omega) (by omega) k (hc k (List.mem_of_getElem? hk)))
  ·rw [List.getElem?_append_right h1] at hk
   rcases Nat.lt_or_ge (i - h.blks.length) A'.length with h2 | h2
   ·rw [List.getElem?_append_left h2] at hk
    exact .inr (Blk.low_up (by omega) (by omega) k (hb k (List.mem_of_getElem? hk)))
   ·rw [List.getElem?_append_right h2] at hk
    rw [List.getElem?_append_right (by omega),List.getElem?_append_right (by omega)]
    rw [List.getElem?_append_left (by omega)] at hk
    rw [← hA,hN0,← hN];exact .inl hk)
 rw [e3] at this
 exact this
end
theorem SpecY.deep {P:Program} {id:Nat} {xs:List AV} {r:AV} {H H':AH} (hy:∀ A B,SpecY P id xs (H.ext A B) (fun rr hh=>rr=r∧hh=H'.ext A B)) {A L B:List Blk} {T M C:List Nat}:SpecY P id xs (((H.ext A T).ext L M).ext B C) (fun rr hh=>rr=r∧hh=((H'.ext A T).ext L M).ext B C):=by
 simp only [wI];exact hy _ _
theorem Spec.deep {P:Program} {f:FuncId} {xs:List AV} {r:AV} {H H':AH} (hy:∀ A B,Spec P f xs (H.ext A B) (fun rr hh=>rr=r∧hh=H'.ext A B)) {A L B:List Blk} {T M C:List Nat}:Spec P f xs (((H.ext A T).ext L M).ext B C) (fun rr hh=>rr=r∧hh=((H'.ext A T).ext L M).ext B C):=by
 simp only [wI];exact hy _ _

theorem y_body {P:Program} {β X:Type} {h:β→AH} {nb k:Nat} {A:β→List Blk} {T:β→List Nat} {lp:LoopState→Option Code→Blk} {env:List AV} {ps:List Tmp} {assign body:Code} (hlp:lp=fun st pe=>.loop st pe env ⟨ps⟩ assign body) {f:β→X→Option (Bool×(β×Option Nat))} {xs:X→List AV}
  (hN:∀ b,(h b).blks.length=nb) (hl:∀ b,(A b).length=k) (hrf:(noRF assign&&noRF body)=true) (hxs:∀ x,(xs x).length=ps.length) {env1:X→List AV} (he:∀ x,setL env ps (xs x)=env1 x)
  (hw:∀ b x o L M H1,H1=((((h b).ext (A b++[lp .ready none]) (T b)).ext L M).ext [] [])→f b x=some o→qQ P assign (assignQ P (((h b).ext (A b++[lp .ready none]) (T b)).ext L M) (nb+k) lp body (fun rr hh=>rr=.bool o.1∧hh=(fam h A T lp o.2).ext L M)) (env1 x) H1) :
  ∀ (s:β×Option Nat) (x:X) (b:Bool) (s':β×Option Nat) (L:List Blk) (M:List Nat),stp f s x=some (b,s')→SpecY P (nb+k) (xs x) ((fam h A T lp s).ext L M) (fun rr hh=>rr=.bool b∧hh=(fam h A T lp s').ext L M):=by
 rintro ⟨b0,p⟩ x b s' L M hF
 cases p with
 | some _=>cases hF
 | none =>
  have:=hw b0 x (b,s') L M _ rfl hF
  rw [ext_nil] at this
  refine specY_of hlp ?_ (hxs x) hrf (he x) this
  exact deep_blk2 (hN b0) (by rw [List.getElem?_append_right (by simp_all),hl];simp [lst,lpe])
theorem q_assign {P:Program} {hs:AH} {nb k:Nat} {lp:LoopState→Option Code→Blk} {body:Code} {K:AV→AH→Prop} {env:List AV} {h:AH} {A L B:List Blk} {T M C:List Nat} (hN:h.blks.length=nb) (hl:A.length=k)
  (hw:qQ P body (roundQ hs (nb+k) lp K) env (((h.ext (A++[lp .busy none]) T).ext L M).ext B C)):assignQ P hs (nb+k) lp body K .normal env (((h.ext (A++[lp .ready none]) T).ext L M).ext B C):=by
 refine ⟨deep_blk hN (by rw [List.getElem?_append_right (by omega),hl];simp),?_⟩
 rw [deep_put hN (by rw [List.length_append,hl];exact Nat.lt_succ_self _) (by rw [List.set_append_right _ _ (by omega),hl,Nat.sub_self])]
 exact hw
section
variable {β:Type} {h:β→AH} {h0 h1:AH} {nb nt k:Nat} {lp:LoopState→Option Code→Blk} {env:List AV} {A:β→List Blk} {T:β→List Nat} {A0 A' L B:List Blk} {T0 T' M C:List Nat} {b':β} {o:Bool×(β×Option Nat)}
theorem q_roundA {E:Exit} {r:Bool} {p:Option Nat} (hE:∀ h3,(∃ h3',wk ((h0.ext (A0++[lp .ready none]) T0).ext L M) [] h3 [] h3'∧h3'.blk (nb+k)=some (lp .busy none)∧(AV.bool r=.bool o.1∧h3'.put (nb+k) (lp (lst p) (lpe p))=(fam h A T lp o.2).ext L M))→roundQ ((h0.ext (A0++[lp .ready none]) T0).ext L M) (nb+k) lp (fun rr hh=>rr=.bool o.1∧hh=(fam h A T lp o.2).ext L M) E env h3)
  (hc:h1.closed nb nt) (hN0:h0.blks.length=nb) (hNt0:h0.toks.length=nt) (hN:h1.blks.length=nb) (hNt:h1.toks.length=nt) (hl0:A0.length=k) (hl:A'.length=k) (hT:T'.length=T0.length) (ho:o=(r,(b',p))) (hh:h b'=h1) (hA:A b'=A') (hT':T b'=T')
  (hb:(A'++[lp .busy none]).all (fun b=>b.low (nb+(k+1)) (nt+T0.length))=true) :
  roundQ ((h0.ext (A0++[lp .ready none]) T0).ext L M) (nb+k) lp (fun rr hh=>rr=.bool o.1∧hh=(fam h A T lp o.2).ext L M) E env (((h1.ext (A'++[lp .busy none]) T').ext L M).ext B C):=by
 refine hE _ ⟨(h1.ext (A'++[lp .busy none]) T').ext L M,deep_cut hc hN0 hNt0 hN hNt (by simp [hl,hl0]) hT (by rw [List.length_append,hl0];exact hb),deep_blk2 hN (by rw [List.getElem?_append_right (by omega),hl];simp),?_,?_⟩
 ·rw [ho]
 ·rw [deep_put2 hN (by rw [List.length_append,hl];exact Nat.lt_succ_self _) (by rw [List.set_append_right _ _ (by omega),hl,Nat.sub_self]),ho]
  simp only [fam,hA,hT',hh];rfl
theorem q_roundN (hc:h1.closed nb nt) (hN0:h0.blks.length=nb) (hNt0:h0.toks.length=nt) (hN:h1.blks.length=nb) (hNt:h1.toks.length=nt) (hl0:A0.length=k) (hl:A'.length=k) (hT:T'.length=T0.length) (ho:o=(true,(b',none))) (hh:h b'=h1) (hA:A b'=A') (hT':T b'=T')
  (hb:(A'++[lp .busy none]).all (fun b=>b.low (nb+(k+1)) (nt+T0.length))=true) :
  roundQ ((h0.ext (A0++[lp .ready none]) T0).ext L M) (nb+k) lp (fun rr hh=>rr=.bool o.1∧hh=(fam h A T lp o.2).ext L M) .normal env (((h1.ext (A'++[lp .busy none]) T').ext L M).ext B C) :=
 q_roundA (r:=true) (p:=none) (fun _ h=>h) hc hN0 hNt0 hN hNt hl0 hl hT ho hh hA hT' hb
theorem q_roundR (hc:h1.closed nb nt) (hN0:h0.blks.length=nb) (hNt0:h0.toks.length=nt) (hN:h1.blks.length=nb) (hNt:h1.toks.length=nt) (hl0:A0.length=k) (hl:A'.length=k) (hT:T'.length=T0.length) (ho:o=(false,(b',some 0))) (hh:h b'=h1) (hA:A b'=A') (hT':T b'=T')
  (hb:(A'++[lp .busy none]).all (fun b=>b.low (nb+(k+1)) (nt+T0.length))=true) :
  roundQ ((h0.ext (A0++[lp .ready none]) T0).ext L M) (nb+k) lp (fun rr hh=>rr=.bool o.1∧hh=(fam h A T lp o.2).ext L M) .ret env (((h1.ext (A'++[lp .busy none]) T').ext L M).ext B C) :=
 q_roundA (r:=false) (p:=some 0) (fun _ h=>h) hc hN0 hNt0 hN hNt hl0 hl hT ho hh hA hT' hb
end
theorem s_yield {P:Program} {o:Oper} {env:List AV} {h:AH} {c:Call} {f:Operand} {id:Nat} {l:List (TypeId×AV)} {args:List AV} (ho:o.op=.call c) (hc:c.callee=.value f) (hf:yC env f=some (.yld id))
  (hl:argo env c.args.toList c.argTypes.toList=some l) (ha:Fx P l args):zK P o env h=.round id args:=by
 obtain ⟨h1,h2⟩:=yk hf
 obtain ⟨h3,h4,h5⟩:=argo_ok (P:=P) hl
 have h6:c.args.all yo=true:=by grind
 have h7:(c.args.size==c.argTypes.size)=true:=by simp_all
 simp only [zK,ho,h6,h7,Bool.and_self,if_true,hc,h1,Bool.true_eq_false,if_false,h2,h5,ha.eq]
theorem ops_round {P:Program} {ops:Array Oper} {Q:List AV→AH→Prop} {o:Oper} {rest:List Oper} {env env':List AV} {h h':AH} {id:Nat} {args:List AV} {v:AV} (hg:aG ops o env=some true) (ha:zK P o env h=.round id args) (hs:SpecY P id args h fun r hh=>r=v∧hh=h')
  (hd:wF o.dst env v=some env') (hk:yn P ops Q rest env' h'):yn P ops Q (o::rest) env h:=by
 refine wZ ?_
 simp only [hg,gwp,ha,rwp]
 refine hs.mono ?_
 rintro r hh ⟨rfl,rfl⟩
 rw [xF hd];exact hk
theorem draw_round {Ns:List Nat} {F:Nat→AH→Prop} {i:Nat} (hN:Ns.contains i=false) {P:Program} {ops:Array Oper} {Q:List AV→AH→Prop} {o:Oper} {rest:List Oper} {env env':List AV} {h h':AH} {id:Nat} {args:List AV} {v:AV} (hF:FOk ((Region.before ops).getD i 0) Ns F h') (hc:anch ops Ns i=true) (hg:aG ops o env=some true) (ha:zK P o env h=.round id args)
  (hs:SpecY P id args h fun r hh=>r=v∧hh=h') (hd:wF o.dst env v=some env') (hk:yy P ops Ns F Q (i+1) rest env' h'):yy P ops Ns F Q i (o::rest) env h :=
 ⟨v,h',.inl ⟨hN,by simp only [AR,hg,ha];exact hs⟩,.inl hc,.inr hF,by rw [xF hd];exact hk⟩
theorem SpecY.le {P:Program} {id:Nat} {a5 bs:List AV} {h:AH} {K:AV→AH→Prop} (s:SpecY P id bs h K) (k:leL a5 bs):SpecY P id a5 h K :=
 fun B w0 _ g w vs c r hv hc=>s B w0 g w vs c r (k _ _ hv) hc
def CloK (h:AH) (g:FuncId) (bs:List Blk) (rr:AV) (hh:AH):Prop:=rr=.fn (.func g) [] ((List.range bs.length).map fun i=>.ptr (h.blks.length+i) 0)∧hh=h.ext bs []
theorem clo_ext {P:Program} {h:AH} {nb n:Nat} (hN:h.blks.length=nb) {f g:FuncId} {a5 caps:List AV} {B B' bs:List Blk} {T:List Nat} (s:Spec P f a5 (h.ext B T) (CloK (h.ext B T) g bs)) (hn:B.length=n) (hB:B++bs=B') (hc:(List.range bs.length).map (fun i=>AV.ptr (nb+(n+i)) 0)=caps) :
  Spec P f a5 (h.ext B T) (fun rr hh=>rr=.fn (.func g) [] caps∧hh=h.ext B' T):=by
 refine s.mono ?_
 rintro rr hh ⟨rfl,rfl⟩
 subst hB hc hn hN
 refine ⟨?_,by rw [wI,List.append_nil]⟩
 simp [AH.ext,Nat.add_assoc]
theorem wk_cutb {h:AH} {env:List AV} {L L1:List Blk} {M:List Nat} (m:Nat) (hl:yf (h.blks.length+m) h.toks.length env=true) (hL:L.take m=L1) (hb:L1.all (fun b=>b.low (h.blks.length+m) h.toks.length)=true):wk h env (h.ext L M) env (h.ext L1 []):=fun _ _ _ _ g1 g vs r1 hg r hv=>by
 subst hL
 refine ⟨g.cut (h.blks.length+m) h.toks.length,Gh.le_cut2 hg (by rw [r1.slen];omega) (by rw [r1.tlen];exact Nat.le_refl _),?_,VL.cut _ _ hl hv,fun _ h=>h⟩
 have e:(h.ext L M).cut (h.blks.length+m) h.toks.length=h.ext (L.take m) []:=by
  simp only [AH.cut,AH.ext,List.take_append,Nat.add_sub_cancel_left]
  rw [List.take_of_length_le (l:=h.blks) (by omega)];simp
 rw [← e]
 refine r.cut _ _ fun i k hi hk=>?_
 simp only [AH.ext] at hk
 rcases Nat.lt_or_ge i h.blks.length with h1 | h1
 ·rw [List.getElem?_append_left h1] at hk
  have:=closed_of_rel r1 k (List.mem_of_getElem? hk)
  exact Blk.low_up (by omega) (Nat.le_refl _) k this
 ·rw [List.getElem?_append_right h1] at hk
  rw [List.all_eq_true] at hb
  refine hb k (List.mem_of_getElem? (i:=i - h.blks.length) ?_)
  grind
theorem fin_clo {h:AH} {K:AV→AH→Prop} {v:AV} {bs L':List Blk} {M':List Nat} (hl:v.low (h.blks.length+bs.length) h.toks.length=true) (hL:L'.take bs.length=bs) (hb:bs.all (fun b=>b.low (h.blks.length+bs.length) h.toks.length)=true) (hk:K v (h.ext bs [])):finK h K v (h.ext L' M') :=
 ⟨v,_,wk_cutb bs.length (by simp [yf,hl]) hL hb,hk⟩
theorem blk_lt {h:AH} {nb i:Nat} {b:Blk} (hb:h.blk i=some b) (hN:h.blks.length=nb):i < nb:=by
 subst hN;exact (List.getElem?_eq_some_iff.1 hb).1
theorem n_blk {h:AH} {L:List Blk} {M:List Nat} {nb j:Nat} {b:Blk} (hN:h.blks.length=nb) (hj:L[j]?=some b):(h.ext L M).blk (nb+j)=some b:=by
 subst hN;rw [xI];exact hj
theorem n_blk2 {h:AH} {B B':List Blk} {T T':List Nat} {nb j:Nat} {b:Blk} (hN:h.blks.length=nb) (hj:B[j]?=some b):((h.ext B T).ext B' T').blk (nb+j)=some b:=by
 subst hN;exact blk_ext2 hj
theorem jmp1 {ρ:Type} {j c:Nat} {X:Option ρ} {r:ρ} {G:Nat→Prop} (h:(if j=c then X else none)=some r) (k:X=some r→G c):G j:=by
 simp_all
theorem jmp_ret {Q:Exit→List AV→AH→Prop} {E:List AV} {h:AH} (k:Q .ret E h):jumpQ Q 0 E h:=k
end Go.Vv
namespace Go.Vv
open Go Go.RowKit
section
variable {B:Nat} {w0 w:World} {g:Gh} {h:AH}
theorem Rel.freeze (r:Rel B w0 g h w) {q i k:Nat} {es:List (List AV)} (hb:h.blks[q]?=some (.row i k es)) :
  ∃ g',g.le g'∧Rel B w0 g' { h.put q .dead with toks:=h.toks.set i (es.length+1) } w∧g'.δ=g.δ∧∀ q' v,V g (.rsl q' i k es.length) v→V g' (.sl k es) v:=by
 obtain ⟨hσ,t,ht,htr,htn,hlen,hpe,hrow⟩:=r.rowAt hb
 let T:TI:=⟨es.length+1,none,true⟩
 have hlt:t.n < T.n:=by grind
 have hle:=Gh.le_setT (g:=g) (t':=T) ht hlt htr.symm
 have r1:=r.setRowG (t':=T) (nb:=.dead) ht hlt htr rfl hσ hb trivial (fun _ _ _ e=>by cases e) (fun _ _ _ e=>by cases e) (fun _ _ e=>by cases e)
 rcases hrow with rfl | ⟨b,o,e,cs,ty,k1,k2,k3,k4,k5⟩
 ·refine ⟨_,hle,r1,rfl,fun q' v hv=>?_⟩
  simp only [V] at hv ⊢
  grind
 ·have htok:∀ (j:Nat) (u:TI) (l e':Nat),(g.setT i T).τ[j]?=some u→u.loc=some (b,l,e')→False:=by
   intro j u l e' hj hu
   simp only [Gh.setT] at hj
   by_cases hji:j=i
   ·grind
   ·rw [List.getElem?_set_ne (fun e=>hji e.symm)] at hj
    exact hji (r.tinj _ _ _ _ b _ _ hj ht hu k1)
  have r2:=r1.vow (b:=b) (f:=fun j=>if o≤j∧j < o+es.length * k then cs[j]? else none)
   (fun j v hv=>by
    split at hv
    ·rw [cell_of_row w b j cs ty (0,0) k2];exact hv
    ·cases hv)
   (fun j c hj _=>(r.sep j c i t b _ hj ht k1).symm)
   (fun j u l e' hj hu=>(htok j u l e' hj hu).elim)
   (r.ntok ht k1)
  have hle2:=hle.trans (Gh.le_vow (g.setT i T) b fun j=>if o≤j∧j < o+es.length * k then cs[j]? else none)
  refine ⟨_,hle2,r2,rfl,fun q' v hv=>?_⟩
  simp only [V] at hv ⊢
  obtain ⟨a,c,rfl,h1,h2,t2,ht2,_,_,hloc⟩:=hv
  obtain rfl:t=t2:=by simp_all
  refine ⟨a,c,rfl,h1,h2,?_⟩
  rcases hloc with ⟨h0,_⟩ | ⟨b',o',rfl,hloc⟩
  ·simp_all
  ·have hloc:=hloc htn.symm
   rw [k1] at hloc;injection hloc with hloc;injection hloc with e1 hloc;injection hloc with e2 _
   obtain rfl:o=o':=by omega
   subst e1
   refine .inr ⟨b,o,rfl,VE_iff.2 ⟨hlen,VC.ofVA (k3.mono hle2) hpe fun j v hv=>?_⟩⟩
   rw [List.getElem?_take] at hv
   split at hv
   ·rename_i hj
    rw [List.getElem?_drop,Array.getElem?_toList] at hv
    simp only [Gh.vow,Gh.setT,if_true]
    simp_all
   ·cases hv
end

theorem gok_now {P:Program} {B:Nat} {w0 w:World} [G:GOk P B w0] (hb:Below B w0 w):GOk P w.heap.size w :=
 ⟨World.ShapedOpen.keptBut G.sh ((hb.mono G.sz).frame (fun _=>False)) (fun _ h=>h.elim),Nat.le_refl _,laid_below G.lay G.sz hb⟩
def AV.scal:AV→Bool
 | .bool _ | .int _ _ | .str _=>true
 | .tup [.bool _] | .tup [.int _ _] | .tup [.int _ _,.bool _]=>true
 | _=>false
theorem V.scal {g g':Gh} {a:AV} {v:Value} (hs:a.scal=true) (hv:V g a v):V g' a v:=by
 unfold AV.scal at hs
 split at hs <;> first | (simpa only [V,VL] using hv) | cases hs
def sealed:Option BK→Bool
 | some (.gar _) | some (.shut _)=>true
 | _=>false
def gR (B:Nat) (w:World) (g:Gh):Gh :=
 { Φ:=fun b j=>if b < w.heap.size∧sealed (g.N b)=false then w.cell? ⟨b,j,none⟩ else none,σ:=[],τ:=[],δ:=[],N:=fun b=>match g.N b with | some x=>some x | none=>if B≤b then (w.heap[b]?).map .frz else none,O:=g.O }
theorem Rel.unsealed {B:Nat} {w0 w:World} {g:Gh} {h:AH} (r:Rel B w0 g h w) {b j:Nat} {v:Value} (e:g.Φ b j=some v):sealed (g.N b)=false:=by
 rcases hx:g.N b with _ | x
 ·rfl
 ·have:=r.nb b x hx
  cases x with
  | gar s=>rw [this.2.2.2 j] at e;cases e
  | shut o=>rw [this.2.2.2 j] at e;cases e
  | _=>rfl
theorem lv_now {B:Nat} {w0 w:World} {g:Gh} {h:AH} (r:Rel B w0 g h w):(g.cut 0 0).lv (gR B w g) :=
 ⟨fun b j v e=>by
     have e:g.Φ b j=some v:=e
     simp only [gR,if_pos (And.intro (r.phi_lt e) (r.unsealed e))];exact r.phi b j v e,fun i c e=>by simp [Gh.cut] at e,fun i t e=>by simp [Gh.cut] at e,fun b x e=>by
     have e:g.N b=some x:=e
     simp only [gR,e],fun _ e=>e⟩
theorem Rel.after {B:Nat} {w0 w w':World} {g g2:Gh} {h h2:AH} (r:Rel B w0 g h w) (hle:(gR B w g).le g2) (r':Rel B w0 g2 h2 w'):Rel B w0 g h w':=by
 have hsame:∀ b,b < w.heap.size→(g.N b=none ∨ ∃ o,g.N b=some (.frz o))→w'.heap[b]?=w.heap[b]?:=by
  intro b hb hn
  by_cases hB:b < B
  ·exact (r'.below.block b hB).trans (r.below.block b hB).symm
  ·rcases hn with hn | ⟨o,hn⟩
   ·have h1:(gR B w g).N b=some (.frz w.heap[b]):=by simp only [gR,hn,if_pos (Nat.not_lt.1 hB)];rw [Array.getElem?_eq_getElem hb];rfl
    have:=r'.nb b _ (hle.new _ _ h1)
    rw [this.2.2,Array.getElem?_eq_getElem hb]
   ·have h1:(gR B w g).N b=some (.frz o):=by simp only [gR,hn]
    exact (r'.nb b _ (hle.new _ _ h1)).2.2.trans (r.nb b _ hn).2.2.symm
 have hz:w.heap.size≤w'.heap.size:=by
  rcases Nat.eq_zero_or_pos w.heap.size with h0 | h0
  ·omega
  ·by_cases hB:w.heap.size - 1 < B
   ·have:=r'.bsz;omega
   ·have:∃ x,(gR B w g).N (w.heap.size - 1)=some x:=by
     simp only [gR]
     cases hx:g.N (w.heap.size - 1) with
     | some x=>exact ⟨x,rfl⟩
     | none=>exact ⟨.frz (w.heap[w.heap.size - 1]),by simp_all⟩
    obtain ⟨x,hx⟩:=this
    have:=r'.nlt (hle.new _ _ hx)
    omega
 have htk:∀ (i:Nat) (t:TI) (b:Nat) (y:Nat×Nat),g.τ[i]?=some t→t.loc=some (b,y)→w'.heap[b]?=w.heap[b]?:=fun i t b y ht hl=>by
  exact hsame b ((r.tok i t ht).2 b y.1 y.2 hl).lt (.inl (r.ntok ht hl))
 refine ⟨r'.below,r'.bsz,fun b j v e=>?_,r.slen,fun i c k hc hk=>?_,r.tlen,fun i t ht=>?_,r.sinj,r.tinj,r.sep,fun c hc=>?_,fun i k hi hk=>?_,r.rinj,fun b x hb=>?_,fun b hb=>⟨Nat.lt_of_lt_of_le (r.ob b hb).1 hz,(r.ob b hb).2⟩,r.oa⟩
 ·have h1:(gR B w g).Φ b j=some v:=by simp only [gR,if_pos (And.intro (r.phi_lt e) (r.unsealed e))];exact r.phi b j v e
  exact r'.phi b j v (hle.phi _ _ _ h1)
 ·obtain ⟨h1,h2,h3,h4⟩:=r.blk i c k hc hk
  exact ⟨h1,by omega,h3.mono (Gh.le.refl g) (hsame c h2 (.inl (r.nsig hc))),h4⟩
 ·obtain ⟨h1,h2⟩:=r.tok i t ht
  exact ⟨h1,fun b l e hl=>(h2 b l e hl).mono hz (htk i t b _ ht hl) fun _ _=>rfl⟩
 ·obtain ⟨h1,h2,h3⟩:=r.dfr c hc
  refine ⟨h1,(hsame c (r.dfr_lt hc) ?_).trans h2,h3⟩
  rcases hx:g.N c with _ | x
  ·simp_all
  ·have:=r.nb c x hx
   cases x <;> exact absurd hc this.2.1.2.1
 ·exact (r.row i k hi hk).mono (Gh.le.refl g) (fun _ _ h _=>h) (fun i t b x ht _ hl=>⟨htk i t b x ht hl,fun _=>rfl⟩)
 ·have hr:=r.nb b x hb
  have h1:(gR B w g).N b=some x:=by simp only [gR,hb]
  have h2:=r'.nb b x (hle.new _ _ h1)
  cases x with
  | new s=>exact ⟨hr.1,hr.2.1,h2.2.2⟩
  | gar s=>exact ⟨hr.1,hr.2.1,h2.2.2.1,hr.2.2.2⟩
  | shut o=>exact ⟨hr.1,hr.2.1,h2.2.2.1,hr.2.2.2⟩
  | frz o=>exact ⟨hr.1,hr.2.1,h2.2.2⟩

theorem RdA.soundRow {B:Nat} {w0 w:World} {g:Gh} {h:AH} (r:Rel B w0 g h w) {id t k n:Nat} {es:List (List AV)} (hb:h.blk id=some (.row t k es)) (hn:n=es.length) {v:Value} (hv:V g (.rsl id t k n) v):V (gR B w g) (.sl k es) v:=by
 subst hn
 obtain ⟨_,ti,hti,htr,htn,hlen,hpe,hrow⟩:=r.rowAt hb
 simp only [V] at hv ⊢
 obtain ⟨a,c,rfl,h1,h2,t2,ht2,_,_,hloc⟩:=hv
 obtain rfl:ti=t2:=by simp_all
 refine ⟨a,c,rfl,h1,h2,?_⟩
 rcases hloc with ⟨h0,_⟩ | ⟨b',o',rfl,hloc⟩
 ·simp_all
 ·have hloc:=hloc htn.symm
  rcases hrow with rfl | ⟨b,o,e,cs,ty,k1,k2,k3,k4,k5⟩
  ·simp_all
  ·rw [k1] at hloc;injection hloc with hloc;injection hloc with e1 hloc;injection hloc with e2 _
   obtain rfl:o=o':=by omega
   subst e1
   have hb:b < w.heap.size:=(Array.getElem?_eq_some_iff.1 k2).1
   have k3':VA (gR B w g) es.flatten ((cs.toList.drop o).take (es.length * k)):=VA.monoV (lv_now r) _ _ (VA.cut _ _ (lowL_of_pure hpe) k3)
   refine .inr ⟨b,o,rfl,VE_iff.2 ⟨hlen,VC.ofVA k3' hpe fun j v hv=>?_⟩⟩
   rw [List.getElem?_take] at hv
   split at hv
   ·rw [List.getElem?_drop,Array.getElem?_toList] at hv
    have hsl:sealed (g.N b)=false:=by rw [r.ntok hti k1];rfl
    simp only [gR,if_pos (And.intro hb hsl)]
    rw [cell_of_row w b (o+j) cs ty (0,0) k2];exact hv
   ·cases hv
mutual
inductive RdA (h:AH):AV→AV→Prop
 | low (a:AV) (hl:a.low 0 0=true):RdA h a a
 | row (id t k n:Nat) (es:List (List AV)) (hb:h.blk id=some (.row t k es)) (hn:n=es.length):RdA h (.rsl id t k n) (.sl k es)
 | osl (q:Option Nat) (k:Nat) (es:List (List AV)) (hl:(AV.sl k es).low 0 0=true):RdA h (.osl q k es) (.sl k es)
 | agg {cs bs:List AV} (x:RdL h cs bs) (ho:bs.all AV.one=true):RdA h (.agg cs) (.agg bs)
inductive RdL (h:AH):List AV→List AV→Prop
 | nil:RdL h [] []
 | cons {a b:AV} {xs bs:List AV} (x:RdA h a b) (y:RdL h xs bs):RdL h (a::xs) (b::bs)
end
theorem V.low0 {B:Nat} {w0 w:World} {g:Gh} {h:AH} (r:Rel B w0 g h w) {a:AV} {v:Value} (hl:a.low 0 0=true) (hv:V g a v):V (gR B w g) a v:=V.monoV (lv_now r) _ _ (V.cut _ _ hl hv)
mutual
theorem RdA.sound {B:Nat} {w0 w:World} {g:Gh} {h:AH} (r:Rel B w0 g h w):∀ {a b:AV} {v:Value},RdA h a b→V g a v→V (gR B w g) b v
 | _,_,_,.low _ hl,hv=>V.low0 r hl hv
 | _,_,_,.row _ _ _ _ _ hb hn,hv=>RdA.soundRow r hb hn hv
 | _,_,_,.osl q k es hl,hv=>V.low0 r hl (leV.osl q k es g _ hv)
 | _,_,_,.agg x ho,hv=>by
  simp only [V] at hv ⊢
  obtain ⟨vs,rfl,h1⟩:=hv
  exact ⟨vs,rfl,VA.mk (RdL.sound r x h1.toVL) ho⟩
theorem RdL.sound {B:Nat} {w0 w:World} {g:Gh} {h:AH} (r:Rel B w0 g h w):∀ {xs bs:List AV} {vs:List Value},RdL h xs bs→VL g xs vs→VL (gR B w g) bs vs
 | _,_,_,.nil,hv=>by simpa only [VL] using hv
 | _,_,_,.cons x y,hv=>by
  simp only [VL] at hv ⊢
  obtain ⟨v,s,rfl,h1,h2⟩:=hv
  exact ⟨v,s,rfl,RdA.sound r x h1,RdL.sound r y h2⟩
end
theorem swk.wk {hd h h':AH} {env env':List AV} (k:swk env h env' h'):wk hd env h env' h':=fun B w0 w _ g1 g vs _ hg r hv=>by
 obtain ⟨g',k1,k2,k3⟩:=k B w0 w g vs r hv
 exact ⟨g',hg.trans k1,k2,k3,k1.del⟩
mutual
inductive FzA (i k:Nat) (es:List (List AV)):AV→AV→Prop
 | same (a:AV):FzA i k es a a
 | hit (q:Nat):FzA i k es (.rsl q i k es.length) (.sl k es)
 | hit2 (q n:Nat) (hn:n=es.length):FzA i k es (.rsl q i k n) (.sl k es)
 | agg {cs bs:List AV} (x:FzL i k es cs bs) (ho:bs.all AV.one=true):FzA i k es (.agg cs) (.agg bs)
 | tup {cs bs:List AV} (x:FzL i k es cs bs):FzA i k es (.tup cs) (.tup bs)
inductive FzL (i k:Nat) (es:List (List AV)):List AV→List AV→Prop
 | refl (xs:List AV):FzL i k es xs xs
 | cons {a b:AV} {xs bs:List AV} (x:FzA i k es a b) (y:FzL i k es xs bs):FzL i k es (a::xs) (b::bs)
end
theorem FzL.s {i k:Nat} {es:List (List AV)} {a:AV} {xs bs:List AV} (y:FzL i k es xs bs):FzL i k es (a::xs) (a::bs):=.cons (.same _) y
mutual
theorem FzA.sound {g g':Gh} (hle:g.le g') {i k:Nat} {es:List (List AV)} (hz:∀ q v,V g (.rsl q i k es.length) v→V g' (.sl k es) v):∀ {a b:AV} {v:Value},FzA i k es a b→V g a v→V g' b v
 | _,_,_,.same _,hv=>hv.mono hle
 | _,_,_,.hit q,hv=>hz q _ hv
 | _,_,_,.hit2 q n hn,hv=>by grind
 | _,_,_,.agg x ho,hv=>by
  simp only [V] at hv ⊢
  obtain ⟨vs,rfl,h1⟩:=hv
  exact ⟨vs,rfl,VA.mk (FzL.sound hle hz x h1.toVL) ho⟩
 | _,_,_,.tup x,hv=>by
  simp only [V] at hv ⊢
  obtain ⟨vs,rfl,h1⟩:=hv
  exact ⟨vs,rfl,FzL.sound hle hz x h1⟩
theorem FzL.sound {g g':Gh} (hle:g.le g') {i k:Nat} {es:List (List AV)} (hz:∀ q v,V g (.rsl q i k es.length) v→V g' (.sl k es) v):∀ {xs bs:List AV} {vs:List Value},FzL i k es xs bs→VL g xs vs→VL g' bs vs
 | _,_,_,.refl _,hv=>hv.mono hle
 | _,_,_,.cons x y,hv=>by
  simp only [VL] at hv ⊢
  obtain ⟨v,s,rfl,h1,h2⟩:=hv
  exact ⟨v,s,rfl,FzA.sound hle hz x h1,FzL.sound hle hz y h2⟩
end
section
variable {α:Type} {row:α→List AV} {L M:List α} {k:Nat}
theorem flat_len (hk:∀ x,(row x).length=k):∀ L:List α,(L.map row).flatten.length=L.length * k
 | []=>by simp
 | x::t=>by simp only [List.map_cons,List.flatten_cons,List.length_append,List.length_cons,flat_len hk t,hk x,Nat.succ_mul];omega
theorem flat_drop (hk:∀ x,(row x).length=k):∀ (L:List α) (i:Nat),(L.map row).flatten.drop (i * k)=((L.drop i).map row).flatten
 | [],i=>by simp
 | x::t,0=>by simp
 | x::t,i+1=>by
  rw [List.map_cons,List.flatten_cons,Nat.succ_mul,Nat.add_comm,← List.drop_drop,List.drop_left' (hk x),flat_drop hk t i];rfl
theorem flat_take (hk:∀ x,(row x).length=k):∀ (L:List α) (i:Nat),(L.map row).flatten.take (i * k)=((L.take i).map row).flatten
 | [],i=>by simp
 | x::t,0=>by simp
 | x::t,i+1=>by
  rw [List.map_cons,List.flatten_cons,Nat.succ_mul,Nat.add_comm,List.take_append,List.take_of_length_le (by simp_all),hk x,Nat.add_sub_cancel_left,flat_take hk t i];rfl
variable {P:Program} {o:Oper} {env:List AV} {h:AH} {B:List Blk} {T:List Nat}
theorem e_appR {c:Call} {x y:Operand} {t u e e':TypeId} {k' i j n:Nat} {a b b':AV} {B':List Blk} {T':List Nat} (ho:o.op=.call c) (hc:c.callee=.builtin .append) (hs:c.args=#[x,y]) (ht:c.argTypes=#[t,u]) (hu:El P t e k)
  (hu':El P u e' k') (hx:yC env x=some a) (hy:yC env y=some b) (ha:tyfix P t a=.rsl (h.blks.length+i) (h.toks.length+j) k n) (hb:tyfix P u b=b') (hn:q7 k b'=some (M.map row)) (hl:L.length+M.length≤vQ)
  (hi:B[i]?=some (.row (h.toks.length+j) k (L.map row))) (hLn:L.length=n) (hm:T[j]?=some n) (hB:B.set i (.row (h.toks.length+j) k ((L++M).map row))=B') (hT:T.set j (L++M).length=T') :
  zK P o env (h.ext B T)=.ok (.rsl (h.blks.length+i) (h.toks.length+j) k (L++M).length) (h.ext B' T'):=by
 subst hLn
 refine s_append ho hc hs ht hu hu' hx hy ha hb hn ?_
 simp only [aAppend,List.length_map]
 by_cases h0:M.length=0
 ·have:M=[]:=List.eq_nil_of_length_eq_zero h0
  subst this
  simp only [List.append_nil] at hB hT ⊢
  simp only [List.length_nil,if_true]
  have e1:B.set i (.row (h.toks.length+j) k (L.map row))=B:=by
   refine List.ext_getElem? fun z=>?_
   grind
  have e2:T.set j L.length=T:=by
   refine List.ext_getElem? fun z=>?_
   grind
  simp_all
 ·rw [if_neg h0,xI,hi]
  simp only
  have hg:(h.ext B T).toks[h.toks.length+j]?=some L.length:=by simp only [AH.ext];rw [List.getElem?_append_right (by omega),Nat.add_sub_cancel_left];exact hm
  rw [if_pos (by simp_all)]
  rw [ext_put]
  simp only [AH.ext,List.set_append_right _ _ (Nat.le_add_right _ _),Nat.add_sub_cancel_left,← List.map_append,List.length_append] at hB hT ⊢
  rw [hB,hT]
end
end Go.Vv
namespace Go.Vv
open Go Go.RowKit

theorem FzL.ones {i k:Nat} {es:List (List AV)}:∀ {xs bs:List AV},FzL i k es xs bs→xs.all AV.one=true→bs.all AV.one=true
 | _,_,.refl _,h=>h
 | _,_,.cons x y,h=>by
  simp only [List.all_cons,Bool.and_eq_true] at h ⊢
  refine ⟨?_,y.ones h.2⟩
  cases x with
  | same=>exact h.1
  | hit=>rfl
  | hit2=>rfl
  | agg=>simp [AV.one] at h
  | tup=>simp [AV.one] at h
section
variable {α:Type} {row:α→List AV} {L:List α} {k:Nat} {P:Program} {o:Oper} {env:List AV} {h:AH} {B B':List Blk} {T T':List Nat}
end
def insO {α:Type} (xs:List α) (z:Int) (M:List α):Option (List α):=if (0≤z∧z≤xs.length)∧0 < M.length∧xs.length+M.length≤vQ then some (xs.take z.toNat++(M++xs.drop z.toNat)) else none
end Go.Vv
namespace Go.Vv
open Go Go.RowKit

inductive KillL:List Blk→List Blk→Prop
 | nil:KillL [] []
 | keep {x:Blk} {a b:List Blk} (k:KillL a b):KillL (x::a) (x::b)
 | dead {x:Blk} {a b:List Blk} (k:KillL a b):KillL (x::a) (.dead::b)
theorem KillL.len {a b:List Blk} (k:KillL a b):b.length=a.length:=by induction k <;> simp_all
theorem KillL.get {a b:List Blk} (k:KillL a b):∀ (j:Nat) (x:Blk),b[j]?=some x→x=.dead ∨ a[j]?=some x:=by
 induction k with
 | nil=>intro j x h;simp at h
 | keep _ ih =>
  grind
 | dead _ ih =>
  grind
section
variable {P:Program} {o:Oper} {env:List AV} {h:AH} {L:List Blk} {M:List Nat} {t kt et:TypeId} {x y z:Operand} {j:Nat} {es:List (AV×AV)} {c:Nat}
end
section
variable {α:Type} {row:α→List AV} {L:List α} {k:Nat} {P:Program} {o:Oper} {env:List AV} {h:AH}
end
def HdS (h:AH) (B:List Blk) (k:Nat) (es:List (List AV)) (a:AV):Prop:=(∃ j i:Nat,a=.rsl (h.blks.length+j) (h.toks.length+i) k es.length∧B[j]?=some (Blk.row (h.toks.length+i) k es)) ∨ (a=.osl none k []∧es=[])
theorem HdS.tok {B0:Nat} {w0 w:World} {g:Gh} {h:AH} {B:List Blk} {T:List Nat} (r:Rel B0 w0 g (h.ext B T) w) {k:Nat} {es:List (List AV)} {a:AV} (hd:HdS h B k es a) {v:Value} (hv:V g a v) :
  ∃ t:TI,(∃ x c,v=.slice x es.length c∧es.length≤c∧c≤maxLen∧rowHd t x es.length c k)∧t.row=true∧t.n=es.length∧(∀ e ∈ es,e.length=k)∧es.flatten.all AV.pure=true ∧
   (es=[] ∨ ∃ b o e cs ty,t.loc=some (b,o+es.length * k,e)∧w.heap[b]?=some (.cells cs ty (0,0))∧VA g es.flatten ((cs.toList.drop o).take (es.length * k))∧o+es.length * k≤cs.size∧∀ j,o≤j→g.Φ b j=none) ∧
   ((t=⟨0,none,true⟩) ∨ ∃ j i:Nat,B[j]?=some (Blk.row (h.toks.length+i) k es)∧g.τ[h.toks.length+i]?=some t):=by
 rcases hd with ⟨j,i,rfl,hb⟩ | ⟨rfl,rfl⟩
 ·have hb':(h.ext B T).blk (h.blks.length+j)=some (.row (h.toks.length+i) k es):=by rw [xI];exact hb
  obtain ⟨_,ti,hti,htr,htn,hlen,hpe,hrow⟩:=r.rowAt hb'
  simp only [V] at hv
  grind
 ·simp only [V] at hv
  obtain ⟨x,c,rfl,h1,h2,_,h3⟩:=hv
  have h3:c=0:=h3
  exact ⟨⟨0,none,true⟩,⟨x,c,rfl,h1,h2,rfl,Nat.le_refl _,.inl ⟨rfl,h3⟩⟩,rfl,rfl,by simp,by simp,.inl rfl,.inl rfl⟩
end Go.Vv
