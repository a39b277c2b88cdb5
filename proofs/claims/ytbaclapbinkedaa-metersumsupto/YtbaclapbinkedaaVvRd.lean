/- How an argument's reading gives a value of the plain kind. -/
import Derived.Test.YtbaclapbinkedaaVvZ
import Derived.ProofKit
import Derived.OpenShut
namespace Go.Vv
open Go Go.RowKit Go.ChangeShapes Go.WideShapes Go.ChangeAt

def g0 (W:World):Gh:={ Φ:=fun b j=>if b < W.heap.size then W.cell? ⟨b,j,none⟩ else none,σ:=[],τ:=[],δ:=[],O:=fun b=>b < W.heap.size }
def h0:AH:={ blks:=[],toks:=[] }
theorem rel0 (W:World):Rel W.heap.size W (g0 W) h0 W:=by
 refine ⟨Below.refl _ _,Nat.le_refl _,fun b j v h=>?_,rfl,fun i c k hc _=>by simp [g0] at hc,rfl,fun i t ht=>by simp [g0] at ht,fun i j c hi=>by simp [g0] at hi,fun i j t t' b x y hi=>by simp [g0] at hi,fun i c j t b x hi=>by simp [g0] at hi,fun c hc=>by simp [g0] at hc,fun i k hi=>by simp [g0] at hi,fun i j t k k' es es' hi=>by simp [h0] at hi,fun b x h=>by simp [g0] at h,fun b h=>⟨h,fun s=>by simp [g0]⟩⟩
 simp only [g0] at h
 split at h
 ·exact h
 ·cases h

section
variable {H:Type} {enc:TypeId×Value→H} {P:Program} {W:World}
mutual
def vB:DataW H→Nat
 | .lit (.string bytes)=>bytes.length+1
 | .lit _=>1
 | .nil=>1
 | .ptr d=>vB d+1
 | .slice elems spare=>vA elems+vA spare+1
 | .agg parts=>vA parts+1
 | .iface _ d=>vB d+1
 | .map entries=>vBulkEs entries+1
 | .held _=>1
def vA:List (DataW H)→Nat
 | []=>0
 | d::r=>vB d+vA r
def vBulkEs:List (Lit×DataW H)→Nat
 | []=>0
 | x::r=>vBulkEs r+vBulkE x
def vBulkE:Lit×DataW H→Nat
 | (.string bytes,d)=>bytes.length+vB d+1
 | (_,d)=>vB d+1
end
theorem sum_bulk {α:Type} {bk:α→Nat}:∀ {l:List α} {ds:List (DataW H)},l.length=ds.length→(∀ (i:Nat) (a:α) (d:DataW H),l[i]?=some a→ds[i]?=some d→bk a≤vB d)→(l.map bk).sum≤vA ds
 | [],_,_,_=>by simp
 | a::r,[],hl,_=>by simp at hl
 | a::r,d::ds,hl,h=>by
  have h1:=h 0 a d rfl rfl
  have h2:=sum_bulk (bk:=bk) (l:=r) (ds:=ds) (by simpa using hl) (fun i x y hx hy=>h (i+1) x y (by simpa using hx) (by simpa using hy))
  simp only [List.map_cons,List.sum_cons,vA];omega
def RdN (enc:TypeId×Value→H) (P:Program) (W:World) (n:Nat) (t:TypeId) {α:Type} (row:α→List AV) (wf:α→Prop) (bk:α→Nat):Prop :=
 ∀ cs x,DataW.trod enc P W 0 (fun _=>true) true n t cs=some x→∃ y,VL (g0 W) (row y) cs∧wf y∧bk y≤vB x.1
theorem RdN.zero {t:TypeId} {α:Type} {row:α→List AV} {wf:α→Prop} {bk:α→Nat}:RdN enc P W 0 t row wf bk:=fun cs x h=>by simp [DataW.trod] at h
theorem RdN.map {n:Nat} {t:TypeId} {α β:Type} {row:α→List AV} {wf:α→Prop} {row':β→List AV} {wf':β→Prop} {bk:α→Nat} {bk':β→Nat} (f:α→β) (h:RdN enc P W n t row wf bk) (hr:∀ a,row' (f a)=row a) (hw:∀ a,wf a→wf' (f a)) (hb:∀ a,bk' (f a)=bk a):RdN enc P W n t row' wf' bk':=fun cs x hx=>by
 obtain ⟨y,h1,h2,h3⟩:=h cs x hx
 exact ⟨f y,by rw [hr];exact h1,hw y h2,by rw [hb];exact h3⟩
theorem rd_int {n:Nat} {t:TypeId} {k:IntKind} (hu:P.underlying t=some (.int k)):RdN enc P W n t (intRow k) (InK k) (fun _=>1):=by
 cases n with
 | zero=>exact RdN.zero
 | succ n =>
  intro cs x h
  rw [DataW.trod_step] at h
  unfold DataW.trodStep at h
  rw [hu] at h
  split at h <;> simp_all
  obtain ⟨⟨rfl,h1⟩,rfl⟩:=h
  exact ⟨_,VL.cons (by simp only [V];rfl) (by simp [VL]),by simpa [Lit.wf,InK] using h1,by simp [vB]⟩
theorem rd_str {n:Nat} {t:TypeId} (hu:P.underlying t=some .string):RdN enc P W n t zR (fun s=>s.length≤maxLen) (fun s=>s.length+1):=by
 cases n with
 | zero=>exact RdN.zero
 | succ n =>
  intro cs x h
  rw [DataW.trod_step] at h
  unfold DataW.trodStep at h
  rw [hu] at h
  split at h <;> simp_all
  rename_i s
  have hs:s.data.toList.length=s.size:=rfl
  obtain ⟨h,rfl⟩:=h
  refine ⟨s.data.toList,VL.cons ?_ (by simp [VL]),by rw [hs];exact h,by simp [vB]⟩
  simp only [V]
  exact ⟨by simp,by rw [hs];exact h⟩
theorem mapM_get {α β:Type} {f:α→Option β}:∀ {l:List α} {xs:List β},l.mapM f=some xs→∀ a ∈ l,∃ x,f a=some x
 | [],_,_,a,ha=>by cases ha
 | b::r,xs,h,a,ha=>by
  simp only [List.mapM_cons,Option.bind_eq_bind,Option.bind_eq_some_iff,Option.pure_def,Option.some.injEq] at h
  obtain ⟨v,hv,vs,hvs,rfl⟩:=h
  rcases List.mem_cons.1 ha with rfl | ha
  ·exact ⟨v,hv⟩
  ·exact mapM_get hvs a ha
theorem mapM_len {α β:Type} {f:α→Option β}:∀ {l:List α} {xs:List β},l.mapM f=some xs→xs.length=l.length
 | [],_,h=>by simp at h;subst h;rfl
 | b::r,xs,h=>by
  simp only [List.mapM_cons,Option.bind_eq_bind,Option.bind_eq_some_iff,Option.pure_def,Option.some.injEq] at h
  obtain ⟨v,hv,vs,hvs,rfl⟩:=h
  simp [mapM_len hvs]
theorem mapM_at {α β:Type} {f:α→Option β}:∀ {l:List α} {xs:List β},l.mapM f=some xs→∀ (i:Nat) (a:α),l[i]?=some a→∃ x,f a=some x∧xs[i]?=some x
 | [],_,_,i,a,ha=>by simp at ha
 | b::r,xs,h,i,a,ha=>by
  simp only [List.mapM_cons,Option.bind_eq_bind,Option.bind_eq_some_iff,Option.pure_def,Option.some.injEq] at h
  obtain ⟨v,hv,vs,hvs,rfl⟩:=h
  cases i with
  | zero=>simp at ha;subst ha;exact ⟨v,hv,rfl⟩
  | succ i=>simpa using mapM_at hvs i a (by simpa using ha)
theorem ones_of_pure {as:List AV} (h:as.all AV.pure=true):as.all AV.one=true:=by
 rw [List.all_eq_true] at h ⊢
 exact fun a ha=>AV.one_of_pure (h a ha)
theorem rd_slice {n:Nat} {t e:TypeId} {k:Nat} {α:Type} {row:α→List AV} {wf:α→Prop} {bk:α→Nat} (hu:P.underlying t=some (.slice e)) (hc:P.cellsOf e=k) (hk:0 < k) (hl:∀ y,(row y).length=k) (hp:∀ y,(row y).all AV.pure=true) (hr:∀ m,m < n→RdN enc P W m e row wf bk) :
  RdN enc P W n t (fun L=>[AV.sl k (L.map row)]) (fun L:List α=>L.length≤maxLen∧∀ y ∈ L,wf y) (fun L=>(L.map bk).sum+1):=by
 cases n with
 | zero=>exact RdN.zero
 | succ n =>
  intro cs x h
  rw [DataW.trod_step] at h
  unfold DataW.trodStep at h
  rw [hu] at h
  split at h
  all_goals first | (exfalso;simp_all;done) | skip
  ·-- nil
   cases h
   exact ⟨[],VL.cons (by simp only [V];exact ⟨none,0,rfl,by simp,by simp,.inl rfl⟩) (by simp [VL]),⟨by simp,fun y hy=>by cases hy⟩,by simp [vB]⟩
  ·rename_i _ _ e' a len cap he
   injection he with he;injection he with he;subst he
   simp only [hc] at h
   split at h
   ·rename_i hb
    obtain ⟨_,hlc,hcm⟩:=hb
    rcases hel:(List.range len).mapM fun i=>(W.cells? 0 (a.add (i * k)) k).bind (DataW.trod enc P W 0 (fun _=>true) true n e) with _ | elems
    ·rw [hel] at h;simp at h
    ·-- the elements,one by one
     have hxs:elems.length=len:=by rw [mapM_len hel];simp
     have hbx:vA (elems.map (·.1))+1≤vB x.1:=by
      rw [hel] at h
      simp only [Option.bind_some,Option.map_eq_some_iff] at h
      obtain ⟨rest,_,rfl⟩:=h
      simp only [vB];omega
     have key:∀ i,i < len→∃ y us,W.cells? 0 (a.add (i * k)) k=some us∧VL (g0 W) (row y) us∧wf y∧∀ z,elems[i]?=some z→bk y≤vB z.1:=by
      intro i hi
      obtain ⟨z,hz,hz2⟩:=mapM_at hel i i (List.getElem?_range hi)
      rcases hcs:W.cells? 0 (a.add (i * k)) k with _ | us
      ·rw [hcs] at hz;simp at hz
      ·rw [hcs] at hz
       obtain ⟨y,h1,h2,h3⟩:=hr n (Nat.lt_succ_self n) us z hz
       exact ⟨y,us,rfl,h1,h2,fun z' hz'=>by rw [hz2] at hz';injection hz' with e;rw [← e];exact h3⟩
     rcases Nat.eq_zero_or_pos len with h0 | hpos
     ·subst h0
      exact ⟨[],VL.cons (by simp only [V];exact ⟨some a,cap,rfl,by simp,hcm,.inl rfl⟩) (by simp [VL]),⟨by simp,fun y hy=>by cases hy⟩,by simp;omega⟩
     ·have hne:Nonempty α:=⟨(key 0 hpos).choose⟩
      have key2:∀ i,∃ y,i < len→∃ us,W.cells? 0 (a.add (i * k)) k=some us∧VL (g0 W) (row y) us∧wf y∧∀ z,elems[i]?=some z→bk y≤vB z.1:=by
       intro i
       by_cases hi:i < len
       ·obtain ⟨y,us,hh⟩:=key i hi;exact ⟨y,fun _=>⟨us,hh⟩⟩
       ·exact ⟨Classical.choice hne,fun h=>absurd h hi⟩
      obtain ⟨f,hf⟩:=Classical.axiomOfChoice key2
      -- no place within a cell
      have hspot:a.spot=none:=by
       obtain ⟨us,h1,_⟩:=hf 0 hpos
       unfold World.cells? at h1
       rw [if_pos (Nat.zero_le _)] at h1
       obtain ⟨v,hv⟩:=mapM_get h1 0 (by simpa using hk)
       simp only [Nat.zero_mul] at hv
       have e1:(a.add 0).add 0=a:=by simp [Addr.add]
       rw [e1] at hv
       unfold World.cell? at hv
       split at hv
       ·split at hv
        ·cases hv
        ·rename_i hs;simpa using hs
       ·cases hv
      have ha:a=⟨a.block,a.off,none⟩:=by cases a;simp at hspot;simp [hspot]
      refine ⟨(List.range len).map f,VL.cons ?_ (by simp [VL]),⟨by simp;omega,fun y hy=>?_⟩,?_⟩
      ·simp only [V]
       refine ⟨some a,cap,by simp,by simpa using hlc,hcm,.inr ⟨a.block,a.off,congrArg some ha,VE.mk fun i e' he'=>?_⟩⟩
       simp only [List.map_map,List.getElem?_map] at he'
       have hi:i < len:=by
        refine Decidable.byContradiction fun hn=>?_
        rw [List.getElem?_eq_none (by simp;omega)] at he';cases he'
       rw [List.getElem?_range hi] at he'
       simp only [Option.map_some,Function.comp,Option.some.injEq] at he'
       subst he'
       obtain ⟨us,h1,h2,_,_⟩:=hf i hi
       refine ⟨hl _,VC.ofVA (VA.mk h2 (ones_of_pure (hp _))) (hp _) fun j u hj=>?_⟩
       unfold World.cells? at h1
       rw [if_pos (Nat.zero_le _)] at h1
       have hjk:j < k:=by
        have:=(List.getElem?_eq_some_iff.1 hj).1
        rw [mapM_len h1] at this;simpa using this
       obtain ⟨v,hv,hv2⟩:=mapM_at h1 j j (List.getElem?_range hjk)
       rw [hj] at hv2
       injection hv2 with hv2;subst hv2
       have e2:(a.add (i * k)).add j=⟨a.block,a.off+i * k+j,none⟩:=by
        rw [ha,qT,qT]
       rw [e2] at hv
       simp only [g0]
       rw [if_pos (World.block_lt_of_cell? W _ hv)]
       exact hv
      ·obtain ⟨i,hi,rfl⟩:=List.mem_map.1 hy
       obtain ⟨us,_,_,h3,_⟩:=hf i (by simpa using hi)
       exact h3
      ·refine Nat.le_trans (Nat.add_le_add_right (sum_bulk (bk:=bk) (ds:=elems.map (·.1)) (by simp [hxs]) fun i y d hy hd=>?_) 1) hbx
       simp only [List.getElem?_map,Option.map_eq_some_iff] at hy hd
       obtain ⟨i',hi',rfl⟩:=hy
       obtain ⟨z,hz,rfl⟩:=hd
       have hil:i < len:=by have:=(List.getElem?_eq_some_iff.1 hi').1;simpa using this
       rw [List.getElem?_range hil] at hi'
       injection hi' with hi';subst hi'
       obtain ⟨us,_,_,_,h4⟩:=hf i hil
       exact h4 z hz
   ·cases h

def RdF (enc:TypeId×Value→H) (P:Program) (W:World) (n:Nat) (total off:Nat) (fs:List Field) {α:Type} (row:α→List AV) (wf:α→Prop) (bk:α→Nat):Prop :=
 ∀ (cs:List Value) xs,cs.length=total→(fs.mapM fun f=>DataW.trod enc P W 0 (fun _=>true) true n f.type ((cs.drop f.offset).take (P.cellsOf f.type)))=some xs→∃ y,VL (g0 W) (row y) (cs.drop off)∧wf y∧bk y≤vA (xs.map (·.1))
theorem rf_nil {n total off:Nat} (h:total≤off):RdF enc P W n total off [] (fun _:Unit=>[]) (fun _=>True) (fun _=>0):=fun cs xs hl _=>⟨(),by rw [List.drop_of_length_le (by omega)];simp [VL],trivial,Nat.zero_le _⟩
theorem wK {n total off k off':Nat} {f:Field} {fs:List Field} {α β:Type} {row:α→List AV} {wf:α→Prop} {row':β→List AV} {wf':β→Prop} {bk:α→Nat} {bk':β→Nat} (ho:f.offset=off) (hc:P.cellsOf f.type=k) (hoff:off+k=off') (h:RdN enc P W n f.type row wf bk) (r:RdF enc P W n total off' fs row' wf' bk') :
  RdF enc P W n total off (f::fs) (fun p:α×β=>row p.1++row' p.2) (fun p=>wf p.1∧wf' p.2) (fun p=>bk p.1+bk' p.2):=by
 intro cs xs hl hx
 simp only [List.mapM_cons,Option.bind_eq_bind,Option.bind_eq_some_iff,Option.pure_def,Option.some.injEq] at hx
 obtain ⟨v,hv,vs,hvs,rfl⟩:=hx
 obtain ⟨y,h1,h2,hb1⟩:=h _ _ hv
 obtain ⟨z,h3,h4,hb2⟩:=r _ _ hl hvs
 refine ⟨(y,z),?_,⟨h2,h4⟩,by simp only [List.map_cons,vA];omega⟩
 have e:cs.drop off=(cs.drop off).take k++cs.drop off':=by
  rw [← hoff,← List.drop_drop,List.take_append_drop]
 rw [e]
 rw [ho,hc] at h1
 exact VL.append h1 h3
theorem rd_struct {n:Nat} {t:TypeId} {fs:Array Field} {l:List Field} {total:Nat} {α:Type} {row:α→List AV} {wf:α→Prop} {bk:α→Nat} (hu:P.underlying t=some (.struct fs)) (hfs:fs.toList=l) (hc:P.cellsOf t=total) (h:∀ m,m < n→RdF enc P W m total 0 l row wf bk):RdN enc P W n t row wf (fun y=>bk y+1):=by
 cases n with
 | zero=>exact RdN.zero
 | succ n =>
  intro cs x hx
  rw [DataW.trod_step] at hx
  unfold DataW.trodStep at hx
  rw [hu] at hx
  split at hx
  all_goals first | (exfalso;simp_all;done) | skip
  rename_i cs _ _ fs' he
  injection he with he;injection he with he;subst he
  split at hx
  ·rename_i hlen
   rw [hfs] at hx
   rcases hm:(l.mapM fun f=>DataW.trod enc P W 0 (fun _=>true) true n f.type ((cs.drop f.offset).take (P.cellsOf f.type))) with _ | xs
   ·rw [hm] at hx;simp at hx
   ·obtain ⟨y,h1,h2,h3⟩:=h n (Nat.lt_succ_self n) cs xs (by rw [hlen,hc]) hm
    rw [hm] at hx
    simp only [Option.map_some,Option.some.injEq] at hx
    subst hx
    exact ⟨y,by simpa using h1,h2,by simp only [vB];omega⟩
  ·cases hx
theorem rd_arg {t:TypeId} {α:Type} {row:α→List AV} {wf:α→Prop} {bk:α→Nat} {v:Value} {d:DataW H} {p:List MemPlace} (hr:∀ n,RdN enc P W n t row wf bk) (h:DataW.Trod enc P W 0 (fun _=>true) true t v d p):∃ y,VL (g0 W) (row y) v.cells.toList∧wf y∧bk y≤vB d:=by
 obtain ⟨n,hn⟩:=h
 exact hr n _ _ hn
theorem V.of_one {a:AV} {v:Value} {g:Gh} (hag:∀ cs,v ≠ .agg cs) (h:VL g [a] v.cells.toList):V g a v:=by
 simp only [VL] at h
 obtain ⟨u,s,e,h1,rfl⟩:=h
 have:v.cells=#[v]:=by cases v <;> first | rfl | exact absurd rfl (hag _)
 rw [this] at e
 simp at e
 rw [e];exact h1
theorem post_of_below {f:Func} {s:ChangeSpec} {apart fresh handsOn again:Bool} {W':World} {args:Array Value} {v:Value} {ds gs:List (DataW H)} {before pa pv:List MemPlace}
  (hW:DataW.Whole enc P f.params.toList s.vars apart W args.toList ds gs before) (hb:Below W.heap.size W W')
  (hres:∀ (b:Nat) (sp:Nat→Bool) (hd:Bool),DataW.TrodAll enc P W' b sp hd f.resultTypes.toList (v.resultList f.resultTypes.size) (s.fn H (ds++gs)).results [])
  (hargs:∀ sp:Nat→Bool,(∀ p ∈ before,sp p.block=true)→DataW.TrodAll enc P W' 0 sp true f.params.toList args.toList (s.fn H (ds++gs)).args pa)
  (hvars:∀ sp:Nat→Bool,(∀ p ∈ before,sp p.block=true)→DataW.TrodVars enc P W' sp s.vars (s.fn H (ds++gs)).vars pv)
  (hps:before=pa++pv)
  (hok:∀ (j:Nat) (t:TypeId) (r:Value),f.resultTypes[j]?=some t→(v.resultList f.resultTypes.size)[j]?=some r→Value.okWide P W' .any 0 t r) :
  s.post enc P f apart fresh handsOn again W args v W':=by
 have hlt:∀ p ∈ before,p.block < W.heap.size:=fun p hp=>by simpa using hW.lt p hp
 have hold:∀ p ∈ before,(fun b=>decide (b < W.heap.size)) p.block=true:=fun p hp=>by simpa using hlt p hp
 refine ⟨ds,gs,before,[],pa,pv,hW,hres _ _ _,hargs _ hold,hvars _ hold,World.keptBut_mono (fun p hp=>⟨hp,?_⟩) (hb.frame (· ∈ before)),fun _=>?_⟩
 ·rw [hps,List.mem_append] at hp
  exact Or.inr hp
 ·obtain ⟨_,_,_,_,_,hz,hn⟩:=hW
  refine ⟨hok,_,_,([]++pa)++pv,⟨[]++pa,pv,trodAll_append (hargs _ (fun _ _=>rfl)) (hres _ _ _),hvars _ (fun _ _=>rfl),rfl,?_,?_⟩,?_⟩
  ·intro b off hp
   have hp':MemPlace.cell b off ∈ before:=by rw [hps];simpa using hp
   rw [hb.frozen (p:=⟨b,off,none⟩) (hlt _ hp')]
   exact hz b off hp'
  ·intro ha
   have:=hn ha
   rw [hps] at this
   simpa using this
  ·intro p hp _
   rw [hps]
   simpa using hp
end
end Go.Vv
