/- One operation of the model, on values that stand to abstract ones, comes to what the abstract step says. -/
import Derived.Test.YtbaclapbinkedaaVvI
import Derived.Test.YtbaclapbinkedaaVvMp
namespace Go.Vv
open Go Go.RowKit Go.Lib
section
variable {P:Program} {w:World} {g:Gh} {h:AH} {B:Nat} {w0:World}

def qn (P:Program) (B:Nat) (w0:World) (g:Gh) (a:Act) (o:Oper) (w:World) (v:AV) (h':AH):Prop :=
 ∃ u w' g',((execOp a.eval o).run P w=.ok (.value u) w' ∨ ((execOp a.eval o).run P w=.ok .skip w'∧u=undef))∧g.le g'∧Rel B w0 g' h' w'∧V g' v u

def Fits (P:Program) (B:Nat) (w0:World) (g:Gh) (a:Act) (o:Oper) (w:World):Res→Prop
 | .ok v h'=>qn P B w0 g a o w v h'
 | .len n v h'=>n≤maxLen∧qn P B w0 g a o w v h'
 | .call f args=>∃ vs:Array Value,(execOp a.eval o).run P w=(callFunc f vs).run P w∧VL g args vs.toList
 | .round id args=>∃ (c:Nat) (vs:Array Value),g.σ[id]?=some c∧(execOp a.eval o).run P w=(Instr.yield c vs).run P w∧VL g args vs.toList
 | .any S=>∃ v h',S v h'∧qn P B w0 g a o w v h'
 | .fail=>True

theorem Fits.oo {a:Act} {o:Oper} {x:Option AV} (hx:∀ v,x=some v→qn P B w0 g a o w v h):Fits P B w0 g a o w (oo h x):=by
 cases x with
 | none=>trivial
 | some v=>exact hx v rfl

theorem VO.ev {env:List AV} {a:Act} (he:VL g env a.tmps.toList) {x:Option Operand} (ho:x.all yF=true):VO g (x.map (ev env)) (x.map a.eval):=by
 cases x with
 | none=>rfl
 | some x=>exact ⟨_,rfl,V.ev he (by simpa using ho)⟩
theorem VL.evs {env:List AV} {a:Act} (he:VL g env a.tmps.toList):∀ {xs:List Operand},xs.all yF=true→VL g (xs.map (ev env)) (xs.map a.eval)
 | [],_=>by simp [VL]
 | x::r,h=>by
  simp only [List.all_cons,Bool.and_eq_true] at h
  simp only [List.map_cons]
  exact VL.cons (V.ev he h.1) (VL.evs he h.2)
theorem VL.evs_fix {env:List AV} {a:Act} (he:VL g env a.tmps.toList):∀ {xs:List Operand} {ts:List TypeId},xs.all yF=true→xs.length=ts.length→VL g ((xs.zip ts).map fun p=>tyfix P p.2 (ev env p.1)) (xs.map a.eval)
 | [],_,_,_=>by simp [VL]
 | x::r,[],_,h=>by simp at h
 | x::r,t::ts,h,hl=>by
  simp only [List.all_cons,Bool.and_eq_true] at h
  simp only [List.zip_cons_cons,List.map_cons]
  exact VL.cons (V.ev he h.1).tyfix (VL.evs_fix he h.2 (by simpa using hl))

theorem V.map_tyfix {t:TypeId} {x:Option AV} {v:AV} (hx:x.map (Vv.tyfix P t)=some v):∃ v',x=some v'∧v=Vv.tyfix P t v':=by
 cases x with
 | none=>cases hx
 | some v'=>injection hx with hx;exact ⟨v',rfl,hx.symm⟩

theorem bytes_flat:∀ s:List UInt8,(s.map fun b=>[AV.int .u8 b.toNat]).flatten=s.map fun b=>AV.int .u8 b.toNat
 | []=>rfl
 | b::r=>by simp only [List.map_cons,List.flatten_cons,bytes_flat r];rfl
theorem bytes_VA:∀ s:List UInt8,VA g (s.map fun b=>AV.int .u8 b.toNat) (s.map fun b=>Value.int .u8 b.toNat)
 | []=>by simp [VA]
 | b::r=>by simp only [List.map_cons,VA];exact ⟨_,_,rfl,⟨rfl,by simp only [V]⟩,bytes_VA r⟩

theorem mm_sound (mx:Bool):∀ {r:List AV} {a v:AV} {x:Value} {xs:List Value},V g a x→VL g r xs→aMM mx a r=some v→∃ u,(xs.foldlM (if mx then Builtin.max2 else Builtin.min2) x).run P w=.ok u w∧V g v u:=by
 intro r
 induction r with
 | nil =>
  intro a v x xs hx hl he
  simp only [VL] at hl
  subst hl
  simp only [aMM,Option.some.injEq] at he
  subst he
  exact ⟨x,rfl,hx⟩
 | cons b r ih =>
  intro a v x xs hx hl he
  simp only [VL] at hl
  obtain ⟨y,ys,rfl,hy,hl⟩:=hl
  unfold aMM at he
  split at he
  ·rename_i heq;cases heq
  ·rename_i k n k' m rest heq
   cases heq
   split at he
   ·rename_i hk
    subst hk
    simp only [V] at hx hy
    subst hx hy
    obtain ⟨u,h1,h2⟩:=ih (x:=.int k (if mx then (if m > n then m else n) else (if m < n then m else n))) (by simp only [V]) hl he
    refine ⟨u,?_,h2⟩
    rw [List.foldlM_cons]
    cases mx
    ·simp only [Bool.false_eq_true,if_false,Builtin.min2] at h1 ⊢;exact h1
    ·simp only [if_true,Builtin.max2] at h1 ⊢;exact h1
   ·cases he
  ·cases he
theorem builtin_fits (r:Rel B w0 g h w) {a:Act} {env:List AV} (he:VL g env a.tmps.toList) {o:Oper} {c:Call} (ho:o.op=.call c) {b:Builtin} (hc:c.callee=.builtin b) (hok:c.args.all yF=true) :
  Fits P B w0 g a o w (qh P h b c.argTypes.toList (c.args.toList.map (ev env))):=by
 have hrun:∀ (bb:Builtin),b=bb→(execOp a.eval o).run P w=(builtin bb c.argTypes o.type (c.args.map fun | .const _=>true | _=>false) (c.args.map a.eval)).run P w:=by
  intro bb hb
  subst hb
  simp only [execOp,ho,resolve,hc,Sem.run_bind,Sem.run_pure,Result.andThen_ok,invoke]
  rfl
 have hall:c.args.toList.all yF=true:=by simpa using hok
 unfold qh
 split
 ·rename_i t x hts has
  have hta:c.argTypes=#[t]:=by apply Array.ext';simpa using hts
  obtain ⟨xo,hxo,rfl⟩:∃ xo,c.args=#[xo]∧x=ev env xo:=by
   rcases hl:c.args.toList with _ | ⟨y,_ | ⟨z,rest⟩⟩ <;> simp [hl] at has
   exact ⟨y,Array.ext' (by simpa using hl),has.symm⟩
  have hV:=V.ev he (x:=xo) (by rw [hxo] at hok;simpa using hok)
  split
  ·rename_i hu
   split
   ·rename_i s hx
    rw [hx] at hV
    obtain ⟨h1,h2⟩:=len_str_sound (P:=P) (w:=w) (ty:=o.type) hu hV
    refine ⟨h2,.int .i64 s.length,w,g,.inl ?_,Gh.le.refl g,r,by simp only [V]⟩
    rw [hrun .len rfl,hta,hxo]
    simp [builtin,h1]
   ·trivial
  ·rename_i e hu
   split
   ·rename_i n hn
    obtain ⟨h1,h2⟩:=len_sl_sound (P:=P) (w:=w) (ty:=o.type) hu hV hn
    refine ⟨h2,.int .i64 n,w,g,.inl ?_,Gh.le.refl g,r,by simp only [V]⟩
    rw [hrun .len rfl,hta,hxo]
    simp [builtin,h1]
   ·trivial
  ·rename_i kt et hu
   split
   ·rename_i id hx
    split
    ·rename_i es cl hb
     rw [hx] at hV
     simp only [V] at hV
     obtain ⟨c0,hc0,hv0⟩:=hV
     obtain ⟨_,_,⟨ents,n,hb1,hb2,_⟩,_⟩:=r.blk id c0 _ hc0 hb
     refine ⟨_,_,⟨rfl,rfl⟩,.int .i64 es.length,w,g,.inl ?_,Gh.le.refl g,r,by simp only [V]⟩
     rw [hrun .len rfl,hta,hxo]
     have hsz:ents.size=es.length:=by have:=hb2.len;simpa using this
     simp [builtin,hv0,Builtin.len_,run_underlying hu,MapKept.run_getObj_map hb1,hsz,goInt]
    ·trivial
   ·trivial
  ·trivial
 ·rename_i t u s x hts has
  have hta:c.argTypes=#[t,u]:=by apply Array.ext';simpa using hts
  obtain ⟨so,xo,hxo,rfl,rfl⟩:∃ so xo,c.args=#[so,xo]∧s=ev env so∧x=ev env xo:=by
   rcases hl:c.args.toList with _ | ⟨y,_ | ⟨z,_ | ⟨q,rest⟩⟩⟩ <;> simp [hl] at has
   exact ⟨y,z,Array.ext' (by simpa using hl),has.1.symm,has.2.symm⟩
  have hok2:yF so=true∧yF xo=true:=by rw [hxo] at hok;simpa using hok
  have hVs:=(V.ev he hok2.1).tyfix (P:=P) (t:=t)
  have hVx:=(V.ev he hok2.2).tyfix (P:=P) (t:=u)
  have main:∀ (e:TypeId) (du:TypeDesc),P.underlying t=some (.slice e)→P.underlying u=some du→NotInt du →
    Fits P B w0 g a o w (match P.info? e with
     | some i=>if i.bytes≤65536∧0 < i.size∧(i.zero.map (·.cells.size))=some i.size then (match qw i.size (tyfix P u (ev env xo)) with
      | some ys=>ovh (aAppend h i.size (tyfix P t (ev env so)) ys)
      | none=>.fail) else .fail
     | none=>.fail):=by
   intro e du ht hu hdu
   split
   ·rename_i i hi
    split
    ·rename_i hc1
     obtain ⟨hby,hpos,hzz⟩:=hc1
     obtain ⟨z,hz,hzs⟩:∃ z,i.zero=some z∧z.cells.size=i.size:=by
      cases hzc:i.zero with
      | none=>simp [hzc] at hzz
      | some z=>simp [hzc] at hzz;exact ⟨z,rfl,hzz⟩
     split
     ·rename_i ys hys
      rcases hap:aAppend h i.size (tyfix P t (ev env so)) ys with _ | ⟨s',h'⟩
      ·trivial
      ·show qn P B w0 g a o w s' h'
       have fin:∀ (news:List Value),(∀ e ∈ ys,e.length=i.size)→VA g ys.flatten news→ys.flatten.all AV.pure=true →
         (∀ W:World,(∀ a v,w.cell? a=some v→W.cell? a=some v)→News P i.size ys.length (a.eval xo) news W)→qn P B w0 g a o w s' h':=by
        intro news hl hva hpu hn
        obtain ⟨v,w',g',h1,h2,h3,h4⟩:=append_sound (ty:=o.type) r ht hu hdu hi hz hzs hby hVs hl hva hpu hn hap
        refine ⟨v,w',g',.inl ?_,h2,h3,h4⟩
        rw [hrun .append rfl,hta,hxo]
        simp [builtin,h1]
       have slc:∀ (es:List (List AV)) (ad:Option Addr) (c:Nat),a.eval xo=.slice ad es.length c→(es=[] ∨ ∃ b o,ad=some ⟨b,o,none⟩∧VE g b i.size o es)→ys=es→qn P B w0 g a o w s' h':=by
        rintro es ad c hev hes rfl
        rcases hes with rfl | ⟨b,oo,rfl,hve⟩
        ·refine fin [] (by simp) (by simp [VA]) rfl fun W _=>⟨by rw [hev];rfl,?_⟩
         rw [hev]
         cases ad with
         | none=>simp [Builtin.firstCells]
         | some ad=>simp [Builtin.firstCells,loadCells,loadCellsFrom]
        ·obtain ⟨h1,h2⟩:=VE_iff.1 hve
         obtain ⟨us,hus,hup,hΦ⟩:=h2.toVA
         refine fin us h1 hus hup fun W hW=>?_
         rw [hev]
         refine News.slice (by rw [← hus.length,xO h1]) fun j v hv=>?_
         rw [qT]
         exact hW _ _ (r.phi _ _ _ (hΦ j v hv))
       generalize hgx:tyfix P u (ev env xo)=xx at hys hVx
       unfold qw at hys
       split at hys
       ·split at hys
        ·rename_i hk
         cases hys
         subst hk
         simp only [V] at hVx
         obtain ⟨ad,c,h1,h2,h3,h4⟩:=hVx
         exact slc _ ad c h1 h4 rfl
        ·cases hys
       ·split at hys
        ·rename_i hk
         cases hys
         subst hk
         simp only [V] at hVx
         obtain ⟨ad,c,h1,h2,h3,h4,_⟩:=hVx
         exact slc _ ad c h1 h4 rfl
        ·cases hys
       ·split at hys
        ·rename_i hk
         cases hys
         subst hk
         simp only [V] at hVx
         obtain ⟨ad,c,h1,h2,h3,h4⟩:=hVx
         exact slc _ ad c h1 (h4.imp id fun ⟨b,o,e,hh,_⟩=>⟨b,o,e,hh⟩) rfl
        ·cases hys
       ·split at hys
        ·rename_i hk
         cases hys
         subst hk
         simp only [V] at hVx
         obtain ⟨ad,c,h1,h2,h3,h4⟩:=hVx
         exact slc _ ad c h1 (h4.imp id fun ⟨b,o,e,hh,_⟩=>⟨b,o,e,hh⟩) rfl
        ·cases hys
       ·rename_i s
        split at hys
        ·rename_i hk
         cases hys
         simp only [V] at hVx
         obtain ⟨h1,h2⟩:=hVx
         refine fin (strCells ⟨s.toArray⟩) (fun e he=>?_) ?_ (by rw [bytes_flat,List.all_map];exact List.all_eq_true.2 fun _ _=>rfl) fun W _=>?_
         ·obtain ⟨b,_,rfl⟩:=List.mem_map.1 he;rw [hk];rfl
         ·rw [bytes_flat];exact bytes_VA s
         ·rw [h1]
          have:=News.str (P:=P) (size:=i.size) (s:=⟨s.toArray⟩) (w:=W)
          rw [str_size] at this
          simpa using this
        ·cases hys
       ·cases hys
     ·trivial
    ·trivial
   ·trivial
  split
  ·rename_i e e' ht hu;exact main e _ ht hu (.inr ⟨_,rfl⟩)
  ·rename_i e ht hu;exact main e _ ht hu (.inl rfl)
  ·trivial
 ·rename_i x rs has
  refine Fits.oo fun v hv=>?_
  have hvl:=VL.evs he (xs:=c.args.toList) hall
  rw [has] at hvl
  simp only [VL] at hvl
  obtain ⟨y,ys,hys,hy,hr⟩:=hvl
  obtain ⟨u,h1,h2⟩:=mm_sound (P:=P) (w:=w) false hy hr hv
  refine ⟨u,w,g,.inl ?_,Gh.le.refl g,r,h2⟩
  rw [hrun .min rfl]
  simp only [Bool.false_eq_true,if_false] at h1
  simp [builtin,Builtin.min_,hys,h1]
 ·rename_i x rs has
  refine Fits.oo fun v hv=>?_
  have hvl:=VL.evs he (xs:=c.args.toList) hall
  rw [has] at hvl
  simp only [VL] at hvl
  obtain ⟨y,ys,hys,hy,hr⟩:=hvl
  obtain ⟨u,h1,h2⟩:=mm_sound (P:=P) (w:=w) true hy hr hv
  refine ⟨u,w,g,.inl ?_,Gh.le.refl g,r,h2⟩
  rw [hrun .max rfl]
  simp only [if_true] at h1
  simp [builtin,Builtin.max_,hys,h1]
 ·trivial
end
end Go.Vv
