/- One operation of the model, on values that stand to abstract ones, comes to what the abstract step says. -/
import Derived.Test.YtcociipjgndnaaaGreatVvI
import Derived.Test.YtcociipjgndnaaaGreatVvMp
namespace Go.Vv
open Go Go.RowKit Go.Lib
section
variable {P:Program} {w:World} {g:Gh} {h:AH} {B:Nat} {w0:World}

def qf (P:Program) (B:Nat) (w0:World) (g:Gh) (a:Act) (o:Oper) (w:World) (v:AV) (h':AH):Prop :=
 ∃u w' g',((execOp a.eval o).run P w=.ok (.value u) w' \/ ((execOp a.eval o).run P w=.ok .skip w'/\u=undef))/\g.le g'/\Rel B w0 g' h' w'/\V g' v u

def Fits (P:Program) (B:Nat) (w0:World) (g:Gh) (a:Act) (o:Oper) (w:World):Res->Prop
 | .ok v h'=>qf P B w0 g a o w v h'
 | .len n v h'=>n<=maxLen/\qf P B w0 g a o w v h'
 | .call f args=>∃vs:Array Value,(execOp a.eval o).run P w=(callFunc f vs).run P w/\VL g args vs.toList
 | .round id args=>∃(c:Nat) (vs:Array Value),g.σ[id]?=some c/\(execOp a.eval o).run P w=(Instr.yield c vs).run P w/\VL g args vs.toList
 | .any S=>∃v h',S v h'/\qf P B w0 g a o w v h'
 | .fail=>True

theorem Fits.oo {a:Act} {o:Oper} {x:Option AV} (b:∀v,x=some v->qf P B w0 g a o w v h):Fits P B w0 g a o w (oo h x):=by
 cases x with
 | none=>trivial
 | some v=>exact b v rfl

theorem VO.ev {env:List AV} {a:Act} (b:VL g env a.tmps.toList) {x:Option Operand} (c:x.all yy=true):VO g (x.map (ev env)) (x.map a.eval):=by
 cases x with
 | none=>rfl
 | some x=>exact ⟨_,rfl,V.ev b (by simpa using c)⟩
theorem VL.evs {env:List AV} {a:Act} (b:VL g env a.tmps.toList):∀{xs:List Operand},xs.all yy=true->VL g (xs.map (ev env)) (xs.map a.eval)
 | [],_=>by simp [VL]
 | x::r,h=>by
  simp only [tc,ud] at h;simp only [uC];exact VL.cons (V.ev b h.1) (VL.evs b h.2)
theorem VL.evs_fix {env:List AV} {a:Act} (b:VL g env a.tmps.toList):∀{xs:List Operand} {ts:List TypeId},xs.all yy=true->xs.length=ts.length->VL g ((xs.zip ts).map λp=>tyfix P p.2 (ev env p.1)) (xs.map a.eval)
 | [],_,_,_=>by simp [VL]
 | x::r,[],_,h=>by simp at h
 | x::r,t::ts,h,hl=>by
  simp only [tc,ud] at h;simp only [r6,uC];exact VL.cons (V.ev b h.1).tyfix (VL.evs_fix b h.2 (by simpa using hl))

theorem V.map_tyfix {t:TypeId} {x:Option AV} {v:AV} (a:x.map (Vv.tyfix P t)=some v):∃v',x=some v'/\v=Vv.tyfix P t v':=by
 cases x with
 | none=>cases a
 | some v'=>injection a with a;exact ⟨v',rfl,a.symm⟩

theorem bytes_flat:∀s:List UInt8,(s.map λb=>[AV.int .u8 b.toNat]).flatten=s.map λb=>AV.int .u8 b.toNat
 | []=>rfl
 | b::r=>by simp only [uC,tq,bytes_flat r];rfl
theorem bytes_VA:∀s:List UInt8,VA g (s.map λb=>AV.int .u8 b.toNat) (s.map λb=>Value.int .u8 b.toNat)
 | []=>by simp [VA]
 | b::r=>by simp only [uC,VA];exact ⟨_,_,rfl,⟨rfl,by simp only [V]⟩,bytes_VA r⟩

theorem mm_sound (mx:Bool):∀{r:List AV} {a v:AV} {x:Value} {xs:List Value},V g a x->VL g r xs->aMM mx a r=some v->∃u,(xs.foldlM (if mx then Builtin.max2 else Builtin.min2) x).run P w=.ok u w/\V g v u:=by
 intro r
 induction r with
 | nil =>
  intro a v x xs f e c;simp only [VL] at e;subst e;simp only [aMM,un] at c;subst c;exact ⟨x,rfl,f⟩
 | cons b r ih =>
  intro a v x xs f e c;simp only [VL] at e;obtain ⟨y,p,rfl,j,e⟩:=e;unfold aMM at c;split at c
  ·rename_i d;cases d
  ·rename_i k n k' m rest d;cases d;split at c
   ·rename_i o;subst o;simp only [V] at f j;subst f j;obtain ⟨u,i,l⟩:=ih (x:=.int k (if mx then (if m > n then m else n) else (if m < n then m else n))) (by simp only [V]) e c;refine ⟨u,?_,l⟩;rw [List.foldlM_cons];cases mx
    ·simp only [ul,uG,Builtin.min2] at i ⊢;exact i
    ·simp only [ut,Builtin.max2] at i ⊢;exact i
   ·cases c
  ·cases c
theorem builtin_fits (r:Rel B w0 g h w) {a:Act} {env:List AV} (T:VL g env a.tmps.toList) {o:Oper} {c:Call} (ho:o.op=.call c) {b:Builtin} (hc:c.callee=.builtin b) (E:c.args.all yy=true) :
  Fits P B w0 g a o w (vP P h b c.argTypes.toList (c.args.toList.map (ev env))):=by
 have l:∀(bb:Builtin),b=bb->(execOp a.eval o).run P w=(builtin bb c.argTypes o.type (c.args.map λ| .const _=>true | _=>false) (c.args.map a.eval)).run P w:=by
  intro bb hb;subst hb;simp only [execOp,ho,resolve,hc,Sem.run_bind,Sem.run_pure,Result.andThen_ok,invoke];rfl
 have N:c.args.toList.all yy=true:=by simpa using E
 unfold vP;split
 ·rename_i t x R has;have F:c.argTypes=#[t]:=by apply sD;simpa using R
  obtain ⟨C,p,rfl⟩:∃C,c.args=#[C]/\x=ev env C:=by
   rcases Q:c.args.toList with _ | ⟨y,_ | ⟨z,rest⟩⟩ <;> simp [Q] at has;exact ⟨y,sD (by simpa using Q),has.symm⟩
  have Y:=V.ev T (x:=C) (by rw [p] at E;simpa using E);split
  ·rename_i H;split
   ·rename_i s hx;rw [hx] at Y;obtain ⟨f,m⟩:=len_str_sound (P:=P) (w:=w) (ty:=o.type) H Y;refine ⟨m,.int .i64 s.length,w,g,.inl ?_,Gh.le.refl g,r,by simp only [V]⟩;rw [l .len rfl,F,p];simp [builtin,f]
   ·trivial
  ·rename_i e H;split
   ·rename_i n hn;obtain ⟨f,m⟩:=len_sl_sound (P:=P) (w:=w) (ty:=o.type) H Y hn;refine ⟨m,.int .i64 n,w,g,.inl ?_,Gh.le.refl g,r,by simp only [V]⟩;rw [l .len rfl,F,p];simp [builtin,f]
   ·trivial
  ·rename_i kt et H;split
   ·rename_i id hx;split
    ·rename_i es cl hb;rw [hx] at Y;simp only [V] at Y;obtain ⟨c0,hc0,hv0⟩:=Y;obtain ⟨_,_,⟨ents,n,hb1,hb2,_⟩,_⟩:=r.blk id c0 _ hc0 hb;refine ⟨_,_,⟨rfl,rfl⟩,.int .i64 es.length,w,g,.inl ?_,Gh.le.refl g,r,by simp only [V]⟩;rw [l .len rfl,F,p];have hsz:ents.size=es.length:=by have:=hb2.len;simpa using this
     simp [builtin,hv0,Builtin.len_,run_underlying H,MapKept.run_getObj_map hb1,hsz,goInt]
    ·trivial
   ·trivial
  ·trivial
 ·rename_i t u s x R has;have F:c.argTypes=#[t,u]:=by apply sD;simpa using R
  obtain ⟨X,C,p,rfl,rfl⟩:∃X C,c.args=#[X,C]/\s=ev env X/\x=ev env C:=by
   rcases Q:c.args.toList with _ | ⟨y,_ | ⟨z,_ | ⟨q,rest⟩⟩⟩ <;> simp [Q] at has;exact ⟨y,z,sD (by simpa using Q),has.1.symm,has.2.symm⟩
  have M:yy X=true/\yy C=true:=by rw [p] at E;simpa using E
  have hVs:=(V.ev T M.1).tyfix (P:=P) (t:=t);have k:=(V.ev T M.2).tyfix (P:=P) (t:=u);have L:∀(e:TypeId) (du:TypeDesc),P.underlying t=some (.slice e)->P.underlying u=some du->NotInt du ->
    Fits P B w0 g a o w (match P.info? e with
     | some i=>if i.bytes<=65536/\0 < i.size/\(i.zero.map (·.cells.size))=some i.size then (match qq i.size (tyfix P u (ev env C)) with
      | some I=>ovh (aAppend h i.size (tyfix P t (ev env X)) I)
      | none=>.fail) else .fail
     | none=>.fail):=by
   intro e du ht H hdu;split
   ·rename_i i hi;split
    ·rename_i hc1;obtain ⟨hby,hpos,U⟩:=hc1;obtain ⟨z,hz,hzs⟩:∃z,i.zero=some z/\z.cells.size=i.size:=by
      cases hzc:i.zero with
      | none=>simp [hzc] at U
      | some z=>simp [hzc] at U;exact ⟨z,rfl,U⟩
     split
     ·rename_i I d;rcases hap:aAppend h i.size (tyfix P t (ev env X)) I with _ | ⟨s',h'⟩
      ·trivial
      ·show qf P B w0 g a o w s' h';have O:∀(G:List Value),(∀e ∈ I,e.length=i.size)->VA g I.flatten G->I.flatten.all AV.pure=true ->
         (∀W:World,(∀a v,w.cell? a=some v->W.cell? a=some v)->News P i.size I.length (a.eval C) G W)->qf P B w0 g a o w s' h':=by
        intro G Q hva hpu hn;obtain ⟨v,w',g',f,m,Z,K⟩:=append_sound (ty:=o.type) r ht H hdu hi hz hzs hby hVs Q hva hpu hn hap;refine ⟨v,w',g',.inl ?_,m,Z,K⟩;rw [l .append rfl,F,p];simp [builtin,f]
       have slc:∀(es:List (List AV)) (D:Option Addr) (c:Nat),a.eval C=.slice D es.length c->(es=[] \/ ∃b o,D=some ⟨b,o,none⟩/\VE g b i.size o es)->I=es->qf P B w0 g a o w s' h':=by
        rintro es D c S hes rfl
        rcases hes with rfl | ⟨b,oo,rfl,hve⟩
        ·refine O [] (by simp) (by simp [VA]) rfl λW _=>⟨by rw [S];rfl,?_⟩
         rw [S];cases D with
         | none=>simp [Builtin.firstCells]
         | some D=>simp [Builtin.firstCells,loadCells,loadCellsFrom]
        ·obtain ⟨f,m⟩:=VE_iff.1 hve;obtain ⟨us,hus,hup,hΦ⟩:=m.toVA;refine O us f hus hup λW hW=>?_;rw [S];refine News.slice (by rw [<- hus.length,yN f]) λj v hv=>?_;rw [we];exact hW _ _ (r.phi _ _ _ (hΦ j v hv))
       generalize hgx:tyfix P u (ev env C)=xx at d k;unfold qq at d;split at d
       ·split at d
        ·rename_i J;cases d;subst J;simp only [V] at k;obtain ⟨D,c,f,m,Z,K⟩:=k;exact slc _ D c f K rfl
        ·cases d
       ·split at d
        ·rename_i J;cases d;subst J;simp only [V] at k;obtain ⟨D,c,f,m,Z,K,_⟩:=k;exact slc _ D c f K rfl
        ·cases d
       ·split at d
        ·rename_i J;cases d;subst J;simp only [V] at k;obtain ⟨D,c,f,m,Z,K⟩:=k;exact slc _ D c f (K.imp id λ⟨b,o,e,hh,_⟩=>⟨b,o,e,hh⟩) rfl
        ·cases d
       ·split at d
        ·rename_i J;cases d;subst J;simp only [V] at k;obtain ⟨D,c,f,m,Z,K⟩:=k;exact slc _ D c f (K.imp id λ⟨b,o,e,hh,_⟩=>⟨b,o,e,hh⟩) rfl
        ·cases d
       ·rename_i s;split at d
        ·rename_i J;cases d;simp only [V] at k;obtain ⟨f,m⟩:=k;refine O (strCells ⟨s.toArray⟩) (λe T=>?_) ?_ (by rw [bytes_flat,List.all_map];exact ux.2 λ_ _=>rfl) λW _=>?_
         ·obtain ⟨b,_,rfl⟩:=tF.1 T;rw [J];rfl
         ·rw [bytes_flat];exact bytes_VA s
         ·rw [f];have:=News.str (P:=P) (size:=i.size) (s:=⟨s.toArray⟩) (w:=W);rw [str_size] at this;simpa using this
        ·cases d
       ·cases d
     ·trivial
    ·trivial
   ·trivial
  split
  ·rename_i e e' ht H;exact L e _ ht H (.inr ⟨_,rfl⟩)
  ·rename_i e ht H;exact L e _ ht H (.inl rfl)
  ·trivial
 ·rename_i x rs has;refine Fits.oo λv hv=>?_;have A:=VL.evs T (xs:=c.args.toList) N;rw [has] at A;simp only [VL] at A;obtain ⟨y,I,d,hy,hr⟩:=A;obtain ⟨u,f,m⟩:=mm_sound (P:=P) (w:=w) false hy hr hv;refine ⟨u,w,g,.inl ?_,Gh.le.refl g,r,m⟩;rw [l .min rfl];simp only [ul,uG] at f;simp [builtin,Builtin.min_,d,f]
 ·rename_i x rs has;refine Fits.oo λv hv=>?_;have A:=VL.evs T (xs:=c.args.toList) N;rw [has] at A;simp only [VL] at A;obtain ⟨y,I,d,hy,hr⟩:=A;obtain ⟨u,f,m⟩:=mm_sound (P:=P) (w:=w) true hy hr hv;refine ⟨u,w,g,.inl ?_,Gh.le.refl g,r,m⟩;rw [l .max rfl];simp only [ut] at f;simp [builtin,Builtin.max_,d,f]
 ·trivial
end
end Go.Vv
