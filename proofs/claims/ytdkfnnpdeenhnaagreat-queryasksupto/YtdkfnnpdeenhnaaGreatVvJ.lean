/- One operation of the model, on values that stand to abstract ones, comes to what the abstract step says. -/
import Derived.Test.YtdkfnnpdeenhnaaGreatVvI
import Derived.Test.YtdkfnnpdeenhnaaGreatVvMp
namespace Go.Vv
open Go Go.RowKit Go.Lib
section
variable {P:Program} {w:World} {g:Gh} {h:AH} {B:Nat} {w0:World}

def wC (P:Program) (B:Nat) (w0:World) (g:Gh) (a:Act) (o:Oper) (w:World) (v:AV) (h':AH):Prop :=
 ∃u w' g',((execOp a.eval o).run P w=.ok (.value u) w' \/ ((execOp a.eval o).run P w=.ok .skip w'/\u=undef))/\g.le g'/\Rel B w0 g' h' w'/\V g' v u

def Fits (P:Program) (B:Nat) (w0:World) (g:Gh) (a:Act) (o:Oper) (w:World):Res->Prop
 | .ok v h'=>wC P B w0 g a o w v h'
 | .len n v h'=>n<=maxLen/\wC P B w0 g a o w v h'
 | .call f args=>∃vs:Array Value,(execOp a.eval o).run P w=(callFunc f vs).run P w/\VL g args vs.toList
 | .round id args=>∃(c:Nat) (vs:Array Value),g.σ[id]?=some c/\(execOp a.eval o).run P w=(Instr.yield c vs).run P w/\VL g args vs.toList
 | .any S=>∃v h',S v h'/\wC P B w0 g a o w v h'
 | .fail=>True

theorem Fits.oo {a:Act} {o:Oper} {x:Option AV} (b:∀v,x=some v->wC P B w0 g a o w v h):Fits P B w0 g a o w (oo h x):=by
 cases x with
 | none=>trivial
 | some v=>exact b v rfl

theorem VO.ev {env:List AV} {a:Act} (c:VL g env a.tmps.toList) {x:Option Operand} (b:x.all zO=true):VO g (x.map (ev env)) (x.map a.eval):=by
 cases x with
 | none=>rfl
 | some x=>exact ⟨_,rfl,V.ev c (by simpa using b)⟩
theorem VL.evs {env:List AV} {a:Act} (b:VL g env a.tmps.toList):∀{xs:List Operand},xs.all zO=true->VL g (xs.map (ev env)) (xs.map a.eval)
 | [],_=>by simp [VL]
 | x::r,h=>by
  simp only [List.all_cons,Bool.and_eq_true] at h;simp only [List.map_cons];exact VL.cons (V.ev b h.1) (VL.evs b h.2)
theorem VL.evs_fix {env:List AV} {a:Act} (b:VL g env a.tmps.toList):∀{xs:List Operand} {ts:List TypeId},xs.all zO=true->xs.length=ts.length->VL g ((xs.zip ts).map λp=>tyfix P p.2 (ev env p.1)) (xs.map a.eval)
 | [],_,_,_=>by simp [VL]
 | x::r,[],_,h=>by simp at h
 | x::r,t::ts,h,hl=>by
  simp only [List.all_cons,Bool.and_eq_true] at h;simp only [List.zip_cons_cons,List.map_cons];exact VL.cons (V.ev b h.1).tyfix (VL.evs_fix b h.2 (by simpa using hl))

theorem V.map_tyfix {t:TypeId} {x:Option AV} {v:AV} (a:x.map (Vv.tyfix P t)=some v):∃v',x=some v'/\v=Vv.tyfix P t v':=by
 cases x with
 | none=>cases a
 | some v'=>injection a with a;exact ⟨v',rfl,a.symm⟩

theorem bytes_flat:∀s:List UInt8,(s.map λb=>[AV.int .u8 b.toNat]).flatten=s.map λb=>AV.int .u8 b.toNat
 | []=>rfl
 | b::r=>by simp only [List.map_cons,List.flatten_cons,bytes_flat r];rfl
theorem bytes_VA:∀s:List UInt8,VA g (s.map λb=>AV.int .u8 b.toNat) (s.map λb=>Value.int .u8 b.toNat)
 | []=>by simp [VA]
 | b::r=>by simp only [List.map_cons,VA];exact ⟨_,_,rfl,⟨rfl,by simp only [V]⟩,bytes_VA r⟩

theorem mm_sound (mx:Bool):∀{r:List AV} {a v:AV} {x:Value} {xs:List Value},V g a x->VL g r xs->aMM mx a r=some v->∃u,(xs.foldlM (if mx then Builtin.max2 else Builtin.min2) x).run P w=.ok u w/\V g v u:=by
 intro r
 induction r with
 | nil =>
  intro a v x xs f e c;simp only [VL] at e;subst e;simp only [aMM,Option.some.injEq] at c;subst c;exact ⟨x,rfl,f⟩
 | cons b r ih =>
  intro a v x xs f e c;simp only [VL] at e;obtain ⟨y,q,rfl,j,e⟩:=e;unfold aMM at c;split at c
  ·rename_i d;cases d
  ·rename_i k n p m rest d;cases d;split at c
   ·rename_i o;subst o;simp only [V] at f j;subst f j;obtain ⟨u,i,l⟩:=ih (x:=.int k (if mx then (if m > n then m else n) else (if m < n then m else n))) (by simp only [V]) e c;refine ⟨u,?_,l⟩;rw [List.foldlM_cons];cases mx
    ·simp only [Bool.false_eq_true,if_false,Builtin.min2] at i ⊢;exact i
    ·simp only [if_true,Builtin.max2] at i ⊢;exact i
   ·cases c
  ·cases c
theorem builtin_fits (r:Rel B w0 g h w) {a:Act} {env:List AV} (M:VL g env a.tmps.toList) {o:Oper} {c:Call} (ho:o.op=.call c) {b:Builtin} (hc:c.callee=.builtin b) (F:c.args.all zO=true) :
  Fits P B w0 g a o w (vO P h b c.argTypes.toList (c.args.toList.map (ev env))):=by
 have k:∀(bb:Builtin),b=bb->(execOp a.eval o).run P w=(builtin bb c.argTypes o.type (c.args.map λ| .const _=>true | _=>false) (c.args.map a.eval)).run P w:=by
  intro bb hb;subst hb;simp only [execOp,ho,resolve,hc,Sem.run_bind,Sem.run_pure,Result.andThen_ok,invoke];rfl
 have J:c.args.toList.all zO=true:=by simpa using F
 unfold vO;split
 ·rename_i t x N has;have D:c.argTypes=#[t]:=by apply Array.ext';simpa using N
  obtain ⟨C,l,rfl⟩:∃C,c.args=#[C]/\x=ev env C:=by
   rcases Q:c.args.toList with _ | ⟨y,_ | ⟨z,rest⟩⟩ <;> simp [Q] at has;exact ⟨y,Array.ext' (by simpa using Q),has.symm⟩
  have U:=V.ev M (x:=C) (by rw [l] at F;simpa using F);split
  ·rename_i E;split
   ·rename_i s hx;rw [hx] at U;obtain ⟨f,A⟩:=len_str_sound (P:=P) (w:=w) (ty:=o.type) E U;refine ⟨A,.int .i64 s.length,w,g,.inl ?_,Gh.le.refl g,r,by simp only [V]⟩;rw [k .len rfl,D,l];simp [builtin,f]
   ·trivial
  ·rename_i e E;split
   ·rename_i n hn;obtain ⟨f,A⟩:=len_sl_sound (P:=P) (w:=w) (ty:=o.type) E U hn;refine ⟨A,.int .i64 n,w,g,.inl ?_,Gh.le.refl g,r,by simp only [V]⟩;rw [k .len rfl,D,l];simp [builtin,f]
   ·trivial
  ·rename_i kt et E;split
   ·rename_i id hx;split
    ·rename_i es cl hb;rw [hx] at U;simp only [V] at U;obtain ⟨c0,hc0,hv0⟩:=U;obtain ⟨_,_,⟨ents,n,hb1,hb2,_⟩,_⟩:=r.blk id c0 _ hc0 hb;refine ⟨_,_,⟨rfl,rfl⟩,.int .i64 es.length,w,g,.inl ?_,Gh.le.refl g,r,by simp only [V]⟩;rw [k .len rfl,D,l];have hsz:ents.size=es.length:=by have:=hb2.len;simpa using this
     simp [builtin,hv0,Builtin.len_,run_underlying E,MapKept.run_getObj_map hb1,hsz,goInt]
    ·trivial
   ·trivial
  ·trivial
 ·rename_i t u s x N has;have D:c.argTypes=#[t,u]:=by apply Array.ext';simpa using N
  obtain ⟨T,C,l,rfl,rfl⟩:∃T C,c.args=#[T,C]/\s=ev env T/\x=ev env C:=by
   rcases Q:c.args.toList with _ | ⟨y,_ | ⟨z,_ | ⟨q,rest⟩⟩⟩ <;> simp [Q] at has;exact ⟨y,z,Array.ext' (by simpa using Q),has.1.symm,has.2.symm⟩
  have L:zO T=true/\zO C=true:=by rw [l] at F;simpa using F
  have hVs:=(V.ev M L.1).tyfix (P:=P) (t:=t);have p:=(V.ev M L.2).tyfix (P:=P) (t:=u);have K:∀(e:TypeId) (du:TypeDesc),P.underlying t=some (.slice e)->P.underlying u=some du->NotInt du ->
    Fits P B w0 g a o w (match P.info? e with
     | some i=>if i.bytes<=65536/\0 < i.size/\(i.zero.map (·.cells.size))=some i.size then (match aNews i.size (tyfix P u (ev env C)) with
      | some H=>ovh (vY h i.size (tyfix P t (ev env T)) H)
      | none=>.fail) else .fail
     | none=>.fail):=by
   intro e du Z E hdu;split
   ·rename_i i hi;split
    ·rename_i hc1;obtain ⟨hby,hpos,O⟩:=hc1;obtain ⟨z,hz,hzs⟩:∃z,i.zero=some z/\z.cells.size=i.size:=by
      cases hzc:i.zero with
      | none=>simp [hzc] at O
      | some z=>simp [hzc] at O;exact ⟨z,rfl,O⟩
     split
     ·rename_i H d;rcases hap:vY h i.size (tyfix P t (ev env T)) H with _ | ⟨s',h'⟩
      ·trivial
      ·show wC P B w0 g a o w s' h';have S:∀(G:List Value),(∀e ∈ H,e.length=i.size)->VA g H.flatten G->H.flatten.all AV.pure=true ->
         (∀W:World,(∀a v,w.cell? a=some v->W.cell? a=some v)->News P i.size H.length (a.eval C) G W)->wC P B w0 g a o w s' h':=by
        intro G Q hva hpu hn;obtain ⟨v,w',g',f,A,h3,h4⟩:=append_sound (ty:=o.type) r Z E hdu hi hz hzs hby hVs Q hva hpu hn hap;refine ⟨v,w',g',.inl ?_,A,h3,h4⟩;rw [k .append rfl,D,l];simp [builtin,f]
       have slc:∀(es:List (List AV)) (I:Option Addr) (c:Nat),a.eval C=.slice I es.length c->(es=[] \/ ∃b o,I=some ⟨b,o,none⟩/\VE g b i.size o es)->H=es->wC P B w0 g a o w s' h':=by
        rintro es I c R hes rfl
        rcases hes with rfl | ⟨b,oo,rfl,hve⟩
        ·refine S [] (by simp) (by simp [VA]) rfl λW _=>⟨by rw [R];rfl,?_⟩
         rw [R];cases I with
         | none=>simp [Builtin.firstCells]
         | some I=>simp [Builtin.firstCells,loadCells,loadCellsFrom]
        ·obtain ⟨f,A⟩:=VE_iff.1 hve;obtain ⟨us,hus,hup,hΦ⟩:=A.toVA;refine S us f hus hup λW hW=>?_;rw [R];refine News.slice (by rw [<- hus.length,yc f]) λj v Y=>?_;rw [xb];exact hW _ _ (r.phi _ _ _ (hΦ j v Y))
       generalize hgx:tyfix P u (ev env C)=xx at d p;unfold aNews at d;split at d
       ·split at d
        ·rename_i X;cases d;subst X;simp only [V] at p;obtain ⟨I,c,f,A,h3,h4⟩:=p;exact slc _ I c f h4 rfl
        ·cases d
       ·split at d
        ·rename_i X;cases d;subst X;simp only [V] at p;obtain ⟨I,c,f,A,h3,h4,_⟩:=p;exact slc _ I c f h4 rfl
        ·cases d
       ·rename_i s;split at d
        ·rename_i X;cases d;simp only [V] at p;obtain ⟨f,A⟩:=p;refine S (strCells ⟨s.toArray⟩) (λe M=>?_) ?_ (by rw [bytes_flat,List.all_map];exact List.all_eq_true.2 λ_ _=>rfl) λW _=>?_
         ·obtain ⟨b,_,rfl⟩:=List.mem_map.1 M;rw [X];rfl
         ·rw [bytes_flat];exact bytes_VA s
         ·rw [f];have:=News.str (P:=P) (size:=i.size) (s:=⟨s.toArray⟩) (w:=W);rw [str_size] at this;simpa using this
        ·cases d
       ·cases d
     ·trivial
    ·trivial
   ·trivial
  split
  ·rename_i e e' Z E;exact K e _ Z E (.inr ⟨_,rfl⟩)
  ·rename_i e Z E;exact K e _ Z E (.inl rfl)
  ·trivial
 ·rename_i x rs has;refine Fits.oo λv Y=>?_;have m:=VL.evs M (xs:=c.args.toList) J;rw [has] at m;simp only [VL] at m;obtain ⟨y,H,d,hy,hr⟩:=m;obtain ⟨u,f,A⟩:=mm_sound (P:=P) (w:=w) false hy hr Y;refine ⟨u,w,g,.inl ?_,Gh.le.refl g,r,A⟩;rw [k .min rfl];simp only [Bool.false_eq_true,if_false] at f;simp [builtin,Builtin.min_,d,f]
 ·rename_i x rs has;refine Fits.oo λv Y=>?_;have m:=VL.evs M (xs:=c.args.toList) J;rw [has] at m;simp only [VL] at m;obtain ⟨y,H,d,hy,hr⟩:=m;obtain ⟨u,f,A⟩:=mm_sound (P:=P) (w:=w) true hy hr Y;refine ⟨u,w,g,.inl ?_,Gh.le.refl g,r,A⟩;rw [k .max rfl];simp only [if_true] at f;simp [builtin,Builtin.max_,d,f]
 ·trivial
end
end Go.Vv
