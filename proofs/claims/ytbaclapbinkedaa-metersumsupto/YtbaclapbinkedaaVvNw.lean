/- Append, whose new block is nobody's; calls with arguments told more loosely. -/
import Derived.Test.YtbaclapbinkedaaVvBs
namespace Go.Vv
open Go Go.RowKit Go.Lib

def anew (P:Program) (o:Oper) (env:List AV):Option (Nat×List (List AV)) :=
 match o.op with
 | .call c=>match c.callee,c.argTypes.toList,c.args.toList with
  | .builtin .append,[t,u],[s,x]=>if yF s&&yF x then (match P.underlying t,P.underlying u with
   | some (.slice e),some (.slice _)=>match P.info? e with
    | some i=>if i.bytes≤65536∧0 < i.size∧(i.zero.map (·.cells.size))=some i.size then (match tyfix P t (ev env s),qw i.size (tyfix P u (ev env x)) with
     | .osl none k [],some ys=>if k=i.size∧ys.length≤qM then some (i.size,ys) else none
     | _,_=>none) else none
    | none=>none
   | _,_=>none) else none
  | _,_,_=>none
 | _=>none

section
variable {P:Program} {w:World} {g:Gh} {h:AH} {B:Nat} {w0:World}
theorem news_ex (r:Rel B w0 g h w) {k:Nat} (hpos:0 < k) {xx:AV} {xv:Value} (hV:V g xx xv) {ys:List (List AV)} (hys:qw k xx=some ys) :
  ∃ news,(∀ e ∈ ys,e.length=k)∧VA g ys.flatten news∧ys.flatten.all AV.pure=true∧∀ W:World,(∀ a v,w.cell? a=some v→W.cell? a=some v)→News P k ys.length xv news W:=by
 have slc:∀ (es:List (List AV)) (ad:Option Addr) (c:Nat),xv=.slice ad es.length c→(es=[] ∨ ∃ b o,ad=some ⟨b,o,none⟩∧VE g b k o es)→ys=es →
   ∃ news,(∀ e ∈ ys,e.length=k)∧VA g ys.flatten news∧ys.flatten.all AV.pure=true∧∀ W:World,(∀ a v,w.cell? a=some v→W.cell? a=some v)→News P k ys.length xv news W:=by
  rintro es ad c hev hes rfl
  rcases hes with rfl | ⟨b,oo,rfl,hve⟩
  ·refine ⟨[],by simp,by simp [VA],rfl,fun W _=>⟨by rw [hev];rfl,?_⟩⟩
   rw [hev]
   cases ad with
   | none=>simp [Builtin.firstCells]
   | some ad=>simp [Builtin.firstCells,loadCells,loadCellsFrom]
  ·obtain ⟨h1,h2⟩:=VE_iff.1 hve
   obtain ⟨us,hus,hup,hΦ⟩:=h2.toVA
   refine ⟨us,h1,hus,hup,fun W hW=>?_⟩
   rw [hev]
   refine News.slice (by rw [← hus.length,xO h1]) fun j v hv=>?_
   rw [qT]
   exact hW _ _ (r.phi _ _ _ (hΦ j v hv))
 unfold qw at hys
 split at hys
 ·split at hys
  ·rename_i hk
   cases hys
   subst hk
   simp only [V] at hV
   obtain ⟨ad,c,h1,h2,h3,h4⟩:=hV
   exact slc _ ad c h1 h4 rfl
  ·cases hys
 ·split at hys
  ·rename_i hk
   cases hys
   subst hk
   simp only [V] at hV
   obtain ⟨ad,c,h1,h2,h3,h4,_⟩:=hV
   exact slc _ ad c h1 h4 rfl
  ·cases hys
 ·split at hys
  ·rename_i hk
   cases hys
   subst hk
   simp only [V] at hV
   obtain ⟨ad,c,h1,h2,h3,h4⟩:=hV
   exact slc _ ad c h1 (h4.imp id fun ⟨b,o,e,hh,_⟩=>⟨b,o,e,hh⟩) rfl
  ·cases hys
 ·split at hys
  ·rename_i hk
   cases hys
   subst hk
   simp only [V] at hV
   obtain ⟨ad,c,h1,h2,h3,h4⟩:=hV
   exact slc _ ad c h1 (h4.imp id fun ⟨b,o,e,hh,_⟩=>⟨b,o,e,hh⟩) rfl
  ·cases hys
 ·rename_i s
  split at hys
  ·rename_i hk
   cases hys
   simp only [V] at hV
   obtain ⟨h1,h2⟩:=hV
   refine ⟨strCells ⟨s.toArray⟩,fun e he=>?_,?_,by rw [bytes_flat,List.all_map];exact List.all_eq_true.2 fun _ _=>rfl,fun W _=>?_⟩
   ·obtain ⟨b,_,rfl⟩:=List.mem_map.1 he;rw [hk];rfl
   ·rw [bytes_flat];exact bytes_VA s
   ·rw [h1]
    have:=News.str (P:=P) (size:=k) (s:=⟨s.toArray⟩) (w:=W)
    rw [str_size] at this
    simpa using this
  ·cases hys
 ·cases hys

theorem new_fits (r:Rel B w0 g h w) {a:Act} {env:List AV} (he:VL g env a.tmps.toList) {o:Oper} {k:Nat} {ys:List (List AV)} (hl:anew P o env=some (k,ys)):qn P B w0 g a o w (.nsl k ys) h:=by
 unfold anew at hl
 split at hl
 ·rename_i c ho
  split at hl
  ·rename_i t u so xo hcal hts has
   split at hl
   ·rename_i hok
    simp only [Bool.and_eq_true] at hok
    split at hl
    ·rename_i e e' ht hu
     split at hl
     ·rename_i i hi
      split at hl
      ·rename_i hc1
       obtain ⟨hby,hpos,hzz⟩:=hc1
       obtain ⟨z,hz,hzs⟩:∃ z,i.zero=some z∧z.cells.size=i.size:=by
        cases hzc:i.zero with
        | none=>simp [hzc] at hzz
        | some z=>simp [hzc] at hzz;exact ⟨z,rfl,hzz⟩
       split at hl
       ·rename_i k' ys' hs hys
        split at hl
        ·rename_i hk
         obtain ⟨rfl,hlim⟩:=hk
         cases hl
         have hVs:=(V.ev he hok.1).tyfix (P:=P) (t:=t)
         rw [hs] at hVs
         obtain ⟨news,h1,h2,h3,h4⟩:=news_ex (P:=P) r hpos ((V.ev he hok.2).tyfix (P:=P) (t:=u)) hys
         obtain ⟨v,w',g',k1,k2,k3,k4⟩:=append_new (ty:=o.type) r ht hu (.inr ⟨_,rfl⟩) hi hz hzs hby hVs h1 h2 h3 h4 hlim
         refine ⟨v,w',g',.inl ?_,k2,k3,k4⟩
         have hta:c.argTypes=#[t,u]:=by apply Array.ext';simpa using hts
         have hxa:c.args=#[so,xo]:=by apply Array.ext';simpa using has
         simp only [execOp,ho,resolve,hcal,Sem.run_bind,Sem.run_pure,Result.andThen_ok,invoke,hta,hxa]
         simp [builtin,k1]
        ·cases hl
       ·cases hl
      ·cases hl
     ·cases hl
    ·cases hl
   ·cases hl
  ·cases hl
 ·cases hl
end
end Go.Vv
