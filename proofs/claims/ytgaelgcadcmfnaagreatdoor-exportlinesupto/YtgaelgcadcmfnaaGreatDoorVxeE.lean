/- A tree's text: a strings.Builder that is written to in a loop. -/
import Derived.Test.YtgaelgcadcmfnaaGreatDoorVxeD
import Derived.Test.YtgaelgcadcmfnaaGreatDoorVvSh
set_option linter.all false
namespace Go.Vv
open Go Go.RowKit Go.Proofs Go.Shelf Go.Sort
variable {P:Program} {f:FuncId} {res:List UInt8} {k:Nat} {es:List (List AV)}
def gP (Φ:Nat->Nat->Option Value):Gh:=⟨Φ,[],[],[],λ_=>none,λ_=>False⟩
def hE:AH:=⟨[],[]⟩
theorem Rel.only (Φ:Nat->Nat->Option Value) (W:World) (h:∀b j v,Φ b j=some v->W.cell? ⟨b,j,none⟩=some v):Rel W.heap.size W (gP Φ) hE W :=
 ⟨Below.refl _ _,Nat.le_refl _,h,rfl,λi c k h _=>by simp [gP] at h,rfl,λi t h=>by simp [gP] at h,λi j c h _=>by simp [gP] at h,λi j t t' b x y h _=>by simp [gP] at h,λi c j t b x h _=>by simp [gP] at h,
  λc h=>by simp [gP] at h,λi k h=>by simp [gP] at h,λi j t k k' e1 e2 h=>by simp [hE] at h,λb x h=>(by cases h),λb (h:False)=>h.elim,λb (h:False)=>h.elim⟩
section
variable {α:Type} {row:α->List AV} {ln:α->List UInt8}
theorem call_text {cs:List AV} (hp:cs.all AV.pure=true) (hl:plL cs=true) (hS:Spec P f [.agg cs] hE (λrr hh=>rr=.str res/\hh=hE)) {Φ:Nat->Nat->Option Value} {g:Gh} (hg:g.Φ=Φ) (W:World) (hW:GOk P W.heap.size W)
  (hphi:∀b j v,Φ b j=some v->W.cell? ⟨b,j,none⟩=some v) {xs:List Value} (hv:VA g cs xs):Calls P f #[.agg xs.toArray] W λe w'=>(e=.returned (.string ⟨res.toArray⟩)/\res.length<=maxLen)/\Below W.heap.size W w':=by
 have v1:VA (gP Φ) cs xs:=VA.pl (g:=g) (g':=gP Φ) (λb j v h=>by rw [<- hg];exact h) hp hl hv;haveI:=hW;refine (hS.2 W.heap.size W (gP Φ) W #[.agg xs.toArray] (Rel.only Φ W hphi) (by simp only [VL,V];exact ⟨_,_,rfl,⟨_,rfl,v1⟩,rfl⟩)).mono ?_
 rintro e w' ⟨v,rr,h',g',rfl,⟨rfl,rfl⟩,_,r',hv⟩
 simp only [V] at hv;obtain ⟨rfl,hm⟩:=hv;exact ⟨⟨rfl,hm⟩,r'.below⟩
theorem call_rows {z:Nat} {L:List α} (hS:∀h,Spec P f [.sl k es] h (λrr hh=>rr=.sl z (L.map row)/\hh=h)) (T:TypeId) {B:Nat} {w0:World} [GOk P B w0] {g:Gh} {h:AH} {w:World} (r:Rel B w0 g h w) {v:Value} (hv:V g (.sl k es) v)
  (hpl:(AV.sl k es).pl=true):Calls P f #[v] (w.alloc (.cells #[.pointer none,.slice none 0 0] T)) λe w'=>∃g' u,e=.returned u/\V g' (.sl z (L.map row)) u/\Below w.heap.size w w'/\w.heap.size < w'.heap.size/\(∀b j x,g'.Φ b j=some x->w'.cell? ⟨b,j,none⟩=some x/\b ≠ w.heap.size) /\
   ∃p,w'.heap[w.heap.size]?=some (.cells #[p,.slice none 0 0] T (0,0))/\(p=.pointer none \/ p=.pointer (some ⟨w.heap.size,0,none⟩)):=by
 have r0:Rel w.heap.size w (gP g.Φ) hE w:=Rel.only g.Φ w r.phi;have v0:V (gP g.Φ) (.sl k es) v:=V.plain (g:=g) (g':=gP g.Φ) (λ_ _ _ h=>h) _ _ rfl hpl hv;have r1:=r0.newBlk (.cells #[.pointer none,.slice none 0 0] T) (.bld T .nilsl) ⟨.pointer none,.slice none 0 0,heap_alloc_new w _,.inl rfl,rfl,by simp only [V]⟩;haveI:GOk P w.heap.size w:=gok_now r.below;refine ((hS _).2 w.heap.size w _ _ #[v] r1 (by simp only [VL];exact ⟨_,_,rfl,V.mono (Gh.le_addS _ _) _ _ v0,rfl⟩)).mono ?_
 rintro e w' ⟨u,rr,h',g',rfl,⟨rfl,rfl⟩,hle,r',hu⟩
 have hs:g'.σ[0]?=some (some w.heap.size):=hle.sig 0 _ rfl;obtain ⟨_,hlt,⟨p,x,h1,h2,_,h4⟩,hn⟩:=r'.blk 0 w.heap.size _ hs rfl;simp only [V] at h4;subst h4;refine ⟨g',u,rfl,hu,r'.below,hlt,λb j x hx=>⟨r'.phi b j x hx,?_⟩,p,h1,h2⟩
 rintro rfl
 rw [hn (by simp) j] at hx;cases hx
theorem row10 {g:Gh} {e0 e8 e9:List (List AV)} {i1 i2 i3 i4 i5 i6:Int} {s7:List UInt8} {xs:List Value} (h:VA g [.sl 1 e0,.int .u8 i1,.int .i64 i2,.int .u64 i3,.int .u8 i4,.int .u32 i5,.int .u64 i6,.str s7,.sl 5 e8,.sl 3 e9] xs) :
  ∃a0 c0 a8 c8 a9 c9,xs=[.slice a0 e0.length c0,.int .u8 i1,.int .i64 i2,.int .u64 i3,.int .u8 i4,.int .u32 i5,.int .u64 i6,.string ⟨s7.toArray⟩,.slice a8 e8.length c8,.slice a9 e9.length c9]:=by
 simp only [VA,V] at h;obtain ⟨_,_,rfl,⟨_,a0,c0,rfl,_⟩,_,_,rfl,⟨_,rfl⟩,_,_,rfl,⟨_,rfl⟩,_,_,rfl,⟨_,rfl⟩,_,_,rfl,⟨_,rfl⟩,_,_,rfl,⟨_,rfl⟩,_,_,rfl,⟨_,rfl⟩,_,_,rfl,⟨_,rfl,_⟩,_,_,rfl,⟨_,a8,c8,rfl,_⟩,_,_,rfl,⟨_,a9,c9,rfl,_⟩,rfl⟩:=h;exact ⟨_,_,_,_,_,_,rfl⟩
def zL (ln:α->List UInt8) (L:List α):List UInt8:=L.flatMap λr=>ln r++[10]
theorem lines_take (ln:α->List UInt8) (L:List α) (m:Nat) (hm:m < L.length):zL ln (L.take (m+1))=zL ln (L.take m)++(ln L[m]++[10]):=by
 have e:L.take (m+1)=L.take m++[L[m]]:=(List.take_append_getElem hm).symm;rw [e];simp only [zL,List.flatMap_append,List.flatMap_cons,List.flatMap_nil,List.append_nil]
theorem lines_le (ln:α->List UInt8) (L:List α) (m:Nat):(zL ln (L.take m)).length<=(zL ln L).length:=by
 have e:zL ln L=zL ln (L.take m)++zL ln (L.drop m):=by
  simp only [zL];rw [<- List.flatMap_append,List.take_append_drop]
 rw [e,List.length_append];omega
set_option maxHeartbeats 4000000 in
set_option maxRecDepth 100000 in
theorem spec_lines {L:List α} (hp:∀x,(row x).all AV.pure=true) (hl:∀x,plL (row x)=true) (hk:∀x,∃e0 i1 i2 i3 i4 i5 i6 s7 e8 e9,row x=[.sl 1 e0,.int .u8 i1,.int .i64 i2,.int .u64 i3,.int .u8 i4,.int .u32 i5,.int .u64 i6,.str s7,.sl 5 e8,.sl 3 e9]) (hes:(AV.sl k es).pl=true)
  (h9:∀h,Spec Tryz.prog 19 [.sl k es] h (λrr hh=>rr=.sl 10 (L.map row)/\hh=h)) (h11:∀x,x ∈ L->Spec Tryz.prog 10 [.agg (row x)] hE (λrr hh=>rr=.str (ln x)/\hh=hE)) (hlen:(zL ln L).length<=140737488355328) {h:AH} :
  Spec Tryz.prog 8 [.sl k es] h (λrr hh=>rr=.str (zL ln L)/\hh=h):=by
 refine ⟨enters_of Tryz.func8 (by kernel_rfl) rfl,λB w0 G g w vs r hvs=>?_⟩;obtain ⟨v0,rfl,hv0⟩:∃v,vs=#[v]/\V g (.sl k es) v:=by
  simp only [VL] at hvs;obtain ⟨v,s,e1,h1,rfl⟩:=hvs;exact ⟨v,by rw [<- Array.toArray_toList (xs:=vs),e1],h1⟩
 have c9:=call_rows h9 58 r hv0 hes;have goal:Calls Tryz.prog 8 #[v0] w λe w'=>e=.returned (.string ⟨(zL ln L).toArray⟩)/\Below w.heap.size w w':=by
  go_enter Tryz.func8,Tryz.ntmps8
  go_wp2_with (first
   | (go_at_call 19;refine c9.mono ?_;rintro e w2 ⟨g',u,rfl,hu,hbw,hsz,hphi,p,hbk,hpp⟩;simp only [V,List.length_map] at hu;obtain ⟨a,c,rfl,hnc,hcm,hve⟩:=hu))
  have h5:5 < w.heap.size:=World.block_lt_of_cell? w ⟨5,15,none⟩ (laid_below G.lay G.sz r.below).2.1;have HVE:Hid (L.map row=[] \/ ∃b o,a=some ⟨b,o,none⟩/\VE g' b 10 o (L.map row)):=hve;have HPHI:Hid (∀b j x,g'.Φ b j=some x->w2.cell? ⟨b,j,none⟩=some x/\b ≠ w.heap.size):=hphi;clear hve hphi c9
  go_loopw [9] (λi wr=>∃(m:Nat) (v:Value),m<=L.length/\i=.int .i64 m/\Go.Proofs.Bd (bldTryzRen.t 72) (bldTryzRen.t 5) wr w.heap.size (zL ln (L.take m)) v/\(∀q,v.ownBlock=some q->w2.heap.size<=q)/\Below w.heap.size w wr/\Hid (∀q,q < w2.heap.size->q ≠ w.heap.size->wr.heap[q]?=w2.heap[q]?)/\w2.heap.size<=wr.heap.size) (λi _=>L.length - (RowKit.intOf i).toNat)
  case atStart =>
   exact ⟨0,.slice none 0 0,Nat.zero_le _,rfl,⟨⟨p,hbk,hpp⟩,World.ownsRow_nil _ _ _ _,by simp [Value.ownBlock]⟩,by simp [Value.ownBlock],hbw,λ_ _ _=>rfl,Nat.le_refl _⟩
  case round =>
   obtain ⟨m,v,hm,rfl,hbd,hv,hbw2,hsame,hsz2⟩:=hrel;by_cases hlt:m < L.length
   ·obtain ⟨b,o,rfl,hve⟩:∃b o,a=some ⟨b,o,none⟩/\VE g' b 10 o (L.map row):=by
     rcases HVE.out with h | h
     ·have:L=[]:=by simpa using h
      subst this;simp at hlt
     ·exact h
    obtain ⟨_,hvc⟩:=hve.get m (row L[m]) (by rw [List.getElem?_map,List.getElem?_eq_getElem hlt];rfl);obtain ⟨xs,hxs,_,hcell⟩:=hvc.toVA;have hcells:∀j u,xs[j]?=some u->wr.cell? ⟨b,o+m * 10+j,none⟩=some u:=λj u hj=>by
     obtain ⟨h1,h2⟩:=HPHI.out _ _ _ (hcell j u hj);exact (World.cell?_of_block (w:=w2) (w':=wr) (a:=⟨b,o+m * 10+j,none⟩) (hsame.out b (World.block_lt_of_cell? w2 ⟨b,o+m * 10+j,none⟩ h1) h2)).trans h1
    obtain ⟨e0,i1,i2,i3,i4,i5,i6,s7,e8,e9,hr⟩:=hk L[m];obtain ⟨a0,c0,a8,c8,a9,c9,rfl⟩:=row10 (by rw [<- hr];exact hxs);have k0:wr.cell? ⟨b,o+m * 10,none⟩=_:=hcells 0 _ rfl;have k1:=hcells 1 _ rfl;have k2:=hcells 2 _ rfl;have k3:=hcells 3 _ rfl;have k4:=hcells 4 _ rfl;have k5:=hcells 5 _ rfl;have k6:=hcells 6 _ rfl;have k7:=hcells 7 _ rfl;have k8:=hcells 8 _ rfl;have k9:=hcells 9 _ rfl;have HX:Hid (VA g' (row L[m]) _):=hxs;clear hcells hcell hxs hvc hve;have hin:L[m] ∈ L:=List.getElem_mem hlt;have gok:∀o,GOk Tryz.prog (wr.alloc o).heap.size (wr.alloc o):=λob=>by
     have:=G;exact gok_now (B:=B) (w0:=w0) ((r.below.trans (hbw2.mono r.bsz)).alloc (Nat.le_trans r.bsz hbw2.size) ob)
    have hph:∀o b j v,g'.Φ b j=some v->(wr.alloc o).cell? ⟨b,j,none⟩=some v:=λob b j v hx=>by
     obtain ⟨h1,h2⟩:=HPHI.out _ _ _ hx;have h3:=(World.cell?_of_block (w:=w2) (w':=wr) (a:=⟨b,j,none⟩) (hsame.out b (World.block_lt_of_cell? w2 ⟨b,j,none⟩ h1) h2)).trans h1;exact (World.cell?_alloc_lt wr ob ⟨b,j,none⟩ (World.block_lt_of_cell? wr ⟨b,j,none⟩ h3)).trans h3
    have HG:Hid (∀o,GOk Tryz.prog (wr.alloc o).heap.size (wr.alloc o)):=gok;have HP:Hid (∀o b j v,g'.Φ b j=some v->(wr.alloc o).cell? ⟨b,j,none⟩=some v):=hph;clear gok hph;have hlt2:(zL ln (L.take m)).length+((ln L[m]).length+1)<=140737488355328:=by
     have:=lines_le ln L (m+1);rw [lines_take ln L m hlt] at this;simp only [List.length_append,List.length_cons,List.length_nil] at this;omega
    have hL:m+1<=9223372036854775807:=by
     have hm0:maxLen=9223372036854775807:=rfl;have:=hnc;have:=hcm;omega
    have hlt3:(ln L[m]).length+1<=9223372036854775807:=by omega
    have hcat:((⟨(ln L[m]).toArray⟩:ByteArray)++⟨#[10]⟩)=⟨(ln L[m]++[10]).toArray⟩:=by
     apply ByteArray.ext;simp
    go_wp2_with (first
     | (go_at_call 10;refine (call_text (hp _) (hl _) (h11 L[m] hin) rfl _ (HG.out _) (HP.out _) HX.out).mono ?_;rintro e w3 ⟨⟨rfl,hlm⟩,hb3⟩;have hg3:wr.grownBy w3 none:=⟨hb3.os,hb3.tape,hb3.output,by have:=hb3.size;simp at this;omega,λq hq _=>(hb3.block q (by simp;omega)).trans (heap_alloc_old wr _ hq)⟩;clear hb3)
     | (go_at_call 20;refine (writeX (ρ:=bldTryzRen) { bldTryzLays with } bldTryzExtra w.heap.size (zL ln (L.take m)) (ln L[m]++[10]) v _ (hbd.kept hg3) (by simp;omega)).mono ?_;rintro e w4 ⟨rfl,v',hbd2,hbut,hv2⟩))
    have hsame2:∀q,q < wr.heap.size->q ≠ w.heap.size->v.ownBlock ≠ some q->w4.heap[q]?=wr.heap[q]?:=λq h1 h2 h3 =>
     (hbut.block q (by have:=hg3.size;omega) h2 h3).trans (hg3.block q h1 (by simp))
    have hz:wr.heap.size<=w4.heap.size:=by have:=hg3.size;have:=hbut.size;omega
    refine ⟨⟨m+1,v',by omega,by simp,?_,?_,?_,?_,by omega⟩,?_⟩
    ·rw [lines_take ln L m hlt];exact hbd2
    ·intro q hq;rcases hv2 q hq with h | h
     ·exact hv q h
     ·have:=hg3.size;omega
    ·exact ⟨(hbut.os.trans hg3.os).trans hbw2.os,(hbut.tape.trans hg3.tape).trans hbw2.tape,(hbut.output.trans hg3.output).trans hbw2.output,by omega,λq hq=>(hsame2 q (by omega) (by omega) (λe=>by have:=hv q e;omega)).trans (hbw2.block q hq)⟩
    ·exact λq h1 h2=>(hsame2 q (by omega) h2 (λe=>by have:=hv q e;omega)).trans (hsame.out q h1 h2)
    ·simp only [RowKit.intOf];omega
   ·have hm2:m=L.length:=by omega
    subst hm2;rw [List.take_length] at hbd
    go_wp2_with (first
     | (go_at_call 21;refine (stringX (ρ:=bldTryzRen) { bldTryzLays with } bldTryzExtra w.heap.size w.heap.size (zL ln L) v wr hbd (Nat.le_refl _) (λq hq=>by have:=hv q hq;omega) (by omega)).mono ?_;rintro e w3 ⟨rfl,hw3⟩))
    go_ret
    exact ⟨rfl,hbw2.trans hw3⟩
 refine goal.mono ?_
 rintro e w' ⟨rfl,hw⟩
 refine ⟨_,_,h,g,rfl,⟨rfl,rfl⟩,Gh.le.refl g,r.beyond hw,?_⟩;simp only [V];exact ⟨trivial,Nat.le_trans hlen (by decide)⟩
def linesO (f:α->Option (List UInt8)) (L:List α):Option (List UInt8) :=
 if (∀x,x ∈ L->(f x).isSome=true)/\(zL (λx=>(f x).getD []) L).length<=140737488355328 then some (zL (λx=>(f x).getD []) L) else none
theorem spec_linesO {L:List α} {f:α->Option (List UInt8)} (hp:∀x,(row x).all AV.pure=true) (hl:∀x,plL (row x)=true) (hk:∀x,∃e0 i1 i2 i3 i4 i5 i6 s7 e8 e9,row x=[.sl 1 e0,.int .u8 i1,.int .i64 i2,.int .u64 i3,.int .u8 i4,.int .u32 i5,.int .u64 i6,.str s7,.sl 5 e8,.sl 3 e9]) (hes:plE es=true)
  (h9:∀h,Spec Tryz.prog 19 [.sl k es] h (λrr hh=>rr=.sl 10 (L.map row)/\hh=h)) (h11:∀x v,f x=some v->Spec Tryz.prog 10 [.agg (row x)] hE (λrr hh=>rr=.str v/\hh=hE)) (hF:linesO f L=some res) {h:AH} :
  Spec Tryz.prog 8 [.sl k es] h (λrr hh=>rr=.str res/\hh=h):=by
 unfold linesO at hF;split at hF
 case isFalse=>cases hF
 rename_i hc;injection hF with hF;subst hF;refine spec_lines hp hl hk (by simp only [AV.pl];exact hes) h9 (λx hx=>?_) hc.2;obtain ⟨v,hv⟩:=Option.isSome_iff_exists.1 (hc.1 x hx);rw [hv];exact h11 x v hv
end
end Go.Vv
