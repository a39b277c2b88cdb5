/- Each operation of the model: slices, structs, comparisons, integers. -/
import Derived.Test.YtbaclapbinkedaaVvF
namespace Go.Vv
open Go Go.RowKit Go.Lib
section
variable {P:Program} {w:World} {g:Gh} {h:AH} {B:Nat} {w0:World}

def VO (g:Gh):Option AV→Option Value→Prop
 | none,v=>v=none
 | some a,v=>∃ u,v=some u∧V g a u

theorem bound_cases {d n:Nat} {x:Option AV} {xv:Option Value} (hx:VO g x xv) (hb:aBound d x=some n):(xv=none∧x=none∧n=d) ∨ ∃ (k:IntKind) (z:Int),xv=some (.int k z)∧x.isSome=true∧0≤z∧z=n:=by
 unfold aBound at hb
 split at hb
 ·simp only [VO] at hx
  injection hb with hb
  exact .inl ⟨hx,rfl,hb.symm⟩
 ·rename_i k z
  split at hb
  ·rename_i hz
   simp only [VO,V] at hx
   obtain ⟨u,rfl,rfl⟩:=hx
   injection hb with hb
   exact .inr ⟨k,z,rfl,rfl,hz,by omega⟩
  ·cases hb
 ·cases hb


theorem slice_bounds {isS:Bool} {len cap l hh m d:Nat} {lo hi mx:Option Value}
  (hl:(lo=none∧l=0) ∨ ∃ (k:IntKind) (z:Int),lo=some (.int k z)∧0≤z∧z=l)
  (hh':(hi=none∧mx=none∧hh=len) ∨ ∃ (k:IntKind) (z:Int),hi=some (.int k z)∧0≤z∧z=hh)
  (hm:(mx=none∧m=cap) ∨ ∃ (k:IntKind) (z:Int),mx=some (.int k z)∧0≤z∧z=m) (h1:l≤hh) (h2:hh≤m) (h3:m≤cap) (_:d=0) :
  (Instr.sliceBounds isS len cap lo hi mx).run P w=.ok (l,hh,m) w:=by
 rcases hm with ⟨rfl,rfl⟩ | ⟨km,zm,rfl,hm0,hm1⟩ <;> rcases hh' with ⟨rfl,hmx,rfl⟩ | ⟨kh,zh,rfl,hh0,hh1⟩ <;> rcases hl with ⟨rfl,rfl⟩ | ⟨kl,zl,rfl,hl0,hl1⟩ <;>
  first
  | (cases hmx;done)
  | (
       have e1:zl.toNat=l:=by omega
       have e2:zh.toNat=hh:=by omega
       have e3:zm.toNat=m:=by omega
       have b1:zl≤hh:=by omega
       have b2:zh≤m:=by omega
       have b3:zm≤cap:=by omega
       simp [Instr.sliceBounds,run_sliceBound, *];done)
  | (
       have e2:zh.toNat=hh:=by omega
       have e3:zm.toNat=m:=by omega
       have b2:zh≤m:=by omega
       have b3:zm≤cap:=by omega
       simp [Instr.sliceBounds,run_sliceBound, *];done)
  | (
       have e1:zl.toNat=l:=by omega
       have e2:zh.toNat=hh:=by omega
       have b1:zl≤hh:=by omega
       have b2:zh≤m:=by omega
       simp [Instr.sliceBounds,run_sliceBound, *];done)
  | (
       have e1:zl.toNat=l:=by omega
       have b1:zl≤hh:=by omega
       simp [Instr.sliceBounds,run_sliceBound, *];done)
  | (
       have e2:zh.toNat=hh:=by omega
       have b2:zh≤m:=by omega
       simp [Instr.sliceBounds,run_sliceBound, *];done)
  | (simp [Instr.sliceBounds];done)

theorem sliceAt_of {t:TypeId} {d:TypeDesc} (ht:P.underlying t=some d) (hd:∀ n e,d ≠ .array n e) (x:Value) (lo hi mx:Option Value):(Instr.sliceAt t x lo hi mx).run P w=(Instr.slice t x lo hi mx).run P w:=by
 cases d <;> (first | exact absurd rfl (hd _ _) | simp only [Instr.sliceAt,Sem.run_bind,yN ht,Result.andThen_ok])

theorem lo_cases {l:Nat} {lo:Option AV} {lov:Option Value} (hlo:VO g lo lov) (hbl:aBound 0 lo=some l):(lov=none∧l=0) ∨ ∃ (k:IntKind) (z:Int),lov=some (.int k z)∧0≤z∧z=l:=by
 rcases bound_cases hlo hbl with ⟨e,_,e'⟩ | ⟨k,z,e,_,h0,h1⟩
 ·exact .inl ⟨e,e'⟩
 ·exact .inr ⟨k,z,e,h0,h1⟩
theorem hi_cases {l len:Nat} {lo:Option AV} {lov mxv:Option Value} (hlo:VO g lo lov) (hbl:aBound len lo=some l) (hm:mxv ≠ none→lov ≠ none) :
  (lov=none∧mxv=none∧l=len) ∨ ∃ (k:IntKind) (z:Int),lov=some (.int k z)∧0≤z∧z=l:=by
 rcases bound_cases hlo hbl with ⟨e,_,e'⟩ | ⟨k,z,e,_,h0,h1⟩
 ·refine .inl ⟨e,?_,e'⟩
  rcases mxv with _ | x
  ·rfl
  ·exact absurd e (hm (by simp))
 ·exact .inr ⟨k,z,e,h0,h1⟩

theorem slice_str_sound {t:TypeId} (ht:P.underlying t=some .string) {s:List UInt8} {xv:Value} {lo hi mx:Option AV} {lov hiv mxv:Option Value} (hx:V g (.str s) xv) (hlo:VO g lo lov) (hhi:VO g hi hiv) (hmx:VO g mx mxv)
  {v:AV} (ha:aSlice (.str s) lo hi mx=some v):∃ y,(Instr.sliceAt t xv lov hiv mxv).run P w=.ok y w∧V g v y:=by
 simp only [V] at hx
 obtain ⟨rfl,hs⟩:=hx
 unfold aSlice at ha
 simp only at ha
 split at ha
 ·rename_i hm
  have:mx=none:=by simpa using hm
  subst this
  simp only [VO] at hmx
  subst hmx
  unfold aSliceStr at ha
  split at ha
  ·rename_i l hh hbl hbh
   split at ha
   ·rename_i hle
    cases ha
    rw [sliceAt_of ht (by simp)]
    have hsz:(⟨s.toArray⟩:ByteArray).size=s.length:=by simp [ByteArray.size]
    have hb:=slice_bounds (P:=P) (w:=w) (isS:=false) (len:=s.length) (cap:=s.length) (l:=l) (hh:=hh) (m:=s.length) (d:=0) (mx:=none)
     (lo_cases hlo hbl) (hi_cases hhi hbh fun h=>absurd rfl h)
     (.inl ⟨rfl,rfl⟩) hle.1 hle.2 (Nat.le_refl _) rfl
    refine ⟨.string ((⟨s.toArray⟩:ByteArray).extract l hh),?_,?_⟩
    ·simp [Instr.slice,yN ht,hsz,hb]
    ·simp only [V]
     refine ⟨?_,by simp;omega⟩
     congr 1
     apply ByteArray.ext
     simp [ByteArray.data_extract,List.extract_eq_take_drop,List.drop_take]
   ·cases ha
  ·cases ha
 ·cases ha

theorem slice_sl_sound {t e:TypeId} {i:TypeInfo} (ht:P.underlying t=some (.slice e)) (hi:P.info? e=some i) {full:Bool} {es:List (List AV)} {a:Option Addr} {c:Nat} {lo hi' mx:Option AV} {lov hiv mxv:Option Value}
  (h1:es.length≤c) (h2:c≤maxLen) (h3:es=[] ∨ ∃ b o,a=some ⟨b,o,none⟩∧VE g b i.size o es) (hfull:full=true→c=es.length) (hlo:VO g lo lov) (hhi:VO g hi' hiv) (hmx:VO g mx mxv)
  {v:AV} (ha:aSliceSl full i.size es lo hi' mx=some v):∃ y,(Instr.sliceAt t (.slice a es.length c) lov hiv mxv).run P w=.ok y w∧V g v y:=by
 unfold aSliceSl at ha
 split at ha
 ·rename_i l hh hbl hbh
  split at ha
  ·rename_i hle
   -- the place of what is cut
   have place:∀ m,hh≤m→(es.take hh).drop l=[] ∨ ∃ b o,(if m=l then a else a.map (·.add (l * i.size)))=some ⟨b,o,none⟩∧VE g b i.size o ((es.take hh).drop l):=by
    intro m hm
    by_cases hl:l=hh
    ·left;rw [hl];simp
    ·rcases h3 with rfl | ⟨b,o,rfl,hve⟩
     ·left;simp
     ·right
      have hml:m ≠ l:=by omega
      refine ⟨b,o+l * i.size,by simp [hml,qT],VE.drop l (VE.take hh hve)⟩
   have hlen:((es.take hh).drop l).length=hh - l:=by simp;omega
   rw [sliceAt_of ht (by simp)]
   have fin:∀ (m:Nat) (v:AV),hh≤m→m≤c→(mxv=none∧m=c ∨ ∃ (k:IntKind) (z:Int),mxv=some (.int k z)∧0≤z∧z=m)→(mxv ≠ none→hiv ≠ none) →
     (v=.sl i.size ((es.take hh).drop l) ∨ (v=.osl none i.size ((es.take hh).drop l)∧m=hh))→∃ y,(Instr.slice t (.slice a es.length c) lov hiv mxv).run P w=.ok y w∧V g v y:=by
    intro m v hm hmc hM hMh hv
    have hb:=slice_bounds (P:=P) (w:=w) (isS:=true) (len:=es.length) (cap:=c) (l:=l) (hh:=hh) (m:=m) (d:=0) (lo_cases hlo hbl)
     (hi_cases hhi hbh hMh) hM hle.1 hm hmc rfl
    refine ⟨.slice (if m=l then a else a.map (·.add (l * i.size))) (hh - l) (m - l),?_,?_⟩
    ·simp [Instr.slice,yN ht,hb,wN hi]
    ·rcases hv with rfl | ⟨rfl,rfl⟩
     ·simp only [V]
      exact ⟨_,m - l,by rw [hlen],by rw [hlen];omega,by omega,place m hm⟩
     ·simp only [V]
      exact ⟨_,m - l,by rw [hlen],by rw [hlen];omega,by omega,place m hm,by rw [hlen]⟩
   cases mx with
   | none =>
    simp only [VO] at hmx
    subst hmx
    simp only [Option.some.injEq] at ha
    split at ha
    ·rename_i hf
     subst ha
     simp only [Bool.and_eq_true,Option.isNone_iff_eq_none] at hf
     have hc:=hfull hf.1
     have hhl:hh=es.length:=by
      rw [hf.2] at hbh
      simpa [aBound] using hbh.symm
     have e1:es.drop l=(es.take hh).drop l:=by rw [hhl,List.take_length]
     rw [e1]
     exact fin c _ (by omega) (Nat.le_refl _) (.inl ⟨rfl,rfl⟩) (fun h=>absurd rfl h) (.inr ⟨rfl,by omega⟩)
    ·subst ha
     exact fin c _ (by omega) (Nat.le_refl _) (.inl ⟨rfl,rfl⟩) (fun h=>absurd rfl h) (.inl rfl)
   | some xm =>
    cases xm with
    | int km zm =>
     simp only at ha
     split at ha
     ·rename_i hmh
      cases ha
      simp only [VO,V] at hmx
      obtain ⟨u,rfl,rfl⟩:=hmx
      refine fin hh _ (Nat.le_refl _) (by omega) (.inr ⟨km,zm,rfl,by omega,by omega⟩) (fun _=>?_) (.inr ⟨rfl,rfl⟩)
      rcases bound_cases hhi hbh with ⟨_,e,_⟩ | ⟨k,z,e,_⟩
      ·rw [e] at hmh;simp at hmh
      ·rw [e];simp
     ·cases ha
    | _=>simp at ha
  ·cases ha
 ·cases ha

theorem foldl_splice:∀ (vs:List Value) (cells:Array Value) (off j0:Nat),off+j0+vs.length≤cells.size →
  ((vs.zipIdx j0).foldl (fun cs p=>cs.setIfInBounds (off+p.2) p.1) cells).toList=cells.toList.take (off+j0)++vs++cells.toList.drop (off+j0+vs.length)
 | [],cells,off,j0,_=>by simp
 | v::r,cells,off,j0,h=>by
  simp only [List.length_cons] at h
  simp only [List.zipIdx_cons,List.foldl_cons]
  rw [foldl_splice r (cells.setIfInBounds (off+j0) v) off (j0+1) (by simp;omega)]
  simp only [Array.toList_setIfInBounds]
  have e1:(cells.toList.set (off+j0) v).take (off+(j0+1))=cells.toList.take (off+j0)++[v]:=by
   rw [show off+(j0+1)=off+j0+1 by omega,List.take_add_one,List.getElem?_set_self (by simp;omega),List.take_set_of_le (Nat.le_refl _)];rfl
  rw [e1,List.drop_set_of_lt (by omega),List.length_cons,show off+(j0+1)+r.length=off+j0+(r.length+1) by omega]
  simp

theorem fill_sound {place:Nat→Option (Nat×Nat)} {place':Nat→Option (Nat×Nat)} (hpl:∀ i x,place i=some x→place' i=some x):∀ {parts:List (Nat×AV)} {pvs:List (Nat×Value)} {cs out:List AV} {us:Array Value},
  VA g cs us.toList→parts.length=pvs.length→(∀ (j:Nat) (p:Nat×AV) (q:Nat×Value),parts[j]?=some p→pvs[j]?=some q→p.1=q.1∧V g p.2 q.2) →
  qx place cs parts=some out→∃ xs:Array Value,Instr.fill place' us pvs=some xs∧VA g out xs.toList
 | [],[],cs,out,us,hv,_,_,ha=>by
  simp only [qx,Option.some.injEq] at ha
  subst ha
  exact ⟨us,rfl,hv⟩
 | (i,a)::r,(i',u)::s,cs,out,us,hv,hl,hp,ha=>by
  obtain ⟨rfl,hV⟩:=hp 0 _ _ rfl rfl
  simp only [qx] at ha
  split at ha
  ·rename_i off size vs hpi hcs
   split at ha
   ·rename_i hle
    have hus:=hV.cells hcs
    have hul:u.cells.size=size:=by rw [← hle.1,hus.length];rfl
    have hcl:cs.length=us.size:=by rw [hv.length];rfl
    have hfold:=foldl_splice u.cells.toList us off 0 (by simp;omega)
    simp only [Nat.add_zero] at hfold
    have hva:=splice_VA (off:=off) hv hus
    obtain ⟨xs,hx1,hx2⟩:=fill_sound hpl (parts:=r) (pvs:=s) (us:=(u.cells.toList.zipIdx 0).foldl (fun cs p=>cs.setIfInBounds (off+p.2) p.1) us) (by rw [hfold];exact hva) (by simpa using hl)
     (fun j p q h1 h2=>hp (j+1) p q (by simpa using h1) (by simpa using h2)) ha
    refine ⟨xs,?_,hx2⟩
    have h1:¬ (u.cells.size ≠ size ∨ off+u.cells.size > us.size):=by omega
    simp only [Instr.fill,hpl _ _ hpi]
    rw [if_neg (by simpa using h1)]
    rw [← hx1]
    congr 1
    rw [← Array.foldl_toList,Array.toList_zipIdx]
   ·cases ha
  ·cases ha
 | [],_::_,_,_,_,_,hl,_,_=>by simp at hl
 | _::_,[],_,_,_,_,hl,_,_=>by simp at hl
end
end Go.Vv
