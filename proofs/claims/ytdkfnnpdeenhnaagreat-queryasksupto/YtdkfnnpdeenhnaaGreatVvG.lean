/- Each operation of the model: slices, structs, comparisons, integers. -/
import Derived.Test.YtdkfnnpdeenhnaaGreatVvF
namespace Go.Vv
open Go Go.RowKit Go.Lib
section
variable {P:Program} {w:World} {g:Gh} {h:AH} {B:Nat} {w0:World}

def VO (g:Gh):Option AV->Option Value->Prop
 | none,v=>v=none
 | some a,v=>∃u,v=some u/\V g a u

theorem bound_cases {d n:Nat} {x:Option AV} {c:Option Value} (b:VO g x c) (a:qH d x=some n):(c=none/\x=none/\n=d) \/ ∃(k:IntKind) (z:Int),c=some (.int k z)/\x.isSome=true/\0<=z/\z=n:=by
 unfold qH at a;split at a
 ·simp only [VO] at b;injection a with a;exact .inl ⟨b,rfl,a.symm⟩
 ·rename_i k z;split at a
  ·rename_i e;simp only [VO,V] at b;obtain ⟨u,rfl,rfl⟩:=b;injection a with a;exact .inr ⟨k,z,rfl,rfl,e,by omega⟩
  ·cases a
 ·cases a


theorem vW {isS:Bool} {len cap l hh m d:Nat} {lo hi mx:Option Value}
  (v:(lo=none/\l=0) \/ ∃(k:IntKind) (z:Int),lo=some (.int k z)/\0<=z/\z=l)
  (i:(hi=none/\mx=none/\hh=len) \/ ∃(k:IntKind) (z:Int),hi=some (.int k z)/\0<=z/\z=hh)
  (q:(mx=none/\m=cap) \/ ∃(k:IntKind) (z:Int),mx=some (.int k z)/\0<=z/\z=m) (H:l<=hh) (G:hh<=m) (D:m<=cap) (_:d=0) :
  (Instr.sliceBounds isS len cap lo hi mx).run P w=.ok (l,hh,m) w:=by
 rcases q with ⟨rfl,rfl⟩ | ⟨E,c,rfl,x,u⟩ <;> rcases i with ⟨rfl,j,rfl⟩ | ⟨C,a,rfl,y,p⟩ <;> rcases v with ⟨rfl,rfl⟩ | ⟨F,b,rfl,t,s⟩ <;>
  first
  | (cases j;done)
  | (
       have o:b.toNat=l:=by omega
       have f:a.toNat=hh:=by omega
       have r:c.toNat=m:=by omega
       have n:b<=hh:=by omega
       have e:a<=m:=by omega
       have A:c<=cap:=by omega
       simp [Instr.sliceBounds,run_sliceBound, *];done)
  | (
       have f:a.toNat=hh:=by omega
       have r:c.toNat=m:=by omega
       have e:a<=m:=by omega
       have A:c<=cap:=by omega
       simp [Instr.sliceBounds,run_sliceBound, *];done)
  | (
       have o:b.toNat=l:=by omega
       have f:a.toNat=hh:=by omega
       have n:b<=hh:=by omega
       have e:a<=m:=by omega
       simp [Instr.sliceBounds,run_sliceBound, *];done)
  | (
       have o:b.toNat=l:=by omega
       have n:b<=hh:=by omega
       simp [Instr.sliceBounds,run_sliceBound, *];done)
  | (
       have f:a.toNat=hh:=by omega
       have e:a<=m:=by omega
       simp [Instr.sliceBounds,run_sliceBound, *];done)
  | (simp [Instr.sliceBounds];done)

theorem sliceAt_of {t:TypeId} {d:TypeDesc} (a:P.underlying t=some d) (hd:∀n e,d ≠ .array n e) (x:Value) (lo hi mx:Option Value):(Instr.sliceAt t x lo hi mx).run P w=(Instr.slice t x lo hi mx).run P w:=by
 cases d <;> (first | exact absurd rfl (hd _ _) | simp only [Instr.sliceAt,Sem.run_bind,zP a,Result.andThen_ok])

theorem lo_cases {l:Nat} {lo:Option AV} {a:Option Value} (b:VO g lo a) (c:qH 0 lo=some l):(a=none/\l=0) \/ ∃(k:IntKind) (z:Int),a=some (.int k z)/\0<=z/\z=l:=by
 rcases bound_cases b c with ⟨e,_,d⟩ | ⟨k,z,e,_,h0,f⟩
 ·exact .inl ⟨e,d⟩
 ·exact .inr ⟨k,z,e,h0,f⟩
theorem hi_cases {l len:Nat} {lo:Option AV} {a b:Option Value} (c:VO g lo a) (d:qH len lo=some l) (j:b ≠ none->a ≠ none) :
  (a=none/\b=none/\l=len) \/ ∃(k:IntKind) (z:Int),a=some (.int k z)/\0<=z/\z=l:=by
 rcases bound_cases c d with ⟨e,_,f⟩ | ⟨k,z,e,_,h0,i⟩
 ·refine .inl ⟨e,?_,f⟩;rcases b with _ | x
  ·rfl
  ·exact absurd e (j (by simp))
 ·exact .inr ⟨k,z,e,h0,i⟩

theorem slice_str_sound {t:TypeId} (u:P.underlying t=some .string) {s:List UInt8} {q:Value} {lo hi mx:Option AV} {f e b:Option Value} (r:V g (.str s) q) (j:VO g lo f) (k:VO g hi e) (i:VO g mx b)
  {v:AV} (a:aSlice (.str s) lo hi mx=some v):∃y,(Instr.sliceAt t q f e b).run P w=.ok y w/\V g v y:=by
 simp only [V] at r;obtain ⟨rfl,hs⟩:=r;unfold aSlice at a;simp only at a;split at a
 ·rename_i z;have:mx=none:=by simpa using z
  subst this;simp only [VO] at i;subst i;unfold aSliceStr at a;split at a
  ·rename_i l hh o n;split at a
   ·rename_i c;cases a;rw [sliceAt_of u (by simp)];have p:(⟨s.toArray⟩:ByteArray).size=s.length:=by simp [ByteArray.size]
    have x:=vW (P:=P) (w:=w) (isS:=false) (len:=s.length) (cap:=s.length) (l:=l) (hh:=hh) (m:=s.length) (d:=0) (mx:=none)
     (lo_cases j o) (hi_cases k n λh=>absurd rfl h)
     (.inl ⟨rfl,rfl⟩) c.1 c.2 (Nat.le_refl _) rfl
    refine ⟨.string ((⟨s.toArray⟩:ByteArray).extract l hh),?_,?_⟩
    ·simp [Instr.slice,zP u,p,x]
    ·simp only [V];refine ⟨?_,by simp;omega⟩;congr 1;apply ByteArray.ext;simp [ByteArray.data_extract,List.extract_eq_take_drop,List.drop_take]
   ·cases a
  ·cases a
 ·cases a

theorem slice_sl_sound {t e:TypeId} {i:TypeInfo} (S:P.underlying t=some (.slice e)) (hi:P.info? e=some i) {x:Bool} {es:List (List AV)} {a:Option Addr} {c:Nat} {lo G mx:Option AV} {D q p:Option Value}
  (h1:es.length<=c) (Z:c<=maxLen) (W:es=[] \/ ∃b o,a=some ⟨b,o,none⟩/\VE g b i.size o es) (A:x=true->c=es.length) (O:VO g lo D) (F:VO g G q) (s:VO g mx p)
  {v:AV} (n:aSliceSl x i.size es lo G mx=some v):∃y,(Instr.sliceAt t (.slice a es.length c) D q p).run P w=.ok y w/\V g v y:=by
 unfold aSliceSl at n;split at n
 ·rename_i l hh Q r;split at n
  ·rename_i M
   -- the j of what is cut
   have j:∀m,hh<=m->(es.take hh).drop l=[] \/ ∃b o,(if m=l then a else a.map (·.add (l * i.size)))=some ⟨b,o,none⟩/\VE g b i.size o ((es.take hh).drop l):=by
    intro m H;by_cases hl:l=hh
    ·left;rw [hl];simp
    ·rcases W with rfl | ⟨b,o,rfl,J⟩
     ·left;simp
     ·right;have L:m ≠ l:=by omega
      refine ⟨b,o+l * i.size,by simp [L,xb],VE.drop l (VE.take hh J)⟩
   have f:((es.take hh).drop l).length=hh - l:=by simp;omega
   rw [sliceAt_of S (by simp)];have C:∀(m:Nat) (v:AV),hh<=m->m<=c->(p=none/\m=c \/ ∃(k:IntKind) (z:Int),p=some (.int k z)/\0<=z/\z=m)->(p ≠ none->q ≠ none) ->
     (v=.sl i.size ((es.take hh).drop l) \/ (v=.osl none i.size ((es.take hh).drop l)/\m=hh))->∃y,(Instr.slice t (.slice a es.length c) D q p).run P w=.ok y w/\V g v y:=by
    intro m v H R U I X;have T:=vW (P:=P) (w:=w) (isS:=true) (len:=es.length) (cap:=c) (l:=l) (hh:=hh) (m:=m) (d:=0) (lo_cases O Q)
     (hi_cases F r I) U M.1 H R rfl
    refine ⟨.slice (if m=l then a else a.map (·.add (l * i.size))) (hh - l) (m - l),?_,?_⟩
    ·simp [Instr.slice,zP S,T,yV hi]
    ·rcases X with rfl | ⟨rfl,rfl⟩
     ·simp only [V];exact ⟨_,m - l,by rw [f],by rw [f];omega,by omega,j m H⟩
     ·simp only [V];exact ⟨_,m - l,by rw [f],by rw [f];omega,by omega,j m H,by rw [f]⟩
   cases mx with
   | none =>
    simp only [VO] at s;subst s;simp only [Option.some.injEq] at n;split at n
    ·rename_i K;subst n;simp only [Bool.and_eq_true,Option.isNone_iff_eq_none] at K;have hc:=A K.1;have N:hh=es.length:=by
      rw [K.2] at r;simpa [qH] using r.symm
     have Y:es.drop l=(es.take hh).drop l:=by rw [N,List.take_length]
     rw [Y];exact C c _ (by omega) (Nat.le_refl _) (.inl ⟨rfl,rfl⟩) (λh=>absurd rfl h) (.inr ⟨rfl,by omega⟩)
    ·subst n;exact C c _ (by omega) (Nat.le_refl _) (.inl ⟨rfl,rfl⟩) (λh=>absurd rfl h) (.inl rfl)
   | some xm =>
    cases xm with
    | int km zm =>
     simp only at n;split at n
     ·rename_i E;cases n;simp only [VO,V] at s;obtain ⟨u,rfl,rfl⟩:=s;refine C hh _ (Nat.le_refl _) (by omega) (.inr ⟨km,zm,rfl,by omega,by omega⟩) (λ_=>?_) (.inr ⟨rfl,rfl⟩);rcases bound_cases F r with ⟨_,e,_⟩ | ⟨k,z,e,_⟩
      ·rw [e] at E;simp at E
      ·rw [e];simp
     ·cases n
    | _=>simp at n
  ·cases n
 ·cases n

theorem foldl_splice:∀(vs:List Value) (cells:Array Value) (off a:Nat),off+a+vs.length<=cells.size ->
  ((vs.zipIdx a).foldl (λcs p=>cs.setIfInBounds (off+p.2) p.1) cells).toList=cells.toList.take (off+a)++vs++cells.toList.drop (off+a+vs.length)
 | [],cells,off,a,_=>by simp
 | v::r,cells,off,a,h=>by
  simp only [List.length_cons] at h;simp only [List.zipIdx_cons,List.foldl_cons];rw [foldl_splice r (cells.setIfInBounds (off+a) v) off (a+1) (by simp;omega)];simp only [Array.toList_setIfInBounds];have b:(cells.toList.set (off+a) v).take (off+(a+1))=cells.toList.take (off+a)++[v]:=by
   rw [show off+(a+1)=off+a+1 by omega,List.take_add_one,List.getElem?_set_self (by simp;omega),List.take_set_of_le (Nat.le_refl _)];rfl
  rw [b,List.drop_set_of_lt (by omega),List.length_cons,show off+(a+1)+r.length=off+a+(r.length+1) by omega];simp

theorem vm {c:Nat->Option (Nat×Nat)} {place':Nat->Option (Nat×Nat)} (d:∀i x,c i=some x->place' i=some x):∀{parts:List (Nat×AV)} {pvs:List (Nat×Value)} {cs out:List AV} {us:Array Value},
  VA g cs us.toList->parts.length=pvs.length->(∀(j:Nat) (p:Nat×AV) (q:Nat×Value),parts[j]?=some p->pvs[j]?=some q->p.1=q.1/\V g p.2 q.2) ->
  wi c cs parts=some out->∃xs:Array Value,Instr.fill place' us pvs=some xs/\VA g out xs.toList
 | [],[],cs,out,us,hv,_,_,ha=>by
  simp only [wi,Option.some.injEq] at ha;subst ha;exact ⟨us,rfl,hv⟩
 | (i,a)::r,(i',u)::s,cs,out,us,hv,hl,hp,ha=>by
  obtain ⟨rfl,v⟩:=hp 0 _ _ rfl rfl;simp only [wi] at ha;split at ha
  ·rename_i off size vs m f;split at ha
   ·rename_i k;have e:=v.cells f;have A:u.cells.size=size:=by rw [<- k.1,e.length];rfl
    have z:cs.length=us.size:=by rw [hv.length];rfl
    have b:=foldl_splice u.cells.toList us off 0 (by simp;omega);simp only [Nat.add_zero] at b;have o:=splice_VA (off:=off) hv e;obtain ⟨xs,t,l⟩:=vm d (parts:=r) (pvs:=s) (us:=(u.cells.toList.zipIdx 0).foldl (λcs p=>cs.setIfInBounds (off+p.2) p.1) us) (by rw [b];exact o) (by simpa using hl)
     (λj p q n y=>hp (j+1) p q (by simpa using n) (by simpa using y)) ha
    refine ⟨xs,?_,l⟩;have n:¬ (u.cells.size ≠ size \/ off+u.cells.size > us.size):=by omega
    simp only [Instr.fill,d _ _ m];rw [if_neg (by simpa using n)];rw [<- t];congr 1;rw [<- Array.foldl_toList,Array.toList_zipIdx]
   ·cases ha
  ·cases ha
 | [],_::_,_,_,_,_,hl,_,_=>by simp at hl
 | _::_,[],_,_,_,_,hl,_,_=>by simp at hl
end
end Go.Vv
