/- Each operation of the model: slices, structs, comparisons, integers. -/
import Derived.Test.YtcociipjgndnaaaGreatVvF
namespace Go.Vv
open Go Go.RowKit Go.Lib
section
variable {P:Program} {w:World} {g:Gh} {h:AH} {B:Nat} {w0:World}

def VO (g:Gh):Option AV->Option Value->Prop
 | none,v=>v=none
 | some a,v=>∃u,v=some u/\V g a u

theorem bound_cases {d n:Nat} {x:Option AV} {c:Option Value} (b:VO g x c) (a:aBound d x=some n):(c=none/\x=none/\n=d) \/ ∃(k:IntKind) (z:Int),c=some (.int k z)/\x.isSome=true/\0<=z/\z=n:=by
 unfold aBound at a;split at a
 ·simp only [VO] at b;injection a with a;exact .inl ⟨b,rfl,a.symm⟩
 ·rename_i k z;split at a
  ·rename_i e;simp only [VO,V] at b;obtain ⟨u,rfl,rfl⟩:=b;injection a with a;exact .inr ⟨k,z,rfl,rfl,e,by omega⟩
  ·cases a
 ·cases a


theorem slice_bounds {isS:Bool} {len cap l hh m d:Nat} {lo hi mx:Option Value}
  (q:(lo=none/\l=0) \/ ∃(k:IntKind) (z:Int),lo=some (.int k z)/\0<=z/\z=l)
  (i:(hi=none/\mx=none/\hh=len) \/ ∃(k:IntKind) (z:Int),hi=some (.int k z)/\0<=z/\z=hh)
  (p:(mx=none/\m=cap) \/ ∃(k:IntKind) (z:Int),mx=some (.int k z)/\0<=z/\z=m) (H:l<=hh) (F:hh<=m) (G:m<=cap) (_:d=0) :
  (Instr.sliceBounds isS len cap lo hi mx).run P w=.ok (l,hh,m) w:=by
 rcases p with ⟨rfl,rfl⟩ | ⟨E,c,rfl,s,t⟩ <;> rcases i with ⟨rfl,e,rfl⟩ | ⟨D,a,rfl,x,y⟩ <;> rcases q with ⟨rfl,rfl⟩ | ⟨C,b,rfl,r,u⟩ <;>
  first
  | (cases e;done)
  | (
       have n:b.toNat=l:=by omega
       have j:a.toNat=hh:=by omega
       have A:c.toNat=m:=by omega
       have o:b<=hh:=by omega
       have f:a<=m:=by omega
       have v:c<=cap:=by omega
       simp [Instr.sliceBounds,run_sliceBound, *];done)
  | (
       have j:a.toNat=hh:=by omega
       have A:c.toNat=m:=by omega
       have f:a<=m:=by omega
       have v:c<=cap:=by omega
       simp [Instr.sliceBounds,run_sliceBound, *];done)
  | (
       have n:b.toNat=l:=by omega
       have j:a.toNat=hh:=by omega
       have o:b<=hh:=by omega
       have f:a<=m:=by omega
       simp [Instr.sliceBounds,run_sliceBound, *];done)
  | (
       have n:b.toNat=l:=by omega
       have o:b<=hh:=by omega
       simp [Instr.sliceBounds,run_sliceBound, *];done)
  | (
       have j:a.toNat=hh:=by omega
       have f:a<=m:=by omega
       simp [Instr.sliceBounds,run_sliceBound, *];done)
  | (simp [Instr.sliceBounds];done)

theorem sliceAt_of {t:TypeId} {d:TypeDesc} (a:P.underlying t=some d) (hd:∀n e,d ≠ .array n e) (x:Value) (lo hi mx:Option Value):(Instr.sliceAt t x lo hi mx).run P w=(Instr.slice t x lo hi mx).run P w:=by
 cases d <;> (first | exact absurd rfl (hd _ _) | simp only [Instr.sliceAt,Sem.run_bind,yC a,Result.andThen_ok])

theorem lo_cases {l:Nat} {lo:Option AV} {a:Option Value} (b:VO g lo a) (c:aBound 0 lo=some l):(a=none/\l=0) \/ ∃(k:IntKind) (z:Int),a=some (.int k z)/\0<=z/\z=l:=by
 rcases bound_cases b c with ⟨e,_,d⟩ | ⟨k,z,e,_,h0,f⟩
 ·exact .inl ⟨e,d⟩
 ·exact .inr ⟨k,z,e,h0,f⟩
theorem hi_cases {l len:Nat} {lo:Option AV} {a b:Option Value} (c:VO g lo a) (d:aBound len lo=some l) (f:b ≠ none->a ≠ none) :
  (a=none/\b=none/\l=len) \/ ∃(k:IntKind) (z:Int),a=some (.int k z)/\0<=z/\z=l:=by
 rcases bound_cases c d with ⟨e,_,i⟩ | ⟨k,z,e,_,h0,j⟩
 ·refine .inl ⟨e,?_,i⟩;rcases b with _ | x
  ·rfl
  ·exact absurd e (f (by simp))
 ·exact .inr ⟨k,z,e,h0,j⟩

theorem slice_str_sound {t:TypeId} (q:P.underlying t=some .string) {s:List UInt8} {r:Value} {lo hi mx:Option AV} {e c f:Option Value} (u:V g (.str s) r) (p:VO g lo e) (j:VO g hi c) (b:VO g mx f)
  {v:AV} (a:aSlice (.str s) lo hi mx=some v):∃y,(Instr.sliceAt t r e c f).run P w=.ok y w/\V g v y:=by
 simp only [V] at u;obtain ⟨rfl,hs⟩:=u;unfold aSlice at a;simp only at a;split at a
 ·rename_i x;have:mx=none:=by simpa using x
  subst this;simp only [VO] at b;subst b;unfold aSliceStr at a;split at a
  ·rename_i l hh o k;split at a
   ·rename_i i;cases a;rw [sliceAt_of q (by simp)];have n:(⟨s.toArray⟩:ByteArray).size=s.length:=by simp [ByteArray.size]
    have z:=slice_bounds (P:=P) (w:=w) (isS:=false) (len:=s.length) (cap:=s.length) (l:=l) (hh:=hh) (m:=s.length) (d:=0) (mx:=none)
     (lo_cases p o) (hi_cases j k λh=>absurd rfl h)
     (.inl ⟨rfl,rfl⟩) i.1 i.2 (uh _) rfl
    refine ⟨.string ((⟨s.toArray⟩:ByteArray).extract l hh),?_,?_⟩
    ·simp [Instr.slice,yC q,n,z]
    ·simp only [V];refine ⟨?_,by simp;omega⟩;congr 1;apply ByteArray.ext;simp [ByteArray.data_extract,rh,pE]
   ·cases a
  ·cases a
 ·cases a

theorem slice_sl_sound {t e:TypeId} {i:TypeInfo} (S:P.underlying t=some (.slice e)) (hi:P.info? e=some i) {x:Bool} {es:List (List AV)} {a:Option Addr} {c:Nat} {lo F mx:Option AV} {A r p:Option Value}
  (h1:es.length<=c) (Z:c<=maxLen) (Y:es=[] \/ ∃b o,a=some ⟨b,o,none⟩/\VE g b i.size o es) (D:x=true->c=es.length) (O:VO g lo A) (E:VO g F r) (q:VO g mx p)
  {v:AV} (n:aSliceSl x i.size es lo F mx=some v):∃y,(Instr.sliceAt t (.slice a es.length c) A r p).run P w=.ok y w/\V g v y:=by
 unfold aSliceSl at n;split at n
 ·rename_i l hh M s;split at n
  ·rename_i Q
   -- the j of what is cut
   have j:∀m,hh<=m->(es.take hh).drop l=[] \/ ∃b o,(if m=l then a else a.map (·.add (l * i.size)))=some ⟨b,o,none⟩/\VE g b i.size o ((es.take hh).drop l):=by
    intro m H;by_cases hl:l=hh
    ·left;rw [hl];simp
    ·rcases Y with rfl | ⟨b,o,rfl,K⟩
     ·left;simp
     ·right;have R:m ≠ l:=by omega
      refine ⟨b,o+l * i.size,by simp [R,we],VE.drop l (VE.take hh K)⟩
   have f:((es.take hh).drop l).length=hh - l:=by simp;omega
   rw [sliceAt_of S (by simp)];have C:∀(m:Nat) (v:AV),hh<=m->m<=c->(p=none/\m=c \/ ∃(k:IntKind) (z:Int),p=some (.int k z)/\0<=z/\z=m)->(p ≠ none->r ≠ none) ->
     (v=.sl i.size ((es.take hh).drop l) \/ (v=.osl none i.size ((es.take hh).drop l)/\m=hh))->∃y,(Instr.slice t (.slice a es.length c) A r p).run P w=.ok y w/\V g v y:=by
    intro m v H N X I W;have T:=slice_bounds (P:=P) (w:=w) (isS:=true) (len:=es.length) (cap:=c) (l:=l) (hh:=hh) (m:=m) (d:=0) (lo_cases O M)
     (hi_cases E s I) X Q.1 H N rfl
    refine ⟨.slice (if m=l then a else a.map (·.add (l * i.size))) (hh - l) (m - l),?_,?_⟩
    ·simp [Instr.slice,yC S,T,x6 hi]
    ·rcases W with rfl | ⟨rfl,rfl⟩
     ·simp only [V];exact ⟨_,m - l,by rw [f],by rw [f];omega,by omega,j m H⟩
     ·simp only [V];exact ⟨_,m - l,by rw [f],by rw [f];omega,by omega,j m H,by rw [f]⟩
   cases mx with
   | none =>
    simp only [VO] at q;subst q;simp only [un] at n;split at n
    ·rename_i L;subst n;simp only [ud,Option.isNone_iff_eq_none] at L;have hc:=D L.1;have J:hh=es.length:=by
      rw [L.2] at s;simpa [aBound] using s.symm
     have U:es.drop l=(es.take hh).drop l:=by rw [J,sf]
     rw [U];exact C c _ (by omega) (uh _) (.inl ⟨rfl,rfl⟩) (λh=>absurd rfl h) (.inr ⟨rfl,by omega⟩)
    ·subst n;exact C c _ (by omega) (uh _) (.inl ⟨rfl,rfl⟩) (λh=>absurd rfl h) (.inl rfl)
   | some xm =>
    cases xm with
    | int km zm =>
     simp only at n;split at n
     ·rename_i G;cases n;simp only [VO,V] at q;obtain ⟨u,rfl,rfl⟩:=q;refine C hh _ (uh _) (by omega) (.inr ⟨km,zm,rfl,by omega,by omega⟩) (λ_=>?_) (.inr ⟨rfl,rfl⟩);rcases bound_cases E s with ⟨_,e,_⟩ | ⟨k,z,e,_⟩
      ·rw [e] at G;simp at G
      ·rw [e];simp
     ·cases n
    | _=>simp at n
  ·cases n
 ·cases n

theorem foldl_splice:∀(vs:List Value) (cells:Array Value) (off a:Nat),off+a+vs.length<=cells.size ->
  ((vs.zipIdx a).foldl (λcs p=>cs.setIfInBounds (off+p.2) p.1) cells).toList=cells.toList.take (off+a)++vs++cells.toList.drop (off+a+vs.length)
 | [],cells,off,a,_=>by simp
 | v::r,cells,off,a,h=>by
  simp only [uk] at h;simp only [pY,sI];rw [foldl_splice r (cells.setIfInBounds (off+a) v) off (a+1) (by simp;omega)];simp only [rK];have b:(cells.toList.set (off+a) v).take (off+(a+1))=cells.toList.take (off+a)++[v]:=by
   rw [show off+(a+1)=off+a+1 by omega,si,uA (by simp;omega),rT (uh _)];rfl
  rw [b,rU (by omega),uk,show off+(a+1)+r.length=off+a+(r.length+1) by omega];simp

theorem fill_sound {b:Nat->Option (Nat×Nat)} {place':Nat->Option (Nat×Nat)} (e:∀i x,b i=some x->place' i=some x):∀{parts:List (Nat×AV)} {pvs:List (Nat×Value)} {cs out:List AV} {us:Array Value},
  VA g cs us.toList->parts.length=pvs.length->(∀(j:Nat) (p:Nat×AV) (q:Nat×Value),parts[j]?=some p->pvs[j]?=some q->p.1=q.1/\V g p.2 q.2) ->
  qd b cs parts=some out->∃xs:Array Value,Instr.fill place' us pvs=some xs/\VA g out xs.toList
 | [],[],cs,out,us,hv,_,_,ha=>by
  simp only [qd,un] at ha;subst ha;exact ⟨us,rfl,hv⟩
 | (i,a)::r,(i',u)::s,cs,out,us,hv,hl,hp,ha=>by
  obtain ⟨rfl,z⟩:=hp 0 _ _ rfl rfl;simp only [qd] at ha;split at ha
  ·rename_i off size vs k n;split at ha
   ·rename_i o;have d:=z.cells n;have A:u.cells.size=size:=by rw [<- o.1,d.length];rfl
    have y:cs.length=us.size:=by rw [hv.length];rfl
    have c:=foldl_splice u.cells.toList us off 0 (by simp;omega);simp only [sA] at c;have f:=splice_VA (off:=off) hv d;obtain ⟨xs,m,l⟩:=fill_sound e (parts:=r) (pvs:=s) (us:=(u.cells.toList.zipIdx 0).foldl (λcs p=>cs.setIfInBounds (off+p.2) p.1) us) (by rw [c];exact f) (by simpa using hl)
     (λj p q t v=>hp (j+1) p q (by simpa using t) (by simpa using v)) ha
    refine ⟨xs,?_,l⟩;have t:¬ (u.cells.size ≠ size \/ off+u.cells.size > us.size):=by omega
    simp only [Instr.fill,e _ _ k];rw [uu (by simpa using t)];rw [<- m];congr 1;rw [<- rY,Array.toList_zipIdx]
   ·cases ha
  ·cases ha
 | [],_::_,_,_,_,_,hl,_,_=>by simp at hl
 | _::_,[],_,_,_,_,hl,_,_=>by simp at hl
end
end Go.Vv
