/- Each operation of the model: slices, structs, comparisons, integers. -/
import Derived.Test.YtehifcdoglcidaaGreatVvF
namespace Go.Vv
open Go Go.RowKit Go.Lib
section
variable {P:Program} {w:World} {g:Gh} {h:AH} {B:Nat} {w0:World}

def VO (g:Gh):Option AV->Option Value->Prop
 | none,v=>v=none
 | some a,v=>∃u,v=some u/\V g a u

theorem bound_cases {d n:Nat} {x:Option AV} {c:Option Value} (b:VO g x c) (a:aBound d x=some n):(c=none/\x=none/\n=d) \/ ∃(k:IntKind) (z:Int),c=some (.int k z)/\x.isSome=true/\0<=z/\z=n:=by
 unfold aBound at a;split at a
 ·simp only [VO] at b;injection a with a;exact .inl ⟨b,rfl,a.symm⟩
 ·rename_i k z;split at a
  ·rename_i e;simp only [VO,V] at b;obtain ⟨u,rfl,rfl⟩:=b;injection a with a;exact .inr ⟨k,z,rfl,rfl,e,by omega⟩
  ·cases a
 ·cases a


theorem slice_bounds {isS:Bool} {len cap l hh m d:Nat} {lo hi mx:Option Value}
  (r:(lo=none/\l=0) \/ ∃(k:IntKind) (z:Int),lo=some (.int k z)/\0<=z/\z=l)
  (j:(hi=none/\mx=none/\hh=len) \/ ∃(k:IntKind) (z:Int),hi=some (.int k z)/\0<=z/\z=hh)
  (A:(mx=none/\m=cap) \/ ∃(k:IntKind) (z:Int),mx=some (.int k z)/\0<=z/\z=m) (H:l<=hh) (G:hh<=m) (D:m<=cap) (_:d=0) :
  (Instr.sliceBounds isS len cap lo hi mx).run P w=.ok (l,hh,m) w:=by
 rcases A with ⟨rfl,rfl⟩ | ⟨C,c,rfl,p,u⟩ <;> rcases j with ⟨rfl,e,rfl⟩ | ⟨E,a,rfl,v,t⟩ <;> rcases r with ⟨rfl,rfl⟩ | ⟨F,b,rfl,y,s⟩ <;>
  first
  | (cases e;done)
  | (
       have o:b.toNat=l:=by omega
       have i:a.toNat=hh:=by omega
       have q:c.toNat=m:=by omega
       have n:b<=hh:=by omega
       have f:a<=m:=by omega
       have x:c<=cap:=by omega
       simp [Instr.sliceBounds,run_sliceBound, *];done)
  | (
       have i:a.toNat=hh:=by omega
       have q:c.toNat=m:=by omega
       have f:a<=m:=by omega
       have x:c<=cap:=by omega
       simp [Instr.sliceBounds,run_sliceBound, *];done)
  | (
       have o:b.toNat=l:=by omega
       have i:a.toNat=hh:=by omega
       have n:b<=hh:=by omega
       have f:a<=m:=by omega
       simp [Instr.sliceBounds,run_sliceBound, *];done)
  | (
       have o:b.toNat=l:=by omega
       have n:b<=hh:=by omega
       simp [Instr.sliceBounds,run_sliceBound, *];done)
  | (
       have i:a.toNat=hh:=by omega
       have f:a<=m:=by omega
       simp [Instr.sliceBounds,run_sliceBound, *];done)
  | (simp [Instr.sliceBounds];done)

theorem sliceAt_of {t:TypeId} {d:TypeDesc} (a:P.underlying t=some d) (hd:∀n e,d ≠ .array n e) (x:Value) (lo hi mx:Option Value):(Instr.sliceAt t x lo hi mx).run P w=(Instr.slice t x lo hi mx).run P w:=by
 cases d <;> (first | exact absurd rfl (hd _ _) | simp only [Instr.sliceAt,Sem.run_bind,yc a,Result.andThen_ok])

theorem lo_cases {l:Nat} {lo:Option AV} {a:Option Value} (c:VO g lo a) (b:aBound 0 lo=some l):(a=none/\l=0) \/ ∃(k:IntKind) (z:Int),a=some (.int k z)/\0<=z/\z=l:=by
 rcases bound_cases c b with ⟨e,_,f⟩ | ⟨k,z,e,_,h0,d⟩
 ·exact .inl ⟨e,f⟩
 ·exact .inr ⟨k,z,e,h0,d⟩
theorem hi_cases {l len:Nat} {lo:Option AV} {a b:Option Value} (d:VO g lo a) (c:aBound len lo=some l) (j:b ≠ none->a ≠ none) :
  (a=none/\b=none/\l=len) \/ ∃(k:IntKind) (z:Int),a=some (.int k z)/\0<=z/\z=l:=by
 rcases bound_cases d c with ⟨e,_,i⟩ | ⟨k,z,e,_,h0,f⟩
 ·refine .inl ⟨e,?_,i⟩;rcases b with _ | x
  ·rfl
  ·exact absurd e (j (by simp))
 ·exact .inr ⟨k,z,e,h0,f⟩

theorem slice_str_sound {t:TypeId} (r:P.underlying t=some .string) {s:List UInt8} {u:Value} {lo hi mx:Option AV} {e b f:Option Value} (q:V g (.str s) u) (o:VO g lo e) (k:VO g hi b) (c:VO g mx f)
  {v:AV} (a:aSlice (.str s) lo hi mx=some v):∃y,(Instr.sliceAt t u e b f).run P w=.ok y w/\V g v y:=by
 simp only [V] at q;obtain ⟨rfl,hs⟩:=q;unfold aSlice at a;simp only at a;split at a
 ·rename_i z;have:mx=none:=by simpa using z
  subst this;simp only [VO] at c;subst c;unfold aSliceStr at a;split at a
  ·rename_i l hh p n;split at a
   ·rename_i i;cases a;rw [sliceAt_of r (by simp)];have j:(⟨s.toArray⟩:ByteArray).size=s.length:=by simp [ByteArray.size]
    have x:=slice_bounds (P:=P) (w:=w) (isS:=false) (len:=s.length) (cap:=s.length) (l:=l) (hh:=hh) (m:=s.length) (d:=0) (mx:=none)
     (lo_cases o p) (hi_cases k n λh=>absurd rfl h)
     (.inl ⟨rfl,rfl⟩) i.1 i.2 (Nat.le_refl _) rfl
    refine ⟨.string ((⟨s.toArray⟩:ByteArray).extract l hh),?_,?_⟩
    ·simp [Instr.slice,yc r,j,x]
    ·simp only [V];refine ⟨?_,by simp;omega⟩;congr 1;apply ByteArray.ext;simp [ByteArray.data_extract,List.extract_eq_take_drop,List.drop_take]
   ·cases a
  ·cases a
 ·cases a

theorem slice_sl_sound {t e:TypeId} {i:TypeInfo} (S:P.underlying t=some (.slice e)) (hi:P.info? e=some i) {x:Bool} {es:List (List AV)} {a:Option Addr} {c:Nat} {lo G mx:Option AV} {A q p:Option Value}
  (h1:es.length<=c) (Z:c<=maxLen) (U:es=[] \/ ∃b o,a=some ⟨b,o,none⟩/\VE g b i.size o es) (D:x=true->c=es.length) (N:VO g lo A) (F:VO g G q) (r:VO g mx p)
  {v:AV} (n:aSliceSl x i.size es lo G mx=some v):∃y,(Instr.sliceAt t (.slice a es.length c) A q p).run P w=.ok y w/\V g v y:=by
 unfold aSliceSl at n;split at n
 ·rename_i l hh Q s;split at n
  ·rename_i K
   -- the j of what is cut
   have j:∀m,hh<=m->(es.take hh).drop l=[] \/ ∃b o,(if m=l then a else a.map (·.add (l * i.size)))=some ⟨b,o,none⟩/\VE g b i.size o ((es.take hh).drop l):=by
    intro m H;by_cases hl:l=hh
    ·left;rw [hl];simp
    ·rcases U with rfl | ⟨b,o,rfl,O⟩
     ·left;simp
     ·right;have R:m ≠ l:=by omega
      refine ⟨b,o+l * i.size,by simp [R,xS],VE.drop l (VE.take hh O)⟩
   have f:((es.take hh).drop l).length=hh - l:=by simp;omega
   rw [sliceAt_of S (by simp)];have C:∀(m:Nat) (v:AV),hh<=m->m<=c->(p=none/\m=c \/ ∃(k:IntKind) (z:Int),p=some (.int k z)/\0<=z/\z=m)->(p ≠ none->q ≠ none) ->
     (v=.sl i.size ((es.take hh).drop l) \/ (v=.osl none i.size ((es.take hh).drop l)/\m=hh))->∃y,(Instr.slice t (.slice a es.length c) A q p).run P w=.ok y w/\V g v y:=by
    intro m v H I Y J T;have X:=slice_bounds (P:=P) (w:=w) (isS:=true) (len:=es.length) (cap:=c) (l:=l) (hh:=hh) (m:=m) (d:=0) (lo_cases N Q)
     (hi_cases F s J) Y K.1 H I rfl
    refine ⟨.slice (if m=l then a else a.map (·.add (l * i.size))) (hh - l) (m - l),?_,?_⟩
    ·simp [Instr.slice,yc S,X,xJ hi]
    ·rcases T with rfl | ⟨rfl,rfl⟩
     ·simp only [V];exact ⟨_,m - l,by rw [f],by rw [f];omega,by omega,j m H⟩
     ·simp only [V];exact ⟨_,m - l,by rw [f],by rw [f];omega,by omega,j m H,by rw [f]⟩
   cases mx with
   | none =>
    simp only [VO] at r;subst r;simp only [Option.some.injEq] at n;split at n
    ·rename_i M;subst n;simp only [Bool.and_eq_true,Option.isNone_iff_eq_none] at M;have hc:=D M.1;have L:hh=es.length:=by
      rw [M.2] at s;simpa [aBound] using s.symm
     have W:es.drop l=(es.take hh).drop l:=by rw [L,List.take_length]
     rw [W];exact C c _ (by omega) (Nat.le_refl _) (.inl ⟨rfl,rfl⟩) (λh=>absurd rfl h) (.inr ⟨rfl,by omega⟩)
    ·subst n;exact C c _ (by omega) (Nat.le_refl _) (.inl ⟨rfl,rfl⟩) (λh=>absurd rfl h) (.inl rfl)
   | some xm =>
    cases xm with
    | int km zm =>
     simp only at n;split at n
     ·rename_i E;cases n;simp only [VO,V] at r;obtain ⟨u,rfl,rfl⟩:=r;refine C hh _ (Nat.le_refl _) (by omega) (.inr ⟨km,zm,rfl,by omega,by omega⟩) (λ_=>?_) (.inr ⟨rfl,rfl⟩);rcases bound_cases F s with ⟨_,e,_⟩ | ⟨k,z,e,_⟩
      ·rw [e] at E;simp at E
      ·rw [e];simp
     ·cases n
    | _=>simp at n
  ·cases n
 ·cases n

theorem foldl_splice:∀(vs:List Value) (cells:Array Value) (off a:Nat),off+a+vs.length<=cells.size ->
  ((vs.zipIdx a).foldl (λcs p=>cs.setIfInBounds (off+p.2) p.1) cells).toList=cells.toList.take (off+a)++vs++cells.toList.drop (off+a+vs.length)
 | [],cells,off,a,_=>by simp
 | v::r,cells,off,a,h=>by
  simp only [List.length_cons] at h;simp only [List.zipIdx_cons,List.foldl_cons];rw [foldl_splice r (cells.setIfInBounds (off+a) v) off (a+1) (by simp;omega)];simp only [Array.toList_setIfInBounds];have b:(cells.toList.set (off+a) v).take (off+(a+1))=cells.toList.take (off+a)++[v]:=by
   rw [show off+(a+1)=off+a+1 by omega,List.take_add_one,List.getElem?_set_self (by simp;omega),List.take_set_of_le (Nat.le_refl _)];rfl
  rw [b,List.drop_set_of_lt (by omega),List.length_cons,show off+(a+1)+r.length=off+a+(r.length+1) by omega];simp

theorem fill_sound {c:Nat->Option (Nat×Nat)} {place':Nat->Option (Nat×Nat)} (e:∀i x,c i=some x->place' i=some x):∀{parts:List (Nat×AV)} {pvs:List (Nat×Value)} {cs out:List AV} {us:Array Value},
  VA g cs us.toList->parts.length=pvs.length->(∀(j:Nat) (p:Nat×AV) (q:Nat×Value),parts[j]?=some p->pvs[j]?=some q->p.1=q.1/\V g p.2 q.2) ->
  vu c cs parts=some out->∃xs:Array Value,Instr.fill place' us pvs=some xs/\VA g out xs.toList
 | [],[],cs,out,us,hv,_,_,ha=>by
  simp only [vu,Option.some.injEq] at ha;subst ha;exact ⟨us,rfl,hv⟩
 | (i,a)::r,(i',u)::s,cs,out,us,hv,hl,hp,ha=>by
  obtain ⟨rfl,z⟩:=hp 0 _ _ rfl rfl;simp only [vu] at ha;split at ha
  ·rename_i off size vs m o;split at ha
   ·rename_i n;have d:=z.cells o;have v:u.cells.size=size:=by rw [<- n.1,d.length];rfl
    have A:cs.length=us.size:=by rw [hv.length];rfl
    have b:=foldl_splice u.cells.toList us off 0 (by simp;omega);simp only [Nat.add_zero] at b;have f:=splice_VA (off:=off) hv d;obtain ⟨xs,k,l⟩:=fill_sound e (parts:=r) (pvs:=s) (us:=(u.cells.toList.zipIdx 0).foldl (λcs p=>cs.setIfInBounds (off+p.2) p.1) us) (by rw [b];exact f) (by simpa using hl)
     (λj p q t y=>hp (j+1) p q (by simpa using t) (by simpa using y)) ha
    refine ⟨xs,?_,l⟩;have t:¬ (u.cells.size ≠ size \/ off+u.cells.size > us.size):=by omega
    simp only [Instr.fill,e _ _ m];rw [if_neg (by simpa using t)];rw [<- k];congr 1;rw [<- Array.foldl_toList,Array.toList_zipIdx]
   ·cases ha
  ·cases ha
 | [],_::_,_,_,_,_,hl,_,_=>by simp at hl
 | _::_,[],_,_,_,_,hl,_,_=>by simp at hl
end
end Go.Vv
