/- Each operation of the model: slices, structs, comparisons, integers. -/
import Derived.Test.YtdgbnljehpacjaaGreatVvD
import Derived.Great.BuildSlice
import Derived.ChangeKeysEq
import Derived.MapKept
import Derived.Carry
set_option linter.all false
namespace Go.Vv
open Go Go.RowKit Go.Lib
variable {l:Nat} {lo:Option AV} {t:TypeId} {lov:Option Value}
section
variable {P:Program} {w:World} {g:Gh} {h:AH} {B:Nat} {w0:World}

def VO (g:Gh):Option AV->Option Value->Prop
 | none,v=>v=none
 | some a,v=>∃u,v=some u/\V g a u

theorem bound_cases {d n:Nat} {x:Option AV} {b:Option Value} (c:VO g x b) (a:aBound d x=some n):(b=none/\x=none/\n=d) \/ ∃(k:IntKind) (z:Int),b=some (.int k z)/\x.isSome=true/\0<=z/\z=n:=by
 unfold aBound at a;split at a
 ·simp only [VO] at c
  simp_all
 ·rename_i k z;split at a
  ·rename_i e;simp only [VO,V] at c
   grind
  ·cases a
 ·cases a


theorem qB {isS:Bool} {len cap hh m d:Nat} {lo hi mx:Option Value}
  (x:(lo=none/\l=0) \/ ∃(k:IntKind) (z:Int),lo=some (.int k z)/\0<=z/\z=l)
  (j:(hi=none/\mx=none/\hh=len) \/ ∃(k:IntKind) (z:Int),hi=some (.int k z)/\0<=z/\z=hh)
  (y:(mx=none/\m=cap) \/ ∃(k:IntKind) (z:Int),mx=some (.int k z)/\0<=z/\z=m) (E:l<=hh) (D:hh<=m) (G:m<=cap) (_:d=0) :
  (Instr.sliceBounds isS len cap lo hi mx).run P w=.ok (l,hh,m) w:=by
 rcases y with ⟨rfl,rfl⟩ | ⟨H,c,rfl,r,u⟩ <;> rcases j with ⟨rfl,e,rfl⟩ | ⟨F,a,rfl,v,s⟩ <;> rcases x with ⟨rfl,rfl⟩ | ⟨I,b,rfl,p,C⟩ <;>
  first
  | (cases e;done)
  | (
       have o:b.toNat=l:=by omega
       have f:a.toNat=hh:=by omega
       have A:c.toNat=m:=by omega
       have n:b<=hh:=by omega
       have i:a<=m:=by omega
       have q:c<=cap:=by omega
       simp [Instr.sliceBounds,run_sliceBound, *];done)
  | (
       have f:a.toNat=hh:=by omega
       have A:c.toNat=m:=by omega
       have i:a<=m:=by omega
       have q:c<=cap:=by omega
       simp [Instr.sliceBounds,run_sliceBound, *];done)
  | (
       have o:b.toNat=l:=by omega
       have f:a.toNat=hh:=by omega
       have n:b<=hh:=by omega
       have i:a<=m:=by omega
       simp [Instr.sliceBounds,run_sliceBound, *];done)
  | (
       have o:b.toNat=l:=by omega
       have n:b<=hh:=by omega
       simp [Instr.sliceBounds,run_sliceBound, *];done)
  | (
       have f:a.toNat=hh:=by omega
       have i:a<=m:=by omega
       simp [Instr.sliceBounds,run_sliceBound, *];done)
  | (simp [Instr.sliceBounds];done)

theorem sliceAt_of {d:TypeDesc} (a:P.underlying t=some d) (hd:∀n e,d ≠ .array n e) (x:Value) (lo hi mx:Option Value):(Instr.sliceAt t x lo hi mx).run P w=(Instr.slice t x lo hi mx).run P w:=by
 cases d <;> (first | exact absurd rfl (hd _ _) | simp only [Instr.sliceAt,Sem.run_bind,ym a,Result.andThen_ok])

theorem lo_cases (b:VO g lo lov) (a:aBound 0 lo=some l):(lov=none/\l=0) \/ ∃(k:IntKind) (z:Int),lov=some (.int k z)/\0<=z/\z=l:=by
 rcases bound_cases b a with ⟨e,_,d⟩ | ⟨k,z,e,_,h0,c⟩
 ·simp_all
 ·simp_all
theorem hi_cases {len:Nat} {a:Option Value} (c:VO g lo lov) (b:aBound len lo=some l) (d:a ≠ none->lov ≠ none) :
  (lov=none/\a=none/\l=len) \/ ∃(k:IntKind) (z:Int),lov=some (.int k z)/\0<=z/\z=l:=by
 rcases bound_cases c b with ⟨e,_,i⟩ | ⟨k,z,e,_,h0,f⟩
 ·simp_all
 ·simp_all

theorem slice_str_sound (p:P.underlying t=some .string) {s:List UInt8} {q:Value} {lo hi mx:Option AV} {lov e b:Option Value} (r:V g (.str s) q) (o:VO g lo lov) (k:VO g hi e) (c:VO g mx b)
  {v:AV} (a:aSlice (.str s) lo hi mx=some v):∃y,(Instr.sliceAt t q lov e b).run P w=.ok y w/\V g v y:=by
 simp only [V] at r;obtain ⟨rfl,hs⟩:=r;unfold aSlice at a;simp only at a;split at a
 ·rename_i x;have:mx=none:=by simp_all
  subst this;simp only [VO] at c;subst c;unfold aSliceStr at a;split at a
  ·rename_i l hh i j;split at a
   ·rename_i f;cases a;rw [sliceAt_of p (by simp)];have n:(⟨s.toArray⟩:ByteArray).size=s.length:=by rfl
    have u:=qB (P:=P) (w:=w) (isS:=false) (len:=s.length) (cap:=s.length) (l:=l) (hh:=hh) (m:=s.length) (d:=0) (mx:=none)
     (lo_cases o i) (hi_cases k j λh=>absurd rfl h)
     (.inl ⟨rfl,rfl⟩) f.1 f.2 (uh _) rfl
    refine ⟨.string ((⟨s.toArray⟩:ByteArray).extract l hh),?_,?_⟩
    ·simp [Instr.slice,ym p,n,u]
    ·simp only [V];refine ⟨?_,by simp;omega⟩;congr 1;apply ByteArray.ext;simp [ByteArray.data_extract,rz,pm]
   ·cases a
  ·cases a
 ·cases a

theorem slice_sl_sound {e:TypeId} {i:TypeInfo} (O:P.underlying t=some (.slice e)) (hi:P.info? e=some i) {x:Bool} {es:List (List AV)} {a:Option Addr} {c:Nat} {lo D mx:Option AV} {lov s n:Option Value}
  (Z:es.length<=c) (Y:c<=maxLen) (T:es=[] \/ ∃b o,a=some ⟨b,o,none⟩/\VE g b i.size o es) (C:x=true->c=es.length) (M:VO g lo lov) (E:VO g D s) (r:VO g mx n)
  {v:AV} (j:aSliceSl x i.size es lo D mx=some v):∃y,(Instr.sliceAt t (.slice a es.length c) lov s n).run P w=.ok y w/\V g v y:=by
 unfold aSliceSl at j;split at j
 ·rename_i l hh H q;split at j
  ·rename_i N
   -- the f of what is cut
   have f:∀m,hh<=m->(es.take hh).drop l=[] \/ ∃b o,(if m=l then a else a.map (·.add (l * i.size)))=some ⟨b,o,none⟩/\VE g b i.size o ((es.take hh).drop l):=by
    intro m F;by_cases hl:l=hh
    ·simp_all
    ·rcases T with rfl | ⟨b,o,rfl,G⟩
     ·left;simp
     ·right;have L:m ≠ l:=by omega
      refine ⟨b,o+l * i.size,by simp [L,x6],VE.drop l (VE.take hh G)⟩
   have p:((es.take hh).drop l).length=hh - l:=by simp;omega
   rw [sliceAt_of O (by simp)];have A:∀(m:Nat) (v:AV),hh<=m->m<=c->(n=none/\m=c \/ ∃(k:IntKind) (z:Int),n=some (.int k z)/\0<=z/\z=m)->(n ≠ none->s ≠ none) ->
     (v=.sl i.size ((es.take hh).drop l) \/ (v=.osl none i.size ((es.take hh).drop l)/\m=hh))->∃y,(Instr.slice t (.slice a es.length c) lov s n).run P w=.ok y w/\V g v y:=by
    intro m v F J R K X;have S:=qB (P:=P) (w:=w) (isS:=true) (len:=es.length) (cap:=c) (l:=l) (hh:=hh) (m:=m) (d:=0) (lo_cases M H)
     (hi_cases E q K) R N.1 F J rfl
    refine ⟨.slice (if m=l then a else a.map (·.add (l * i.size))) (hh - l) (m - l),?_,?_⟩
    ·simp [Instr.slice,ym O,S,xB hi]
    ·rcases X with rfl | ⟨rfl,rfl⟩
     ·simp only [V];exact ⟨_,m - l,by rw [p],by omega,by omega,f m F⟩
     ·simp only [V];exact ⟨_,m - l,by rw [p],by omega,by omega,f m F,by rw [p]⟩
   cases mx with
   | none =>
    simp only [VO] at r;subst r;simp only [ui] at j;split at j
    ·rename_i I;subst j;simp only [ud,Option.isNone_iff_eq_none] at I;have hc:=C I.1;have Q:hh=es.length:=by
      rw [I.2] at q;simpa [aBound] using q.symm
     have W:es.drop l=(es.take hh).drop l:=by simp_all
     rw [W];exact A c _ (by omega) (uh _) (.inl ⟨rfl,rfl⟩) (λh=>absurd rfl h) (.inr ⟨rfl,by omega⟩)
    ·subst j;exact A c _ (by omega) (uh _) (.inl ⟨rfl,rfl⟩) (λh=>absurd rfl h) (.inl rfl)
   | some xm =>
    cases xm with
    | int km zm =>
     simp only at j;split at j
     ·rename_i U;cases j;simp only [VO,V] at r;obtain ⟨u,rfl,rfl⟩:=r;refine A hh _ (uh _) (by omega) (.inr ⟨km,zm,rfl,by omega,by omega⟩) (λ_=>?_) (.inr ⟨rfl,rfl⟩);rcases bound_cases E q with ⟨_,e,_⟩ | ⟨k,z,e,_⟩
      ·simp_all
      ·simp_all
     ·cases j
    | _=>simp at j
  ·cases j
 ·cases j

theorem foldl_splice:∀(vs:List Value) (cells:Array Value) (off a:Nat),off+a+vs.length<=cells.size ->
  ((vs.zipIdx a).foldl (λcs p=>cs.setIfInBounds (off+p.2) p.1) cells).toList=cells.toList.take (off+a)++vs++cells.toList.drop (off+a+vs.length)
 | [],cells,off,a,_=>by simp
 | v::r,cells,off,a,h=>by
  simp only [uu] at h;simp only [pD,so];rw [foldl_splice r (cells.setIfInBounds (off+a) v) off (a+1) (by simp;omega)];simp only [pn];have b:(cells.toList.set (off+a) v).take (off+(a+1))=cells.toList.take (off+a)++[v]:=by
   rw [show off+(a+1)=off+a+1 by omega,tC,uE (by simp;omega),sU (uh _)];rfl
  rw [b,sV (by omega),uu,show off+(a+1)+r.length=off+a+(r.length+1) by omega];simp

theorem fill_sound {b:Nat->Option (Nat×Nat)} {place':Nat->Option (Nat×Nat)} (d:∀i x,b i=some x->place' i=some x):∀{parts:List (Nat×AV)} {pvs:List (Nat×Value)} {cs out:List AV} {us:Array Value},
  VA g cs us.toList->parts.length=pvs.length->(∀(j:Nat) (p:Nat×AV) (q:Nat×Value),parts[j]?=some p->pvs[j]?=some q->p.1=q.1/\V g p.2 q.2) ->
  vN b cs parts=some out->∃xs:Array Value,Instr.fill place' us pvs=some xs/\VA g out xs.toList
 | [],[],cs,out,us,hv,_,_,ha=>by
  simp only [vN,ui] at ha;subst ha;exact ⟨us,rfl,hv⟩
 | (i,a)::r,(i',u)::s,cs,out,us,hv,hl,hp,ha=>by
  obtain ⟨rfl,C⟩:=hp 0 _ _ rfl rfl;simp only [vN] at ha;split at ha
  ·rename_i off size vs k n;split at ha
   ·rename_i o;have e:=C.cells n;have v:u.cells.size=size:=by rw [<- o.1,e.length];rfl
    have A:cs.length=us.size:=by rw [hv.length];rfl
    have c:=foldl_splice u.cells.toList us off 0 (by simp;omega);simp only [tS] at c;have z:=splice_VA (off:=off) hv e;obtain ⟨xs,m,f⟩:=fill_sound d (parts:=r) (pvs:=s) (us:=(u.cells.toList.zipIdx 0).foldl (λcs p=>cs.setIfInBounds (off+p.2) p.1) us) (by grind) (by grind)
     (λj p q y D=>hp (j+1) p q (by grind) (by grind)) ha
    refine ⟨xs,?_,f⟩;have y:¬ (u.cells.size ≠ size \/ off+u.cells.size > us.size):=by omega
    simp only [Instr.fill,d _ _ k];rw [uC (by grind)];rw [<- m];congr 1;rw [<- po,Array.toList_zipIdx]
   ·cases ha
  ·cases ha
 | [],_::_,_,_,_,_,hl,_,_=>by simp at hl
 | _::_,[],_,_,_,_,hl,_,_=>by simp at hl
end
end Go.Vv
namespace Go.Vv
open Go Go.RowKit Go.Lib
variable {t:TypeId} {env:List AV}
section
variable {P:Program} {w:World} {g:Gh} {h:AH} {B:Nat} {w0:World}

theorem tyfix_one {t:TypeId} {a:AV} (h:a.one=true):(tyfix P t a).one=true:=by
 unfold tyfix;split
 ·split <;> rfl
 ·exact h
theorem VA.fix:∀{ts:List TypeId} {a5:List AV} {vs:List Value},VA g a5 vs->VA g (fixCells P ts a5) vs
 | [],_,_,h=>by simp only [fixCells];exact h
 | _::_,[],_,h=>by simp only [fixCells];exact h
 | t::ts,a::a5,vs,h=>by
  simp only [VA] at h;obtain ⟨v,s,rfl,⟨h0,c⟩,b⟩:=h;simp only [fixCells,VA];exact ⟨v,s,rfl,⟨tyfix_one h0,c.tyfix⟩,VA.fix b⟩
theorem wH {cs:List AV} (a:xl P t=some cs):∃i z,P.info? t=some i/\i.zero=some z/\VA g cs z.cells.toList:=by
 unfold xl at a;split at a
 ·rename_i i hi;split at a
  ·rename_i z c;split at a
   ·rename_i b;split at a
    ·rename_i cs' d;cases a;exact ⟨i,z,hi,c,((V.cv b).cells d).fix⟩
    ·cases a
   ·cases a
  ·cases a
 ·cases a

theorem parts_rel {d:TypeDesc} {a:Act} (m:VL g env a.tmps.toList) {parts:Array (Nat×Operand)} (e:(parts.all λp=>yr p.2)=true) :
  (xw P d env parts).length=(parts.map λ(i,x)=>(i,a.eval x)).toList.length /\
  ∀(j:Nat) (p:Nat×AV) (q:Nat×Value),(xw P d env parts)[j]?=some p->(parts.map λ(i,x)=>(i,a.eval x)).toList[j]?=some q->p.1=q.1/\V g p.2 q.2:=by
 refine ⟨by simp [xw],λj p q l k=>?_⟩;simp only [xw,sQ,rp,sj] at l k;obtain ⟨x,n,rfl⟩:=l;obtain ⟨y,c,rfl⟩:=k;rw [n] at c;injection c with c;subst c;have b:x ∈ parts:=by
  grind
 have f:=(tY.1 e) x b;exact ⟨rfl,(V.ev m f).tyfix⟩

theorem build_sound {a:Act} (y:VL g env a.tmps.toList) {parts:Array (Nat×Operand)} (m:(parts.all λp=>yr p.2)=true) {z out:List AV} (A:xl P t=some z)
  (b:(∃fs pl,P.underlying t=some (.struct fs)/\vD P fs=some pl/\vN (λi=>pl[i]?) z (xw P (.struct fs) env parts)=some out) \/
   ∃n e j,P.underlying t=some (.array n e)/\P.info? e=some j/\vN (λi=>some (i * j.size,j.size)) z (xw P (.array n e) env parts)=some out) :
  ∃u,(Instr.build t (parts.map λ(i,x)=>(i,a.eval x))).run P w=.ok u w/\V g (.agg out) u:=by
 obtain ⟨i,D,hi,k,l⟩:=wH (g:=g) A;rcases b with ⟨fs,pl,v,f,s⟩ | ⟨n,e,j,v,C,s⟩
 ·obtain ⟨q,o⟩:=parts_rel (P:=P) (d:=.struct fs) y m;obtain ⟨xs,r,c⟩:=fill_sound (place':=(pl.toArray[·]?)) (λi x h=>by simpa using h) l q o s;refine ⟨.agg xs,run_build w t _ xs ?_,by simp only [V];exact ⟨xs,rfl,c⟩⟩;unfold vD at f;simp only [Program.built,hi,v,k,f];omega
 ·obtain ⟨q,o⟩:=parts_rel (P:=P) (d:=.array n e) y m;obtain ⟨xs,r,c⟩:=fill_sound (place':=λi=>some (i * j.size,j.size)) (λi x h=>h) l q o s;refine ⟨.agg xs,run_build w t _ xs ?_,by simp only [V];exact ⟨xs,rfl,c⟩⟩;simp only [Program.built,hi,v,k,C];omega

theorem aEqL_split:∀(c:List Kd) {ls:List Kd} {a5 bs:List AV} {r:Bool},qW (c++ls) a5 bs=some r ->
  ∃e d,qW c (a5.take c.length) (bs.take c.length)=some e/\qW ls (a5.drop c.length) (bs.drop c.length)=some d/\r=(e&&d)/\c.length<=a5.length/\c.length<=bs.length
 | [],ls,a5,bs,r,h=>⟨true,r,by simp [qW],by simpa using h,by simp,by simp,by simp⟩
 | k::c,ls,[],bs,r,h=>by simp [qW] at h
 | k::c,ls,a::a5,[],r,h=>by simp [qW] at h
 | k::c,ls,a::a5,b::bs,r,h=>by
  simp only [tP,qW] at h;split at h
  ·rename_i x y j f;obtain ⟨e,d,i,l,o,m,n⟩:=aEqL_split c f;cases h;exact ⟨x&&e,d,by simp [qW,j,i],by simp_all,by grind,by simp_all,by simp_all⟩
  ·cases h

def KdOk (P:Program) (t:TypeId):Kd->Prop
 | .b=>P.underlying t=some .bool
 | .i=>∃j,P.underlying t=some (.int j)
 | .s=>P.underlying t=some .string

theorem eq1_run {k:Kd} {a b:AV} {x y:Value} {r:Bool} (d:V g a x) (e:V g b y) (c:aEq1 k a b=some r)
  (hd:KdOk P t k) (D:Nat):(Op.equalIn (D+1) t x y).run P w=.ok r w:=by
 unfold aEq1 at c;split at c
 ·cases c;simp only [V] at d e;subst d e;exact run_equalIn_bool w D t _ _ hd
 ·split at c
  ·rename_i f;cases c;simp only [V] at d e;subst d e f;obtain ⟨j,hd⟩:=hd;simp [Op.equalIn,run_underlying hd]
  ·cases c
 ·cases c;simp only [V] at d e;obtain ⟨rfl,_⟩:=d;obtain ⟨rfl,_⟩:=e;rw [run_equalIn_string w D t _ _ hd,ByteArray.toList_mk,ByteArray.toList_mk]
 ·cases c

def EqE (P:Program) (w:World) (g:Gh) (d:Nat):Prop:=∀{t:TypeId} {ks:List Kd} {i:TypeInfo},x5 P d t=some ks->P.info? t=some i->i.size=ks.length->∀{xs ys:Array Value} {a5 bs:List AV} {off:Nat} {r:Bool},VA g a5 xs.toList->VA g bs ys.toList ->
  qW ks ((a5.drop off).take ks.length) ((bs.drop off).take ks.length)=some r->∀D,d<=D->∃u v,(part t xs off).run P w=.ok u w/\(part t ys off).run P w=.ok v w/\(Op.equalIn D t u v).run P w=.ok r w

theorem eqF {d:Nat} (E:EqE P w g d):∀(fs:List Field) (acc:Nat) {j:List Kd},plainFs P d fs acc=some j->∀{xs l:Array Value} {a5 bs:List AV} {r:Bool},VA g a5 xs.toList->VA g bs l.toList ->
  qW j (a5.drop acc) (bs.drop acc)=some r->∀D,d<=D->(Op.eqFields D xs l fs).run P w=.ok r w
 | [],acc,j,h,xs,l,a5,bs,r,ha,hb,hr,D,_=>by
  simp only [plainFs,plainFsOf,ui] at h;subst h;have:r=true:=by
   rcases o:a5.drop acc with _ | ⟨a,s⟩ <;> rcases e:bs.drop acc with _ | ⟨b,C⟩ <;> simp [o,e,qW] at hr;exact hr
  subst this;rfl
 | f::fs,acc,j,h,xs,l,a5,bs,r,ha,hb,hr,D,hD=>by
  simp only [plainFs,plainFsOf] at h;split at h
  ·rename_i p;split at h
   ·rename_i q i n hi;split at h
    ·rename_i c;split at h
     ·rename_i k2 m;cases h;obtain ⟨x,I,o,e,k,G,H⟩:=aEqL_split q hr;obtain ⟨u,v,z,y,A⟩:=E n hi c ha hb o D hD;have F:=eqF E fs (acc+i.size) m ha hb (by rw [tB,tB,<- c] at e;exact e) D hD;simp only [Op.eqFields,uv p.1,p.2,Sem.run_bind,z,y,A,Result.andThen_ok];cases x with
      | true=>simp at k;subst k;simpa using F
      | false=>simp at k;subst k;simp
     ·cases h
    ·cases h
   ·cases h
  ·cases h
theorem eqE:∀(d:Nat),EqE P w g d:=by
 intro d
 induction d with
 | zero=>intro t n i h;simp [x5] at h
 | succ d ih =>
  intro t n i h hi l xs m a5 bs off r I G o D R;obtain ⟨D,rfl⟩:∃D',D=D'+1:=⟨D - 1,by omega⟩
  have one:∀(k:Kd),n=[k]->KdOk P t k ->
    ∃u v,(part t xs off).run P w=.ok u w/\(part t m off).run P w=.ok v w/\(Op.equalIn (D+1) t u v).run P w=.ok r w:=by
   intro k M hd;subst M;simp only [List.length_singleton] at o;rcases h1:a5.drop off with _ | ⟨a,K⟩
   ·simp [h1,qW] at o
   ·rcases h2:bs.drop off with _ | ⟨b,Q⟩
    ·simp [h1,h2,qW] at o
    ·have A:a5[off]?=some a:=by have:=congrArg (·[0]?) h1;simpa using this
     have z:bs[off]?=some b:=by have:=congrArg (·[0]?) h2;simpa using this
     obtain ⟨u,c,q⟩:=I.toVL.get _ _ A;obtain ⟨v,J,y⟩:=G.toVL.get _ _ z;rw [uK] at c J;have p:aEq1 k a b=some r:=by
      simp [h1,h2,qW] at o
      grind
     have e:∀dd,P.underlying t=some dd->yp dd=false->∃u v,(part t xs off).run P w=.ok u w/\(part t m off).run P w=.ok v w/\(Op.equalIn (D+1) t u v).run P w=.ok r w:=λdd f H =>
      ⟨u,v,by simp [part,run_agg f,H,c],by simp [part,run_agg f,H,J],eq1_run q y p hd D⟩
     cases k with
     | b=>exact e _ hd rfl
     | i=>obtain ⟨j,F⟩:=hd;exact e _ F rfl
     | s=>exact e _ hd rfl
  simp only [x5] at h;split at h
  ·rename_i c;cases h;exact one .b rfl c
  ·rename_i j c;cases h;exact one .i rfl ⟨j,c⟩
  ·rename_i c;cases h;exact one .s rfl c
  ·rename_i fs c;split at h
   ·cases h
   ·rename_i L;have x:P.fieldsOf t=fs:=by simp [Program.fieldsOf,c]
    have O:(part t xs off).run P w=.ok (.agg (xs.extract off (off+i.size))) w:=by simp [part,run_agg c,yp,xB hi]
    have N:(part t m off).run P w=.ok (.agg (m.extract off (off+i.size))) w:=by simp [part,run_agg c,yp,xB hi]
    refine ⟨_,_,O,N,?_⟩;rw [run_equalIn_struct w D t _ _ (by simp_all) (by simp_all),x];have C:VA g ((a5.drop off).take n.length) (xs.extract off (off+i.size)).toList:=by
     rw [Array.toList_extract,rz,show off+i.size - off=i.size by omega,l];exact VA.take _ (VA.drop _ I)
    have E:VA g ((bs.drop off).take n.length) (m.extract off (off+i.size)).toList:=by
     rw [Array.toList_extract,rz,show off+i.size - off=i.size by omega,l];exact VA.take _ (VA.drop _ G)
    exact eqF ih fs.toList 0 h C E (by simp_all) D (by omega)
  ·cases h
theorem eqItems_sound {e:TypeId} {i:TypeInfo} (o:x5 P 1 e=some [.i]) (hi:P.info? e=some i) (hs:i.size=1) {us vs:Array Value} {cs ds:List AV} (p:VA g cs us.toList) (y:VA g ds vs.toList):∀(m s:Nat) {r:Bool},
  qW (List.replicate m .i) (cs.drop s) (ds.drop s)=some r->∀D,1<=D->(Op.eqItems D e (P.cellsOf e) us vs (List.range' s m)).run P w=.ok r w:=by
 have z:P.cellsOf e=1:=by simp [Program.cellsOf,hi,hs]
 intro m
 induction m with
 | zero =>
  intro s r h D _;rcases f:cs.drop s with _ | ⟨a,a5⟩ <;> rcases c:ds.drop s with _ | ⟨b,bs⟩ <;> simp [f,c,qW] at h;subst h;rfl
 | succ m ih =>
  intro s r h D j;obtain ⟨l,A,f,c,d,_⟩:=aEqL_split [.i] (ls:=List.replicate m .i) (by simpa [sW] using h);obtain ⟨u,v,q,n,x⟩:=eqE (P:=P) (w:=w) 1 o hi hs p y (off:=s) f D j;have k:=ih (s+1) (by rw [tB,tB] at c;exact c) D j;rw [z] at k ⊢;simp only [List.range'_succ,Op.eqItems,Nat.mul_one,Sem.run_bind,q,n,x,Result.andThen_ok];cases l with
  | true=>simp at d;subst d;simpa using k
  | false=>simp at d;subst d;simp
end
end Go.Vv
namespace Go.Vv
open Go Go.RowKit Go.Lib
variable {op:BinOp} {t ty:TypeId} {a b v:AV} {x y:Value} {ox oy:Operand} {d:TypeDesc}
section
variable {P:Program} {w:World} {g:Gh} {h:AH} {B:Nat} {w0:World}
theorem str_size (s:List UInt8):(⟨s.toArray⟩:ByteArray).size=s.length:=by rfl

def scal:AV->Value
 | .bool b=>.bool b
 | .int k n=>.int k n
 | .str s=>.string ⟨s.toArray⟩
 | _=>undef

theorem int_sound {k k':IntKind} {a b:Int} (i:k=k' \/ op=.shl \/ op=.shr) {ox oy:Operand} {v:AV} (c:xh op k a b=some v) :
  ∃u,(do eqGuard op t ox oy (.int k a) (.int k' b);binOp op t (.int k a) (.int k' b):Sem Value).run P w=.ok u w/\V g v u:=by
 refine ⟨scal v,?_,?_⟩
 ·simp only [eqGuard_at_int];cases op <;> simp only [xh,ui] at c
  case shl =>
   split at c
   ·cases c
   ·rename_i f;cases c;simp [binOp,Op.shift,f,scal]
  case shr =>
   split at c
   ·cases c
   ·rename_i f;cases c;simp [binOp,Op.shift,f,scal]
  case quo =>
   have e:k=k':=by simp_all
   split at c
   ·cases c
   ·rename_i f;cases c;simp [binOp,Op.intDiv,f,scal,e]
  case rem =>
   have e:k=k':=by simp_all
   split at c
   ·cases c
   ·rename_i f;cases c;simp [binOp,Op.intDiv,f,scal,e]
  all_goals
   have e:k=k':=by simp_all
   subst e c;simp [binOp,Op.intArith,Op.intCmp,Op.intBits,scal]
 ·cases op <;> simp only [xh,ui] at c <;> first
   | (subst c;simp only [scal,V];done)
   | (
         split at c
         · cases c
         · cases c;simp only [scal,V])

theorem str_sound {x y:List UInt8} (c:aStr op x y=some v) :
  ∃u,(do eqGuard op t ox oy (.string ⟨x.toArray⟩) (.string ⟨y.toArray⟩);binOp op t (.string ⟨x.toArray⟩) (.string ⟨y.toArray⟩):Sem Value).run P w=.ok u w/\V g v u:=by
 refine ⟨scal v,?_,?_⟩
 ·simp only [eqGuard_at_string];cases op <;> simp only [aStr,ui,reduceCtorEq] at c
  case add =>
   split at c
   ·rename_i e;cases c;have f:¬ ((9223372036854775807:Int) < (x.length:Int)+(y.length:Int)):=by simp only [maxLen] at e;omega
    simp [binOp,Op.stringOp,str_size,f,scal];rfl
   ·cases c
  all_goals
   subst c;simp [binOp,Op.stringOp,scal]
 ·cases op <;> simp only [aStr,ui,reduceCtorEq] at c <;> first
   | (subst c;simp only [scal,V];done)
   | (
         split at c
         · rename_i e;cases c;simp only [scal,V];exact ⟨trivial,by simp_all⟩
         · cases c)

theorem nil_sound (hd:P.underlying t=some d) {a b:AV} {x y:Value} (c:V g a x) (e:V g b y) {r:Bool} (i:aNil d a b=some r) (D:Nat):(Op.equalIn (D+1) t x y).run P w=.ok r w:=by
 unfold aNil at i;split at i <;> first
  | (
       cases i;simp only [V] at c e
       first
         | (subst c e;simp [Op.equalIn,ym hd];done)
         | (obtain ⟨_,_,rfl⟩:=c;subst e;simp [Op.equalIn,ym hd];done)
         | (obtain ⟨_,_,rfl⟩:=e;subst c;simp [Op.equalIn,ym hd];done)
         | (obtain ⟨_,_,rfl,_⟩:=c;subst e;simp [Op.equalIn,ym hd];done)
         | (obtain ⟨_,_,rfl,_⟩:=e;subst c;simp [Op.equalIn,ym hd];done)
         | (obtain ⟨_,_,_,rfl,_⟩:=c;subst e;simp [Op.equalIn,ym hd];done)
         | (
      obtain ⟨_,_,rfl,_,_,f⟩:=c;subst e;rcases f with f | ⟨_,_,rfl,_⟩
      ·cases f
      ·simp [Op.equalIn,ym hd])
         | (
      obtain ⟨_,_,rfl,_,_,f,_⟩:=c;subst e;rcases f with f | ⟨_,_,rfl,_⟩
      ·cases f
      ·simp [Op.equalIn,ym hd]))
  | cases i

theorem eq_sound (l:V g a x) (k:V g b y) {r:Bool} (f:aEq P t a b=some r):(Op.equalIn 10000 t x y).run P w=.ok r w:=by
 unfold aEq at f;split at f
 ·rename_i cs ds;split at f
  ·rename_i z;split at f
   ·rename_i A c;simp only [V] at l k;obtain ⟨us,rfl,o⟩:=l;obtain ⟨vs,rfl,p⟩:=k;have q:=z.2;rcases hd:P.underlying t with _ | d
    ·simp_all
    ·cases d <;> simp [hd,yp] at q
     ·rename_i n e;simp only [x5,arrKs,hd,Option.none_or] at c;split at c
      ·rename_i j i u hi;split at c
       ·rename_i hs;cases c;rw [show (10000:Nat)=9999+1 from rfl,run_equalIn_array w 9999 us vs hd hi,List.range_eq_range'];exact eqItems_sound (by simp [x5,u]) hi hs o p n 0 (by simp_all) 9999 (by omega)
       ·cases c
      ·cases c
     ·rename_i fs;have m:P.fieldsOf t=fs:=by simp [Program.fieldsOf,hd]
      simp only [x5,arrKs,hd,Option.or_none] at c;split at c
      ·cases c
      ·rename_i s;rw [show (10000:Nat)=9999+1 from rfl,run_equalIn_struct w 9999 t _ _ (by simp_all) (by simp_all),m];exact eqF (eqE 5) fs.toList 0 c o p (by simp_all) 9999 (by omega)
   ·cases f
  ·cases f
 ·split at f
  ·rename_i hd;cases f;simp only [V] at l k;subst l k;exact run_equalIn_bool w 9999 t _ _ hd
  ·cases f
 ·split at f
  ·rename_i d hd;exact nil_sound hd l k f 9999
  ·cases f

theorem eq_bin (c:V g a x) (e:V g b y) {r:Bool} (i:aEq P t a b=some r) :
  (do eqGuard .eql t ox oy x y;binOp .eql t x y:Sem Value).run P w=.ok (.bool r) w/\(do eqGuard .neq t ox oy x y;binOp .neq t x y:Sem Value).run P w=.ok (.bool !r) w:=by
 have f:=eq_sound (w:=w) c e i;unfold aEq at i;split at i
 ·split at i
  ·rename_i j;simp only [V] at c e;obtain ⟨us,rfl,_⟩:=c;obtain ⟨vs,rfl,_⟩:=e;simp [run_eqGuard_agg w _ t ox oy us vs j.1,run_eql_struct,run_neq_struct,f]
  ·cases i
 ·simp only [V] at c e;subst c e;simp [eqGuard_at_bool,binOp,Op.equal,Op.maxDepth,f]
 ·split at i
  ·unfold aNil at i;split at i <;> first
    | (cases i;done)
    | (
           simp only [V] at c e
           first
             | (subst c e;simp [eqGuard,binOp,Op.equal,Op.maxDepth,f];done)
             | (obtain ⟨_,_,rfl⟩:=c;subst e;simp [eqGuard,binOp,Op.equal,Op.maxDepth,f];done)
             | (obtain ⟨_,_,rfl⟩:=e;subst c;simp [eqGuard,binOp,Op.equal,Op.maxDepth,f];done)
             | (obtain ⟨_,_,rfl,_⟩:=c;subst e;simp [eqGuard,binOp,Op.equal,Op.maxDepth,f];done)
             | (obtain ⟨_,_,rfl,_⟩:=e;subst c;simp [eqGuard,binOp,Op.equal,Op.maxDepth,f];done)
             | (obtain ⟨_,_,_,rfl,_⟩:=c;subst e;simp [eqGuard,binOp,Op.equal,Op.maxDepth,f];done)
             | (obtain ⟨A,C,k,_⟩:=c;subst e;rw [k] at f ⊢;revert f;generalize List.length _=n;intro f;simp [eqGuard,binOp,Op.equal,Op.maxDepth,f];done))
  ·cases i

theorem ifc_sound (f:V g a x) (i:V g b y) (c:aIfc P op t oy a b=some v) :
  ∃u,(do eqGuard op t ox oy x y;binOp op t x y:Sem Value).run P w=.ok u w/\V g v u:=by
 unfold aIfc at c;split at c
 ·rename_i hd;simp only [V] at f i;subst f i;have e:(Op.equalIn 10000 t .nilIface .nilIface).run P w=.ok true w:=(show ∀D,(Op.equalIn (D+1) t .nilIface .nilIface).run P w=.ok true w from λD=>by simp [Op.equalIn,ym hd]) 9999;split at c
  ·cases c;exact ⟨.bool true,by simp [eqGuard,binOp,Op.equal,Op.maxDepth,e],by simp only [V]⟩
  ·cases c;exact ⟨.bool false,by simp [eqGuard,binOp,Op.equal,Op.maxDepth,e],by simp only [V]⟩
  ·cases c
 ·rename_i hd;simp only [V] at f i;obtain ⟨u,rfl,_⟩:=f;subst i;rename_i j _ _;have e:(Op.equalIn 10000 t (.iface j u) .nilIface).run P w=.ok false w:=(show ∀D,(Op.equalIn (D+1) t (.iface j u) .nilIface).run P w=.ok false w from λD=>by simp [Op.equalIn,ym hd]) 9999;split at c
  ·cases c;exact ⟨.bool false,by simp [eqGuard,binOp,Op.equal,Op.maxDepth,e],by simp only [V]⟩
  ·cases c;exact ⟨.bool true,by simp [eqGuard,binOp,Op.equal,Op.maxDepth,e],by simp only [V]⟩
  ·cases c
 ·cases c

theorem nilq_sound {h:AH} (u:V g a x) (s:V g b y) {S:AV->AH->Prop} (l:aNilq P op t h a b=some S) :
  ∃r,(do eqGuard op t ox oy x y;binOp op t x y:Sem Value).run P w=.ok (.bool r) w/\S (.bool r) h:=by
 have p:∀(D:Nat) (es:List (List AV)) (i:Option Addr) (c:Nat) (e:TypeId),P.underlying t=some (.slice e)->(es=[] \/ ∃b o,i=some ⟨b,o,none⟩)->∃r,(Op.equalIn (D+1) t (.slice i es.length c) (.slice none 0 0)).run P w=.ok r w/\(r=true->es=[]):=by
  intro D es i c e j f;cases i with
  | none =>
   rcases f with rfl | ⟨_,_,h⟩
   ·exact ⟨true,by simp [Op.equalIn,ym j],λ_=>rfl⟩
   ·cases h
  | some i=>exact ⟨false,by simp [Op.equalIn,ym j],λh=>by cases h⟩
 have key:∀(es:List (List AV)) (i:Option Addr) (c:Nat) (e:TypeId),P.underlying t=some (.slice e)->(es=[] \/ ∃b o,i=some ⟨b,o,none⟩)->∃r,(Op.equalIn 10000 t (.slice i es.length c) (.slice none 0 0)).run P w=.ok r w/\(r=true->es=[]):=λes i c e j f=>p 9999 es i c e j f;unfold aNilq at l;split at l
 ·rename_i k es;simp only [V] at u s;obtain ⟨i,c,rfl,_,_,f⟩:=u;subst s;split at l
  ·rename_i e j;obtain ⟨r,n,m⟩:=key es i c e j (f.imp id λ⟨b,o,h,_⟩=>⟨b,o,h⟩);cases l;exact ⟨r,by simp [eqGuard,binOp,Op.equal,Op.maxDepth,n],rfl,r,rfl,m⟩
  ·rename_i e j;obtain ⟨r,n,m⟩:=key es i c e j (f.imp id λ⟨b,o,h,_⟩=>⟨b,o,h⟩);cases l;exact ⟨!r,by simp [eqGuard,binOp,Op.equal,Op.maxDepth,n],rfl,r,rfl,m⟩
  ·cases l
 ·rename_i q k es;simp only [V] at u s;obtain ⟨i,c,rfl,_,_,f,_⟩:=u;subst s;split at l
  ·rename_i e j;obtain ⟨r,n,m⟩:=key es i c e j (f.imp id λ⟨b,o,h,_⟩=>⟨b,o,h⟩);cases l;exact ⟨r,by simp [eqGuard,binOp,Op.equal,Op.maxDepth,n],rfl,r,rfl,m⟩
  ·rename_i e j;obtain ⟨r,n,m⟩:=key es i c e j (f.imp id λ⟨b,o,h,_⟩=>⟨b,o,h⟩);cases l;exact ⟨!r,by simp [eqGuard,binOp,Op.equal,Op.maxDepth,n],rfl,r,rfl,m⟩
  ·cases l
 ·cases l
theorem bin_sound (e:V g a x) (f:V g b y) (c:yM P op t a b=some v) :
  ∃u,(do eqGuard op t ox oy x y;binOp op t x y:Sem Value).run P w=.ok u w/\V g v u:=by
 unfold yM at c;split at c
 ·split at c
  ·rename_i i;simp only [V] at e f;subst e f;exact int_sound i c
  ·cases c
 ·simp only [V] at e f;obtain ⟨rfl,_⟩:=e;obtain ⟨rfl,_⟩:=f;exact str_sound c
 ·split at c
  ·rcases hr:aEq P t a b with _ | r
   ·simp_all
   ·simp [hr] at c;subst c;exact ⟨_,(eq_bin e f hr).1,by simp only [V]⟩
  ·rcases hr:aEq P t a b with _ | r
   ·simp_all
   ·simp [hr] at c;subst c;exact ⟨_,(eq_bin e f hr).2,by simp only [V]⟩
  ·cases c

theorem un_sound {op:UnOp} (e:V g a x) (c:aUn op a=some v):∃u,(Op.unary op x).run P w=.ok u w/\V g v u:=by
 unfold aUn at c;split at c
 ·simp only [V] at e;subst e;split at c
  ·cases c;exact ⟨_,rfl,by simp only [V]⟩
  ·cases c;exact ⟨_,rfl,by simp only [V]⟩
  ·cases c
 ·simp only [V] at e;subst e;split at c
  ·cases c;exact ⟨_,by rfl,by simp only [V]⟩
  ·cases c
 ·cases c

theorem convert_sound {s:TypeId} {ds:TypeDesc} (hs:P.underlying s=some ds) (hd:P.underlying t=some d) {a v:AV} {x:Value} (e:V g a x) (c:aConvert d a=some v) :
  ∃u,(convert s t x).run P w=.ok u w/\V g v u:=by
 unfold aConvert at c;split at c
 ·simp only [V] at e;subst e;split at c
  ·cases c;exact ⟨_,by simp [convert,ym hs,ym hd,Conv.intToInt];rfl,by simp only [V]⟩
  ·cases c
 ·simp only [V] at e;obtain ⟨rfl,f⟩:=e;split at c
  ·cases c;exact ⟨_,by simp [convert,ym hs,ym hd];rfl,by simp only [V];exact ⟨trivial,f⟩⟩
  ·cases c
 ·cases c

theorem len_str_sound (f:P.underlying t=some .string) {s:List UInt8} {x:Value} (c:V g (.str s) x) :
  (Builtin.len_ #[t] ty #[x]).run P w=.ok (.int .i64 s.length) w/\s.length<=maxLen:=by
 simp only [V] at c;obtain ⟨rfl,e⟩:=c;exact ⟨by simp [Builtin.len_,ym f,str_size,goInt],e⟩
theorem len_sl_sound {e:TypeId} (i:P.underlying t=some (.slice e)) {a:AV} {x:Value} (c:V g a x) {n:Nat} (f:aLen a=some n) :
  (Builtin.len_ #[t] ty #[x]).run P w=.ok (.int .i64 n) w/\n<=maxLen:=by
 unfold aLen at f;split at f <;> first
  | (
       cases f;simp only [V] at c
       first
         | (obtain ⟨_,_,rfl,k,j,_⟩:=c;exact ⟨by simp [Builtin.len_,ym i,goInt],by omega⟩)
         | (obtain ⟨_,_,_,rfl,k,j⟩:=c;exact ⟨by simp [Builtin.len_,ym i,goInt],by omega⟩)
         | (subst c;exact ⟨by simp [Builtin.len_,ym i,goInt],by simp⟩))
  | cases f

theorem VA.flatten {z:List AV} {c:List Value} (h:VA g z c):∀n,VA g (List.replicate n z).flatten (List.replicate n c).flatten
 | 0=>by rfl
 | n+1=>by
  simp only [sW,te];exact VA.append h (VA.flatten h n)
theorem range_rep (c:Array Value):∀n:Nat,(List.range (n * c.size)).map (λi=>c[i % c.size]!)=(List.replicate n c.toList).flatten
 | 0=>by simp
 | n+1=>by
  rw [sC,pW,List.range_add,tE,sW,te,<- range_rep c n,s6];congr 1
  ·apply List.ext_getElem
   ·simp
   ·intro i f e;simp at f e;simp [pE e,e]
  ·simp_all

theorem aFill_len {c:Nat->Option (Nat×Nat)}:∀{parts:List (Nat×AV)} {cs out:List AV},vN c cs parts=some out->out.length=cs.length
 | [],cs,out,h=>by simp only [vN,ui] at h;rw [h]
 | (i,v)::r,cs,out,h=>by
  simp only [vN] at h;split at h
  ·split at h
   ·rename_i e;rw [aFill_len h];simp [yX];omega
   ·cases h
  ·cases h
theorem buildSlice_sound (r:Rel B w0 g h w) {t e:TypeId} {n:Nat} {i:TypeInfo} {z cs out:List AV} {env:List AV} {a:Act} (he:VL g env a.tmps.toList) {parts:Array (Nat×Operand)} (L:(parts.all λp=>yr p.2)=true)
  (Q:P.underlying t=some (.slice e)) (hi:P.info? e=some i) (X:xl P e=some z) (f:0 < i.size) (Y:n * i.size<=65536) (q:z.length=i.size)
  (A:vN (λj=>some (j * i.size,i.size)) ((List.replicate n z).flatten) (xw P (.slice e) env parts)=some cs) (N:xy cs=some out) :
  ∃u w' g',(Instr.buildSlice t n (parts.map λ(i,x)=>(i,a.eval x))).run P w=.ok u w'/\g.le g'/\Rel B w0 g' h w'/\V g' (.osl none i.size (rows i.size n out)) u:=by
 obtain ⟨i',F,c,I,s⟩:=wH (g:=g) X;rw [hi] at c;injection c with c;subst c;have K:F.cells.size=i.size:=by rw [<- q,s.length];rfl
 rcases sy n with rfl | Z
 ·-- empty
  simp only [List.replicate_zero,rS] at A;rcases hp:xw P (.slice e) env parts with _ | ⟨⟨j,v⟩,rest⟩
  ·have H:parts=#[]:=by
    have:parts.toList=[]:=by simpa [xw] using hp
    simp_all
   subst H;refine ⟨.slice (some ⟨w.heap.size,0,none⟩) 0 0,w.alloc (.cells #[] e),g,by simp [Instr.buildSlice,ym Q,xB hi,Instr.fill,newRow];congr 2;apply pk;simp,Gh.le.refl g,r.alloc0 _,?_⟩;simp only [rows,V]
   simp_all
  ·rw [hp] at A;simp only [vN] at A
   grind
 ·have M:¬ (n * i.size=0):=by
   have:=rV Z f;omega
  obtain ⟨U,R⟩:=parts_rel (P:=P) (d:=.slice e) he L;have D:=VA.flatten s n;obtain ⟨xs,J,G⟩:=fill_sound (place':=λj=>some (j * i.size,i.size)) (λi x h=>h) (us:=(Array.range (n * i.size)).map (F.cells[· % F.cells.size]!))
   (by rw [<- K,rp,rE,range_rep];exact D) U R A
  have l:=qs G N;have o:out.length=n * i.size:=by
   rw [qt N,aFill_len A];simp [q]
  have T:xs.size=n * i.size:=by rw [<- o,l.length];rfl
  have C:=run_buildSlice w t e n _ xs i F Q hi I (by omega) M J;have S:=r.newRow xs e xs.size;have E:=g.le_vow w.heap.size λj=>if j < xs.size then xs[j]? else none
  obtain ⟨e1,O,e3⟩:=rows_flat (k:=i.size) n out o;refine ⟨_,_,_,C,E,S,?_⟩;simp only [V];refine ⟨some ⟨w.heap.size,0,none⟩,n,by rw [O],by omega,by simp only [maxLen];have:=rI n f;omega,.inr ⟨w.heap.size,0,rfl,?_⟩,by rw [O]⟩;refine VE_iff.2 ⟨e3,?_⟩;rw [e1];refine VC.ofVA (l.mono E _ _) (clean_pure N) λj u W=>?_;have hj:j < xs.size:=by
   grind
  have m:g.Φ w.heap.size j=none:=by
   rcases he':g.Φ w.heap.size j with _ | v
   ·rfl
   ·exact absurd (r.phi_lt he') (tW _)
  simp only [Gh.vow,ur,tA,m,uv hj]
  grind
end
end Go.Vv
namespace Go.Vv
open Go Go.RowKit Go.Lib
variable {kt t et:TypeId} {a b k m:AV} {x y mv kv xv:Value} {r:Bool} {h':AH}
section
variable {P:Program} {w:World} {g:Gh} {h:AH} {B:Nat} {w0:World}

theorem eq1_same {k:Kd} {a b:AV} {x y:Value} (ha:V g a x) (hb:V g b y) (hr:aEq1 k a b=some true):x=y/\∀n,Instr.sameBits n x x=true:=by
 unfold aEq1 at hr;split at hr
 ·simp only [V] at ha hb;simp at hr;subst ha hb hr;exact ⟨rfl,λn=>by unfold Instr.sameBits;cases n <;> simp⟩
 ·split at hr
  ·rename_i hk;simp only [V] at ha hb;simp at hr;subst ha hb hr hk;exact ⟨rfl,λn=>by unfold Instr.sameBits;cases n <;> simp⟩
  ·cases hr
 ·simp only [V] at ha hb;simp at hr;subst hr;exact ⟨by simp_all,λn=>by rw [ha.1];unfold Instr.sameBits;cases n <;> exact uP (α:=Array UInt8) _⟩
 ·cases hr
theorem eqL_same:∀{d:List Kd} {a5 bs:List AV} {xs c:List Value},VA g a5 xs->VA g bs c->qW d a5 bs=some true->xs=c/\∀n,(xs.zip xs).all (λ(x,y)=>Instr.sameBits n x y)=true
 | [],[],[],xs,c,ha,hb,_=>by
  simp only [VA] at ha hb
  simp_all
 | k::d,a::a5,b::bs,xs,c,ha,hb,hr=>by
  simp only [VA] at ha hb;obtain ⟨x,e,rfl,⟨_,l⟩,f⟩:=ha;obtain ⟨y,s,rfl,⟨_,u⟩,j⟩:=hb;simp only [qW] at hr;split at hr
  ·rename_i p q o i;simp only [ui,ud] at hr;obtain ⟨rfl,rfl⟩:=hr;obtain ⟨rfl,z⟩:=eq1_same l u o;obtain ⟨rfl,v⟩:=eqL_same f j i
   simp_all
  ·cases hr
 | [],[],_::_,_,_,_,_,hr=>by simp [qW] at hr
 | [],_::_,_,_,_,_,_,hr=>by simp [qW] at hr
 | _::_,[],_,_,_,_,_,hr=>by simp [qW] at hr
 | _::_,_::_,[],_,_,_,_,hr=>by simp [qW] at hr

theorem key_same (d:V g a x) (e:V g b y) (c:yZ P kt a b=some true):x=y/\Instr.sameBits 10000 x x=true:=by
 unfold yZ at c;split at c
 ·exact ⟨(eq1_same d e c).1,(eq1_same d e c).2 _⟩
 ·exact ⟨(eq1_same d e c).1,(eq1_same d e c).2 _⟩
 ·exact ⟨(eq1_same d e c).1,(eq1_same d e c).2 _⟩
 ·split at c
  ·split at c
   ·simp only [V] at d e;obtain ⟨us,rfl,j⟩:=d;obtain ⟨vs,rfl,f⟩:=e;obtain ⟨i,l⟩:=eqL_same j f c;have:us=vs:=pk i;subst this;refine ⟨rfl,?_⟩;rw [show (10000:Nat)=9999+1 from rfl];unfold Instr.sameBits
    simp_all
   ·cases c
  ·cases c
 ·cases c

def CkE (P:Program) (w:World) (d:Nat):Prop:=∀{t:TypeId} {ks:List Kd} {i:TypeInfo},x5 P d t=some ks->P.info? t=some i->i.size=ks.length->∀{xs:Array Value} {off:Nat},off+ks.length<=xs.size->∀(b:Bool) D,d<=D ->
  ∃u,(part t xs off).run P w=.ok u w/\(Instr.checkKey b D t u).run P w=.ok () w
theorem ckF {d:Nat} (E:CkE P w d) (b:Bool):∀(fs:List Field) (acc:Nat) {ks:List Kd},plainFs P d fs acc=some ks->∀{xs:Array Value},acc+ks.length<=xs.size->∀D,d<=D ->
  (forIn fs PUnit.unit fun (f : Field) (_ : PUnit) => (if f.name ≠ "_" then (part f.type xs f.offset) >>= fun u => Instr.checkKey b D f.type u >>= fun _ => pure (ForInStep.yield PUnit.unit) else pure (ForInStep.yield PUnit.unit) : Sem (ForInStep PUnit))).run P w = .ok PUnit.unit w
 | [],acc,ks,h,xs,hx,D,_=>by simp
 | f::fs,acc,ks,h,xs,hx,D,hD=>by
  simp only [plainFs,plainFsOf] at h;split at h
  ·rename_i hf;split at h
   ·rename_i k1 i hk1 hi;split at h
    ·rename_i hsz;split at h
     ·rename_i k2 hk2;cases h;simp only [uo] at hx;obtain ⟨u,e1,e2⟩:=E hk1 hi hsz (xs:=xs) (off:=acc) (by omega) b D hD;have e4:=ckF E b fs (acc+i.size) hk2 (xs:=xs) (by omega) D hD
      simp_all
     ·cases h
    ·cases h
   ·cases h
  ·cases h
theorem ckE:∀(d:Nat),CkE P w d:=by
 intro d
 induction d with
 | zero=>intro t o i h;simp [x5] at h
 | succ d ih =>
  intro t o i h hi p xs off z b D s;obtain ⟨D,rfl⟩:∃D',D=D'+1:=⟨D - 1,by omega⟩
  have one:∀(dd:TypeDesc),o.length=1->P.underlying t=some dd->yp dd=false->(∀u,(Instr.checkKey b (D+1) t u).run P w=.ok () w)->∃u,(part t xs off).run P w=.ok u w/\(Instr.checkKey b (D+1) t u).run P w=.ok () w:=by
   intro dd v f q n;have l:off < xs.size:=by omega
   exact ⟨xs[off],by simp [part,run_agg f,q,l],n _⟩
  simp only [x5] at h;split at h
  ·rename_i c;cases h;exact one _ rfl c rfl λu=>by simp [Instr.checkKey,run_underlying c]
  ·rename_i j c;cases h;exact one _ rfl c rfl λu=>by simp [Instr.checkKey,run_underlying c]
  ·rename_i c;cases h;exact one _ rfl c rfl λu=>by simp [Instr.checkKey,run_underlying c]
  ·rename_i fs c;split at h
   ·cases h
   ·have e:(part t xs off).run P w=.ok (.agg (xs.extract off (off+i.size))) w:=by simp [part,run_agg c,yp,xB hi]
    refine ⟨_,e,?_⟩;have:=ckF ih b fs.toList 0 h (xs:=xs.extract off (off+i.size)) (by simp;omega) D (by omega);simp only [Instr.checkKey,Sem.run_bind,run_underlying c,Result.andThen_ok]
    simp_all
  ·cases h
theorem key_okD (f:V g k x) (d:yZ P kt k k=some r) (b:Bool) (D:Nat) (l:5<=D):(Instr.checkKey b (D+1) kt x).run P w=.ok () w:=by
 unfold yZ at d;split at d
 ·rename_i e;simp [Instr.checkKey,run_underlying e]
 ·rename_i e;simp [Instr.checkKey,run_underlying e]
 ·rename_i e;simp [Instr.checkKey,run_underlying e]
 ·rename_i fs e;split at d
  ·rename_i cs ds;split at d
   ·rename_i i c;simp only [V] at f;obtain ⟨us,rfl,j⟩:=f;have n:i.length<=us.size:=by
     obtain ⟨_,_,_,_,_,o,_⟩:=aEqL_split i (ls:=[]) (by simpa using d);have:=j.toVL.length
     simp_all
    simp only [x5,e] at c;split at c
    ·cases c
    ·have:=ckF (P:=P) (w:=w) (ckE 5) b fs.toList 0 c (xs:=us) (by omega) D l;simp only [Instr.checkKey,Sem.run_bind,run_underlying e,Result.andThen_ok]
     simp_all
   ·cases d
  ·cases d
 ·cases d
theorem key_ok (c:V g k x) (d:yZ P kt k k=some r) (b:Bool):(Instr.checkKey b 10000 kt x).run P w=.ok () w:=key_okD c d b 9999 (by omega)
theorem key_eq (f:V g a x) (i:V g b y) (c:yZ P kt a b=some r):(Op.equal kt x y).run P w=.ok r w:=by
 unfold Op.equal;show (Op.equalIn 10000 kt x y).run P w=.ok r w;rw [show (10000:Nat)=9999+1 from rfl];unfold yZ at c;split at c
 ·rename_i e;exact eq1_run f i c e 9999
 ·rename_i e;exact eq1_run f i c ⟨_,e⟩ 9999
 ·rename_i e;exact eq1_run f i c e 9999
 ·rename_i fs e;split at c
  ·split at c
   ·rename_i p d;simp only [V] at f i;obtain ⟨us,rfl,o⟩:=f;obtain ⟨vs,rfl,n⟩:=i;have j:P.fieldsOf kt=fs:=by simp [Program.fieldsOf,e]
    simp only [x5,e] at d;split at d
    ·cases d
    ·rename_i l;rw [run_equalIn_struct w 9999 kt _ _ (by simp_all) (by simp_all),j];exact eqF (eqE 5) fs.toList 0 d o n (by simp_all) 9999 (by omega)
   ·cases c
  ·cases c
 ·cases c

theorem same_now {d:TypeDesc} (hd:P.underlying kt=some d) {a b:AV} {x y:Value} {r:Bool} (f:V g a x) (e:V g b y) (j:yZ P kt a b=some r) {l:Bool} (hs:Instr.sameNow d x y=some l):l=r:=by
 have one:∀{k:Kd},aEq1 k a b=some r->l=r:=by
  intro k c;unfold aEq1 at c;split at c
  ·simp only [V] at f e;subst f e;cases c;cases d <;> simp [Instr.sameNow] at hs
   simp_all
  ·split at c
   ·rename_i o;simp only [V] at f e;subst f e o;cases c;cases d <;> simp [Instr.sameNow] at hs
    simp_all
   ·cases c
  ·simp only [V] at f e;obtain ⟨rfl,_⟩:=f;obtain ⟨rfl,_⟩:=e;cases c;cases d <;> simp [Instr.sameNow] at hs;rw [<- hs];have:∀i s2:List UInt8,((⟨i.toArray⟩:ByteArray)==⟨s2.toArray⟩)=(i==s2):=λi s2=>by
    have:((⟨i.toArray⟩:ByteArray)==⟨s2.toArray⟩)=(i.toArray==s2.toArray):=rfl
    simp_all
   simp_all
  ·cases c
 unfold yZ at j;rw [hd] at j;split at j
 ·grind
 ·grind
 ·grind
 ·rename_i fs n;injection n with n;subst n;simp [Instr.sameNow] at hs
 ·cases j
theorem find_sound {kt:TypeId} {d:TypeDesc} (hd:P.underlying kt=some d) {k:AV} {x:Value} (f:V g k x):∀{es:List (AV×AV)} {ents:List MapEntry} {i:Nat} {res:Option (Nat×AV)},ME g es ents->qV P kt k es i=some res ->
  ∃r,(Instr.findAsking kt x ents i).run P w=.ok r w/\(∀n,Instr.findNow d x ents i=some n->n=r) /\
   (match res with
       | none=>r=none
       | some (j,v)=>∃m e,j=i+m/\ents[m]?=some e/\(∃o,es[m]?=some (o,v)/\yZ P kt k o=some true/\V g o e.key)/\e.key=x/\V g v e.val/\r=some (j,e.val))
 | [],ents,i,res,hm,hf=>by
  simp only [ME] at hm;subst hm;simp only [qV,ui] at hf;subst hf;exact ⟨none,rfl,λn h=>by simp [Instr.findNow] at h;exact h.symm,rfl⟩
 | (o,v)::es,ents,i,res,hm,hf=>by
  simp only [ME] at hm;obtain ⟨e,s,rfl,l,A,F⟩:=hm;simp only [qV] at hf;split at hf
  ·rename_i c;cases hf;obtain ⟨G,_⟩:=key_same f l c;refine ⟨some (i,e.val),by simp [Instr.findAsking,key_eq (w:=w) f l c],λn h=>?_,0,e,rfl,rfl,⟨o,rfl,c,l⟩,G.symm,A,rfl⟩;simp only [Instr.findNow] at h;split at h
   ·simp_all
   ·rename_i hs;exact absurd (same_now hd f l c hs) (by simp)
   ·cases h
  ·rename_i c;obtain ⟨r,z,k2,u⟩:=find_sound hd f F hf;refine ⟨r,by simp [Instr.findAsking,key_eq (w:=w) f l c,z],λn h=>?_,?_⟩
   ·simp only [Instr.findNow] at h;split at h
    ·rename_i hs;exact absurd (same_now hd f l c hs) (by simp)
    ·simp_all
    ·cases h
   ·cases res with
    | none=>exact u
    | some p =>
     obtain ⟨m,C,H,J,⟨q,I,E⟩,D⟩:=u;exact ⟨m+1,C,by omega,by simp_all,⟨q,by simp_all,E⟩,D⟩
  ·cases hf
theorem find_run (i:V g k x) {es:List (AV×AV)} {ents:List MapEntry} {res:Option (Nat×AV)} (f:ME g es ents) (l:qV P kt k es 0=some res) (o:(P.underlying kt).isSome) :
  (match res with
       | none=>(Instr.findKey kt x ents).run P w=.ok none w
       | some (j,v)=>∃e,ents[j]?=some e/\(∃c,es[j]?=some (c,v)/\yZ P kt k c=some true/\V g c e.key)/\e.key=x/\V g v e.val/\(Instr.findKey kt x ents).run P w=.ok (some (j,e.val)) w):=by
 obtain ⟨d,hd⟩:=pA.1 o;obtain ⟨r,n,p,q⟩:=find_sound (w:=w) hd i f l;have key:(Instr.findKey kt x ents).run P w=.ok r w:=by
  simp only [Instr.findKey,Sem.run_bind,run_underlying hd,Result.andThen_ok];split
  ·simp_all
  ·exact n
 grind
theorem key_und (c:yZ P kt a b=some r):(P.underlying kt).isSome:=by
 unfold yZ at c
 grind
theorem aZero_sound {z:AV} (c:aZero P t=some z):∃u,(zeroValue t).run P w=.ok u w/\V g z u:=by
 unfold aZero at c;split at c
 ·rename_i i hi;split at c
  ·rename_i u l;split at c
   ·rename_i e;refine ⟨u,by simp [zeroValue,run_typeInfo w hi,l],?_⟩;have d:=V.cv (g:=g) e;split at c
    ·rename_i cs n;cases c;rw [n] at d;simp only [V] at d ⊢;obtain ⟨vs,j,f⟩:=d;exact ⟨vs,j,f.fix⟩
    ·cases c;exact d.tyfix
   ·cases c
  ·cases c
 ·cases c

theorem ME.len:∀{es:List (AV×AV)} {ents:List MapEntry},ME g es ents->ents.length=es.length
 | [],_,h=>by simp only [ME] at h;subst h;rfl
 | (_,_)::r,_,h=>by
  simp only [ME] at h;obtain ⟨e,s,rfl,_,_,c⟩:=h;simp [c.len]
theorem ME.push:∀{es:List (AV×AV)} {ents:List MapEntry} {k v:AV} {e:MapEntry},ME g es ents->V g k e.key->V g v e.val->ME g (es++[(k,v)]) (ents++[e])
 | [],_,k,v,e,h,hk,hv=>by simp only [ME] at h;subst h;simp only [uR,ME];exact ⟨e,[],rfl,hk,hv,rfl⟩
 | (_,_)::r,_,k,v,e,h,hk,hv=>by
  simp only [ME] at h;obtain ⟨f,s,rfl,d,c,i⟩:=h;simp only [tP,ME];exact ⟨f,s++[e],rfl,d,c,i.push hk hv⟩
theorem ME.put:∀{es:List (AV×AV)} {ents:List MapEntry} (j:Nat) {k v:AV} {e:MapEntry},ME g es ents->V g k e.key->V g v e.val->ME g (es.set j (k,v)) (ents.set j e)
 | [],_,j,k,v,e,h,hk,hv=>by simp only [ME] at h;subst h;simp [ME]
 | (_,_)::r,_,j,k,v,e,h,hk,hv=>by
  simp only [ME] at h;obtain ⟨i,s,rfl,f,d,c⟩:=h;cases j with
  | zero=>simp only [ug,ME];exact ⟨e,s,rfl,hk,hv,c⟩
  | succ j=>simp only [uf,ME];exact ⟨i,s.set j e,rfl,f,d,c.put j hk hv⟩
theorem ME.getE:∀{es:List (AV×AV)} {ents:List MapEntry} {j:Nat} {p:AV×AV},ME g es ents->es[j]?=some p->∃e,ents[j]?=some e/\V g p.1 e.key/\V g p.2 e.val
 | [],_,j,p,h,hp=>by simp at hp
 | (_,_)::r,_,j,p,h,hp=>by
  simp only [ME] at h;obtain ⟨i,s,rfl,d,c,f⟩:=h;cases j with
  | zero=>simp at hp;subst hp;exact ⟨i,rfl,d,c⟩
  | succ j=>simpa using f.getE (by simp_all)

theorem V.zc1 {a:AV} {v:Value} (h:V g a v):V g a.zc1 v:=by
 unfold AV.zc1;split
 ·simp only [V] at h ⊢
  grind
 ·exact h
theorem VA.zc1:∀{a5:List AV} {vs:List Value},VA g a5 vs->VA g (a5.map AV.zc1) vs
 | [],_,h=>by simpa using h
 | a::r,_,h=>by
  simp only [VA] at h;obtain ⟨v,s,rfl,⟨h0,d⟩,c⟩:=h;simp only [uz,VA];exact ⟨v,s,rfl,⟨by cases a <;> first | exact h0 | rfl,d.zc1⟩,VA.zc1 c⟩
theorem V.zcl {a:AV} {v:Value} (h:V g a v):V g a.zcl v:=by
 unfold AV.zcl;split
 ·simp only [V] at h ⊢;obtain ⟨vs,e,c⟩:=h;exact ⟨vs,e,c.zc1⟩
 ·exact h
theorem aZeroM_sound {z:AV} (c:aZeroM P t=some z):∃u,(zeroValue t).run P w=.ok u w/\V g z u:=by
 unfold aZeroM at c;rw [sj] at c;obtain ⟨y,e,rfl⟩:=c;obtain ⟨u,d,f⟩:=aZero_sound (w:=w) (g:=g) e;exact ⟨u,d,f.zcl⟩
theorem lookup_sound {ok:Bool} {v:AV} (r:Rel B w0 g h w) (D:P.underlying t=some (.map kt et)) (A:V g m mv) (q:V g k kv) (d:aLookup P h kt et ok m k=some v) :
  ∃u,(Instr.lookup t mv kv ok).run P w=.ok u w/\V g v u:=by
 unfold aLookup at d;split at d
 case isFalse=>cases d
 rename_i f;have F:=λb=>key_ok (w:=w) q f b;have i:∀{x:AV} {u:Value} (b:Bool),V g x u->V g (withOk ok x b) (if ok then .tuple #[u,.bool b] else u):=λ{x u} b H=>by
  unfold withOk;cases ok
  ·exact H
  ·simp only [ur,V];exact ⟨_,rfl,by simp only [VL];exact ⟨_,_,rfl,H,_,_,rfl,by simp only [V],rfl⟩⟩
 split at d
 ·simp only [V] at A;subst A;rcases s:aZeroM P et with _ | z
  ·simp_all
  ·simp [s] at d;subst d;obtain ⟨u,E,C⟩:=aZeroM_sound (w:=w) (g:=g) s;have G:(Instr.findKey kt kv []).run P w=.ok none w:=by
    have:=find_run (w:=w) (es:=[]) (ents:=[]) (res:=none) q rfl rfl (key_und f);omega
   exact ⟨_,by simp [Instr.lookup,run_underlying D,F,G,E],i false C⟩
 ·rename_i id;simp only [V] at A;obtain ⟨c,L,rfl⟩:=A;split at d
  ·rename_i es O I;obtain ⟨_,_,⟨ents,n,p,o,_⟩,_⟩:=r.blk id c _ L I;split at d
   ·rename_i j x l;cases d;obtain ⟨e,M,_,N,K,J⟩:=find_run (w:=w) q o l (key_und f);exact ⟨_,by simp [Instr.lookup,run_underlying D,MapKept.run_getObj_map p,F,J],i true K⟩
   ·rename_i z l s;cases d;have G:=find_run (w:=w) q o l (key_und f);obtain ⟨u,E,C⟩:=aZeroM_sound (w:=w) (g:=g) s;exact ⟨_,by simp [Instr.lookup,run_underlying D,MapKept.run_getObj_map p,F,G,E],i false C⟩
   ·cases d
  ·cases d
 ·cases d

theorem modify_list {α:Type} {a:Array α} {i:Nat} {f:α->α} {e:α} (h:a.toList[i]?=some e):(a.modify i f).toList=a.toList.set i (f e):=by
 apply tc
 grind
theorem keeps_run (h:Instr.sameBits 10000 x x=true):(Instr.keyThatStays x x).run P w=.ok x w:=by simp [Instr.keyThatStays,h]
theorem Rel.mapPut (r:Rel B w0 g h w) {id c:Nat} {k:Blk} (u:g.σ[id]?=some c) (l:h.blk id=some k) (hd:k ≠ .dead) {es:List (AV×AV)} {j:Nat} {ents:Array MapEntry} {n:Nat} {o:Obj} (p:w.heap[c]?=some o) (q:ME g es ents.toList)
  (f:j=0->n=ents.size/\∀(i:Nat) (e:MapEntry),ents[i]?=some e->e.born=i):Rel B w0 g (h.put id (.mapo es j)) { w with heap:=w.heap.setIfInBounds c (.map ents n) }:=by
 have d:c < w.heap.size:=(uO.1 p).1;refine r.putObj u l hd rfl rfl rfl (by simp) (λb s=>by grind) ?_;exact ⟨ents,n,by simp [d],q,f⟩

theorem set_same {w:World} {c:Nat} {o:Obj} (h:w.heap[c]?=some o):({ w with heap:=w.heap.setIfInBounds c o }:World)=w:=by
 have:w.heap.setIfInBounds c o=w.heap:=by
  grind
 rw [this]

theorem entry_sound {v:AV} (r:Rel B w0 g h w) (J:P.underlying t=some (.map kt et)) (O:V g m mv) (s:V g k kv) (f:aEntry P h kt et m k=some (v,h')) :
  ∃u w',(Instr.mapEntry t mv kv).run P w=.ok u w'/\V g v u/\Rel B w0 g h' w':=by
 unfold aEntry at f;split at f
 case isFalse=>cases f
 rename_i l;have M:=λb=>key_ok (w:=w) s l b;split at f
 ·rename_i id;simp only [V] at O;obtain ⟨c,Q,rfl⟩:=O;split at f
  ·rename_i es K;obtain ⟨_,_,⟨ents,n,d,o,H⟩,_⟩:=r.blk id c _ Q K;obtain ⟨N,p⟩:=H rfl;split at f
   ·rename_i j x q;cases f;obtain ⟨e,F,_,L,W,S⟩:=find_run (w:=w) s o q (key_und l);have hs:=keeps_run (P:=P) (w:=w) (key_same s s l).2;have A:ents[j]?=some e:=by simp_all
    have C:(ents.modify j λe=>{ e with key:=kv })=ents:=by
     apply pk;rw [modify_list F];apply tc;intro i;rw [pw];split
     ·rename_i E;subst E;rw [uv (uc.1 F).1,F,<- L]
     ·rfl
    refine ⟨.tuple #[e.val,goInt e.born],w,?_,?_,r⟩
    ·have D:(setObj c (.map (ents.modify j λe=>{ e with key:=kv }) n)).run P w=.ok () w:=by
      rw [C,MapKept.run_setObj_map _ d,set_same d]
     simp [Instr.mapEntry,run_underlying J,MapKept.run_getObj_map d,M,S,A,L,hs,D]
    ·simp only [V];exact ⟨_,rfl,by simp only [VL];exact ⟨_,_,rfl,W,_,_,rfl,by simp only [V,p j e A];rfl,rfl⟩⟩
   ·rename_i z q T;cases f;have U:=find_run (w:=w) s o q (key_und l);obtain ⟨u,R,I⟩:=aZeroM_sound (w:=w) (g:=g) T;have G:ents.size=es.length:=by have:=o.len;simpa using this
    refine ⟨.tuple #[u,goInt n],{ w with heap:=w.heap.setIfInBounds c (.map (ents.push { key:=kv,val:=u,born:=n }) (n+1)) },?_,?_,?_⟩
    ·simp [Instr.mapEntry,run_underlying J,MapKept.run_getObj_map d,M,U,R,MapKept.run_setObj_map _ d]
    ·simp only [V];exact ⟨_,rfl,by simp only [VL];exact ⟨_,_,rfl,I,_,_,rfl,by simp only [V,N,G];rfl,rfl⟩⟩
    ·refine r.mapPut Q K (by simp) d (by rw [Array.toList_push];exact o.push s I) λ_=>⟨by simp [N],λi e hi=>?_⟩
     grind
   ·cases f
  ·cases f
 ·cases f
theorem entryStore_sound {s x:AV} {D:Value} (r:Rel B w0 g h w) (E:V g m mv) (hs:V g s D) (I:V g x xv) (d:aEntryStore h m s x=some h') :
  ∃w',(Instr.entryStore t mv D xv).run P w=.ok () w'/\Rel B w0 g h' w':=by
 unfold aEntryStore at d;split at d
 ·rename_i id M u;simp only [V] at E hs;obtain ⟨c,F,rfl⟩:=E;subst hs;split at d
  ·rename_i es C;obtain ⟨_,_,⟨ents,n,l,q,z⟩,_⟩:=r.blk id c _ F C;obtain ⟨J,f⟩:=z rfl;split at d
   ·rename_i h0;split at d
    ·rename_i p H;cases d;obtain ⟨e,G,L,O⟩:=q.getE H;have v:ents[u.toNat]?=some e:=by simp_all
     have o:=(uO.1 v).1;have A:ents.findIdx? (λe=>(e.born:Int)==u)=some u.toNat:=by
      rw [Array.findIdx?_eq_some_iff_getElem];refine ⟨o,?_,λj K=>?_⟩
      ·grind
      ·have:=f j _ (uN (Nat.lt_trans K o))
       grind
     refine ⟨{ w with heap:=w.heap.setIfInBounds c (.map (ents.modify u.toNat λe=>{ e with val:=xv }) n) },?_,?_⟩
     ·simp [Instr.entryStore,MapKept.run_getObj_map l,asInt,asIntOf,A,MapKept.run_setObj_map _ l]
     ·refine r.mapPut F C (by simp) l (by rw [modify_list G];exact q.put _ L I.zcl) λ_=>⟨by simp [J],λi N hi=>?_⟩
      grind
    ·cases d
   ·cases d
  ·cases d
 ·cases d
theorem mapPut_sound {x:AV} (r:Rel B w0 g h w) (v:P.underlying t=some (.map kt et)) (C:V g m mv) (o:V g k kv) (A:V g x xv) (f:aMapPut P h kt m k x=some h') :
  ∃w',(Instr.mapUpdate t mv kv xv).run P w=.ok () w'/\Rel B w0 g h' w':=by
 unfold aMapPut at f;split at f
 case isFalse=>cases f
 rename_i i;have z:=λb=>key_ok (w:=w) o i b;split at f
 ·rename_i id;simp only [V] at C;obtain ⟨c,u,rfl⟩:=C;split at f
  ·rename_i es K s;obtain ⟨_,_,⟨ents,n,d,l,H⟩,_⟩:=r.blk id c _ u s;split at f
   ·rename_i j I p;cases f;obtain ⟨e,D,_,E,J,F⟩:=find_run (w:=w) o l p (key_und i);have hs:=keeps_run (P:=P) (w:=w) (key_same o o i).2;have q:ents[j]?=some e:=by simp_all
    refine ⟨{ w with heap:=w.heap.setIfInBounds c (.map (ents.modify j λe=>{ e with key:=kv,val:=xv }) n) },?_,?_⟩
    ·simp [Instr.mapUpdate,run_underlying v,MapKept.run_getObj_map d,z,F,q,E,hs,MapKept.run_setObj_map _ d]
    ·refine r.mapPut u s (by simp) d (by rw [modify_list D];exact l.put _ o A.zcl) λh0=>?_
     grind
   ·rename_i p;cases f;have G:=find_run (w:=w) o l p (key_und i);refine ⟨{ w with heap:=w.heap.setIfInBounds c (.map (ents.push { key:=kv,val:=xv,born:=n }) (n+1)) },?_,?_⟩
    ·simp [Instr.mapUpdate,run_underlying v,MapKept.run_getObj_map d,z,G,MapKept.run_setObj_map _ d]
    ·refine r.mapPut u s (by simp) d (by rw [Array.toList_push];exact l.push o A.zcl) λh0=>?_
     grind
   ·cases f
  ·cases f
 ·cases f
end
end Go.Vv
namespace Go.Vv
open Go Go.RowKit Go.Lib
section
variable {P:Program} {w:World} {g:Gh} {h:AH} {B:Nat} {w0:World}

def vO (P:Program) (B:Nat) (w0:World) (g:Gh) (a:Act) (o:Oper) (w:World) (v:AV) (h':AH):Prop :=
 ∃u w' g',((execOp a.eval o).run P w=.ok (.value u) w' \/ ((execOp a.eval o).run P w=.ok .skip w'/\u=undef))/\g.le g'/\Rel B w0 g' h' w'/\V g' v u

def Fits (P:Program) (B:Nat) (w0:World) (g:Gh) (a:Act) (o:Oper) (w:World):Res->Prop
 | .ok v h'=>vO P B w0 g a o w v h'
 | .len n v h'=>n<=maxLen/\vO P B w0 g a o w v h'
 | .call f args=>∃vs:Array Value,(execOp a.eval o).run P w=(callFunc f vs).run P w/\VL g args vs.toList
 | .round id args=>∃(c:Nat) (vs:Array Value),g.σ[id]?=some c/\(execOp a.eval o).run P w=(Instr.yield c vs).run P w/\VL g args vs.toList
 | .any S=>∃v h',S v h'/\vO P B w0 g a o w v h'
 | .fail=>True

theorem Fits.oo {a:Act} {o:Oper} {x:Option AV} (b:∀v,x=some v->vO P B w0 g a o w v h):Fits P B w0 g a o w (oo h x):=by
 cases x with
 | none=>trivial
 | some v=>exact b v rfl

theorem VO.ev {env:List AV} {a:Act} (b:VL g env a.tmps.toList) {x:Option Operand} (c:x.all yr=true):VO g (x.map (ev env)) (x.map a.eval):=by
 cases x with
 | none=>rfl
 | some x=>exact ⟨_,rfl,V.ev b (by simp_all)⟩
theorem VL.evs {env:List AV} {a:Act} (b:VL g env a.tmps.toList):∀{xs:List Operand},xs.all yr=true->VL g (xs.map (ev env)) (xs.map a.eval)
 | [],_=>by simp [VL]
 | x::r,h=>by
  simp only [tI,ud] at h;simp only [uz];exact VL.cons (V.ev b h.1) (VL.evs b h.2)
theorem VL.evs_fix {env:List AV} {a:Act} (b:VL g env a.tmps.toList):∀{xs:List Operand} {ts:List TypeId},xs.all yr=true->xs.length=ts.length->VL g ((xs.zip ts).map λp=>tyfix P p.2 (ev env p.1)) (xs.map a.eval)
 | [],_,_,_=>by simp [VL]
 | x::r,[],_,h=>by simp at h
 | x::r,t::ts,h,hl=>by
  simp only [tI,ud] at h;simp only [List.zip_cons_cons,uz];exact VL.cons (V.ev b h.1).tyfix (VL.evs_fix b h.2 (by simp_all))

theorem V.map_tyfix {t:TypeId} {x:Option AV} {v:AV} (a:x.map (Vv.tyfix P t)=some v):∃v',x=some v'/\v=Vv.tyfix P t v':=by
 cases x with
 | none=>cases a
 | some v'=>injection a with a;exact ⟨v',rfl,a.symm⟩

theorem bytes_flat:∀s:List UInt8,(s.map λb=>[AV.int .u8 b.toNat]).flatten=s.map λb=>AV.int .u8 b.toNat
 | []=>rfl
 | b::r=>by simp only [uz,te,bytes_flat r];rfl
theorem bytes_VA:∀s:List UInt8,VA g (s.map λb=>AV.int .u8 b.toNat) (s.map λb=>Value.int .u8 b.toNat)
 | []=>by simp [VA]
 | b::r=>by simp only [uz,VA];exact ⟨_,_,rfl,⟨rfl,by simp only [V]⟩,bytes_VA r⟩

theorem mm_sound (mx:Bool):∀{r:List AV} {a v:AV} {x:Value} {xs:List Value},V g a x->VL g r xs->aMM mx a r=some v->∃u,(xs.foldlM (if mx then Builtin.max2 else Builtin.min2) x).run P w=.ok u w/\V g v u:=by
 intro r
 induction r with
 | nil =>
  intro a v x xs i d c;simp only [VL] at d;subst d;simp only [aMM,ui] at c
  simp_all
 | cons b r ih =>
  intro a v x xs i d c;simp only [VL] at d;obtain ⟨y,p,rfl,j,d⟩:=d;unfold aMM at c;split at c
  ·simp_all
  ·rename_i k n k' m rest f;cases f;split at c
   ·rename_i o;subst o;simp only [V] at i j;subst i j;obtain ⟨u,e,l⟩:=ih (x:=.int k (if mx then (if m > n then m else n) else (if m < n then m else n))) (by simp only [V]) d c;refine ⟨u,?_,l⟩;rw [List.foldlM_cons];cases mx
    ·simp only [uk,uH,Builtin.min2] at e ⊢;exact e
    ·simp only [ur,Builtin.max2] at e ⊢;exact e
   ·cases c
  ·cases c
theorem builtin_fits (r:Rel B w0 g h w) {a:Act} {env:List AV} (O:VL g env a.tmps.toList) {o:Oper} {c:Call} (ho:o.op=.call c) {b:Builtin} (hc:c.callee=.builtin b) (hok:c.args.all yr=true) :
  Fits P B w0 g a o w (aBuiltin P h b c.argTypes.toList (c.args.toList.map (ev env))):=by
 have f:∀(bb:Builtin),b=bb->(execOp a.eval o).run P w=(builtin bb c.argTypes o.type (c.args.map λ| .const _=>true | _=>false) (c.args.map a.eval)).run P w:=by
  intro bb Z;subst Z;simp only [execOp,ho,resolve,hc,Sem.run_bind,Sem.run_pure,Result.andThen_ok,invoke];rfl
 have J:c.args.toList.all yr=true:=by simp_all
 unfold aBuiltin;split
 ·rename_i t x hts has;have D:c.argTypes=#[t]:=by grind
  obtain ⟨p,E,rfl⟩:∃p,c.args=#[p]/\x=ev env p:=by
   rcases T:c.args.toList with _ | ⟨y,_ | ⟨z,rest⟩⟩ <;> simp [T] at has
   grind
  have Q:=V.ev O (x:=p) (by simp_all);split
  ·rename_i F;split
   ·rename_i s hx;rw [hx] at Q;obtain ⟨k,A⟩:=len_str_sound (P:=P) (w:=w) (ty:=o.type) F Q;refine ⟨A,.int .i64 s.length,w,g,.inl ?_,Gh.le.refl g,r,by simp only [V]⟩;rw [f .len rfl,D,E];simp [builtin,k]
   ·trivial
  ·rename_i e F;split
   ·rename_i n hn;obtain ⟨k,A⟩:=len_sl_sound (P:=P) (w:=w) (ty:=o.type) F Q hn;refine ⟨A,.int .i64 n,w,g,.inl ?_,Gh.le.refl g,r,by simp only [V]⟩;rw [f .len rfl,D,E];simp [builtin,k]
   ·trivial
  ·rename_i kt et F;split
   ·rename_i id hx;split
    ·rename_i es cl Z;rw [hx] at Q;simp only [V] at Q;obtain ⟨c0,hc0,hv0⟩:=Q;obtain ⟨_,_,⟨ents,n,hb1,hb2,_⟩,_⟩:=r.blk id c0 _ hc0 Z;refine ⟨_,_,⟨rfl,rfl⟩,.int .i64 es.length,w,g,.inl ?_,Gh.le.refl g,r,by simp only [V]⟩;rw [f .len rfl,D,E];have hsz:ents.size=es.length:=by have:=hb2.len;simpa using this
     simp [builtin,hv0,Builtin.len_,run_underlying F,MapKept.run_getObj_map hb1,hsz,goInt]
    ·trivial
   ·trivial
  ·trivial
 ·rename_i t u s x hts has;have D:c.argTypes=#[t,u]:=by grind
  obtain ⟨N,p,E,rfl,rfl⟩:∃N p,c.args=#[N,p]/\s=ev env N/\x=ev env p:=by
   rcases T:c.args.toList with _ | ⟨y,_ | ⟨z,_ | ⟨q,rest⟩⟩⟩ <;> simp [T] at has
   grind
  have H:yr N=true/\yr p=true:=by simp_all
  have hVs:=(V.ev O H.1).tyfix (P:=P) (t:=t);have m:=(V.ev O H.2).tyfix (P:=P) (t:=u);have K:∀(e:TypeId) (Y:TypeDesc),P.underlying t=some (.slice e)->P.underlying u=some Y->NotInt Y ->
    Fits P B w0 g a o w (match P.info? e with
     | some i=>if i.bytes<=65536/\0 < i.size/\(i.zero.map (·.cells.size))=some i.size then (match aNews i.size (tyfix P u (ev env p)) with
      | some G=>ovh (aAppend h i.size (tyfix P t (ev env N)) G)
      | none=>.fail) else .fail
     | none=>.fail):=by
   intro e Y R F hdu;split
   ·rename_i i hi;split
    ·rename_i hc1;obtain ⟨hby,hpos,hzz⟩:=hc1;obtain ⟨z,hz,hzs⟩:∃z,i.zero=some z/\z.cells.size=i.size:=by
      simp_all
     split
     ·rename_i G d;rcases hap:aAppend h i.size (tyfix P t (ev env N)) G with _ | ⟨s',h'⟩
      ·trivial
      ·show vO P B w0 g a o w s' h';have L:∀(C:List Value),(∀e ∈ G,e.length=i.size)->VA g G.flatten C->G.flatten.all AV.pure=true ->
         (∀W:World,(∀a v,w.cell? a=some v->W.cell? a=some v)->News P i.size G.length (a.eval p) C W)->vO P B w0 g a o w s' h':=by
        intro C T hva hpu hn;obtain ⟨v,w',g',k,A,h3,h4⟩:=append_sound (ty:=o.type) r R F hdu hi hz hzs hby hVs T hva hpu hn hap;refine ⟨v,w',g',.inl ?_,A,h3,h4⟩;rw [f .append rfl,D,E];simp [builtin,k]
       have slc:∀(es:List (List AV)) (S:Option Addr) (c:Nat),a.eval p=.slice S es.length c->(es=[] \/ ∃b o,S=some ⟨b,o,none⟩/\VE g b i.size o es)->G=es->vO P B w0 g a o w s' h':=by
        rintro es S c M hes rfl
        rcases hes with rfl | ⟨b,oo,rfl,hve⟩
        ·refine L [] (by simp) (by simp [VA]) rfl λW _=>⟨by rw [M];rfl,?_⟩
         rw [M];cases S with
         | none=>simp [Builtin.firstCells]
         | some S=>simp [Builtin.firstCells,loadCells,loadCellsFrom]
        ·obtain ⟨k,A⟩:=VE_iff.1 hve;obtain ⟨us,X,hup,hΦ⟩:=A.toVA;refine L us k X hup λW hW=>?_;rw [M];refine News.slice (by rw [<- X.length,yJ k]) λj v U=>?_;rw [x6];exact hW _ _ (r.phi _ _ _ (hΦ j v U))
       generalize hgx:tyfix P u (ev env p)=xx at d m;unfold aNews at d;split at d
       ·split at d
        ·rename_i I;cases d;subst I;simp only [V] at m
         grind
        ·cases d
       ·split at d
        ·rename_i I;cases d;subst I;simp only [V] at m
         grind
        ·cases d
       ·split at d
        ·rename_i I;cases d;subst I;simp only [V] at m
         grind
        ·cases d
       ·split at d
        ·rename_i I;cases d;subst I;simp only [V] at m
         grind
        ·cases d
       ·rename_i s;split at d
        ·rename_i I;cases d;simp only [V] at m;obtain ⟨k,A⟩:=m;refine L (strCells ⟨s.toArray⟩) (λe O=>?_) ?_ (by rw [bytes_flat,List.all_map];exact uq.2 λ_ _=>rfl) λW _=>?_
         ·grind
         ·rw [bytes_flat];exact bytes_VA s
         ·rw [k];have:=News.str (P:=P) (size:=i.size) (s:=⟨s.toArray⟩) (w:=W);rw [str_size] at this
          simp_all
        ·cases d
       ·cases d
     ·trivial
    ·trivial
   ·trivial
  split
  ·rename_i e e' R F;exact K e _ R F (.inr ⟨_,rfl⟩)
  ·rename_i e R F;exact K e _ R F (.inl rfl)
  ·trivial
 ·rename_i x rs has;refine Fits.oo λv U=>?_;have l:=VL.evs O (xs:=c.args.toList) J;rw [has] at l;simp only [VL] at l;obtain ⟨y,G,d,hy,hr⟩:=l;obtain ⟨u,k,A⟩:=mm_sound (P:=P) (w:=w) false hy hr U;refine ⟨u,w,g,.inl ?_,Gh.le.refl g,r,A⟩;rw [f .min rfl];simp only [uk,uH] at k;simp [builtin,Builtin.min_,d,k]
 ·rename_i x rs has;refine Fits.oo λv U=>?_;have l:=VL.evs O (xs:=c.args.toList) J;rw [has] at l;simp only [VL] at l;obtain ⟨y,G,d,hy,hr⟩:=l;obtain ⟨u,k,A⟩:=mm_sound (P:=P) (w:=w) true hy hr U;refine ⟨u,w,g,.inl ?_,Gh.le.refl g,r,A⟩;rw [f .max rfl];simp only [ur] at k;simp [builtin,Builtin.max_,d,k]
 ·trivial
end
end Go.Vv
