/- Each operation of the model: the two-place and one-place ones, lengths, new slices. -/
import Derived.Test.YtcociipjgndnaaaGreatVvH
namespace Go.Vv
open Go Go.RowKit Go.Lib
section
variable {P:Program} {w:World} {g:Gh} {h:AH} {B:Nat} {w0:World}
theorem str_size (s:List UInt8):(⟨s.toArray⟩:ByteArray).size=s.length:=by simp [ByteArray.size]

def scal:AV->Value
 | .bool b=>.bool b
 | .int k n=>.int k n
 | .str s=>.string ⟨s.toArray⟩
 | _=>undef

theorem int_sound {op:BinOp} {t:TypeId} {k k':IntKind} {a b:Int} (f:k=k' \/ op=.shl \/ op=.shr) {ox oy:Operand} {v:AV} (c:xk op k a b=some v) :
  ∃u,(do eqGuard op t ox oy (.int k a) (.int k' b);binOp op t (.int k a) (.int k' b):Sem Value).run P w=.ok u w/\V g v u:=by
 refine ⟨scal v,?_,?_⟩
 ·simp only [eqGuard_at_int];cases op <;> simp only [xk,un] at c
  case shl =>
   split at c
   ·cases c
   ·rename_i e;cases c;simp [binOp,Op.shift,e,scal]
  case shr =>
   split at c
   ·cases c
   ·rename_i e;cases c;simp [binOp,Op.shift,e,scal]
  case quo =>
   have d:k=k':=by simpa using f
   split at c
   ·cases c
   ·rename_i e;cases c;simp [binOp,Op.intDiv,e,scal,d]
  case rem =>
   have d:k=k':=by simpa using f
   split at c
   ·cases c
   ·rename_i e;cases c;simp [binOp,Op.intDiv,e,scal,d]
  all_goals
   have d:k=k':=by simpa using f
   subst d c;simp [binOp,Op.intArith,Op.intCmp,Op.intBits,scal]
 ·cases op <;> simp only [xk,un] at c <;> first
   | (subst c;simp only [scal,V];done)
   | (
         split at c
         · cases c
         · cases c;simp only [scal,V])

theorem str_sound {op:BinOp} {t:TypeId} {x y:List UInt8} {ox oy:Operand} {v:AV} (a:aStr op x y=some v) :
  ∃u,(do eqGuard op t ox oy (.string ⟨x.toArray⟩) (.string ⟨y.toArray⟩);binOp op t (.string ⟨x.toArray⟩) (.string ⟨y.toArray⟩):Sem Value).run P w=.ok u w/\V g v u:=by
 refine ⟨scal v,?_,?_⟩
 ·simp only [eqGuard_at_string];cases op <;> simp only [aStr,un,reduceCtorEq] at a
  case add =>
   split at a
   ·rename_i b;cases a;have c:¬ ((9223372036854775807:Int) < (x.length:Int)+(y.length:Int)):=by simp only [maxLen] at b;omega
    simp [binOp,Op.stringOp,str_size,c,scal];apply ByteArray.ext;simp
   ·cases a
  all_goals
   subst a;simp [binOp,Op.stringOp,scal]
 ·cases op <;> simp only [aStr,un,reduceCtorEq] at a <;> first
   | (subst a;simp only [scal,V];done)
   | (
         split at a
         · rename_i b;cases a;simp only [scal,V];exact ⟨trivial,by simpa using b⟩
         · cases a)

theorem nil_sound {d:TypeDesc} {t:TypeId} (hd:P.underlying t=some d) {a b:AV} {x y:Value} (c:V g a x) (e:V g b y) {r:Bool} (i:aNil d a b=some r) (D:Nat):(Op.equalIn (D+1) t x y).run P w=.ok r w:=by
 unfold aNil at i;split at i <;> first
  | (
       cases i;simp only [V] at c e
       first
         | (subst c e;simp [Op.equalIn,yC hd];done)
         | (obtain ⟨_,_,rfl⟩:=c;subst e;simp [Op.equalIn,yC hd];done)
         | (obtain ⟨_,_,rfl⟩:=e;subst c;simp [Op.equalIn,yC hd];done)
         | (obtain ⟨_,_,rfl,_⟩:=c;subst e;simp [Op.equalIn,yC hd];done)
         | (obtain ⟨_,_,rfl,_⟩:=e;subst c;simp [Op.equalIn,yC hd];done)
         | (obtain ⟨_,_,_,rfl,_⟩:=c;subst e;simp [Op.equalIn,yC hd];done)
         | (
      obtain ⟨_,_,rfl,_,_,f⟩:=c;subst e;rcases f with f | ⟨_,_,rfl,_⟩
      ·cases f
      ·simp [Op.equalIn,yC hd])
         | (
      obtain ⟨_,_,rfl,_,_,f,_⟩:=c;subst e;rcases f with f | ⟨_,_,rfl,_⟩
      ·cases f
      ·simp [Op.equalIn,yC hd]))
  | cases i

theorem eq_sound {t:TypeId} {a b:AV} {x y:Value} (m:V g a x) (k:V g b y) {r:Bool} (f:aEq P t a b=some r):(Op.equalIn 10000 t x y).run P w=.ok r w:=by
 unfold aEq at f;split at f
 ·rename_i cs ds;split at f
  ·rename_i v;split at f
   ·rename_i z c;simp only [V] at m k;obtain ⟨us,rfl,s⟩:=m;obtain ⟨vs,rfl,p⟩:=k;have q:=v.2;rcases hd:P.underlying t with _ | d
    ·simp [hd] at q
    ·cases d <;> simp [hd,yh] at q
     ·rename_i n e;simp only [wc,arrKs,hd,Option.none_or] at c;split at c
      ·rename_i j i u hi;split at c
       ·rename_i hs;cases c;rw [show (10000:Nat)=9999+1 from rfl,run_equalIn_array w 9999 us vs hd hi,List.range_eq_range'];exact eqItems_sound (by simp [wc,u]) hi hs s p n 0 (by simpa using f) 9999 (by omega)
       ·cases c
      ·cases c
     ·rename_i fs;have l:P.fieldsOf t=fs:=by simp [Program.fieldsOf,hd]
      simp only [wc,arrKs,hd,Option.or_none] at c;split at c
      ·cases c
      ·rename_i o;rw [show (10000:Nat)=9999+1 from rfl,run_equalIn_struct w 9999 t _ _ (by rw [l];exact hd) (by simpa using o),l];exact eqF (eqE 5) fs.toList 0 c s p (by simpa using f) 9999 (by omega)
   ·cases f
  ·cases f
 ·split at f
  ·rename_i hd;cases f;simp only [V] at m k;subst m k;exact run_equalIn_bool w 9999 t _ _ hd
  ·cases f
 ·split at f
  ·rename_i d hd;exact nil_sound hd m k f 9999
  ·cases f

theorem eq_bin {t:TypeId} {ox oy:Operand} {a b:AV} {x y:Value} (c:V g a x) (d:V g b y) {r:Bool} (f:aEq P t a b=some r) :
  (do eqGuard .eql t ox oy x y;binOp .eql t x y:Sem Value).run P w=.ok (.bool r) w/\(do eqGuard .neq t ox oy x y;binOp .neq t x y:Sem Value).run P w=.ok (.bool !r) w:=by
 have e:=eq_sound (w:=w) c d f;unfold aEq at f;split at f
 ·split at f
  ·rename_i j;simp only [V] at c d;obtain ⟨us,rfl,_⟩:=c;obtain ⟨vs,rfl,_⟩:=d;simp [run_eqGuard_agg w _ t ox oy us vs j.1,run_eql_struct,run_neq_struct,e]
  ·cases f
 ·simp only [V] at c d;subst c d;simp [eqGuard_at_bool,binOp,Op.equal,Op.maxDepth,e]
 ·split at f
  ·unfold aNil at f;split at f <;> first
    | (cases f;done)
    | (
           simp only [V] at c d
           first
             | (subst c d;simp [eqGuard,binOp,Op.equal,Op.maxDepth,e];done)
             | (obtain ⟨_,_,rfl⟩:=c;subst d;simp [eqGuard,binOp,Op.equal,Op.maxDepth,e];done)
             | (obtain ⟨_,_,rfl⟩:=d;subst c;simp [eqGuard,binOp,Op.equal,Op.maxDepth,e];done)
             | (obtain ⟨_,_,rfl,_⟩:=c;subst d;simp [eqGuard,binOp,Op.equal,Op.maxDepth,e];done)
             | (obtain ⟨_,_,rfl,_⟩:=d;subst c;simp [eqGuard,binOp,Op.equal,Op.maxDepth,e];done)
             | (obtain ⟨_,_,_,rfl,_⟩:=c;subst d;simp [eqGuard,binOp,Op.equal,Op.maxDepth,e];done)
             | (obtain ⟨A,C,i,_⟩:=c;subst d;rw [i] at e ⊢;revert e;generalize List.length _=n;intro e;simp [eqGuard,binOp,Op.equal,Op.maxDepth,e];done))
  ·cases f

theorem nilq_sound {op:BinOp} {t:TypeId} {h:AH} {ox oy:Operand} {a b:AV} {x y:Value} (s:V g a x) (p:V g b y) {S:AV->AH->Prop} (j:aNilq P op t h a b=some S) :
  ∃r,(do eqGuard op t ox oy x y;binOp op t x y:Sem Value).run P w=.ok (.bool r) w/\S (.bool r) h:=by
 have n:∀(D:Nat) (es:List (List AV)) (f:Option Addr) (c:Nat) (e:TypeId),P.underlying t=some (.slice e)->(es=[] \/ ∃b o,f=some ⟨b,o,none⟩)->∃r,(Op.equalIn (D+1) t (.slice f es.length c) (.slice none 0 0)).run P w=.ok r w/\(r=true->es=[]):=by
  intro D es f c e i d;cases f with
  | none =>
   rcases d with rfl | ⟨_,_,h⟩
   ·exact ⟨true,by simp [Op.equalIn,yC i],λ_=>rfl⟩
   ·cases h
  | some f=>exact ⟨false,by simp [Op.equalIn,yC i],λh=>by cases h⟩
 have key:∀(es:List (List AV)) (f:Option Addr) (c:Nat) (e:TypeId),P.underlying t=some (.slice e)->(es=[] \/ ∃b o,f=some ⟨b,o,none⟩)->∃r,(Op.equalIn 10000 t (.slice f es.length c) (.slice none 0 0)).run P w=.ok r w/\(r=true->es=[]):=λes f c e i d=>n 9999 es f c e i d;unfold aNilq at j;split at j
 ·rename_i k es;simp only [V] at s p;obtain ⟨f,c,rfl,_,_,d⟩:=s;subst p;split at j
  ·rename_i e i;obtain ⟨r,l,m⟩:=key es f c e i (d.imp id λ⟨b,o,h,_⟩=>⟨b,o,h⟩);cases j;exact ⟨r,by simp [eqGuard,binOp,Op.equal,Op.maxDepth,l],rfl,r,rfl,m⟩
  ·rename_i e i;obtain ⟨r,l,m⟩:=key es f c e i (d.imp id λ⟨b,o,h,_⟩=>⟨b,o,h⟩);cases j;exact ⟨!r,by simp [eqGuard,binOp,Op.equal,Op.maxDepth,l],rfl,r,rfl,m⟩
  ·cases j
 ·rename_i q k es;simp only [V] at s p;obtain ⟨f,c,rfl,_,_,d,_⟩:=s;subst p;split at j
  ·rename_i e i;obtain ⟨r,l,m⟩:=key es f c e i (d.imp id λ⟨b,o,h,_⟩=>⟨b,o,h⟩);cases j;exact ⟨r,by simp [eqGuard,binOp,Op.equal,Op.maxDepth,l],rfl,r,rfl,m⟩
  ·rename_i e i;obtain ⟨r,l,m⟩:=key es f c e i (d.imp id λ⟨b,o,h,_⟩=>⟨b,o,h⟩);cases j;exact ⟨!r,by simp [eqGuard,binOp,Op.equal,Op.maxDepth,l],rfl,r,rfl,m⟩
  ·cases j
 ·cases j
theorem bin_sound {op:BinOp} {t:TypeId} {ox oy:Operand} {a b v:AV} {x y:Value} (d:V g a x) (e:V g b y) (c:yH P op t a b=some v) :
  ∃u,(do eqGuard op t ox oy x y;binOp op t x y:Sem Value).run P w=.ok u w/\V g v u:=by
 unfold yH at c;split at c
 ·split at c
  ·rename_i f;simp only [V] at d e;subst d e;exact int_sound f c
  ·cases c
 ·simp only [V] at d e;obtain ⟨rfl,_⟩:=d;obtain ⟨rfl,_⟩:=e;exact str_sound c
 ·split at c
  ·rcases hr:aEq P t a b with _ | r
   ·simp [hr] at c
   ·simp [hr] at c;subst c;exact ⟨_,(eq_bin d e hr).1,by simp only [V]⟩
  ·rcases hr:aEq P t a b with _ | r
   ·simp [hr] at c
   ·simp [hr] at c;subst c;exact ⟨_,(eq_bin d e hr).2,by simp only [V]⟩
  ·cases c

theorem un_sound {op:UnOp} {a v:AV} {x:Value} (c:V g a x) (b:aUn op a=some v):∃u,(Op.unary op x).run P w=.ok u w/\V g v u:=by
 unfold aUn at b;split at b
 ·simp only [V] at c;subst c;split at b
  ·cases b;exact ⟨_,rfl,by simp only [V]⟩
  ·cases b;exact ⟨_,rfl,by simp only [V]⟩
  ·cases b
 ·simp only [V] at c;subst c;split at b
  ·cases b;exact ⟨_,by simp [Op.unary];rfl,by simp only [V]⟩
  ·cases b
 ·cases b

theorem convert_sound {s t:TypeId} {ds d:TypeDesc} (hs:P.underlying s=some ds) (hd:P.underlying t=some d) {a v:AV} {x:Value} (c:V g a x) (b:aConvert d a=some v) :
  ∃u,(convert s t x).run P w=.ok u w/\V g v u:=by
 unfold aConvert at b;split at b
 ·simp only [V] at c;subst c;split at b
  ·cases b;exact ⟨_,by simp [convert,yC hs,yC hd,Conv.intToInt];rfl,by simp only [V]⟩
  ·cases b
 ·simp only [V] at c;obtain ⟨rfl,e⟩:=c;split at b
  ·cases b;exact ⟨_,by simp [convert,yC hs,yC hd];rfl,by simp only [V];exact ⟨trivial,e⟩⟩
  ·cases b
 ·cases b

theorem len_str_sound {t ty:TypeId} (b:P.underlying t=some .string) {s:List UInt8} {x:Value} (a:V g (.str s) x) :
  (Builtin.len_ #[t] ty #[x]).run P w=.ok (.int .i64 s.length) w/\s.length<=maxLen:=by
 simp only [V] at a;obtain ⟨rfl,c⟩:=a;exact ⟨by simp [Builtin.len_,yC b,str_size,goInt],c⟩
theorem len_sl_sound {t ty e:TypeId} (d:P.underlying t=some (.slice e)) {a:AV} {x:Value} (c:V g a x) {n:Nat} (b:aLen a=some n) :
  (Builtin.len_ #[t] ty #[x]).run P w=.ok (.int .i64 n) w/\n<=maxLen:=by
 unfold aLen at b;split at b <;> first
  | (
       cases b;simp only [V] at c
       first
         | (obtain ⟨_,_,rfl,i,f,_⟩:=c;exact ⟨by simp [Builtin.len_,yC d,goInt],by omega⟩)
         | (obtain ⟨_,_,_,rfl,i,f⟩:=c;exact ⟨by simp [Builtin.len_,yC d,goInt],by omega⟩)
         | (subst c;exact ⟨by simp [Builtin.len_,yC d,goInt],by simp⟩))
  | cases b

theorem VA.flatten {z:List AV} {a:List Value} (h:VA g z a):∀n,VA g (List.replicate n z).flatten (List.replicate n a).flatten
 | 0=>by simp only [List.replicate_zero,sW,VA]
 | n+1=>by
  simp only [rp,tq];exact VA.append h (VA.flatten h n)
theorem range_rep (a:Array Value):∀n:Nat,(List.range (n * a.size)).map (λi=>a[i % a.size]!)=(List.replicate n a.toList).flatten
 | 0=>by simp
 | n+1=>by
  rw [sn,p8,List.range_add,sJ,rp,tq,<- range_rep a n,rN];congr 1
  ·apply List.ext_getElem
   ·simp
   ·intro i c b;simp at c b;simp [pZ b,b]
  ·apply rb;intro i _;simp [Nat.add_mod_left]

theorem aFill_len {a:Nat->Option (Nat×Nat)}:∀{parts:List (Nat×AV)} {cs out:List AV},qd a cs parts=some out->out.length=cs.length
 | [],cs,out,h=>by simp only [qd,un] at h;rw [h]
 | (i,v)::r,cs,out,h=>by
  simp only [qd] at h;split at h
  ·split at h
   ·rename_i b;rw [aFill_len h];simp [yX];omega
   ·cases h
  ·cases h
theorem buildSlice_sound (r:Rel B w0 g h w) {t e:TypeId} {n:Nat} {i:TypeInfo} {z cs out:List AV} {env:List AV} {a:Act} (T:VL g env a.tmps.toList) {parts:Array (Nat×Operand)} (G:(parts.all λp=>yy p.2)=true)
  (R:P.underlying t=some (.slice e)) (hi:P.info? e=some i) (hz:xD P e=some z) (l:0 < i.size) (X:n * i.size<=65536) (q:z.length=i.size)
  (c:qd (λj=>some (j * i.size,i.size)) ((List.replicate n z).flatten) (xB P (.slice e) env parts)=some cs) (O:x5 cs=some out) :
  ∃u w' g',(Instr.buildSlice t n (parts.map λ(i,x)=>(i,a.eval x))).run P w=.ok u w'/\g.le g'/\Rel B w0 g' h w'/\V g' (.osl none i.size (rows i.size n out)) u:=by
 obtain ⟨i',E,b,N,y⟩:=qA (g:=g) hz;rw [hi] at b;injection b with b;subst b;have H:E.cells.size=i.size:=by rw [<- q,y.length];rfl
 rcases su n with rfl | S
 ·-- empty
  simp only [List.replicate_zero,sW] at c;rcases hp:xB P (.slice e) env parts with _ | ⟨⟨j,v⟩,rest⟩
  ·have I:parts=#[]:=by
    have:parts.toList=[]:=by simpa [xB] using hp
    exact Array.toList_eq_nil_iff.1 this
   subst I;refine ⟨.slice (some ⟨w.heap.size,0,none⟩) 0 0,w.alloc (.cells #[] e),g,by simp [Instr.buildSlice,yC R,x6 hi,Instr.fill,newRow];congr 2;apply sD;simp,Gh.le.refl g,r.alloc0 _,?_⟩;simp only [rows,V];exact ⟨_,0,rfl,uh _,by simp,.inl trivial,rfl⟩
  ·rw [hp] at c;simp only [qd] at c;split at c
   ·rename_i K _;injection K with K;injection K with Q F;split at c
    ·rename_i f;simp at f;omega
    ·cases c
   ·cases c
 ·have L:¬ (n * i.size=0):=by
   have:=pQ S l;omega
  obtain ⟨h1,W⟩:=parts_rel (P:=P) (d:=.slice e) T G;have s:=VA.flatten y n;obtain ⟨xs,M,J⟩:=fill_sound (place':=λj=>some (j * i.size,i.size)) (λi x h=>h) (us:=(Array.range (n * i.size)).map (E.cells[· % E.cells.size]!))
   (by rw [<- H,rM,rZ,range_rep];exact s) h1 W c
  have m:=clean_sound J O;have C:out.length=n * i.size:=by
   rw [clean_len O,aFill_len c];simp [q]
  have Y:xs.size=n * i.size:=by rw [<- C,m.length];rfl
  have D:=run_buildSlice w t e n _ xs i E R hi N (by omega) L M;have Z:=r.newRow xs e xs.size;have f:=g.le_vow w.heap.size λj=>if j < xs.size then xs[j]? else none
  obtain ⟨Q,F,e3⟩:=rows_flat (k:=i.size) n out C;refine ⟨_,_,_,D,f,Z,?_⟩;simp only [V];refine ⟨some ⟨w.heap.size,0,none⟩,n,by rw [F],by rw [F];exact uh _,by simp only [maxLen];have:=pb n l;omega,.inr ⟨w.heap.size,0,rfl,?_⟩,by rw [F]⟩;refine VE_iff.2 ⟨e3,?_⟩;rw [Q];refine VC.ofVA (m.mono f _ _) (clean_pure O) λj u A=>?_;have U:j < xs.size:=by
   have:=(uc.1 A).1;simpa using this
  have o:g.Φ w.heap.size j=none:=by
   rcases he':g.Φ w.heap.size j with _ | v
   ·rfl
   ·exact absurd (r.phi_lt he') (sH _)
  simp only [Gh.vow,ut,uZ,o,up U];rw [<- uv];exact A
end
end Go.Vv
