/- Each operation of the model: the two-place and one-place ones, lengths, new slices. -/
import Derived.Test.YtbaclapbinkedaaVvH
namespace Go.Vv
open Go Go.RowKit Go.Lib
section
variable {P:Program} {w:World} {g:Gh} {h:AH} {B:Nat} {w0:World}
theorem str_size (s:List UInt8):(⟨s.toArray⟩:ByteArray).size=s.length:=by simp [ByteArray.size]

def scal:AV→Value
 | .bool b=>.bool b
 | .int k n=>.int k n
 | .str s=>.string ⟨s.toArray⟩
 | _=>undef

theorem int_sound {op:BinOp} {t:TypeId} {k k':IntKind} {a b:Int} (hk:k=k' ∨ op=.shl ∨ op=.shr) {ox oy:Operand} {v:AV} (ha:aInt op k a b=some v) :
  ∃ u,(do eqGuard op t ox oy (.int k a) (.int k' b);binOp op t (.int k a) (.int k' b):Sem Value).run P w=.ok u w∧V g v u:=by
 refine ⟨scal v,?_,?_⟩
 ·simp only [eqGuard_at_int]
  cases op <;> simp only [aInt,Option.some.injEq] at ha
  case shl =>
   split at ha
   ·cases ha
   ·rename_i hb;cases ha;simp [binOp,Op.shift,hb,scal]
  case shr =>
   split at ha
   ·cases ha
   ·rename_i hb;cases ha;simp [binOp,Op.shift,hb,scal]
  case quo =>
   have hk':k=k':=by simpa using hk
   split at ha
   ·cases ha
   ·rename_i hb;cases ha;simp [binOp,Op.intDiv,hb,scal,hk']
  case rem =>
   have hk':k=k':=by simpa using hk
   split at ha
   ·cases ha
   ·rename_i hb;cases ha;simp [binOp,Op.intDiv,hb,scal,hk']
  all_goals
   have hk':k=k':=by simpa using hk
   subst hk' ha
   simp [binOp,Op.intArith,Op.intCmp,Op.intBits,scal]
 ·cases op <;> simp only [aInt,Option.some.injEq] at ha <;> first
   | (subst ha;simp only [scal,V];done)
   | (
         split at ha
         · cases ha
         · cases ha;simp only [scal,V])

theorem str_sound {op:BinOp} {t:TypeId} {x y:List UInt8} {ox oy:Operand} {v:AV} (ha:aStr op x y=some v) :
  ∃ u,(do eqGuard op t ox oy (.string ⟨x.toArray⟩) (.string ⟨y.toArray⟩);binOp op t (.string ⟨x.toArray⟩) (.string ⟨y.toArray⟩):Sem Value).run P w=.ok u w∧V g v u:=by
 refine ⟨scal v,?_,?_⟩
 ·simp only [eqGuard_at_string]
  cases op <;> simp only [aStr,Option.some.injEq,reduceCtorEq] at ha
  case add =>
   split at ha
   ·rename_i hle
    cases ha
    have h1:¬ ((9223372036854775807:Int) < (x.length:Int)+(y.length:Int)):=by simp only [maxLen] at hle;omega
    simp [binOp,Op.stringOp,str_size,h1,scal]
    apply ByteArray.ext;simp
   ·cases ha
  all_goals
   subst ha
   simp [binOp,Op.stringOp,scal]
 ·cases op <;> simp only [aStr,Option.some.injEq,reduceCtorEq] at ha <;> first
   | (subst ha;simp only [scal,V];done)
   | (
         split at ha
         · rename_i hle
           cases ha;simp only [scal,V];exact ⟨trivial,by simpa using hle⟩
         · cases ha)

theorem nil_sound {d:TypeDesc} {t:TypeId} (hd:P.underlying t=some d) {a b:AV} {x y:Value} (ha:V g a x) (hb:V g b y) {r:Bool} (hr:aNil d a b=some r) (D:Nat):(Op.equalIn (D+1) t x y).run P w=.ok r w:=by
 unfold aNil at hr
 split at hr <;> first
  | (
       cases hr
       simp only [V] at ha hb
       first
         | (subst ha hb;simp [Op.equalIn,yN hd];done)
         | (obtain ⟨_,_,rfl⟩:=ha;subst hb;simp [Op.equalIn,yN hd];done)
         | (obtain ⟨_,_,rfl⟩:=hb;subst ha;simp [Op.equalIn,yN hd];done)
         | (obtain ⟨_,_,rfl,_⟩:=ha;subst hb;simp [Op.equalIn,yN hd];done)
         | (obtain ⟨_,_,rfl,_⟩:=hb;subst ha;simp [Op.equalIn,yN hd];done)
         | (obtain ⟨_,_,_,rfl,_⟩:=ha;subst hb;simp [Op.equalIn,yN hd];done)
         | (
      obtain ⟨_,_,rfl,_,_,h3⟩:=ha;subst hb
      rcases h3 with h3 | ⟨_,_,rfl,_⟩
      ·cases h3
      ·simp [Op.equalIn,yN hd])
         | (
      obtain ⟨_,_,rfl,_,_,h3,_⟩:=ha;subst hb
      rcases h3 with h3 | ⟨_,_,rfl,_⟩
      ·cases h3
      ·simp [Op.equalIn,yN hd]))
  | cases hr

theorem eq_sound {t:TypeId} {a b:AV} {x y:Value} (ha:V g a x) (hb:V g b y) {r:Bool} (hr:aEq P t a b=some r):(Op.equalIn 10000 t x y).run P w=.ok r w:=by
 unfold aEq at hr
 split at hr
 ·rename_i cs ds
  split at hr
  ·rename_i hc
   split at hr
   ·rename_i ks hks
    simp only [V] at ha hb
    obtain ⟨us,rfl,hu⟩:=ha
    obtain ⟨vs,rfl,hv⟩:=hb
    have h2:=hc.2
    rcases hd:P.underlying t with _ | d
    ·simp [hd] at h2
    ·cases d <;> simp [hd,yI] at h2
     ·rename_i n e
      simp only [wp,arrKs,hd,Option.none_or] at hks
      split at hks
      ·rename_i j i hj hi
       split at hks
       ·rename_i hs
        cases hks
        rw [show (10000:Nat)=9999+1 from rfl,run_equalIn_array w 9999 us vs hd hi,List.range_eq_range']
        exact eqItems_sound (by simp [wp,hj]) hi hs hu hv n 0 (by simpa using hr) 9999 (by omega)
       ·cases hks
      ·cases hks
     ·rename_i fs
      have hfo:P.fieldsOf t=fs:=by simp [Program.fieldsOf,hd]
      simp only [wp,arrKs,hd,Option.or_none] at hks
      split at hks
      ·cases hks
      ·rename_i hst
       rw [show (10000:Nat)=9999+1 from rfl,run_equalIn_struct w 9999 t _ _ (by rw [hfo];exact hd) (by simpa using hst),hfo]
       exact eqF (eqE 5) fs.toList 0 hks hu hv (by simpa using hr) 9999 (by omega)
   ·cases hr
  ·cases hr
 ·split at hr
  ·rename_i hd
   cases hr
   simp only [V] at ha hb
   subst ha hb
   exact run_equalIn_bool w 9999 t _ _ hd
  ·cases hr
 ·split at hr
  ·rename_i d hd
   exact nil_sound hd ha hb hr 9999
  ·cases hr

theorem eq_bin {t:TypeId} {ox oy:Operand} {a b:AV} {x y:Value} (ha:V g a x) (hb:V g b y) {r:Bool} (hr:aEq P t a b=some r) :
  (do eqGuard .eql t ox oy x y;binOp .eql t x y:Sem Value).run P w=.ok (.bool r) w∧(do eqGuard .neq t ox oy x y;binOp .neq t x y:Sem Value).run P w=.ok (.bool !r) w:=by
 have he:=eq_sound (w:=w) ha hb hr
 unfold aEq at hr
 split at hr
 ·split at hr
  ·rename_i hc
   simp only [V] at ha hb
   obtain ⟨us,rfl,_⟩:=ha
   obtain ⟨vs,rfl,_⟩:=hb
   simp [run_eqGuard_agg w _ t ox oy us vs hc.1,run_eql_struct,run_neq_struct,he]
  ·cases hr
 ·simp only [V] at ha hb
  subst ha hb
  simp [eqGuard_at_bool,binOp,Op.equal,Op.maxDepth,he]
 ·split at hr
  ·unfold aNil at hr
   split at hr <;> first
    | (cases hr;done)
    | (
           simp only [V] at ha hb
           first
             | (subst ha hb;simp [eqGuard,binOp,Op.equal,Op.maxDepth,he];done)
             | (obtain ⟨_,_,rfl⟩:=ha;subst hb;simp [eqGuard,binOp,Op.equal,Op.maxDepth,he];done)
             | (obtain ⟨_,_,rfl⟩:=hb;subst ha;simp [eqGuard,binOp,Op.equal,Op.maxDepth,he];done)
             | (obtain ⟨_,_,rfl,_⟩:=ha;subst hb;simp [eqGuard,binOp,Op.equal,Op.maxDepth,he];done)
             | (obtain ⟨_,_,rfl,_⟩:=hb;subst ha;simp [eqGuard,binOp,Op.equal,Op.maxDepth,he];done)
             | (obtain ⟨_,_,_,rfl,_⟩:=ha;subst hb;simp [eqGuard,binOp,Op.equal,Op.maxDepth,he];done)
             | (obtain ⟨A,C,hx,_⟩:=ha;subst hb;rw [hx] at he ⊢;revert he;generalize List.length _=n;intro he;simp [eqGuard,binOp,Op.equal,Op.maxDepth,he];done))
  ·cases hr

theorem nilq_sound {op:BinOp} {t:TypeId} {h:AH} {ox oy:Operand} {a b:AV} {x y:Value} (ha:V g a x) (hb:V g b y) {S:AV→AH→Prop} (hS:aNilq P op t h a b=some S) :
  ∃ r,(do eqGuard op t ox oy x y;binOp op t x y:Sem Value).run P w=.ok (.bool r) w∧S (.bool r) h:=by
 have keyD:∀ (D:Nat) (es:List (List AV)) (ad:Option Addr) (c:Nat) (e:TypeId),P.underlying t=some (.slice e)→(es=[] ∨ ∃ b o,ad=some ⟨b,o,none⟩)→∃ r,(Op.equalIn (D+1) t (.slice ad es.length c) (.slice none 0 0)).run P w=.ok r w∧(r=true→es=[]):=by
  intro D es ad c e hu hes
  cases ad with
  | none =>
   rcases hes with rfl | ⟨_,_,h⟩
   ·exact ⟨true,by simp [Op.equalIn,yN hu],fun _=>rfl⟩
   ·cases h
  | some ad=>exact ⟨false,by simp [Op.equalIn,yN hu],fun h=>by cases h⟩
 have key:∀ (es:List (List AV)) (ad:Option Addr) (c:Nat) (e:TypeId),P.underlying t=some (.slice e)→(es=[] ∨ ∃ b o,ad=some ⟨b,o,none⟩)→∃ r,(Op.equalIn 10000 t (.slice ad es.length c) (.slice none 0 0)).run P w=.ok r w∧(r=true→es=[]):=fun es ad c e hu hes=>keyD 9999 es ad c e hu hes
 unfold aNilq at hS
 split at hS
 ·rename_i k es
  simp only [V] at ha hb
  obtain ⟨ad,c,rfl,_,_,hes⟩:=ha
  subst hb
  split at hS
  ·rename_i e hu
   obtain ⟨r,he,hr⟩:=key es ad c e hu (hes.imp id fun ⟨b,o,h,_⟩=>⟨b,o,h⟩)
   cases hS
   exact ⟨r,by simp [eqGuard,binOp,Op.equal,Op.maxDepth,he],rfl,r,rfl,hr⟩
  ·rename_i e hu
   obtain ⟨r,he,hr⟩:=key es ad c e hu (hes.imp id fun ⟨b,o,h,_⟩=>⟨b,o,h⟩)
   cases hS
   exact ⟨!r,by simp [eqGuard,binOp,Op.equal,Op.maxDepth,he],rfl,r,rfl,hr⟩
  ·cases hS
 ·rename_i q k es
  simp only [V] at ha hb
  obtain ⟨ad,c,rfl,_,_,hes,_⟩:=ha
  subst hb
  split at hS
  ·rename_i e hu
   obtain ⟨r,he,hr⟩:=key es ad c e hu (hes.imp id fun ⟨b,o,h,_⟩=>⟨b,o,h⟩)
   cases hS
   exact ⟨r,by simp [eqGuard,binOp,Op.equal,Op.maxDepth,he],rfl,r,rfl,hr⟩
  ·rename_i e hu
   obtain ⟨r,he,hr⟩:=key es ad c e hu (hes.imp id fun ⟨b,o,h,_⟩=>⟨b,o,h⟩)
   cases hS
   exact ⟨!r,by simp [eqGuard,binOp,Op.equal,Op.maxDepth,he],rfl,r,rfl,hr⟩
  ·cases hS
 ·cases hS
theorem bin_sound {op:BinOp} {t:TypeId} {ox oy:Operand} {a b v:AV} {x y:Value} (ha:V g a x) (hb:V g b y) (hv:aBin P op t a b=some v) :
  ∃ u,(do eqGuard op t ox oy x y;binOp op t x y:Sem Value).run P w=.ok u w∧V g v u:=by
 unfold aBin at hv
 split at hv
 ·split at hv
  ·rename_i hk
   simp only [V] at ha hb
   subst ha hb
   exact int_sound hk hv
  ·cases hv
 ·simp only [V] at ha hb
  obtain ⟨rfl,_⟩:=ha
  obtain ⟨rfl,_⟩:=hb
  exact str_sound hv
 ·split at hv
  ·rcases hr:aEq P t a b with _ | r
   ·simp [hr] at hv
   ·simp [hr] at hv;subst hv
    exact ⟨_,(eq_bin ha hb hr).1,by simp only [V]⟩
  ·rcases hr:aEq P t a b with _ | r
   ·simp [hr] at hv
   ·simp [hr] at hv;subst hv
    exact ⟨_,(eq_bin ha hb hr).2,by simp only [V]⟩
  ·cases hv

theorem un_sound {op:UnOp} {a v:AV} {x:Value} (ha:V g a x) (hv:aUn op a=some v):∃ u,(Op.unary op x).run P w=.ok u w∧V g v u:=by
 unfold aUn at hv
 split at hv
 ·simp only [V] at ha
  subst ha
  split at hv
  ·cases hv;exact ⟨_,rfl,by simp only [V]⟩
  ·cases hv;exact ⟨_,rfl,by simp only [V]⟩
  ·cases hv
 ·simp only [V] at ha
  subst ha
  split at hv
  ·cases hv;exact ⟨_,by simp [Op.unary];rfl,by simp only [V]⟩
  ·cases hv
 ·cases hv

theorem convert_sound {s t:TypeId} {ds d:TypeDesc} (hs:P.underlying s=some ds) (hd:P.underlying t=some d) {a v:AV} {x:Value} (ha:V g a x) (hv:aConvert d a=some v) :
  ∃ u,(convert s t x).run P w=.ok u w∧V g v u:=by
 unfold aConvert at hv
 split at hv
 ·simp only [V] at ha
  subst ha
  split at hv
  ·cases hv
   exact ⟨_,by simp [convert,yN hs,yN hd,Conv.intToInt];rfl,by simp only [V]⟩
  ·cases hv
 ·simp only [V] at ha
  obtain ⟨rfl,hl⟩:=ha
  split at hv
  ·cases hv
   exact ⟨_,by simp [convert,yN hs,yN hd];rfl,by simp only [V];exact ⟨trivial,hl⟩⟩
  ·cases hv
 ·cases hv

theorem len_str_sound {t ty:TypeId} (ht:P.underlying t=some .string) {s:List UInt8} {x:Value} (ha:V g (.str s) x) :
  (Builtin.len_ #[t] ty #[x]).run P w=.ok (.int .i64 s.length) w∧s.length≤maxLen:=by
 simp only [V] at ha
 obtain ⟨rfl,hl⟩:=ha
 exact ⟨by simp [Builtin.len_,yN ht,str_size,goInt],hl⟩
theorem len_sl_sound {t ty e:TypeId} (ht:P.underlying t=some (.slice e)) {a:AV} {x:Value} (ha:V g a x) {n:Nat} (hn:aLen a=some n) :
  (Builtin.len_ #[t] ty #[x]).run P w=.ok (.int .i64 n) w∧n≤maxLen:=by
 unfold aLen at hn
 split at hn <;> first
  | (
       cases hn
       simp only [V] at ha
       first
         | (obtain ⟨_,_,rfl,h1,h2,_⟩:=ha;exact ⟨by simp [Builtin.len_,yN ht,goInt],by omega⟩)
         | (obtain ⟨_,_,_,rfl,h1,h2⟩:=ha;exact ⟨by simp [Builtin.len_,yN ht,goInt],by omega⟩)
         | (subst ha;exact ⟨by simp [Builtin.len_,yN ht,goInt],by simp⟩))
  | cases hn

theorem VA.flatten {z:List AV} {zs:List Value} (h:VA g z zs):∀ n,VA g (List.replicate n z).flatten (List.replicate n zs).flatten
 | 0=>by simp only [List.replicate_zero,List.flatten_nil,VA]
 | n+1=>by
  simp only [List.replicate_succ,List.flatten_cons]
  exact VA.append h (VA.flatten h n)
theorem range_rep (zs:Array Value):∀ n:Nat,(List.range (n * zs.size)).map (fun i=>zs[i % zs.size]!)=(List.replicate n zs.toList).flatten
 | 0=>by simp
 | n+1=>by
  rw [Nat.succ_mul,Nat.add_comm,List.range_add,List.map_append,List.replicate_succ,List.flatten_cons,← range_rep zs n,List.map_map]
  congr 1
  ·apply List.ext_getElem
   ·simp
   ·intro i h1 h2
    simp at h1 h2
    simp [Nat.mod_eq_of_lt h2,h2]
  ·apply List.map_congr_left
   intro i _
   simp [Nat.add_mod_left]

theorem aFill_len {place:Nat→Option (Nat×Nat)}:∀ {parts:List (Nat×AV)} {cs out:List AV},qx place cs parts=some out→out.length=cs.length
 | [],cs,out,h=>by simp only [qx,Option.some.injEq] at h;rw [h]
 | (i,v)::r,cs,out,h=>by
  simp only [qx] at h
  split at h
  ·split at h
   ·rename_i hle
    rw [aFill_len h]
    simp [xJ];omega
   ·cases h
  ·cases h
theorem buildSlice_sound (r:Rel B w0 g h w) {t e:TypeId} {n:Nat} {i:TypeInfo} {z cs out:List AV} {env:List AV} {a:Act} (he:VL g env a.tmps.toList) {parts:Array (Nat×Operand)} (hok:(parts.all fun p=>yF p.2)=true)
  (hu:P.underlying t=some (.slice e)) (hi:P.info? e=some i) (hz:wy P e=some z) (hpos:0 < i.size) (hsm:n * i.size≤65536) (hzl:z.length=i.size)
  (hf:qx (fun j=>some (j * i.size,i.size)) ((List.replicate n z).flatten) (xQ P (.slice e) env parts)=some cs) (hc:wr cs=some out) :
  ∃ u w' g',(Instr.buildSlice t n (parts.map fun (i,x)=>(i,a.eval x))).run P w=.ok u w'∧g.le g'∧Rel B w0 g' h w'∧V g' (.osl none i.size (rows i.size n out)) u:=by
 obtain ⟨i',zv,hi',hzv,hva⟩:=qB (g:=g) hz
 rw [hi] at hi'
 injection hi' with hi'
 subst hi'
 have hzs:zv.cells.size=i.size:=by rw [← hzl,hva.length];rfl
 rcases Nat.eq_zero_or_pos n with rfl | hn
 ·-- empty
  simp only [List.replicate_zero,List.flatten_nil] at hf
  rcases hp:xQ P (.slice e) env parts with _ | ⟨⟨j,v⟩,rest⟩
  ·have hpe:parts=#[]:=by
    have:parts.toList=[]:=by simpa [xQ] using hp
    exact Array.toList_eq_nil_iff.1 this
   subst hpe
   refine ⟨.slice (some ⟨w.heap.size,0,none⟩) 0 0,w.alloc (.cells #[] e),g,by simp [Instr.buildSlice,yN hu,wN hi,Instr.fill,newRow];congr 2;apply Array.ext';simp,Gh.le.refl g,r.alloc0 _,?_⟩
   simp only [rows,V]
   exact ⟨_,0,rfl,Nat.le_refl _,by simp,.inl trivial,rfl⟩
  ·rw [hp] at hf
   simp only [qx] at hf
   split at hf
   ·rename_i hx _
    injection hx with hx;injection hx with e1 e2
    split at hf
    ·rename_i hle
     simp at hle;omega
    ·cases hf
   ·cases hf
 ·have hn0:¬ (n * i.size=0):=by
   have:=Nat.mul_pos hn hpos;omega
  obtain ⟨h1,h2⟩:=parts_rel (P:=P) (d:=.slice e) he hok
  have hva':=VA.flatten hva n
  obtain ⟨xs,hx1,hx2⟩:=fill_sound (place':=fun j=>some (j * i.size,i.size)) (fun i x h=>h) (us:=(Array.range (n * i.size)).map (zv.cells[· % zv.cells.size]!))
   (by rw [← hzs,Array.toList_map,Array.toList_range,range_rep];exact hva') h1 h2 hf
  have hout:=clean_sound hx2 hc
  have hol:out.length=n * i.size:=by
   rw [clean_len hc,aFill_len hf]
   simp [hzl]
  have hxs:xs.size=n * i.size:=by rw [← hol,hout.length];rfl
  have hrun:=run_buildSlice w t e n _ xs i zv hu hi hzv (by omega) hn0 hx1
  have r1:=r.newRow xs e xs.size
  have hle:=g.le_vow w.heap.size fun j=>if j < xs.size then xs[j]? else none
  obtain ⟨e1,e2,e3⟩:=rows_flat (k:=i.size) n out hol
  refine ⟨_,_,_,hrun,hle,r1,?_⟩
  simp only [V]
  refine ⟨some ⟨w.heap.size,0,none⟩,n,by rw [e2],by rw [e2];exact Nat.le_refl _,by simp only [maxLen];have:=Nat.le_mul_of_pos_right n hpos;omega,.inr ⟨w.heap.size,0,rfl,?_⟩,by rw [e2]⟩
  refine VE_iff.2 ⟨e3,?_⟩
  rw [e1]
  refine VC.ofVA (hout.mono hle _ _) (clean_pure hc) fun j u hu'=>?_
  have hj:j < xs.size:=by
   have:=(List.getElem?_eq_some_iff.1 hu').1;simpa using this
  have hnone:g.Φ w.heap.size j=none:=by
   rcases he':g.Φ w.heap.size j with _ | v
   ·rfl
   ·exact absurd (r.phi_lt he') (Nat.lt_irrefl _)
  simp only [Gh.vow,if_true,Nat.zero_add,hnone,if_pos hj]
  rw [← Array.getElem?_toList];exact hu'
end
end Go.Vv
