/- More operations, whose outcomes may be several: ranges over maps. -/
import Derived.Test.YtbaclapbinkedaaVvL
import Derived.Test.YtbaclapbinkedaaVvRw
import Derived.Test.YtbaclapbinkedaaVvRs
import Derived.Maps.RangeRun
import Derived.RangeFuncRecord
import Derived.Laws.IdiomStrings
namespace Go.Vv
open Go Go.RowKit Go.Lib

def nextAlts (h:AH) (it id n:Nat) (seen:List Nat) (es:List (AV×AV)):List (AV×AH) :=
 match es.zipIdx.filter fun p=>!seen.contains p.2 with
 | []=>[(.tup [.bool false],h)]
 | p::r=>(p::r).map fun p=>(.tup [.bool true,p.1.1,p.1.2],h.put it (.miter id n (seen++[p.2])))
def bytesX:List (List AV)→Option (List UInt8)
 | []=>some []
 | [.int .u8 n]::r=>if 0≤n∧n < 256 then (match bytesX r with
  | some l=>some (UInt8.ofNat n.toNat::l)
  | none=>none) else none
 | _=>none
def convX (P:Program) (s t:TypeId) (a:AV):Option (List UInt8) :=
 match P.underlying s,P.underlying t with
 | some (.slice e),some .string=>match P.underlying e,tyfix P s a with
  | some (.int .u8),.sl 1 es | some (.int .u8),.osl _ 1 es=>match bytesX es with
   | some l=>if l.length≤maxLen then some l else none
   | none=>none
  | _,_=>none
 | _,_=>none
def bstep (P:Program) (o:Oper) (env:List AV) (h:AH):Option (List (AV×AH)) :=
 match o.op with
 | .range t x=>if yF x then (match P.underlying t,ev env x with
  | some (.map _ _),.map id=>match h.blk id with
   | some (.mapo es 0)=>some [(.ptr h.blks.length 0,h.new (.miter id es.length []))]
   | _=>none
  | some (.map _ _),.nilm=>some [(.ptr h.blks.length 0,h.new .miter0)]
  | _,_=>none) else none
 | .next x false=>if yF x then (match ev env x with
  | .ptr it 0=>match h.blk it with
   | some .miter0=>some [(.tup [.bool false],h)]
   | some (.miter id n seen)=>match h.blk id with
    | some (.mapo es 0)=>if es.length=n then some (nextAlts h it id n seen es) else none
    | _=>none
   | _=>none
  | _=>none) else none
 | .entry x=>if yF x then (match ev env x with
  | .ptr it 0=>match h.blk it with
   | some (.miter id n seen)=>match h.blk id,seen.getLast? with
    | some (.mapo es 0),some i=>if es.length=n then (match es[i]? with
     | some e=>some [(.tup [e.1,e.2],h)]
     | none=>none) else none
    | _,_=>none
   | _=>none
  | _=>none) else none
 | .buildSlice t n parts=>if parts.all fun p=>yF p.2 then (match P.underlying t with
  | some (.slice e)=>match P.info? e,wy P e with
   | some i,some z=>if 0 < n∧0 < i.size∧n * i.size≤65536∧z.length=i.size then
     (match (qx (fun j=>some (j * i.size,i.size)) ((List.replicate n z).flatten) (xQ P (.slice e) env parts)) with
           | some cs=>match wr cs with
             | some out=>some [(.rsl h.blks.length h.toks.length i.size n,({ h with toks:=h.toks++[n] }:AH).new (.row h.toks.length i.size (rows i.size n out)))]
             | none=>some [(.msl i.size h.blks.length 0 n,h.new (.cells cs))]
           | none=>none) else none
   | _,_=>none
  | _=>none) else none
 | .convert s t x=>if yF x then (match convX P s t (ev env x) with
  | some l=>some [(.str l,h)]
  | none=>none) else none
 | .call c=>match c.callee,c.argTypes.toList,c.args.toList with
  | .builtin .max,_,[x,y]=>if yF x&&yF y then (match ev env x,ev env y with
   | .int k a,.int k' b=>if k=k' then some [(.int k (if b > a then b else a),h)] else none
   | _,_=>none) else none
  | .builtin .min,_,[x,y]=>if yF x&&yF y then (match ev env x,ev env y with
   | .int k a,.int k' b=>if k=k' then some [(.int k (if b < a then b else a),h)] else none
   | _,_=>none) else none
  | .builtin .append,[t,u],[s,x]=>if yF s&&yF x then (match P.underlying t,P.underlying u with
   | some (.slice e),some (.slice _)=>match P.info? e,tyfix P t (ev env s),tyfix P u (ev env x) with
    | some _,.osl none k es,.sl _ [] | some _,.osl none k es,.osl _ _ []=>some [(.osl none k es,h)]
    | _,_,_=>none
   | _,_=>none) else none
  | .builtin .clear,[t],[x]=>if yF x then (match P.underlying t,ev env x with
   | some (.slice e),.rsuf id tk k n i=>match wy P e,h.blk id with
    | some z,some (.row t' k' es)=>if (t'=tk∧k'=k∧es.length=n)∧z.length=k∧0 < k then (match wr z with
     | some z'=>some [(.tup [],h.clr id tk k i es z')]
     | none=>none) else none
    | _,_=>none
   | _,_=>none) else none
  | _,_,_=>none
 | .insert t m k x=>match zN P { o with op:=.mapUpdate t m k x } env h with
  | .ok v h'=>some [(v,h')]
  | _=>none
 | .makeInterface t x=>if yF x then (match P.underlying t with
  | some (.interface _)=>none
  | some _=>some [(.iface t (tyfix P t (ev env x)),h)]
  | none=>none) else none
 | .typeAssert x _ t ok=>if yF x then (match P.underlying t,ev env x with
  | some (.interface _),_=>none
  | some _,.iface u v=>if u=t then some [(if ok then .tup [v,.bool true] else v,h)] else if ok then (match aZero P t with
   | some z=>some [(.tup [z,.bool false],h)]
   | none=>none) else none
  | _,_=>none) else none
 | .slice t x none (some y) none=>if yF x&&yF y then (match P.underlying t,ev env x,ev env y with
  | some (.slice e),.rsl id tk k m,.int _ n=>match P.info? e,h.blk id with
   | some _,some (.row t' k' es)=>if (t'=tk∧k'=k∧es.length=m)∧0≤n∧n.toNat≤m then some [(.rsl h.blks.length h.toks.length k n.toNat,h.shr id tk k n.toNat es)] else none
   | _,_=>none
  | _,_,_=>none) else none
 | .slice t x (some y) none none=>if yF x&&yF y then (match P.underlying t,ev env x,ev env y with
  | some (.slice e),.rsl id tk k m,.int _ n=>match P.info? e with
   | some i=>if i.size=k∧0≤n∧n.toNat≤m then some [(.rsuf id tk k m n.toNat,h)] else none
   | none=>none
  | _,_,_=>none) else none
 | _=>none

def bdraw:Op→Bool
 | .buildSlice _ _ _ | .slice _ _ _ _ _=>false
 | _=>true

section
variable {P:Program} {w:World} {g:Gh} {h:AH} {B:Nat} {w0:World}
theorem Rel.drewO (r:Rel B w0 g h w) {w1:World} (hw:w1=w ∨ w1=w.drew):Rel B w0 g h w1:=by
 rcases hw with rfl | rfl
 ·exact r
 ·exact r.drew
theorem setBlock_eq {w:World} {b:Nat} {o:Obj}:ChangeMaps.setBlock w b o=w.putObj b o:=by
 rfl
theorem bytesX_eq:∀ {es:List (List AV)} {l:List UInt8},bytesX es=some l→es=l.map fun b=>[AV.int .u8 b.toNat]
 | [],l,h=>by simp only [bytesX,Option.some.injEq] at h;subst h;rfl
 | e::r,l,h=>by
  unfold bytesX at h
  split at h
  ·rename_i h0;cases h0
  ·rename_i n r' h0
   injection h0 with h1 h2
   subst h1 h2
   split at h
   ·rename_i hn
    split at h
    ·rename_i l' hl
     simp only [Option.some.injEq] at h
     subst h
     rw [bytesX_eq hl]
     have:((UInt8.ofNat n.toNat).toNat:Int)=n:=by
      have h3:n.toNat < 256:=by omega
      simp [Nat.mod_eq_of_lt h3];omega
     simp only [List.map_cons,this]
    ·cases h
   ·cases h
  ·cases h
theorem bytes_run (r:Rel B w0 g h w) {s t e:TypeId} (hs:P.underlying s=some (.slice e)) (ht:P.underlying t=some .string) (he:P.underlying e=some (.int .u8)) {es:List (List AV)} {l:List UInt8} (hl:bytesX es=some l) {a:Option Addr} {c:Nat}
  (hv:es=[] ∨ ∃ b o,a=some ⟨b,o,none⟩∧VE g b 1 o es):(convert s t (.slice a es.length c)).run P w=.ok (.string ⟨l.toArray⟩) w:=by
 have hes:=bytesX_eq hl
 have hlen:es.length=l.length:=by rw [hes];simp
 have key:∀ ad:Addr,(∀ j (hj:j < l.length),w.cell? (ad.add j)=some (.int .u8 (l[j].toNat:Int)))→(convert s t (.slice (some ad) es.length c)).run P w=.ok (.string ⟨l.toArray⟩) w:=fun ad hc=>by
  rw [hlen];exact run_convert_bytes_back w s t e ad c l hs he ht hc
 cases a with
 | none =>
  rcases hv with rfl | ⟨b,o,e1,_⟩
  ·simp only [bytesX,Option.some.injEq] at hl
   subst hl
   simp [convert,run_underlying hs,run_underlying ht,run_underlying he,Conv.bytesToString]
   rfl
  ·cases e1
 | some ad =>
  refine key ad fun j hj=>?_
  rcases hv with rfl | ⟨b,o,e1,hve⟩
  ·simp at hlen;omega
  ·injection e1 with e1
   subst e1
   obtain ⟨_,hc⟩:=hve.get j [AV.int .u8 (l[j].toNat:Int)] (by rw [hes,List.getElem?_map,List.getElem?_eq_getElem hj];rfl)
   simp only [VC] at hc
   obtain ⟨⟨v,h1,_,h2⟩,_⟩:=hc
   simp only [V] at h2
   subst h2
   have:=r.phi _ _ _ h1
   rw [show (⟨b,o,none⟩:Addr).add j=⟨b,o+j,none⟩ by unfold Addr.add;split <;> simp_all]
   simpa [Nat.mul_one] using this
theorem buildSliceM_sound (r:Rel B w0 g h w) {t e:TypeId} {n:Nat} {i:TypeInfo} {z cs:List AV} {env:List AV} {a:Act} (he:VL g env a.tmps.toList) {parts:Array (Nat×Operand)} (hok:(parts.all fun p=>yF p.2)=true)
  (hu:P.underlying t=some (.slice e)) (hi:P.info? e=some i) (hz:wy P e=some z) (hn:0 < n) (hpos:0 < i.size) (hsm:n * i.size≤65536) (hzl:z.length=i.size)
  (hf:qx (fun j=>some (j * i.size,i.size)) ((List.replicate n z).flatten) (xQ P (.slice e) env parts)=some cs) :
  ∃ u w' g',(Instr.buildSlice t n (parts.map fun (i,x)=>(i,a.eval x))).run P w=.ok u w'∧g.le g'∧Rel B w0 g' (h.new (.cells cs)) w'∧V g' (.msl i.size h.blks.length 0 n) u:=by
 obtain ⟨i',zv,hi',hzv,hva⟩:=qB (g:=g) hz
 rw [hi] at hi'
 injection hi' with hi'
 subst hi'
 have hzs:zv.cells.size=i.size:=by rw [← hzl,hva.length];rfl
 have hn0:¬ (n * i.size=0):=by
  have:=Nat.mul_pos hn hpos;omega
 obtain ⟨h1,h2⟩:=parts_rel (P:=P) (d:=.slice e) he hok
 have hva':=VA.flatten hva n
 obtain ⟨xs,hx1,hx2⟩:=fill_sound (place':=fun j=>some (j * i.size,i.size)) (fun i x h=>h) (us:=(Array.range (n * i.size)).map (zv.cells[· % zv.cells.size]!))
  (by rw [← hzs,Array.toList_map,Array.toList_range,range_rep];exact hva') h1 h2 hf
 have hrun:=run_buildSlice w t e n _ xs i zv hu hi hzv (by omega) hn0 hx1
 refine ⟨_,_,_,hrun,g.le_addS _,r.newCells e hx2,?_⟩
 have hsl:=r.slen
 simp only [V,Gh.addS]
 exact ⟨w.heap.size,n,by rw [← hsl];simp,rfl,Nat.le_refl _,by simp only [maxLen];have:=Nat.le_mul_of_pos_right n hpos;omega⟩
theorem buildSliceR_sound (r:Rel B w0 g h w) {t e:TypeId} {n:Nat} {i:TypeInfo} {z cs out:List AV} {env:List AV} {a:Act} (he:VL g env a.tmps.toList) {parts:Array (Nat×Operand)} (hok:(parts.all fun p=>yF p.2)=true)
  (hu:P.underlying t=some (.slice e)) (hi:P.info? e=some i) (hz:wy P e=some z) (hn:0 < n) (hpos:0 < i.size) (hsm:n * i.size≤65536) (hzl:z.length=i.size)
  (hf:qx (fun j=>some (j * i.size,i.size)) ((List.replicate n z).flatten) (xQ P (.slice e) env parts)=some cs) (hc:wr cs=some out) :
  ∃ u w' g',(Instr.buildSlice t n (parts.map fun (i,x)=>(i,a.eval x))).run P w=.ok u w'∧g.le g'∧Rel B w0 g' (({ h with toks:=h.toks++[n] }:AH).new (.row h.toks.length i.size (rows i.size n out))) w'∧V g' (.rsl h.blks.length h.toks.length i.size n) u:=by
 obtain ⟨i',zv,hi',hzv,hva⟩:=qB (g:=g) hz
 rw [hi] at hi'
 injection hi' with hi'
 subst hi'
 have hzs:zv.cells.size=i.size:=by rw [← hzl,hva.length];rfl
 have hn0:¬ (n * i.size=0):=by
  have:=Nat.mul_pos hn hpos;omega
 obtain ⟨h1,h2⟩:=parts_rel (P:=P) (d:=.slice e) he hok
 have hva':=VA.flatten hva n
 obtain ⟨xs,hx1,hx2⟩:=fill_sound (place':=fun j=>some (j * i.size,i.size)) (fun i x h=>h) (us:=(Array.range (n * i.size)).map (zv.cells[· % zv.cells.size]!))
  (by rw [← hzs,Array.toList_map,Array.toList_range,range_rep];exact hva') h1 h2 hf
 have hout:=clean_sound hx2 hc
 have hol:out.length=n * i.size:=by
  rw [clean_len hc,aFill_len hf]
  simp [hzl]
 have hxs:xs.size=n * i.size:=by rw [← hol,hout.length];rfl
 have hrun:=run_buildSlice w t e n _ xs i zv hu hi hzv (by omega) hn0 hx1
 obtain ⟨e1,e2,e3⟩:=rows_flat (k:=i.size) n out hol
 have r1:=r.alloc0 (.cells xs e)
 have hheap:(w.alloc (.cells xs e)).heap[w.heap.size]?=some (.cells xs e (0,0)):=heap_alloc_new w _
 have hΦn:∀ j,g.Φ w.heap.size j=none:=fun j=>by
  rcases he:g.Φ w.heap.size j with _ | v
  ·rfl
  ·exact absurd (r.phi_lt he) (Nat.lt_irrefl _)
 have hloc:LocOk g.Φ B (w.alloc (.cells xs e)) w.heap.size (n * i.size) (n * i.size) :=
  ⟨r.bsz,by simp,⟨xs,e,hheap,by omega⟩,fun j _=>hΦn j⟩
 have hsig:∀ (j cc:Nat),g.σ[j]?=some (some cc)→w.heap.size ≠ cc:=fun j cc hj e=>by
  have hi':j < h.blks.length:=by rw [← r.slen];exact (List.getElem?_eq_some_iff.1 hj).1
  have:=(r.blk j cc _ hj (List.getElem?_eq_getElem hi')).2.1
  omega
 have htau:∀ (j:Nat) (tt:TI) (y:Nat×Nat),g.τ[j]?=some tt→tt.loc ≠ some (w.heap.size,y):=fun j tt y hj e=>by
  have:=((r.tok j tt hj).2 _ _ _ e).lt
  omega
 let T:TI:=⟨n,some (w.heap.size,n * i.size,n * i.size),true⟩
 have hT:((g.addT T).addS none).τ[g.τ.length]?=some T:=by simp [Gh.addT,Gh.addS]
 have hle:g.le ((g.addT T).addS none):=(g.le_addT T).trans (Gh.le_addS _ none)
 have r2:=r1.newRowT T i.size (rows i.size n out)
  (fun b' l e' hl'=>by injection hl' with hl';injection hl' with e1 e2;injection e2 with e2 e3;subst e1 e2 e3;exact hloc)
  (fun b' x hx=>by injection hx with hx;injection hx with e1 _;subst e1;exact ⟨htau,hsig,r.nnew (Nat.le_refl _)⟩)
  ⟨T,hT,rfl,e2.symm,e3,by rw [e1];exact clean_pure hc,.inr ⟨w.heap.size,0,n * i.size,xs,e,by simp [T,e2],hheap,by
   rw [e1,e2,List.drop_zero,List.take_of_length_le (by simp [hxs])];exact hout.mono hle _ _,by rw [e2];omega,fun j _=>hΦn j⟩⟩
 have tl:=r.tlen
 have sl:=r.slen
 rw [tl] at r2
 refine ⟨_,_,_,hrun,hle,r2,?_⟩
 simp only [V]
 rw [← tl]
 exact ⟨some ⟨w.heap.size,0,none⟩,n,rfl,Nat.le_refl _,by simp only [maxLen];have:=Nat.le_mul_of_pos_right n hpos;omega,T,hT,rfl,Nat.le_refl _,.inr ⟨w.heap.size,0,rfl,fun _=>by simp [T]⟩⟩
theorem append0 {t u ty e e':TypeId} {i:TypeInfo} {a ad:Option Addr} {n c m:Nat} (ht:P.underlying t=some (.slice e)) (hu:P.underlying u=some (.slice e')) (hi:P.info? e=some i) (hc:n≤m) :
  (Builtin.append_ #[t,u] ty #[.slice a n m,.slice ad 0 c]).run P w=.ok (.slice a n m) w:=by
 cases a <;> cases ad <;> simp [Builtin.append_,run_underlying ht,run_underlying hu,sizeOf,typeInfo,hi,Builtin.lenOf,Builtin.firstCells,loadCells,loadCellsFrom,storeCells,hc]
theorem bfits (r:Rel B w0 g h w) {a:Act} {env:List AV} (he:VL g env a.tmps.toList) {o:Oper} {l:List (AV×AH)} (hl:bstep P o env h=some l):∃ p ∈ l,qn P B w0 g a o w p.1 p.2:=by
 unfold bstep at hl
 split at hl
 ·-- range
  rename_i t x ho
  split at hl
  ·rename_i hok
   have hV:=V.ev he hok
   split at hl
   ·rename_i kt et id ht hx
    split at hl
    ·rename_i es hb
     simp only [Option.some.injEq] at hl
     subst hl
     refine ⟨_,List.mem_singleton.2 rfl,?_⟩
     rw [hx] at hV
     simp only [V] at hV
     obtain ⟨c,hc,hx'⟩:=hV
     obtain ⟨hB,hlt,⟨ents,n,k1,k2,k3⟩,_⟩:=r.blk id c _ hc hb
     obtain ⟨rfl,k4⟩:=k3 rfl
     have hlen:ents.size=es.length:=by have:=k2.len;simpa using this
     refine ⟨.pointer (some ⟨w.heap.size,0,none⟩),w.alloc (.mapIter (some c) ents.size #[] ents.size),g.addS w.heap.size,.inl ?_,g.le_addS _,r.newBlk _ _ ?_,?_⟩
     ·simp [execOp,ho,hx',run_range_map w t kt et c ents _ ht k1]
     ·exact ⟨c,(g.le_addS _).sig _ _ hc,by rw [← hlen];exact heap_alloc_new w _⟩
     ·have hsl:=r.slen
      simp only [V,Gh.addS]
      exact ⟨w.heap.size,by rw [← hsl];simp,rfl⟩
    ·cases hl
   ·rename_i kt et ht hx
    simp only [Option.some.injEq] at hl
    subst hl
    refine ⟨_,List.mem_singleton.2 rfl,?_⟩
    rw [hx] at hV
    simp only [V] at hV
    refine ⟨.pointer (some ⟨w.heap.size,0,none⟩),w.alloc (.mapIter none 0 #[] 0),g.addS w.heap.size,.inl ?_,g.le_addS _,r.newBlk _ _ (heap_alloc_new w _),?_⟩
    ·simp [execOp,ho,hV,run_range_nilMap w t kt et ht]
    ·have hsl:=r.slen
     simp only [V,Gh.addS]
     exact ⟨w.heap.size,by rw [← hsl];simp,rfl⟩
   ·cases hl
  ·cases hl
 ·-- next
  rename_i x ho
  split at hl
  ·rename_i hok
   have hV:=V.ev he hok
   split at hl
   ·rename_i it hx
    rw [hx] at hV
    simp only [V] at hV
    obtain ⟨ci,hci,hx'⟩:=hV
    split at hl
    ·rename_i hb
     simp only [Option.some.injEq] at hl
     subst hl
     refine ⟨_,List.mem_singleton.2 rfl,?_⟩
     obtain ⟨_,_,k1,_⟩:=r.blk it ci _ hci hb
     have k1:w.heap[ci]?=some (.mapIter none 0 #[] 0):=k1
     refine ⟨.tuple #[.bool false],w,g,.inl ?_,Gh.le.refl g,r,by simp [V,VL]⟩
     simp [execOp,ho,hx',Instr.next,getObj,Sem.run,k1]
    ·rename_i id n seen hb
     split at hl
     ·rename_i es hbm
      split at hl
      ·rename_i hn
       simp only [Option.some.injEq] at hl
       obtain ⟨_,hltI,⟨cm,hcm,hit⟩,_⟩:=r.blk it ci _ hci hb
       obtain ⟨_,_,⟨ents,m,k1,k2,k3⟩,_⟩:=r.blk id cm _ hcm hbm
       obtain ⟨rfl,k4⟩:=k3 rfl
       have hlen:ents.size=es.length:=by have:=k2.len;simpa using this
       have hold:∀ x ∈ ents.toList,x.born < n:=fun x hx=>by
        obtain ⟨i,hi⟩:=List.mem_iff_getElem?.1 hx
        rw [Array.getElem?_toList] at hi
        have:=k4 i x hi
        have:=(Array.getElem?_eq_some_iff.1 hi).1
        omega
       rcases run_next_at (P:=P) w o.type ci cm n n seen.toArray ents ents.size hit k1 hold (Nat.le_refl _) with ⟨h0,hrun⟩ | ⟨e,hmem,w1,hw1,hrun⟩
       ·have hnil:es.zipIdx.filter (fun p=>!seen.contains p.2)=[]:=by
         rw [List.filter_eq_nil_iff]
         rintro ⟨p,i⟩ hp
         simp only [Bool.not_eq_true,Bool.not_eq_false']
         have hp':=List.mem_zipIdx' hp
         obtain ⟨e,he1,_,_⟩:=k2.getE (j:=i) (p:=p) (by rw [hp'.2];exact List.getElem?_eq_getElem hp'.1)
         rw [Array.getElem?_toList] at he1
         have hborn:=k4 i e he1
         have:¬ e ∈ leftOf ents seen.toArray:=by
          intro hin
          rw [Array.eq_empty_of_size_eq_zero h0] at hin
          simp at hin
         simp only [leftOf,Array.mem_filter,not_and,Bool.not_eq_true',Bool.not_eq_false] at this
         have:=this (Array.mem_of_getElem? he1)
         rw [hborn] at this
         simpa using this
        rw [nextAlts,hnil] at hl
        subst hl
        refine ⟨_,List.mem_singleton.2 rfl,.tuple #[.bool false],w,g,.inl ?_,Gh.le.refl g,r,by simp [V,VL]⟩
        simp [execOp,ho,hx',hrun]
       ·simp only [leftOf,Array.toList_filter,List.mem_filter] at hmem
        obtain ⟨i,hi⟩:=List.mem_iff_getElem?.1 hmem.1
        have hi':=hi
        rw [Array.getElem?_toList] at hi'
        have hborn:=k4 i e hi'
        have hil:i < es.length:=by rw [← hlen];exact (Array.getElem?_eq_some_iff.1 hi').1
        have hes:es[i]?=some es[i]:=List.getElem?_eq_getElem hil
        obtain ⟨e2,he2,hk,hv⟩:=k2.getE (j:=i) hes
        rw [hi] at he2
        injection he2 with he2
        subst he2
        have hin:(es[i],i) ∈ es.zipIdx.filter (fun p=>!seen.contains p.2):=by
         rw [List.mem_filter]
         refine ⟨List.mem_zipIdx_iff_getElem?.2 hes,?_⟩
         have:=hmem.2
         rw [hborn] at this
         simpa using this
        have r1:=r.drewO hw1
        have hit1:w1.heap[ci]?=some (.mapIter (some cm) n seen.toArray n):=by rcases hw1 with rfl | rfl <;> exact hit
        have r2:Rel B w0 g (h.put it (.miter id n (seen++[i]))) (w1.putObj ci (.mapIter (some cm) n (seen.toArray.push e.born) n)) :=
         r1.putObj hci hb (by simp) rfl rfl rfl World.putObj_size (fun b hb'=>World.putObj_heap_other hb') ⟨cm,hcm,by
          rw [World.putObj_heap_same (by rcases hw1 with rfl | rfl <;> exact hltI),hborn];simp⟩
        have hne:es.zipIdx.filter (fun p=>!seen.contains p.2) ≠ []:=List.ne_nil_of_mem hin
        have hal:((.tup [.bool true,es[i].1,es[i].2],h.put it (.miter id n (seen++[i]))):AV×AH) ∈ nextAlts h it id n seen es:=by
         unfold nextAlts
         split
         ·rename_i hf;exact absurd hf hne
         ·rename_i p q hf
          rw [← hf]
          exact List.mem_map.2 ⟨_,hin,rfl⟩
        subst hl
        refine ⟨_,hal,.tuple #[.bool true,e.key,e.val],_,g,.inl ?_,Gh.le.refl g,r2,?_⟩
        ·rw [← hlen] at hn
         simp only [execOp,ho,hx',Sem.run_bind,hrun,Result.andThen_ok,Sem.run_pure]
         rw [setBlock_eq,hn]
        ·simp only [V,VL]
         exact ⟨_,rfl,_,_,rfl,rfl,_,_,rfl,hk,_,_,rfl,hv,rfl⟩
      ·cases hl
     ·cases hl
    ·cases hl
   ·cases hl
  ·cases hl
 ·-- entry
  rename_i x ho
  split at hl
  ·rename_i hok
   have hV:=V.ev he hok
   split at hl
   ·rename_i it hx
    rw [hx] at hV
    simp only [V] at hV
    obtain ⟨ci,hci,hx'⟩:=hV
    split at hl
    ·rename_i id n seen hb
     split at hl
     ·rename_i es i hbm hlast
      split at hl
      ·rename_i hn
       split at hl
       case h_2=>cases hl
       rename_i p hp
       simp only [Option.some.injEq] at hl
       subst hl
       refine ⟨_,List.mem_singleton.2 rfl,?_⟩
       obtain ⟨_,hltI,⟨cm,hcm,hit⟩,_⟩:=r.blk it ci _ hci hb
       obtain ⟨_,_,⟨ents,m,k1,k2,k3⟩,_⟩:=r.blk id cm _ hcm hbm
       obtain ⟨rfl,k4⟩:=k3 rfl
       have hlen:ents.size=es.length:=by have:=k2.len;simpa using this
       obtain ⟨e,he1,hk,hv⟩:=k2.getE (j:=i) hp
       have he1':=he1
       rw [Array.getElem?_toList] at he1'
       have hborn:=k4 i e he1'
       have hseen:seen.toArray=seen.dropLast.toArray.push e.born:=by
        rw [hborn]
        have hne:seen ≠ []:=by rintro rfl;simp at hlast
        have h1:=List.getLast?_eq_some_iff.1 hlast
        obtain ⟨ys,rfl⟩:=h1
        simp
       rw [hseen] at hit
       have hnd:(ents.toList.map (·.born)).Nodup:=by
        have:ents.toList.map (·.born)=List.range ents.size:=by
         apply List.ext_getElem?
         intro j
         rw [List.getElem?_map,Array.getElem?_toList]
         rcases Nat.lt_or_ge j ents.size with hj | hj
         ·rw [Array.getElem?_eq_getElem hj,List.getElem?_range hj]
          simp [k4 j _ (Array.getElem?_eq_getElem hj)]
         ·rw [Array.getElem?_eq_none hj,List.getElem?_eq_none (by simpa using hj)];rfl
        rw [this];exact List.nodup_range
       have hrun:=run_entry_at (P:=P) w ci cm n seen.dropLast.toArray ents ents.size e (by have e9:n=ents.size:=(by omega);rw [hit,e9]) k1 (Array.mem_toList_iff.2 (Array.mem_of_getElem? he1')) hnd
       refine ⟨.tuple #[e.key,e.val],w,g,.inl ?_,Gh.le.refl g,r,?_⟩
       ·simp [execOp,ho,hx',hrun]
       ·simp only [V,VL]
        exact ⟨_,rfl,_,_,rfl,hk,_,_,rfl,hv,rfl⟩
      ·cases hl
     ·cases hl
    ·cases hl
   ·cases hl
  ·cases hl
 ·-- buildSlice
  rename_i t n parts ho
  split at hl
  ·rename_i hok
   split at hl
   ·rename_i e hu
    split at hl
    ·rename_i i z hi hz
     split at hl
     ·rename_i hc
      split at hl
      ·rename_i cs hf
       split at hl
       ·rename_i out hcl
        simp only [Option.some.injEq] at hl
        subst hl
        obtain ⟨u,w',g',h1,h2,h3,h4⟩:=buildSliceR_sound r he hok hu hi hz hc.1 hc.2.1 hc.2.2.1 hc.2.2.2 hf hcl
        exact ⟨_,List.mem_singleton.2 rfl,u,w',g',.inl (by simp [execOp,ho,h1]),h2,h3,h4⟩
       ·simp only [Option.some.injEq] at hl
        subst hl
        obtain ⟨u,w',g',h1,h2,h3,h4⟩:=buildSliceM_sound r he hok hu hi hz hc.1 hc.2.1 hc.2.2.1 hc.2.2.2 hf
        exact ⟨_,List.mem_singleton.2 rfl,u,w',g',.inl (by simp [execOp,ho,h1]),h2,h3,h4⟩
      ·cases hl
     ·cases hl
    ·cases hl
   ·cases hl
  ·cases hl
 ·-- convert
  rename_i s t x ho
  split at hl
  ·rename_i hok
   have hV:=(V.ev he hok).tyfix (P:=P) (t:=s)
   split at hl
   case h_2=>cases hl
   rename_i l0 hl0
   simp only [Option.some.injEq] at hl
   subst hl
   unfold convX at hl0
   split at hl0
   ·rename_i e hs ht
    have main:∀ es l,P.underlying e=some (.int .u8)→bytesX es=some l→l.length≤maxLen→(∃ ad c,a.eval x=.slice ad es.length c∧(es=[] ∨ ∃ b o,ad=some ⟨b,o,none⟩∧VE g b 1 o es))→qn P B w0 g a o w (.str l) h:=by
     rintro es l hu hb hm ⟨ad,c,hx,hve⟩
     refine ⟨.string ⟨l.toArray⟩,w,g,.inl ?_,Gh.le.refl g,r,by simp only [V];exact ⟨trivial,hm⟩⟩
     simp [execOp,ho,hx,bytes_run r hs ht hu hb hve]
    split at hl0
    ·rename_i es hu hx
     rw [hx] at hV
     simp only [V] at hV
     obtain ⟨ad,c,h1,_,_,h2⟩:=hV
     split at hl0
     ·rename_i l hb
      split at hl0
      ·rename_i hm
       simp only [Option.some.injEq] at hl0
       subst hl0
       exact ⟨_,List.mem_singleton.2 rfl,main _ _ hu hb hm ⟨ad,c,h1,h2⟩⟩
      ·cases hl0
     ·cases hl0
    ·rename_i es q hu hx
     rw [hx] at hV
     simp only [V] at hV
     obtain ⟨ad,c,h1,_,_,h2,_⟩:=hV
     split at hl0
     ·rename_i l hb
      split at hl0
      ·rename_i hm
       simp only [Option.some.injEq] at hl0
       subst hl0
       exact ⟨_,List.mem_singleton.2 rfl,main _ _ hu hb hm ⟨ad,c,h1,h2⟩⟩
      ·cases hl0
     ·cases hl0
    ·cases hl0
   ·cases hl0
  ·cases hl
 ·-- append
  rename_i c ho
  split at hl
  ·rename_i ts x y hc has
   split at hl
   ·rename_i hok
    simp only [Bool.and_eq_true] at hok
    have hxa:c.args=#[x,y]:=by apply Array.ext';simpa using has
    have hVx:=V.ev he hok.1
    have hVy:=V.ev he hok.2
    split at hl
    ·rename_i k1 a1 k2 b1 hx hy
     split at hl
     ·rename_i hk
      subst hk
      simp only [Option.some.injEq] at hl
      subst hl
      rw [hx] at hVx
      rw [hy] at hVy
      simp only [V] at hVx hVy
      refine ⟨_,List.mem_singleton.2 rfl,.int k1 (if b1 > a1 then b1 else a1),w,g,.inl ?_,Gh.le.refl g,r,by simp only [V]⟩
      simp only [execOp,ho,resolve,hc,Sem.run_bind,Sem.run_pure,Result.andThen_ok,invoke,hxa]
      simp [builtin,hVx,hVy,run_max_int2]
     ·cases hl
    ·cases hl
   ·cases hl
  ·rename_i ts x y hc has
   split at hl
   ·rename_i hok
    simp only [Bool.and_eq_true] at hok
    have hxa:c.args=#[x,y]:=by apply Array.ext';simpa using has
    have hVx:=V.ev he hok.1
    have hVy:=V.ev he hok.2
    split at hl
    ·rename_i k1 a1 k2 b1 hx hy
     split at hl
     ·rename_i hk
      subst hk
      simp only [Option.some.injEq] at hl
      subst hl
      rw [hx] at hVx
      rw [hy] at hVy
      simp only [V] at hVx hVy
      refine ⟨_,List.mem_singleton.2 rfl,.int k1 (if b1 < a1 then b1 else a1),w,g,.inl ?_,Gh.le.refl g,r,by simp only [V]⟩
      simp only [execOp,ho,resolve,hc,Sem.run_bind,Sem.run_pure,Result.andThen_ok,invoke,hxa]
      simp [builtin,hVx,hVy,run_min_int2]
     ·cases hl
    ·cases hl
   ·cases hl
  ·rename_i t u s x hc hts has
   split at hl
   ·rename_i hok
    simp only [Bool.and_eq_true] at hok
    have hta:c.argTypes=#[t,u]:=by apply Array.ext';simpa using hts
    have hxa:c.args=#[s,x]:=by apply Array.ext';simpa using has
    have hVs:=(V.ev he hok.1).tyfix (P:=P) (t:=t)
    have hVx:=(V.ev he hok.2).tyfix (P:=P) (t:=u)
    split at hl
    ·rename_i e e' ht hu
     have main:∀ i k es,P.info? e=some i→tyfix P t (ev env s)=.osl none k es→(∃ ad c,a.eval x=.slice ad 0 c)→qn P B w0 g a o w (.osl none k es) h:=by
      rintro i k es hi hs ⟨ad,c2,hx⟩
      rw [hs] at hVs
      have hV2:=hVs
      simp only [V] at hVs
      obtain ⟨a1,c1,hs1,h1,_⟩:=hVs
      refine ⟨a.eval s,w,g,.inl ?_,Gh.le.refl g,r,hV2⟩
      simp only [execOp,ho,resolve,hc,Sem.run_bind,Sem.run_pure,Result.andThen_ok,invoke,hta,hxa]
      simp only [builtin,Array.map,hs1]
      simp [append0 ht hu hi h1,hs1,hx]
     split at hl
     ·rename_i i k es q hi hs hx
      simp only [Option.some.injEq] at hl
      subst hl
      refine ⟨_,List.mem_singleton.2 rfl,main _ k es hi hs ?_⟩
      rw [hx] at hVx
      simp only [V] at hVx
      obtain ⟨ad,c2,hx1,_⟩:=hVx
      exact ⟨ad,c2,hx1⟩
     ·rename_i i k es q q2 hi hs hx
      simp only [Option.some.injEq] at hl
      subst hl
      refine ⟨_,List.mem_singleton.2 rfl,main _ k es hi hs ?_⟩
      rw [hx] at hVx
      simp only [V] at hVx
      obtain ⟨ad,c2,hx1,_⟩:=hVx
      exact ⟨ad,c2,hx1⟩
     ·cases hl
    ·cases hl
   ·cases hl
  ·rename_i t x hc hts has
   split at hl
   ·rename_i hok
    have hta:c.argTypes=#[t]:=by apply Array.ext';simpa using hts
    have hxa:c.args=#[x]:=by apply Array.ext';simpa using has
    have hVx:=V.ev he hok
    split at hl
    ·rename_i e id tk k n i ht hx
     split at hl
     ·rename_i z t' k' es hz hb
      split at hl
      ·rename_i hcd
       obtain ⟨⟨rfl,rfl,rfl⟩,hzl,hk0⟩:=hcd
       split at hl
       ·rename_i z' hcl
        simp only [Option.some.injEq] at hl
        subst hl
        rw [hx] at hVx
        obtain ⟨w',h1,h2⟩:=clear_sound (P:=P) (ty:=o.type) r ht hz hcl hzl hk0 hb rfl hVx
        refine ⟨_,List.mem_singleton.2 rfl,.tuple #[],w',g,.inl ?_,Gh.le.refl g,h2,by simp [V,VL]⟩
        simp only [execOp,ho,resolve,hc,Sem.run_bind,Sem.run_pure,Result.andThen_ok,invoke,hta,hxa]
        simp [builtin,h1]
       ·cases hl
      ·cases hl
     ·cases hl
    ·cases hl
   ·cases hl
  ·cases hl
 ·-- insert
  rename_i t m k x ho
  split at hl
  ·rename_i v h' hs
   simp only [Option.some.injEq] at hl
   subst hl
   refine ⟨_,List.mem_singleton.2 rfl,?_⟩
   have:=astep_fits (P:=P) r he { o with op:=.mapUpdate t m k x }
   rw [hs] at this
   obtain ⟨u,w',g',h1,h2⟩:=this
   refine ⟨u,w',g',?_,h2⟩
   simpa only [execOp,ho] using h1
  ·cases hl
 ·-- makeInterface
  rename_i t x ho
  split at hl
  ·rename_i hok
   have hV:=(V.ev he hok).tyfix (P:=P) (t:=t)
   split at hl
   ·cases hl
   ·rename_i d hne hd
    simp only [Option.some.injEq] at hl
    subst hl
    refine ⟨_,List.mem_singleton.2 rfl,.iface t (a.eval x),w,g,.inl ?_,Gh.le.refl g,r,?_⟩
    ·have:(Instr.makeInterface t (a.eval x)).run P w=.ok (.iface t (a.eval x)) w:=by
      simp only [Instr.makeInterface,Sem.run_bind,run_underlying hd,Result.andThen_ok]
      simp
     simp [execOp,ho,this]
    ·simp only [V];exact ⟨_,rfl,hV⟩
   ·cases hl
  ·cases hl
 ·-- typeAssert
  rename_i x xt t ok ho
  split at hl
  ·rename_i hok
   have hV:=V.ev he hok
   split at hl
   ·cases hl
   ·rename_i d u v hne hd hx
    rw [hx] at hV
    simp only [V] at hV
    obtain ⟨y,hy,hv⟩:=hV
    split at hl
    ·rename_i hut
     subst hut
     simp only [Option.some.injEq] at hl
     subst hl
     refine ⟨_,List.mem_singleton.2 rfl,if ok then .tuple #[y,.bool true] else y,w,g,.inl ?_,Gh.le.refl g,r,?_⟩
     ·have:(Instr.typeAssert (.iface u y) xt u ok).run P w=.ok (if ok then .tuple #[y,.bool true] else y) w:=by
       simp only [Instr.typeAssert,Sem.run_bind,run_underlying hd,Result.andThen_ok]
       cases d <;> first | (exact absurd rfl (hne _)) | simp
      simp [execOp,ho,hy,this]
     ·cases ok
      ·exact hv
      ·simp only [if_true,V,VL]
       exact ⟨_,rfl,_,_,rfl,hv,_,_,rfl,rfl,rfl⟩
    ·rename_i hut
     split at hl
     ·rename_i hk
      subst hk
      split at hl
      ·rename_i z hz
       simp only [Option.some.injEq] at hl
       subst hl
       obtain ⟨zv,hz1,hz2⟩:=aZero_sound (P:=P) (w:=w) (g:=g) hz
       refine ⟨_,List.mem_singleton.2 rfl,.tuple #[zv,.bool false],w,g,.inl ?_,Gh.le.refl g,r,?_⟩
       ·have:(Instr.typeAssert (.iface u y) xt t true).run P w=.ok (.tuple #[zv,.bool false]) w:=by
         simp only [Instr.typeAssert,Sem.run_bind,run_underlying hd,Result.andThen_ok]
         cases d <;> first | (exact absurd rfl (hne _)) | simp [hut,hz1]
        simp [execOp,ho,hy,this]
       ·simp only [V,VL]
        exact ⟨_,rfl,_,_,rfl,hz2,_,_,rfl,rfl,rfl⟩
      ·cases hl
     ·cases hl
   ·cases hl
  ·cases hl
 ·-- a row is cut
  rename_i t x y ho
  split at hl
  ·rename_i hok
   simp only [Bool.and_eq_true] at hok
   have hVx:=V.ev he hok.1
   have hVy:=V.ev he hok.2
   split at hl
   ·rename_i e id tk k m kk n ht hx hy
    split at hl
    ·rename_i i t' k' es hi hb
     split at hl
     ·rename_i hc
      obtain ⟨⟨rfl,rfl,rfl⟩,hn0,hnm⟩:=hc
      simp only [Option.some.injEq] at hl
      subst hl
      rw [hx] at hVx
      rw [hy] at hVy
      have hVx2:=hVx
      simp only [V] at hVx hVy
      obtain ⟨ad,c,hev,hnc,hcm,_⟩:=hVx
      rw [hev] at hVx2
      obtain ⟨g',h1,h2,h3⟩:=r.shrink (n:=n.toNat) (a':=if c=0 then ad else ad.map (·.add (0 * i.size))) hb hnm (by split <;> simp) hVx2
      refine ⟨_,List.mem_singleton.2 rfl,_,w,g',.inl ?_,h1,h2,h3⟩
      have hbd:=slice_bounds (P:=P) (w:=w) (isS:=true) (len:=es.length) (cap:=c) (l:=0) (hh:=n.toNat) (m:=c) (d:=0) (lo:=none) (hi:=some (.int kk n)) (mx:=none) (.inl ⟨rfl,rfl⟩)
       (.inr ⟨kk,n,rfl,hn0,by omega⟩) (.inl ⟨rfl,rfl⟩) (Nat.zero_le _) (by omega) (Nat.le_refl _) rfl
      have:(Instr.sliceAt t (.slice ad es.length c) none (some (.int kk n)) none).run P w=.ok (.slice (if c=0 then ad else ad.map (·.add (0 * i.size))) n.toNat c) w:=by
       rw [sliceAt_of ht (by simp)]
       simp [Instr.slice,yN ht,hbd,wN hi]
      simp [execOp,ho,hev,hVy,this]
     ·cases hl
    ·cases hl
   ·cases hl
  ·cases hl
 ·-- a row's end
  rename_i t x y ho
  split at hl
  ·rename_i hok
   simp only [Bool.and_eq_true] at hok
   have hVx:=V.ev he hok.1
   have hVy:=V.ev he hok.2
   split at hl
   ·rename_i e id tk k m kk n ht hx hy
    split at hl
    ·rename_i i hi
     split at hl
     ·rename_i hc
      obtain ⟨rfl,hn0,hnm⟩:=hc
      simp only [Option.some.injEq] at hl
      subst hl
      rw [hx] at hVx
      rw [hy] at hVy
      simp only [V] at hVx hVy
      obtain ⟨ad,c,hev,hnc,hcm,tt,htt,hrd,hle,hhd⟩:=hVx
      refine ⟨_,List.mem_singleton.2 rfl,.slice (if c=n.toNat then ad else ad.map (·.add (n.toNat * i.size))) (m - n.toNat) (c - n.toNat),w,g,.inl ?_,Gh.le.refl g,r,?_⟩
      ·have hbd:=slice_bounds (P:=P) (w:=w) (isS:=true) (len:=m) (cap:=c) (l:=n.toNat) (hh:=m) (m:=c) (d:=0) (lo:=some (.int kk n)) (hi:=none) (mx:=none) (.inr ⟨kk,n,rfl,hn0,by omega⟩)
        (.inl ⟨rfl,rfl,rfl⟩) (.inl ⟨rfl,rfl⟩) hnm hnc (Nat.le_refl _) rfl
       have:(Instr.sliceAt t (.slice ad m c) (some (.int kk n)) none none).run P w=.ok (.slice (if c=n.toNat then ad else ad.map (·.add (n.toNat * i.size))) (m - n.toNat) (c - n.toNat)) w:=by
        rw [sliceAt_of ht (by simp)]
        simp [Instr.slice,yN ht,hbd,wN hi]
       simp [execOp,ho,hev,hVy,this]
      ·simp only [V]
       refine ⟨_,_,rfl,⟨hnm,by omega⟩,tt,htt,?_⟩
       by_cases h0:m - n.toNat=0
       ·exact .inl h0
       ·right
        rcases hhd with ⟨h1,_⟩ | ⟨b,o2,h2,h3⟩
        ·omega
        ·have hcn:¬ c=n.toNat:=by omega
         refine ⟨b,o2+n.toNat * i.size,?_,hrd,hle,fun he'=>⟨o2,_,rfl,h3 he'⟩⟩
         rw [if_neg hcn,h2];simp [qT]
     ·cases hl
    ·cases hl
   ·cases hl
  ·cases hl
 ·cases hl
end
end Go.Vv
