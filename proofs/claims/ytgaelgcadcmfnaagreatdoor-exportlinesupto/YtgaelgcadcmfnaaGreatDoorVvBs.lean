/- More operations, whose outcomes may be several: ranges over maps. -/
import Derived.Test.YtgaelgcadcmfnaaGreatDoorVvK
import Derived.Maps.RangeRun
import Derived.RangeFuncRecord
import Derived.Laws.IdiomStrings
import Derived.Test.YtgaelgcadcmfnaaGreatDoorVvA
import Derived.Lib.ItoaMem
import Derived.Lib.AppendIntMem
import Derived.OrdersIn
import Derived.CallsIn
set_option linter.all false
namespace Go.Vv
open Go Go.RowKit Go.Lib

def nextAlts (h:AH) (it id n:Nat) (seen:List Nat) (es:List (AV×AV)):List (AV×AH) :=
 match es.zipIdx.filter λp=>!seen.contains p.2 with
 | []=>[(.tup [.bool false],h)]
 | p::r=>(p::r).map λp=>(.tup [.bool true,p.1.1,p.1.2],h.put it (.miter id n (seen++[p.2])))
def bytesX:List (List AV)->Option (List UInt8)
 | []=>some []
 | [.int .u8 n]::r=>if 0<=n/\n < 256 then (match bytesX r with
  | some l=>some (UInt8.ofNat n.toNat::l)
  | none=>none) else none
 | _=>none
def convX (P:Program) (s t:TypeId) (a:AV):Option (List UInt8) :=
 match P.underlying s,P.underlying t with
 | some (.slice e),some .string=>match P.underlying e,tyfix P s a with
  | some (.int .u8),.sl 1 es | some (.int .u8),.osl _ 1 es=>match bytesX es with
   | some l=>if l.length<=maxLen then some l else none
   | none=>none
  | _,_=>none
 | _,_=>none
def convBy (P:Program) (s t:TypeId) (a:AV):Option (List UInt8) :=
 match P.underlying s,P.underlying t,a with
 | some .string,some (.slice e),.str l=>match P.underlying e with
  | some (.int .u8)=>some l
  | _=>none
 | _,_,_=>none
def wm (P:Program) (o:Oper) (env:List AV) (h:AH):Option (List (AV×AH)) :=
 match o.op with
 | .range t x=>if zV x then (match P.underlying t,ev env x with
  | some (.map _ _),.map id=>match h.blk id with
   | some (.mapo es 0)=>some [(.ptr h.blks.length 0,h.new (.miter id es.length []))]
   | _=>none
  | some (.map _ _),.nilm=>some [(.ptr h.blks.length 0,h.new .miter0)]
  | _,_=>none) else none
 | .next x false=>if zV x then (match ev env x with
  | .ptr it 0=>match h.blk it with
   | some .miter0=>some [(.tup [.bool false],h)]
   | some (.miter id n seen)=>match h.blk id with
    | some (.mapo es 0)=>if es.length=n then some (nextAlts h it id n seen es) else none
    | _=>none
   | _=>none
  | _=>none) else none
 | .entry x=>if zV x then (match ev env x with
  | .ptr it 0=>match h.blk it with
   | some (.miter id n seen)=>match h.blk id,seen.getLast? with
    | some (.mapo es 0),some i=>if es.length=n then (match es[i]? with
     | some e=>some [(.tup [e.1,e.2],h)]
     | none=>none) else none
    | _,_=>none
   | _=>none
  | _=>none) else none
 | .buildSlice t n parts=>if parts.all λp=>zV p.2 then (match P.underlying t with
  | some (.slice e)=>match P.info? e,yR P e with
   | some i,some z=>if 0 < n/\0 < i.size/\n * i.size<=65536/\z.length=i.size then
     (match (wU (λj=>some (j * i.size,i.size)) ((List.replicate n z).flatten) (yM P (.slice e) env parts)) with
           | some cs=>match y6 cs with
             | some out=>some [(.rsl h.blks.length h.toks.length i.size n,({ h with toks:=h.toks++[n] }:AH).new (.row h.toks.length i.size (rows i.size n out)))]
             | none=>some [(.msl i.size h.blks.length 0 n,h.new (.cells cs))]
           | none=>none) else none
   | _,_=>none
  | _=>none) else none
 | .convert s t x=>if zV x then (match convX P s t (ev env x) with
  | some l=>some [(.str l,h)]
  | none=>match convBy P s t (ev env x) with
   | some l=>some [(.sl 1 (l.map λb=>[AV.int .u8 (b.toNat:Int)]),h)]
   | none=>none) else none
 | .alloc t=>match yR P t with
  | some [.nilp,x]=>if x.one then some [(.ptr h.blks.length 0,h.new (.bld t x))] else none
  | _=>none
 | .call c=>match c.callee,c.argTypes.toList,c.args.toList with
  | .builtin .max,_,[x,y]=>if zV x&&zV y then (match ev env x,ev env y with
   | .int k a,.int k' b=>if k=k' then some [(.int k (if b > a then b else a),h)] else none
   | _,_=>none) else none
  | .builtin .min,_,[x,y]=>if zV x&&zV y then (match ev env x,ev env y with
   | .int k a,.int k' b=>if k=k' then some [(.int k (if b < a then b else a),h)] else none
   | _,_=>none) else none
  | .builtin .append,[t,u],[s,x]=>if zV s&&zV x then (match P.underlying t,P.underlying u with
   | some (.slice e),some (.slice _)=>match P.info? e,tyfix P t (ev env s),tyfix P u (ev env x) with
    | some _,.osl none k es,.sl _ [] | some _,.osl none k es,.osl _ _ []=>some [(.osl none k es,h)]
    | _,_,_=>none
   | _,_=>none) else none
  | .builtin .clear,[t],[x]=>if zV x then (match P.underlying t,ev env x with
   | some (.slice e),.rsuf id tk k n i=>match yR P e,h.blk id with
    | some z,some (.row t' k' es)=>if (t'=tk/\k'=k/\es.length=n)/\z.length=k/\0 < k then (match y6 z with
     | some z'=>some [(.tup [],h.clr id tk k i es z')]
     | none=>none) else none
    | _,_=>none
   | _,_=>none) else none
  | _,_,_=>none
 | .insert t m k x=>match zn P { o with op:=.mapUpdate t m k x } env h with
  | .ok v h'=>some [(v,h')]
  | _=>none
 | .makeInterface t x=>if zV x then (match P.underlying t with
  | some (.interface _)=>none
  | some _=>some [(.iface t (tyfix P t (ev env x)),h)]
  | none=>none) else none
 | .typeAssert x _ t ok=>if zV x then (match P.underlying t,ev env x with
  | some (.interface _),_=>none
  | some _,.iface u v=>if u=t then some [(if ok then .tup [v,.bool true] else v,h)] else if ok then (match aZero P t with
   | some z=>some [(.tup [z,.bool false],h)]
   | none=>none) else none
  | _,_=>none) else none
 | .slice t x none (some y) none=>if zV x&&zV y then (match P.underlying t,ev env x,ev env y with
  | some (.slice e),.rsl id tk k m,.int _ n=>match P.info? e,h.blk id with
   | some _,some (.row t' k' es)=>if (t'=tk/\k'=k/\es.length=m)/\0<=n/\n.toNat<=m then some [(.rsl h.blks.length h.toks.length k n.toNat,h.shr id tk k n.toNat es)] else none
   | _,_=>none
  | _,_,_=>none) else none
 | .slice t x (some y) none none=>if zV x&&zV y then (match P.underlying t,ev env x,ev env y with
  | some (.slice e),.rsl id tk k m,.int _ n=>match P.info? e with
   | some i=>if i.size=k/\0<=n/\n.toNat<=m then some [(.rsuf id tk k m n.toNat,h)] else none
   | none=>none
  | _,_,_=>none) else none
 | _=>none

def bdraw:Op->Bool
 | .buildSlice _ _ _ | .slice _ _ _ _ _=>false
 | _=>true

section
variable {P:Program} {w:World} {g:Gh} {h:AH} {B:Nat} {w0:World}
theorem Rel.drewO (r:Rel B w0 g h w) {a:World} (b:a=w \/ a=w.drew):Rel B w0 g h a:=by
 rcases b with rfl | rfl
 ·exact r
 ·exact r.drew
theorem setBlock_eq {w:World} {b:Nat} {o:Obj}:ChangeMaps.setBlock w b o=w.putObj b o:=by
 rfl
theorem bytesX_eq:∀{es:List (List AV)} {l:List UInt8},bytesX es=some l->es=l.map λb=>[AV.int .u8 b.toNat]
 | [],l,h=>by simp only [bytesX,uj] at h;subst h;rfl
 | e::r,l,h=>by
  unfold bytesX at h;split at h
  ·simp_all
  ·rename_i n i h0;injection h0 with d c;subst d c;split at h
   ·rename_i k;split at h
    ·rename_i j a;simp only [uj] at h;subst h;rw [bytesX_eq a];have:((UInt8.ofNat n.toNat).toNat:Int)=n:=by
      have f:n.toNat < 256:=by omega
      simp [ph f];omega
     simp_all
    ·cases h
   ·cases h
  ·cases h
theorem bytes_run (r:Rel B w0 g h w) {s t e:TypeId} (hs:P.underlying s=some (.slice e)) (q:P.underlying t=some .string) (u:P.underlying e=some (.int .u8)) {es:List (List AV)} {l:List UInt8} (n:bytesX es=some l) {a:Option Addr} {c:Nat}
  (x:es=[] \/ ∃b o,a=some ⟨b,o,none⟩/\VE g b 1 o es):(convert s t (.slice a es.length c)).run P w=.ok (.string ⟨l.toArray⟩) w:=by
 have z:=bytesX_eq n;have f:es.length=l.length:=by simp_all
 have key:∀d:Addr,(∀j (A:j < l.length),w.cell? (d.add j)=some (.int .u8 (l[j].toNat:Int)))->(convert s t (.slice (some d) es.length c)).run P w=.ok (.string ⟨l.toArray⟩) w:=λd k=>by
  rw [f];exact run_convert_bytes_back w s t e d c l hs u q k
 cases a with
 | none =>
  rcases x with rfl | ⟨b,o,i,_⟩
  ·simp only [bytesX,uj] at n;subst n;simp [convert,run_underlying hs,run_underlying q,run_underlying u,Conv.bytesToString];rfl
  ·cases i
 | some d =>
  refine key d λj A=>?_;rcases x with rfl | ⟨b,o,i,m⟩
  ·grind
  ·injection i with i;subst i;obtain ⟨_,k⟩:=m.get j [AV.int .u8 (l[j].toNat:Int)] (by simp_all);simp only [VC] at k;obtain ⟨⟨v,y,_,p⟩,_⟩:=k;simp only [V] at p;subst p;have:=r.phi _ _ _ y;rw [show (⟨b,o,none⟩:Addr).add j=⟨b,o+j,none⟩ by unfold Addr.add;split <;> simp_all]
   simp_all
theorem buildSliceM_sound (r:Rel B w0 g h w) {t e:TypeId} {n:Nat} {i:TypeInfo} {z cs:List AV} {env:List AV} {a:Act} (L:VL g env a.tmps.toList) {parts:Array (Nat×Operand)} (A:(parts.all λp=>zV p.2)=true)
  (I:P.underlying t=some (.slice e)) (hi:P.info? e=some i) (G:yR P e=some z) (K:0 < n) (c:0 < i.size) (J:n * i.size<=65536) (q:z.length=i.size)
  (H:wU (λj=>some (j * i.size,i.size)) ((List.replicate n z).flatten) (yM P (.slice e) env parts)=some cs) :
  ∃u w' g',(Instr.buildSlice t n (parts.map λ(i,x)=>(i,a.eval x))).run P w=.ok u w'/\g.le g'/\Rel B w0 g' (h.new (.cells cs)) w'/\V g' (.msl i.size h.blks.length 0 n) u:=by
 obtain ⟨M,m,b,s,f⟩:=wu (g:=g) G;rw [hi] at b;injection b with b;subst b;have y:m.cells.size=i.size:=by rw [<- q,f.length];rfl
 have C:¬ (n * i.size=0):=by
  have:=r8 K c;omega
 obtain ⟨F,D⟩:=parts_rel (P:=P) (d:=.slice e) L A;have l:=VA.flatten f n;obtain ⟨xs,v,o⟩:=qg (place':=λj=>some (j * i.size,i.size)) (λi x h=>h) (us:=(Array.range (n * i.size)).map (m.cells[· % m.cells.size]!))
  (by rw [<- y,s8,rx,range_rep];exact l) F D H
 have k:=run_buildSlice w t e n _ xs i m I hi s (by omega) C v;refine ⟨_,_,_,k,g.le_addS _,r.newCells e o,?_⟩;have E:=r.slen;simp only [V,Gh.addS];exact ⟨w.heap.size,n,by grind,rfl,ug _,by simp only [maxLen];have:=rz n c;omega⟩
theorem buildSliceR_sound (r:Rel B w0 g h w) {t e:TypeId} {n:Nat} {i:TypeInfo} {z cs out:List AV} {env:List AV} {a:Act} (W:VL g env a.tmps.toList) {parts:Array (Nat×Operand)} (U:(parts.all λp=>zV p.2)=true)
  (hu:P.underlying t=some (.slice e)) (hi:P.info? e=some i) (hz:yR P e=some z) (hn:0 < n) (f:0 < i.size) (hsm:n * i.size<=65536) (C:z.length=i.size)
  (hf:wU (λj=>some (j * i.size,i.size)) ((List.replicate n z).flatten) (yM P (.slice e) env parts)=some cs) (Y:y6 cs=some out) :
  ∃u w' g',(Instr.buildSlice t n (parts.map λ(i,x)=>(i,a.eval x))).run P w=.ok u w'/\g.le g'/\Rel B w0 g' (({ h with toks:=h.toks++[n] }:AH).new (.row h.toks.length i.size (rows i.size n out))) w'/\V g' (.rsl h.blks.length h.toks.length i.size n) u:=by
 obtain ⟨i',J,b,O,D⟩:=wu (g:=g) hz;rw [hi] at b;injection b with b;subst b;have S:J.cells.size=i.size:=by rw [<- C,D.length];rfl
 have X:¬ (n * i.size=0):=by
  have:=r8 hn f;omega
 obtain ⟨h1,h2⟩:=parts_rel (P:=P) (d:=.slice e) W U;have F:=VA.flatten D n;obtain ⟨xs,Q,M⟩:=qg (place':=λj=>some (j * i.size,i.size)) (λi x h=>h) (us:=(Array.range (n * i.size)).map (J.cells[· % J.cells.size]!))
  (by rw [<- S,s8,rx,range_rep];exact F) h1 h2 hf
 have m:=qO M Y;have q:out.length=n * i.size:=by
  rw [clean_len Y,aFill_len hf];simp [C]
 have N:xs.size=n * i.size:=by rw [<- q,m.length];rfl
 have E:=run_buildSlice w t e n _ xs i J hu hi O (by omega) X Q;obtain ⟨L,R,e3⟩:=rows_flat (k:=i.size) n out q;have r1:=r.alloc0 (.cells xs e);have c:(w.alloc (.cells xs e)).heap[w.heap.size]?=some (.cells xs e (0,0)):=heap_alloc_new w _;have o:∀j,g.Φ w.heap.size j=none:=λj=>by
  rcases W:g.Φ w.heap.size j with _ | v
  ·rfl
  ·exact absurd (r.phi_lt W) (tH _)
 have hloc:LocOk g.Φ B (w.alloc (.cells xs e)) w.heap.size (n * i.size) (n * i.size) :=
  ⟨r.bsz,by simp,⟨xs,e,c,by omega⟩,λj _=>o j⟩
 have A:∀(j H:Nat),g.σ[j]?=some (some H)->w.heap.size ≠ H:=λj H K e=>by
  have b:j < h.blks.length:=by rw [<- r.slen];exact (uc.1 K).1
  have:=(r.blk j H _ K (ui b)).2.1;omega
 have s:∀(j:Nat) (I:TI) (y:Nat×Nat),g.τ[j]?=some I->I.loc ≠ some (w.heap.size,y):=λj I y K e=>by
  have:=((r.tok j I K).2 _ _ _ e).lt;omega
 let T:TI:=⟨n,some (w.heap.size,n * i.size,n * i.size),true⟩
 have hT:((g.addT T).addS none).τ[g.τ.length]?=some T:=by simp [Gh.addT,Gh.addS]
 have G:g.le ((g.addT T).addS none):=(g.le_addT T).trans (Gh.le_addS _ none);have r2:=r1.newRowT T i.size (rows i.size n out)
  (λb' l e' hl'=>by grind)
  (λb' x hx=>by injection hx with hx;injection hx with L _;subst L;exact ⟨s,A,r.nnew (ug _),r.nold (ug _)⟩)
  ⟨T,hT,rfl,R.symm,e3,by rw [L];exact clean_pure Y,.inr ⟨w.heap.size,0,n * i.size,xs,e,by simp [T,R],c,by
   rw [L,R,sg,uJ (by simp [N])];exact m.mono G _ _,by grind,λj _=>o j⟩⟩
 have Z:=r.tlen;have sl:=r.slen;rw [Z] at r2;refine ⟨_,_,_,E,G,r2,?_⟩;simp only [V];rw [<- Z];exact ⟨some ⟨w.heap.size,0,none⟩,n,rfl,ug _,by simp only [maxLen];have:=rz n f;omega,T,hT,rfl,ug _,.inr ⟨w.heap.size,0,rfl,λ_=>by simp [T]⟩⟩
theorem append0 {t u ty e f:TypeId} {i:TypeInfo} {a b:Option Addr} {n c m:Nat} (d:P.underlying t=some (.slice e)) (j:P.underlying u=some (.slice f)) (hi:P.info? e=some i) (k:n<=m) :
  (Builtin.append_ #[t,u] ty #[.slice a n m,.slice b 0 c]).run P w=.ok (.slice a n m) w:=by
 cases a <;> cases b <;> simp [Builtin.append_,run_underlying d,run_underlying j,sizeOf,typeInfo,hi,Builtin.lenOf,Builtin.firstCells,loadCells,loadCellsFrom,storeCells,k]
theorem bytes_new (r:Rel B w0 g h w) {s t e:TypeId} {l:List UInt8} (hs:P.underlying s=some .string) (o:P.underlying t=some (.slice e)) (K:P.underlying e=some (.int .u8)) (J:l.length<=maxLen) :
  ∃v w' g',(convert s t (.string ⟨l.toArray⟩)).run P w=.ok v w'/\g.le g'/\Rel B w0 g' h w'/\V g' (.sl 1 (l.map λb=>[AV.int .u8 (b.toNat:Int)])) v:=by
 have d:=run_bytes_of_string (P:=P) w s t e ⟨l.toArray⟩ hs o K;rw [str_size] at d;have k:=grownCap_ge w l.length 0 e;have m:=grownCap_le_maxLen w l.length 0 e J;generalize grownCap w l.length 0 e=C at d k m;generalize hrow:bytesRow ⟨l.toArray⟩ C=row at d;generalize ho:Obj.cells row e (row.size,row.size+1)=ob at d;have E:Rel B w0 g h (w.drew.alloc ob):=r.drew.alloc0 ob;have F:w.drew.heap.size=w.heap.size:=rfl;have p:∀j v,(if j < l.length then row[j]? else none)=some v->(w.drew.alloc ob).cell? ⟨w.heap.size,j,none⟩=some v:=λj v u=>by
  split at u
  ·have n:(w.drew.alloc ob).heap[w.heap.size]?=some ob:=heap_alloc_new w.drew ob;rw [cell_of_row _ w.heap.size j row e (row.size,row.size+1) (by rw [n,ho])];exact u
  ·cases u
 have I:=E.vow (b:=w.heap.size) (f:=λj=>if j < l.length then row[j]? else none) p
  (λi c A _ e=>by
   have hi:i < h.blks.length:=by rw [<- r.slen];exact (uc.1 A).1
   have:=(r.blk i c _ A (ui hi)).2.1;omega)
  (λi t l e o G=>by
   have:=((r.tok i t o).2 _ l e G).lt;omega) (r.nnew (ug _))
 refine ⟨_,_,_,d,Gh.le_vow g _ _,I,?_⟩;simp only [V];refine ⟨_,C,by rw [ux],by rw [ux];exact k,m,?_⟩;rcases ru l.length with h0 | h0
 ·left;have:l=[]:=uN h0;rw [this];rfl
 ·refine .inr ⟨w.heap.size,0,rfl,VE_iff.2 ⟨λx hx=>?_,?_⟩⟩
  ·obtain ⟨b,_,rfl⟩:=tf.1 hx;rfl
  ·rw [qn];refine VC.mk λi a z=>?_;rw [tX] at z;obtain ⟨b,n,rfl⟩:=tQ.1 z;have hi:=(uc.1 n).1;refine ⟨.int .u8 (b.toNat:Int),?_,rfl,by simp only [V]⟩;have y:=bytesRow_at ⟨l.toArray⟩ C i (by simpa using hi);rw [hrow] at y;have D:(Gh.vow g w.heap.size λj=>if j < l.length then row[j]? else none).Φ w.heap.size (0+i)=row[i]?:=by
    have H:g.Φ w.heap.size (0+i)=none:=by
     rcases hx:g.Φ w.heap.size (0+i) with _ | v
     ·rfl
     ·exact absurd (r.phi_lt hx) (tH _)
    simp only [Gh.vow,uq,H];simp [hi]
   rw [D,y];have q:=(uc.1 n).2;simp [q]
theorem bfits (r:Rel B w0 g h w) {a:Act} {env:List AV} (K:VL g env a.tmps.toList) {o:Oper} {l:List (AV×AH)} (f:wm P o env h=some l):∃p ∈ l,wV P B w0 g a o w p.1 p.2:=by
 unfold wm at f;split at f
 ·-- range
  rename_i t x F;split at f
  ·rename_i A;have H:=V.ev K A;split at f
   ·rename_i kt et id M hx;split at f
    ·rename_i es L;simp only [uj] at f;subst f;refine ⟨_,uA.2 rfl,?_⟩;rw [hx] at H;simp only [V] at H;obtain ⟨c,I,S⟩:=H;obtain ⟨hB,hlt,⟨ents,n,W,Z,k3⟩,_⟩:=r.blk id c _ I L;obtain ⟨rfl,k4⟩:=k3 rfl;have X:ents.size=es.length:=by have:=Z.len;simpa using this
     refine ⟨.pointer (some ⟨w.heap.size,0,none⟩),w.alloc (.mapIter (some c) ents.size #[] ents.size),g.addS w.heap.size,.inl ?_,g.le_addS _,r.newBlk _ _ ?_,?_⟩
     ·simp [execOp,F,S,run_range_map w t kt et c ents _ M W]
     ·exact ⟨c,(g.le_addS _).sig _ _ I,by rw [<- X];exact heap_alloc_new w _⟩
     ·have hsl:=r.slen;simp only [V,Gh.addS]
      simp_all
    ·cases f
   ·rename_i kt et M hx;simp only [uj] at f;subst f;refine ⟨_,uA.2 rfl,?_⟩;rw [hx] at H;simp only [V] at H;refine ⟨.pointer (some ⟨w.heap.size,0,none⟩),w.alloc (.mapIter none 0 #[] 0),g.addS w.heap.size,.inl ?_,g.le_addS _,r.newBlk _ _ (heap_alloc_new w _),?_⟩
    ·simp [execOp,F,H,run_range_nilMap w t kt et M]
    ·have hsl:=r.slen;simp only [V,Gh.addS]
     simp_all
   ·cases f
  ·cases f
 ·-- next
  rename_i x F;split at f
  ·rename_i A;have H:=V.ev K A;split at f
   ·rename_i it hx;rw [hx] at H;simp only [V] at H;obtain ⟨ci,hci,S⟩:=H;split at f
    ·rename_i L;simp only [uj] at f;subst f;refine ⟨_,uA.2 rfl,?_⟩;obtain ⟨_,_,W,_⟩:=r.blk it ci _ hci L;have W:w.heap[ci]?=some (.mapIter none 0 #[] 0):=W;refine ⟨.tuple #[.bool false],w,g,.inl ?_,Gh.le.refl g,r,by simp [V,VL]⟩;simp [execOp,F,S,Instr.next,getObj,Sem.run,W]
    ·rename_i id n E L;split at f
     ·rename_i es hbm;split at f
      ·rename_i hn;simp only [uj] at f;obtain ⟨_,hltI,⟨cm,Y,hit⟩,_⟩:=r.blk it ci _ hci L;obtain ⟨_,_,⟨ents,m,W,Z,k3⟩,_⟩:=r.blk id cm _ Y hbm;obtain ⟨rfl,k4⟩:=k3 rfl;have X:ents.size=es.length:=by have:=Z.len;simpa using this
       have hold:∀x ∈ ents.toList,x.born < n:=λx hx=>by
        obtain ⟨i,hi⟩:=tg.1 hx
        grind
       rcases run_next_at (P:=P) w o.type ci cm n n E.toArray ents ents.size hit W hold (ug _) with ⟨h0,O⟩ | ⟨e,hmem,w1,hw1,O⟩
       ·have hnil:es.zipIdx.filter (λp=>!E.contains p.2)=[]:=by
         rw [rF]
         rintro ⟨p,i⟩ hp
         simp only [Bool.not_eq_true,Bool.not_eq_false'];have hp':=List.mem_zipIdx' hp;obtain ⟨e,he1,_,_⟩:=Z.getE (j:=i) (p:=p) (by simp_all);rw [uE] at he1;have U:=k4 i e he1;have:¬ e ∈ leftOf ents E.toArray:=by
          simp_all
         simp only [leftOf,Array.mem_filter,not_and,sH,Bool.not_eq_false] at this
         grind
        rw [nextAlts,hnil] at f;subst f;refine ⟨_,uA.2 rfl,.tuple #[.bool false],w,g,.inl ?_,Gh.le.refl g,r,by simp [V,VL]⟩;simp [execOp,F,S,O]
       ·simp only [leftOf,Array.toList_filter,tm] at hmem;obtain ⟨i,hi⟩:=tg.1 hmem.1;have hi':=hi;rw [uE] at hi';have U:=k4 i e hi';have hil:i < es.length:=by grind
        have hes:es[i]?=some es[i]:=ui hil;obtain ⟨e2,he2,hk,hv⟩:=Z.getE (j:=i) hes;rw [hi] at he2;injection he2 with he2;subst he2;have hin:(es[i],i) ∈ es.zipIdx.filter (λp=>!E.contains p.2):=by
         grind
        have r1:=r.drewO hw1;have hit1:w1.heap[ci]?=some (.mapIter (some cm) n E.toArray n):=by rcases hw1 with rfl | rfl <;> exact hit
        have r2:Rel B w0 g (h.put it (.miter id n (E++[i]))) (w1.putObj ci (.mapIter (some cm) n (E.toArray.push e.born) n)) :=
         r1.putObj hci L (by simp) rfl rfl rfl World.putObj_size (λb hb'=>World.putObj_heap_other hb') ⟨cm,Y,by
          rw [World.putObj_heap_same (by grind),U];simp⟩
        have hne:es.zipIdx.filter (λp=>!E.contains p.2) ≠ []:=List.ne_nil_of_mem hin;have hal:((.tup [.bool true,es[i].1,es[i].2],h.put it (.miter id n (E++[i]))):AV×AH) ∈ nextAlts h it id n E es:=by
         unfold nextAlts
         grind
        subst f;refine ⟨_,hal,.tuple #[.bool true,e.key,e.val],_,g,.inl ?_,Gh.le.refl g,r2,?_⟩
        ·rw [<- X] at hn;simp only [execOp,F,S,Sem.run_bind,O,Result.andThen_ok,Sem.run_pure];rw [setBlock_eq,hn]
        ·simp only [V,VL]
         grind
      ·cases f
     ·cases f
    ·cases f
   ·cases f
  ·cases f
 ·-- entry
  rename_i x F;split at f
  ·rename_i A;have H:=V.ev K A;split at f
   ·rename_i it hx;rw [hx] at H;simp only [V] at H;obtain ⟨ci,hci,S⟩:=H;split at f
    ·rename_i id n E L;split at f
     ·rename_i es i hbm hlast;split at f
      ·rename_i hn;split at f
       case h_2=>cases f
       rename_i p hp;simp only [uj] at f;subst f;refine ⟨_,uA.2 rfl,?_⟩;obtain ⟨_,hltI,⟨cm,Y,hit⟩,_⟩:=r.blk it ci _ hci L;obtain ⟨_,_,⟨ents,m,W,Z,k3⟩,_⟩:=r.blk id cm _ Y hbm;obtain ⟨rfl,k4⟩:=k3 rfl;have X:ents.size=es.length:=by have:=Z.len;simpa using this
       obtain ⟨e,he1,hk,hv⟩:=Z.getE (j:=i) hp;have he1':=he1;rw [uE] at he1';have U:=k4 i e he1';have hseen:E.toArray=E.dropLast.toArray.push e.born:=by
        grind
       rw [hseen] at hit;have hnd:(ents.toList.map (·.born)).Nodup:=by
        have:ents.toList.map (·.born)=List.range ents.size:=by
         apply uZ
         grind
        grind
       have O:=run_entry_at (P:=P) w ci cm n E.dropLast.toArray ents ents.size e (by grind) W (Array.mem_toList_iff.2 (Array.mem_of_getElem? he1')) hnd;refine ⟨.tuple #[e.key,e.val],w,g,.inl ?_,Gh.le.refl g,r,?_⟩
       ·simp [execOp,F,S,O]
       ·simp only [V,VL]
        grind
      ·cases f
     ·cases f
    ·cases f
   ·cases f
  ·cases f
 ·-- buildSlice
  rename_i t n parts F;split at f
  ·rename_i A;split at f
   ·rename_i e hu;split at f
    ·rename_i i z hi hz;split at f
     ·rename_i I;split at f
      ·rename_i cs hf;split at f
       ·rename_i out hcl;simp only [uj] at f;subst f;obtain ⟨u,w',g',Q,T,h3,h4⟩:=buildSliceR_sound r K A hu hi hz I.1 I.2.1 I.2.2.1 I.2.2.2 hf hcl;exact ⟨_,uA.2 rfl,u,w',g',.inl (by simp [execOp,F,Q]),T,h3,h4⟩
       ·simp only [uj] at f;subst f;obtain ⟨u,w',g',Q,T,h3,h4⟩:=buildSliceM_sound r K A hu hi hz I.1 I.2.1 I.2.2.1 I.2.2.2 hf;exact ⟨_,uA.2 rfl,u,w',g',.inl (by simp [execOp,F,Q]),T,h3,h4⟩
      ·cases f
     ·cases f
    ·cases f
   ·cases f
  ·cases f
 ·-- convert
  rename_i s t x F;split at f
  ·rename_i A;have hV0:=V.ev K A;have H:=(V.ev K A).tyfix (P:=P) (t:=s);split at f
   case h_2 =>
    split at f
    ·rename_i l0 C;simp only [uj] at f;subst f;unfold convBy at C;split at C
     ·rename_i e l hs M hx;split at C
      ·rename_i hu;simp only [uj] at C;subst C;rw [hx] at hV0;simp only [V] at hV0;obtain ⟨v,w',g',W,Z,k3,k4⟩:=bytes_new (P:=P) r hs M hu hV0.2;exact ⟨_,uA.2 rfl,v,w',g',.inl (by simp [execOp,F,hV0.1,W]),Z,k3,k4⟩
      ·cases C
     ·cases C
    ·cases f
   rename_i l0 C;simp only [uj] at f;subst f;unfold convX at C;split at C
   ·rename_i e hs M;have N:∀es l,P.underlying e=some (.int .u8)->bytesX es=some l->l.length<=maxLen->(∃J c,a.eval x=.slice J es.length c/\(es=[] \/ ∃b o,J=some ⟨b,o,none⟩/\VE g b 1 o es))->wV P B w0 g a o w (.str l) h:=by
     rintro es l hu L hm ⟨J,c,hx,hve⟩
     refine ⟨.string ⟨l.toArray⟩,w,g,.inl ?_,Gh.le.refl g,r,by simp only [V];exact ⟨trivial,hm⟩⟩;simp [execOp,F,hx,bytes_run r hs M hu L hve]
    split at C
    ·rename_i es hu hx;rw [hx] at H;simp only [V] at H;obtain ⟨J,c,Q,_,_,T⟩:=H;split at C
     ·rename_i l L;split at C
      ·rename_i hm;simp only [uj] at C;subst C;exact ⟨_,uA.2 rfl,N _ _ hu L hm ⟨J,c,Q,T⟩⟩
      ·cases C
     ·cases C
    ·rename_i es q hu hx;rw [hx] at H;simp only [V] at H;obtain ⟨J,c,Q,_,_,T,_⟩:=H;split at C
     ·rename_i l L;split at C
      ·rename_i hm;simp only [uj] at C;subst C;exact ⟨_,uA.2 rfl,N _ _ hu L hm ⟨J,c,Q,T⟩⟩
      ·cases C
     ·cases C
    ·cases C
   ·cases C
  ·cases f
 ·-- alloc
  rename_i t F;split at f
  ·rename_i x hz;split at f
   ·rename_i hone;simp only [uj] at f;subst f;obtain ⟨i,z,hi,hzz,hva⟩:=wu (g:=g) hz;have hsl:=r.slen;simp only [VA,V] at hva;obtain ⟨v0,s0,hz0,⟨_,rfl⟩,v1,s1,rfl,⟨_,hV1⟩,rfl⟩:=hva;have hzc:z.cells=#[.pointer none,v1]:=by
     apply rT;rw [hz0]
    refine ⟨_,uA.2 rfl,.pointer (some ⟨w.heap.size,0,none⟩),w.alloc (.cells z.cells t),g.addS w.heap.size,.inl ?_,g.le_addS _,r.newBlk _ _ ⟨.pointer none,v1,by rw [<- hzc];exact heap_alloc_new w _,.inl rfl,hone,V.mono (g.le_addS _) _ _ hV1⟩,?_⟩
    ·simp [execOp,F,Instr.alloc,run_zero hi hzz,newVar,newRow]
    ·simp only [V,Gh.addS]
     simp_all
   ·cases f
  ·cases f
 ·-- append
  rename_i c F;split at f
  ·rename_i ts x y I has;split at f
   ·rename_i A;simp only [ud] at A;have R:c.args=#[x,y]:=by grind
    have D:=V.ev K A.1;have G:=V.ev K A.2;split at f
    ·rename_i W a1 Z b1 hx hy;split at f
     ·rename_i hk;subst hk;simp only [uj] at f;subst f;rw [hx] at D;rw [hy] at G;simp only [V] at D G;refine ⟨_,uA.2 rfl,.int W (if b1 > a1 then b1 else a1),w,g,.inl ?_,Gh.le.refl g,r,by simp only [V]⟩;simp only [execOp,F,resolve,I,Sem.run_bind,Sem.run_pure,Result.andThen_ok,invoke,R];simp [builtin,D,G,run_max_int2]
     ·cases f
    ·cases f
   ·cases f
  ·rename_i ts x y I has;split at f
   ·rename_i A;simp only [ud] at A;have R:c.args=#[x,y]:=by grind
    have D:=V.ev K A.1;have G:=V.ev K A.2;split at f
    ·rename_i W a1 Z b1 hx hy;split at f
     ·rename_i hk;subst hk;simp only [uj] at f;subst f;rw [hx] at D;rw [hy] at G;simp only [V] at D G;refine ⟨_,uA.2 rfl,.int W (if b1 < a1 then b1 else a1),w,g,.inl ?_,Gh.le.refl g,r,by simp only [V]⟩;simp only [execOp,F,resolve,I,Sem.run_bind,Sem.run_pure,Result.andThen_ok,invoke,R];simp [builtin,D,G,run_min_int2]
     ·cases f
    ·cases f
   ·cases f
  ·rename_i t u s x I hts has;split at f
   ·rename_i A;simp only [ud] at A;have hta:c.argTypes=#[t,u]:=by grind
    have R:c.args=#[s,x]:=by grind
    have hVs:=(V.ev K A.1).tyfix (P:=P) (t:=t);have D:=(V.ev K A.2).tyfix (P:=P) (t:=u);split at f
    ·rename_i e e' M hu;have N:∀i k es,P.info? e=some i->tyfix P t (ev env s)=.osl none k es->(∃J c,a.eval x=.slice J 0 c)->wV P B w0 g a o w (.osl none k es) h:=by
      rintro i k es hi hs ⟨J,c2,hx⟩
      rw [hs] at hVs;have hV2:=hVs;simp only [V] at hVs;obtain ⟨a1,c1,hs1,Q,_⟩:=hVs;refine ⟨a.eval s,w,g,.inl ?_,Gh.le.refl g,r,hV2⟩;simp only [execOp,F,resolve,I,Sem.run_bind,Sem.run_pure,Result.andThen_ok,invoke,hta,R];simp only [builtin,Array.map,hs1];simp [append0 M hu hi Q,hs1,hx]
     split at f
     ·rename_i i k es q hi hs hx;simp only [uj] at f;subst f;refine ⟨_,uA.2 rfl,N _ k es hi hs ?_⟩;rw [hx] at D;simp only [V] at D
      grind
     ·rename_i i k es q q2 hi hs hx;simp only [uj] at f;subst f;refine ⟨_,uA.2 rfl,N _ k es hi hs ?_⟩;rw [hx] at D;simp only [V] at D
      grind
     ·cases f
    ·cases f
   ·cases f
  ·rename_i t x I hts has;split at f
   ·rename_i A;have hta:c.argTypes=#[t]:=by grind
    have R:c.args=#[x]:=by grind
    have D:=V.ev K A;split at f
    ·rename_i e id tk k n i M hx;split at f
     ·rename_i z t' k' es hz L;split at f
      ·rename_i hcd;obtain ⟨⟨rfl,rfl,rfl⟩,hzl,hk0⟩:=hcd;split at f
       ·rename_i z' hcl;simp only [uj] at f;subst f;rw [hx] at D;obtain ⟨w',Q,T⟩:=clear_sound (P:=P) (ty:=o.type) r M hz hcl hzl hk0 L rfl D;refine ⟨_,uA.2 rfl,.tuple #[],w',g,.inl ?_,Gh.le.refl g,T,by simp [V,VL]⟩;simp only [execOp,F,resolve,I,Sem.run_bind,Sem.run_pure,Result.andThen_ok,invoke,hta,R];simp [builtin,Q]
       ·cases f
      ·cases f
     ·cases f
    ·cases f
   ·cases f
  ·cases f
 ·-- insert
  rename_i t m k x F;split at f
  ·rename_i v h' hs;simp only [uj] at f;subst f;refine ⟨_,uA.2 rfl,?_⟩;have:=astep_fits (P:=P) r K { o with op:=.mapUpdate t m k x };rw [hs] at this;obtain ⟨u,w',g',Q,T⟩:=this;refine ⟨u,w',g',?_,T⟩;simpa only [execOp,F] using Q
  ·cases f
 ·-- makeInterface
  rename_i t x F;split at f
  ·rename_i A;have H:=(V.ev K A).tyfix (P:=P) (t:=t);split at f
   ·cases f
   ·rename_i d hne hd;simp only [uj] at f;subst f;refine ⟨_,uA.2 rfl,.iface t (a.eval x),w,g,.inl ?_,Gh.le.refl g,r,?_⟩
    ·have:(Instr.makeInterface t (a.eval x)).run P w=.ok (.iface t (a.eval x)) w:=by
      simp only [Instr.makeInterface,Sem.run_bind,run_underlying hd,Result.andThen_ok];simp
     simp [execOp,F,this]
    ·simp only [V];exact ⟨_,rfl,H⟩
   ·cases f
  ·cases f
 ·-- typeAssert
  rename_i x xt t ok F;split at f
  ·rename_i A;have H:=V.ev K A;split at f
   ·cases f
   ·rename_i d u v hne hd hx;rw [hx] at H;simp only [V] at H;obtain ⟨y,hy,hv⟩:=H;split at f
    ·rename_i hut;subst hut;simp only [uj] at f;subst f;refine ⟨_,uA.2 rfl,if ok then .tuple #[y,.bool true] else y,w,g,.inl ?_,Gh.le.refl g,r,?_⟩
     ·have:(Instr.typeAssert (.iface u y) xt u ok).run P w=.ok (if ok then .tuple #[y,.bool true] else y) w:=by
       simp only [Instr.typeAssert,Sem.run_bind,run_underlying hd,Result.andThen_ok];rfl
      simp [execOp,F,hy,this]
     ·cases ok
      ·exact hv
      ·simp only [uq,V,VL]
       simp_all
    ·rename_i hut;split at f
     ·rename_i hk;subst hk;split at f
      ·rename_i z hz;simp only [uj] at f;subst f;obtain ⟨zv,hz1,hz2⟩:=aZero_sound (P:=P) (w:=w) (g:=g) hz;refine ⟨_,uA.2 rfl,.tuple #[zv,.bool false],w,g,.inl ?_,Gh.le.refl g,r,?_⟩
       ·have:(Instr.typeAssert (.iface u y) xt t true).run P w=.ok (.tuple #[zv,.bool false]) w:=by
         simp only [Instr.typeAssert,Sem.run_bind,run_underlying hd,Result.andThen_ok]
         simp_all
        simp [execOp,F,hy,this]
       ·simp only [V,VL]
        simp_all
      ·cases f
     ·cases f
   ·cases f
  ·cases f
 ·-- a row is cut
  rename_i t x y F;split at f
  ·rename_i A;simp only [ud] at A;have D:=V.ev K A.1;have G:=V.ev K A.2;split at f
   ·rename_i e id tk k m kk n M hx hy;split at f
    ·rename_i i t' k' es hi L;split at f
     ·rename_i I;obtain ⟨⟨rfl,rfl,rfl⟩,hn0,hnm⟩:=I;simp only [uj] at f;subst f;rw [hx] at D;rw [hy] at G;have hVx2:=D;simp only [V] at D G;obtain ⟨J,c,hev,hnc,Y,_⟩:=D;rw [hev] at hVx2;obtain ⟨g',Q,T,h3⟩:=r.shrink (n:=n.toNat) (a':=if c=0 then J else J.map (·.add (0 * i.size))) L hnm (by grind) hVx2;refine ⟨_,uA.2 rfl,_,w,g',.inl ?_,Q,T,h3⟩;have hbd:=qX (P:=P) (w:=w) (isS:=true) (len:=es.length) (cap:=c) (l:=0) (hh:=n.toNat) (m:=c) (d:=0) (lo:=none) (hi:=some (.int kk n)) (mx:=none) (.inl ⟨rfl,rfl⟩)
       (.inr ⟨kk,n,rfl,hn0,by omega⟩) (.inl ⟨rfl,rfl⟩) (tO _) (by omega) (ug _) rfl
      have:(Instr.sliceAt t (.slice J es.length c) none (some (.int kk n)) none).run P w=.ok (.slice (if c=0 then J else J.map (·.add (0 * i.size))) n.toNat c) w:=by
       rw [sliceAt_of M (by simp)];simp [Instr.slice,zW M,hbd,yQ hi]
      simp [execOp,F,hev,G,this]
     ·cases f
    ·cases f
   ·cases f
  ·cases f
 ·-- a row's end
  rename_i t x y F;split at f
  ·rename_i A;simp only [ud] at A;have D:=V.ev K A.1;have G:=V.ev K A.2;split at f
   ·rename_i e id tk k m kk n M hx hy;split at f
    ·rename_i i hi;split at f
     ·rename_i I;obtain ⟨rfl,hn0,hnm⟩:=I;simp only [uj] at f;subst f;rw [hx] at D;rw [hy] at G;simp only [V] at D G;obtain ⟨J,c,hev,hnc,Y,tt,htt,hrd,hle,hhd⟩:=D;refine ⟨_,uA.2 rfl,.slice (if c=n.toNat then J else J.map (·.add (n.toNat * i.size))) (m - n.toNat) (c - n.toNat),w,g,.inl ?_,Gh.le.refl g,r,?_⟩
      ·have hbd:=qX (P:=P) (w:=w) (isS:=true) (len:=m) (cap:=c) (l:=n.toNat) (hh:=m) (m:=c) (d:=0) (lo:=some (.int kk n)) (hi:=none) (mx:=none) (.inr ⟨kk,n,rfl,hn0,by omega⟩)
        (.inl ⟨rfl,rfl,rfl⟩) (.inl ⟨rfl,rfl⟩) hnm hnc (ug _) rfl
       have:(Instr.sliceAt t (.slice J m c) (some (.int kk n)) none none).run P w=.ok (.slice (if c=n.toNat then J else J.map (·.add (n.toNat * i.size))) (m - n.toNat) (c - n.toNat)) w:=by
        rw [sliceAt_of M (by simp)];simp [Instr.slice,zW M,hbd,yQ hi]
       simp [execOp,F,hev,G,this]
      ·simp only [V];refine ⟨_,_,rfl,⟨hnm,by omega⟩,tt,htt,?_⟩;by_cases h0:m - n.toNat=0
       ·omega
       ·right;rcases hhd with ⟨Q,_⟩ | ⟨b,o2,T,h3⟩
        ·omega
        ·have hcn:¬ c=n.toNat:=by omega
         refine ⟨b,o2+n.toNat * i.size,?_,hrd,hle,λhe'=>⟨o2,_,rfl,h3 he'⟩⟩;rw [uG hcn,T];simp [xl]
     ·cases f
    ·cases f
   ·cases f
  ·cases f
 ·cases f
end
end Go.Vv
namespace Go.Vv
open Go Go.RowKit Go.Lib

def anew (P:Program) (o:Oper) (env:List AV):Option (Nat×List (List AV)) :=
 match o.op with
 | .call c=>match c.callee,c.argTypes.toList,c.args.toList with
  | .builtin .append,[t,u],[s,x]=>if zV s&&zV x then (match P.underlying t,P.underlying u with
   | some (.slice e),some (.slice _)=>match P.info? e with
    | some i=>if i.bytes<=65536/\0 < i.size/\(i.zero.map (·.cells.size))=some i.size then (match tyfix P t (ev env s),qU i.size (tyfix P u (ev env x)) with
     | .osl none k [],some ys=>if k=i.size/\ys.length<=yS then some (i.size,ys) else none
     | _,_=>none) else none
    | none=>none
   | _,_=>none) else none
  | _,_,_=>none
 | _=>none

section
variable {P:Program} {w:World} {g:Gh} {h:AH} {B:Nat} {w0:World}
theorem news_ex (r:Rel B w0 g h w) {k:Nat} (E:0 < k) {F:AV} {x:Value} (p:V g F x) {i:List (List AV)} (d:qU k F=some i) :
  ∃f,(∀e ∈ i,e.length=k)/\VA g i.flatten f/\i.flatten.all AV.pure=true/\∀W:World,(∀a v,w.cell? a=some v->W.cell? a=some v)->News P k i.length x f W:=by
 have slc:∀(es:List (List AV)) (l:Option Addr) (c:Nat),x=.slice l es.length c->(es=[] \/ ∃b o,l=some ⟨b,o,none⟩/\VE g b k o es)->i=es ->
   ∃f,(∀e ∈ i,e.length=k)/\VA g i.flatten f/\i.flatten.all AV.pure=true/\∀W:World,(∀a v,w.cell? a=some v->W.cell? a=some v)->News P k i.length x f W:=by
  rintro es l c q D rfl
  rcases D with rfl | ⟨b,oo,rfl,y⟩
  ·refine ⟨[],by simp,by simp [VA],rfl,λW _=>⟨by rw [q];rfl,?_⟩⟩;rw [q];cases l with
   | none=>simp [Builtin.firstCells]
   | some l=>simp [Builtin.firstCells,loadCells,loadCellsFrom]
  ·obtain ⟨n,u⟩:=VE_iff.1 y;obtain ⟨us,t,z,C⟩:=u.toVA;refine ⟨us,n,t,z,λW G=>?_⟩;rw [q];refine News.slice (by rw [<- t.length,yc n]) λj v I=>?_;rw [xl];exact G _ _ (r.phi _ _ _ (C j v I))
 unfold qU at d;split at d
 ·split at d
  ·rename_i m;cases d;subst m;simp only [V] at p
   grind
  ·cases d
 ·split at d
  ·rename_i m;cases d;subst m;simp only [V] at p
   grind
  ·cases d
 ·split at d
  ·rename_i m;cases d;subst m;simp only [V] at p;obtain ⟨l,c,n,u,H,A⟩:=p;exact slc _ l c n (A.imp id λ⟨b,o,e,hh,_⟩=>⟨b,o,e,hh⟩) rfl
  ·cases d
 ·split at d
  ·rename_i m;cases d;subst m;simp only [V] at p;obtain ⟨l,c,n,u,H,A⟩:=p;exact slc _ l c n (A.imp id λ⟨b,o,e,hh,_⟩=>⟨b,o,e,hh⟩) rfl
  ·cases d
 ·rename_i s;split at d
  ·rename_i m;cases d;simp only [V] at p;obtain ⟨n,u⟩:=p;refine ⟨strCells ⟨s.toArray⟩,λe J=>?_,?_,by rw [qn,List.all_map];exact ur.2 λ_ _=>rfl,λW _=>?_⟩
   ·grind
   ·rw [qn];exact bytes_VA s
   ·rw [n];have:=News.str (P:=P) (size:=k) (s:=⟨s.toArray⟩) (w:=W);rw [str_size] at this
    simp_all
  ·cases d
 ·cases d

theorem new_fits (r:Rel B w0 g h w) {a:Act} {env:List AV} (D:VL g env a.tmps.toList) {o:Oper} {k:Nat} {C:List (List AV)} (b:anew P o env=some (k,C)):wV P B w0 g a o w (.nsl k C) h:=by
 unfold anew at b;split at b
 ·rename_i c O;split at b
  ·rename_i t u G U l S has;split at b
   ·rename_i d;simp only [ud] at d;split at b
    ·rename_i e Y H Q;split at b
     ·rename_i i hi;split at b
      ·rename_i y;obtain ⟨p,j,W⟩:=y;obtain ⟨z,M,s⟩:∃z,i.zero=some z/\z.cells.size=i.size:=by
        simp_all
       split at b
       ·rename_i k' N hs n;split at b
        ·rename_i I;obtain ⟨rfl,m⟩:=I;cases b;have f:=(V.ev D d.1).tyfix (P:=P) (t:=t);rw [hs] at f;obtain ⟨A,L,F,R,K⟩:=news_ex (P:=P) r j ((V.ev D d.2).tyfix (P:=P) (t:=u)) n;obtain ⟨v,w',g',E,T,J,X⟩:=append_new (ty:=o.type) r H Q (.inr ⟨_,rfl⟩) hi M s p f L F R K m;refine ⟨v,w',g',.inl ?_,T,J,X⟩;have x:c.argTypes=#[t,u]:=by grind
         have q:c.args=#[G,U]:=by grind
         simp only [execOp,O,resolve,l,Sem.run_bind,Sem.run_pure,Result.andThen_ok,invoke,x,q];simp [builtin,E]
        ·cases b
       ·cases b
      ·cases b
     ·cases b
    ·cases b
   ·cases b
  ·cases b
 ·cases b
end
end Go.Vv
namespace Go.Vv
open Go Go.RowKit
variable {w0 w:World}
def laid (P : Program) (w : World) : Prop := Lib.TabIs P w "internal/strconv.uint64pow10" .u64 Lib.pow10Tab ∧ w.cell? ⟨5, 15, none⟩ = some (.int .u8 4) ∧ (∃ t p, w.cell? ⟨2, 0, none⟩ = some (.iface t p)) ∧ ∃ t p, w.cell? ⟨3, 0, none⟩ = some (.iface t p)
theorem below_cell {B:Nat} {a:Addr} {v:Value} (h:w0.cell? a=some v) (hs:w0.heap.size<=B) (b:Below B w0 w):w.cell? a=some v :=
 (b.cell (p:=a) (tw (World.block_lt_of_cell? w0 a h) hs)).trans h
theorem laid_below {P:Program} {B:Nat} (h:laid P w0) (hs:w0.heap.size<=B) (a:Below B w0 w):laid P w:=by
 obtain ⟨f,d,⟨t3,b,g⟩,t4,c,e⟩:=h;exact ⟨Lib.tabBelow_of_tabIs f w (a.mono hs),below_cell d hs a,⟨t3,b,below_cell g hs a⟩,t4,c,below_cell e hs a⟩
end Go.Vv
namespace Go.Vv
open Go Go.RowKit Go.Lib
variable {o:Oper} {env:List AV} {h:AH} {K:AV->AH->Prop} {ops:Array Oper} {Q:List AV->AH->Prop} {rest:List Oper} {a:Act} {w:World} {next:Act->World->Prop}

class GOk (P:Program) (B:Nat) (w0:World):Prop where
 sh:w0.ShapedOpen P
 sz:w0.heap.size<=B
 lay:laid P w0
def Spec (P:Program) (f:FuncId) (args:List AV) (h:AH) (K:AV->AH->Prop):Prop :=
 (∀(vs:Array Value) (w:World),(callFunc f vs).run P w=.ok (.enter f vs) w) /\
 ∀(B:Nat) (w0:World) [GOk P B w0] (g:Gh) (w:World) (vs:Array Value),Rel B w0 g h w->VL g args vs.toList ->
  Calls P f vs w λe w'=>∃v r h' g',e=.returned v/\K r h'/\g.le g'/\Rel B w0 g' h' w'/\V g' r v

def SpecY (P:Program) (id:Nat) (args:List AV) (h:AH) (K:AV->AH->Prop):Prop :=
 ∀(B:Nat) (w0:World) [GOk P B w0] (g:Gh) (w:World) (vs:Array Value) (c:Nat),Rel B w0 g h w->VL g args vs.toList->g.σ[id]?=some c ->
  ∃fn tmps assign body,(Instr.yield c vs).run P w=.ok (.round c fn tmps assign body) w /\
   ∀n,RoundIn Fence.wide n P c fn tmps assign body w λe w'=>∃v r h' g',e=.returned v/\K r h'/\g.le g'/\Rel B w0 g' h' w'/\V g' r v

theorem Spec.mono {P:Program} {f:FuncId} {args:List AV} {h:AH} {K K':AV->AH->Prop} (s:Spec P f args h K) (c:∀r h',K r h'->K' r h'):Spec P f args h K' :=
 ⟨s.1,λB w0 _ g w vs r i=>(s.2 B w0 g w vs r i).mono λ_ _ ⟨v,x,h',g',d,b,e⟩=>⟨v,x,h',g',d,c _ _ b,e⟩⟩

theorem SpecY.mono {P:Program} {id:Nat} {args:List AV} {h:AH} {K K':AV->AH->Prop} (s:SpecY P id args h K) (e:∀r h',K r h'->K' r h'):SpecY P id args h K' :=
 λB w0 _ g w vs c r i j=>by
  obtain ⟨fn,tmps,assign,body,d,b⟩:=s B w0 g w vs c r i j;exact ⟨fn,tmps,assign,body,d,λn=>(b n).mono λ_ _ ⟨v,x,h',g',d,b,f⟩=>⟨v,x,h',g',d,e _ _ b,f⟩⟩

def aG (ops:Array Oper) (o:Oper) (env:List AV):Option Bool :=
 match o.guard with
 | none=>some true
 | some (j,want)=>match (ops[j]?).bind (·.dst) with
  | none=>some false
  | some d=>match env[d]? with
   | none=>some false
   | some (.bool b)=>some (b==want)
   | some (.tup [])=>some false
   | some _=>none

def rwp (P:Program) (h:AH) (r:Res) (K:AV->AH->Prop):Prop :=
 match r with
 | .ok v h'=>K v h'
 | .len n v h'=>n<=maxLen->K v h'
 | .call f args=>Spec P f args h K
 | .round id args=>SpecY P id args h K
 | .any S=>∀v h',S v h'->K v h'
 | .fail=>False
def gwp (b:Option Bool) (act:(AV->AH->Prop)->Prop) (h:AH) (K:AV->AH->Prop):Prop :=
 match b with
 | some true=>act K
 | some false=>K aundef h
 | none=>False
def swk (env:List AV) (h:AH) (env':List AV) (h':AH):Prop:=∀(B:Nat) (w0 w:World) (g:Gh) (vs:List Value),Rel B w0 g h w->VL g env vs->∃g',g.le g'/\Rel B w0 g' h' w/\VL g' env' vs
theorem swk.refl (env:List AV) (h:AH):swk env h env h:=λ_ _ _ g _ r b=>⟨g,Gh.le.refl g,r,b⟩
theorem swk.trans {env c d:List AV} {h h' i:AH} (a:swk env h c h') (b:swk c h' d i):swk env h d i:=λB w0 w g vs r p=>by
 obtain ⟨g1,j,k,e⟩:=a B w0 w g vs r p;obtain ⟨g2,m,l,f⟩:=b B w0 w g1 vs k e;exact ⟨g2,j.trans m,l,f⟩
def bwp (P:Program) (o:Oper) (env:List AV) (h:AH) (K:AV->AH->Prop):Prop:=(∃l,wm P o env h=some l/\∀p ∈ l,K p.1 p.2) \/ ∃k ys,anew P o env=some (k,ys)/\K (.nsl k ys) h
theorem bwp_mono {P:Program} {K':AV->AH->Prop} (b:∀v h',K v h'->K' v h'):bwp P o env h K->bwp P o env h K'
 | .inl ⟨l,hl,hp⟩=>.inl ⟨l,hl,λp hi=>b _ _ (hp p hi)⟩
 | .inr ⟨k,ys,hn,hp⟩=>.inr ⟨k,ys,hn,b _ _ hp⟩
def zA (P:Program) (ops:Array Oper) (Q:List AV->AH->Prop):List Oper->List AV->AH->Prop
 | [],env,h=>Q env h
 | o::rest,env,h=>∃env2 h2,swk env h env2 h2/\gwp (aG ops o env2) (λK=>rwp P h2 (zn P o env2 h2) K \/ bwp P o env2 h2 K) h2 λv h'=>zA P ops Q rest (setd env2 o.dst v) h'
theorem wJ {P:Program} (c:gwp (aG ops o env) (rwp P h (zn P o env h)) h λv h'=>zA P ops Q rest (setd env o.dst v) h') :
  zA P ops Q (o::rest) env h:=⟨env,h,swk.refl _ _,by
   cases hb:aG ops o env with
   | none=>rw [hb] at c;exact c
   | some b =>
    rw [hb] at c;cases b with
    | true=>exact .inl c
    | false=>exact c⟩
theorem awpOps_consB {P:Program} (c:aG ops o env=some true) (b:∃l,wm P o env h=some l/\∀p ∈ l,zA P ops Q rest (setd env o.dst p.1) p.2) :
  zA P ops Q (o::rest) env h:=⟨env,h,swk.refl _ _,by rw [c];exact .inr (.inl b)⟩
theorem ops_swk {P:Program} {b:List AV} {c:AH} (hs:swk env h b c) (e:zA P ops Q (o::rest) b c):zA P ops Q (o::rest) env h:=by
 obtain ⟨g,i,d,f⟩:=e;exact ⟨g,i,hs.trans d,f⟩

def isEff:Op->Bool
 | .move _ | .assign _ | .pick _ _ _ | .build _ _ | .nilCheck _ | .binOp _ _ _ _ _ | .unOp _ _ _ | .convert _ _ _ | .makeFunc _ _ _ | .slice _ _ _ _ _ | .fieldAddr _ _ _ | .field _ _ _ | .indexAddr _ _ _ | .index _ _ _ | .extract _ _
 | .load _ _ | .buildSlice _ _ _ | .makeInterface _ _ | .typeAssert _ _ _ _=>false
 | .call { callee:=.builtin .len,.. }=>false
 | _=>true
def isRd:Op->Bool
 | .load _ _=>true
 | _=>false
def effN (Ns:List Nat) (i:Nat) (op:Op):Bool:=isEff op&&!Ns.contains i
def cmpb (b:Array Nat) (i j:Nat):Bool:=(b.getD j 0).testBit i || (b.getD i 0).testBit j
def drawOk (ops:Array Oper) (Ns:List Nat):Bool :=
 let b:=Region.before ops
 (ops.toList.zipIdx.all λ(o,i)=>o.after.all (λe=>!Region.binds .any e || decide (e.on < i)) &&
  ops.toList.zipIdx.all λ(o',j)=>i==j || cmpb b i j ||
   ((match o.dst with
    | some d=>!(o'.looksAt ops).contains d&&o'.dst != some d
    | none=>true)&&!(effN Ns i o.op&&effN Ns j o'.op)))
def anch (ops:Array Oper) (Ns:List Nat) (i:Nat):Bool :=
 let b:=Region.before ops
 ops.toList.zipIdx.all λ(o,j)=>i==j || !isRd o.op || Ns.contains j || cmpb b i j
def AR (P:Program) (ops:Array Oper) (o:Oper) (env:List AV) (h:AH) (v:AV) (h':AH):Prop :=
 match aG ops o env with
 | some true=>match zn P o env h with
  | .ok v1 h1=>v=v1/\h'=h1
  | .len _ v1 h1=>v=v1/\h'=h1
  | .call f args=>Spec P f args h λr h1=>r=v/\h1=h'
  | .round id args=>SpecY P id args h λr h1=>r=v/\h1=h'
  | .any _=>False
  | .fail=>False
 | some false=>v=aundef/\h'=h
 | none=>False
def FOk (b:Nat) (Ns:List Nat) (F:Nat->AH->Prop) (h:AH):Prop:=∀n,Ns.contains n=true->b.testBit n=false->F n h
def ARN (P:Program) (ops:Array Oper) (Ns:List Nat) (F:Nat->AH->Prop) (i:Nat) (o:Oper) (env:List AV) (h:AH) (v:AV) (h':AH):Prop :=
 (Ns.contains i=false/\AR P ops o env h v h') \/
 (Ns.contains i=true/\aG ops o env=some true/\h'=h /\
  ((∃f args,(∀h2,zn P o env h2=.call f args)/\∀h2,F i h2->Spec P f args h2 λr hh=>r=v/\hh=h2) \/ ∀h2,F i h2->zn P o env h2=.ok v h2)) \/
 (Ns.contains i=false/\bdraw o.op=true/\aG ops o env=some true/\wm P o env h=some [(v,h')]) \/
 (Ns.contains i=true/\aG ops o env=some false/\v=aundef/\h'=h)
def zD (P:Program) (ops:Array Oper) (Ns:List Nat) (F:Nat->AH->Prop) (Q:List AV->AH->Prop):Nat->List Oper->List AV->AH->Prop
 | _,[],env,h=>Q env h
 | i,o::rest,env,h=>∃v h',ARN P ops Ns F i o env h v h'/\(anch ops Ns i=true \/ h'.blks=h.blks)/\(h'=h \/ FOk ((Region.before ops).getD i 0) Ns F h')/\zD P ops Ns F Q (i+1) rest (setd env o.dst v) h'

def awpAny (P:Program) (ops:Array Oper) (Q:List AV->AH->Prop):Nat->Array Bool->List AV->AH->Prop
 | 0,listed,env,h=>Region.ready .any ops listed=[]/\Q env h
 | m+1,listed,env,h=>(Region.ready .any ops listed=[]->Q env h)/\∀i ∈ Region.ready .any ops listed,∀o,ops[i]?=some o ->
   gwp (aG ops o env) (λK=>rwp P h (zn P o env h) K \/ bwp P o env h K) h λv h'=>awpAny P ops Q m (listed.setIfInBounds i true) (setd env o.dst v) h'

def wk (hd:AH) (env:List AV) (h:AH) (env':List AV) (h':AH):Prop:=∀(B:Nat) (w0 w w1:World) (g1 g:Gh) (vs:List Value),Rel B w0 g1 hd w1 ->
 g1.le g->Rel B w0 g h w->VL g env vs->∃g',g1.le g'/\Rel B w0 g' h' w/\VL g' env' vs/\∀c,c ∈ g.δ->c ∈ g'.δ

def q9:Code->Bool
 | .seq a b=>q9 a&&q9 b
 | .cond _ a b=>q9 a&&q9 b
 | .block _ a=>q9 a
 | .loop a=>q9 a
 | .rangeFunc _ _ _ _=>false
 | _=>true

def wS (P:Program):Code->(Exit->List AV->AH->Prop)->List AV->AH->Prop
 | .skip,Q,env,h=>Q .normal env h
 | .label _,Q,env,h=>Q .normal env h
 | .region _ ops draw,Q,env,h=>match draw with
  | true=>(∃Ns F,(P.follows .mixedOrders=true/\drawOk ops Ns=true)/\(∀n,F n h)/\zD P ops Ns F (Q .normal) 0 ops.toList env h) \/
    (P.follows .mixedOrders=true/\awpAny P ops (Q .normal) ops.size (Array.replicate ops.size false) env h)
  | false=>zA P ops (Q .normal) ops.toList env h
 | .seq a b,Q,env,h=>wS P a (λx env' h'=>match x with
  | .normal=>∃env2 h2,wk h env' h' env2 h2/\wS P b Q env2 h2
  | x=>Q x env' h') env h
 | .cond c t e,Q,env,h=>zV c=true/\match ev env c with
  | .bool b=>if b then wS P t Q env h else wS P e Q env h
  | _=>False
 | .block id body,Q,env,h=>wS P body (λx env h=>match x with
  | .exit id'=>if id'=id then Q .normal env h else Q (.exit id') env h
  | x=>Q x env h) env h
 | .loop body,Q,env,h=>∃I:Nat->List AV->AH->Prop,(∃n env2 h2,wk h env h env2 h2/\I n env2 h2)/\∀n env1 h1,I n env1 h1->wS P body (λx env' h'=>match x with
  | .normal=>∃m env2 h2,m < n/\(wk h1 env' h' env2 h2 \/ wk h env' h' env2 h2)/\I m env2 h2
  | x=>Q x env' h') env1 h1
 | .exit id,Q,env,h=>Q (.exit id) env h
 | .ret,Q,env,h=>Q .ret env h
 | .rangeFunc f ps assign body,Q,env,h=>zV f=true/\q9 assign=true/\q9 body=true/\∃env2 h2,wk h env h env2 h2/\match ev env2 f with
  | .fn (.func f) first caps=>Spec P f (first++[.yld h2.blks.length]++caps) (h2.new (.loop .ready none env2 ps assign body)) λ_ h'=>∃st pe env' ps' a' b',h'.blk h2.blks.length=some (.loop st pe env' ps' a' b')/\st ≠ .busy/\match pe with
   | none=>Q .normal env2 (h'.put h2.blks.length .dead)
   | some .ret=>Q .ret env2 (h'.put h2.blks.length .dead)
   | some (.exit i)=>Q (.exit i) env2 (h'.put h2.blks.length .dead)
   | _=>False
  | _=>False
 | _,_,_,_=>False

def WF (ro:Option Nat):Fence:={ Fence.wide with round:=ro }

section
variable {P:Program} {B:Nat} {w0:World} {g0:Gh} {D:List Deferred} {ro:Option Nat} {n:Nat} [GOk P B w0]

def St (B:Nat) (w0:World) (g0:Gh) (D:List Deferred) (env:List AV) (h:AH) (a:Act) (w:World):Prop:=∃g,g0.le g/\Rel B w0 g h w/\VL g env a.tmps.toList/\a.defers=D

theorem VL.setd {g:Gh} {env:List AV} {a:Act} (b:VL g env a.tmps.toList) (d:Option Tmp) {v:AV} {u:Value} (c:V g v u):VL g (setd env d v) (a.put d u).tmps.toList:=by
 cases d with
 | none=>exact b
 | some d=>simp only [Vv.setd,Act.put,sZ];exact VL.set b d v u c
theorem x5 (a:Act) (d:Option Tmp) (u:Value):(a.put d u).defers=a.defers:=by cases d <;> rfl

theorem wD {g:Gh} (k:VL g env a.tmps.toList) {b:Bool} (c:aG ops o env=some b):Region.wanted o (yielded ops a.tmps)=b:=by
 unfold aG at c;split at c
 ·rename_i l;cases c;simp [Region.wanted,l]
 ·rename_i j e l;have p:Region.wanted o (yielded ops a.tmps)=(yielded ops a.tmps j==some e):=by simp [Region.wanted,l]
  rw [p];split at c
  ·rename_i hd;cases c;simp [yielded,hd]
  ·rename_i d hd;unfold yielded;rw [hd,ua];split at c
   ·rename_i i;cases c;have:a.tmps[d]?=none:=by
     have m:env.length<=d:=by simp_all
     rw [pm];rw [k.length] at m;simpa using m
    simp [this]
   ·rename_i r i;cases c;obtain ⟨u,q,f⟩:=k.get _ _ i;simp only [V] at f;subst f
    simp_all
   ·rename_i i;cases c;obtain ⟨u,q,f⟩:=k.get _ _ i;simp only [V] at f
    grind
   ·cases c

theorem not_defer (b:zn P o env h ≠ .fail):∀c,o.op ≠ .defer c:=by
 intro c d;exact b (by simp only [zn,d])

theorem callsIn_of {f:FuncId} {args:Array Value} {R:Ending->World->Prop} (h:Calls P f args w R):CallsIn (WF ro) n P f args w R:=callsIn_wide (n:=n).2 h

theorem step_sound {Q:Exit->Act->World->Prop}
  (hs:St B w0 g0 D env h a w) (j:rwp P h (zn P o env h) K)
  (y:∀v h' u w',K v h'->(∃g',g0.le g'/\Rel B w0 g' h' w'/\VL g' env a.tmps.toList/\V g' v u)->next (a.put o.dst u) w'):o.wpIn (WF ro) n P a w next Q:=by
 obtain ⟨g,t,r,s,I⟩:=hs;have b:=astep_fits (P:=P) r s o;have z:∀c,o.op ≠ .defer c:=by
  refine not_defer (P:=P) (env:=env) (h:=h) λe=>?_;rw [e] at j;exact j
 refine ⟨λ_ _=>trivial,?_⟩;rw [Oper.semAt_eq (WF ro).round a.eval o z];have ok:∀v h',wV P B w0 g a o w v h'->K v h'->o.uponIn (WF ro) n P a next Q ((execOp a.eval o).run P w):=by
  rintro v h' ⟨u,w',g',d,i,l,q⟩ p
  rcases d with d | ⟨d,rfl⟩
  ·rw [d,Oper.uponIn_value];exact y v h' u w' p ⟨g',t.trans i,l,s.mono i,q⟩
  ·rw [d,Oper.uponIn_skip];exact y v h' undef w' p ⟨g',t.trans i,l,s.mono i,q⟩
 cases hst:zn P o env h with
 | ok v h'=>rw [hst] at b j;exact ok v h' b j
 | len m v h'=>rw [hst] at b j;exact ok v h' b.2 (j b.1)
 | call f args =>
  rw [hst] at b j;obtain ⟨vs,d,k⟩:=b;rw [d,j.1 vs w,Oper.uponIn_enter];refine ⟨λh=>by simp [WF,Fence.wide] at h,callsIn_of ((j.2 B w0 g w vs r k).mono ?_)⟩
  rintro e w' ⟨v,x,h',g',rfl,p,i,l,q⟩
  exact y x h' v w' p ⟨g',t.trans i,l,s.mono i,q⟩
 | round id args =>
  rw [hst] at b j;obtain ⟨c,vs,H,d,k⟩:=b;obtain ⟨fn,tmps,assign,body,C,E⟩:=j B w0 g w vs c r k H;rw [d,C,Oper.uponIn_round];refine ⟨λh=>by simp [WF,Fence.wide] at h,RoundIn.mono (F:=WF ro) (E _) ?_⟩
  rintro e w' ⟨v,x,h',g',rfl,p,i,l,q⟩
  exact y x h' v w' p ⟨g',t.trans i,l,s.mono i,q⟩
 | any S =>
  rw [hst] at b j;obtain ⟨v,h',G,A⟩:=b;exact ok v h' A (j v h' G)
 | fail=>rw [hst] at j;exact j.elim

omit [GOk P B w0] in
theorem bstep_sound {Q:Exit->Act->World->Prop}
  (hs:St B w0 g0 D env h a w) (y:bwp P o env h K)
  (t:∀v h' u w',K v h'->(∃g',g0.le g'/\Rel B w0 g' h' w'/\VL g' env a.tmps.toList/\V g' v u)->next (a.put o.dst u) w'):o.wpIn (WF ro) n P a w next Q:=by
 obtain ⟨g,s,r,f,z⟩:=hs;rcases y with ⟨l,m,j⟩ | ⟨A,C,m,j⟩
 ·have e:∀c,o.op ≠ .defer c:=λc x=>by simp [wm,x] at m
  obtain ⟨p,k,u,w',g',b,d,i,q⟩:=bfits r f m;refine ⟨λ_ _=>trivial,?_⟩;rw [Oper.semAt_eq (WF ro).round a.eval o e];rcases b with b | ⟨b,rfl⟩
  ·rw [b,Oper.uponIn_value];exact t _ _ u w' (j p k) ⟨g',s.trans d,i,f.mono d,q⟩
  ·rw [b,Oper.uponIn_skip];exact t _ _ undef w' (j p k) ⟨g',s.trans d,i,f.mono d,q⟩
 ·have e:∀c,o.op ≠ .defer c:=λc x=>by simp [anew,x] at m
  obtain ⟨u,w',g',b,d,i,q⟩:=new_fits r f m;refine ⟨λ_ _=>trivial,?_⟩;rw [Oper.semAt_eq (WF ro).round a.eval o e];rcases b with b | ⟨b,rfl⟩
  ·rw [b,Oper.uponIn_value];exact t _ _ u w' j ⟨g',s.trans d,i,f.mono d,q⟩
  ·rw [b,Oper.uponIn_skip];exact t _ _ undef w' j ⟨g',s.trans d,i,f.mono d,q⟩

theorem ops_sound {ops:Array Oper} {Q:Exit->Act->World->Prop} {QA:List AV->AH->Prop} (j:∀env h a w,QA env h->St B w0 g0 D env h a w->Q .normal a w) :
  ∀(rest:List Oper) (k:Nat) (env:List AV) (h:AH) (a:Act) (w:World),ops.toList.drop k=rest->zA P ops QA rest env h->St B w0 g0 D env h a w->wpOpsIn (WF ro) n P ops Q (List.range' k rest.length) a w
 | [],k,env,h,a,w,_,c,hs=>j env h a w c hs
 | o::rest,k,env,h,a,w,hd,c,hs=>by
  have F:ops[k]?=some o:=by
   rw [<- uE];have:=congrArg (·[0]?) hd
   grind
  have f:ops.toList.drop (k+1)=rest:=by
   rw [<- tG,hd];rfl
  simp only [ue,List.range'_succ,wpOpsIn,F];obtain ⟨env,h,p,c⟩:=c;obtain ⟨x,q,A,i,l⟩:=hs;obtain ⟨g,m,r,s⟩:=p _ _ _ _ _ A i;have t:=q.trans m;have hs:St B w0 g0 D env h a w:=⟨g,t,r,s,l⟩
  cases hb:aG ops o env with
  | none=>rw [hb] at c;exact c.elim
  | some b =>
   have d:=wD s hb;rw [hb] at c;rw [d];cases b with
   | true =>
    simp only [gwp] at c;simp only [uq];have e:∀v h' u w',zA P ops QA rest (setd env o.dst v) h'->(∃g',g0.le g'/\Rel B w0 g' h' w'/\VL g' env a.tmps.toList/\V g' v u)->wpOpsIn (WF ro) n P ops Q (List.range' (k+1) rest.length) (a.put o.dst u) w':=λv h' u w' C ⟨g',E,y,G,z⟩ =>
     ops_sound j rest (k+1) _ h' _ w' f C ⟨g',E,y,G.setd o.dst z,by rw [x5];exact l⟩
    rcases c with c | c
    ·exact step_sound hs c e
    ·exact bstep_sound hs c e
   | false =>
    simp only [gwp] at c;simp only [up,uL];exact ⟨λ_ _=>trivial,ops_sound j rest (k+1) _ h _ w f c ⟨g,t,r,s.setd o.dst V.ofUndef,by rw [x5];exact l⟩⟩

theorem any_sound {ops:Array Oper} {Q:Exit->Act->World->Prop} {QA:List AV->AH->Prop} (k:∀env h a w,QA env h->St B w0 g0 D env h a w->Q .normal a w) :
  ∀(m:Nat) (c:Array Bool) (env:List AV) (h:AH) (a:Act) (w:World),awpAny P ops QA m c env h->St B w0 g0 D env h a w->wpAnyIn (WF ro) n P .any ops Q m c a w
 | 0,c,env,h,a,w,d,hs=>⟨d.1,k env h a w d.2 hs⟩
 | m+1,c,env,h,a,w,d,hs=>by
  refine ⟨λe=>k env h a w (d.1 e) hs,λi hi=>?_⟩;unfold wpOpIn;cases ho:ops[i]? with
  | none =>
   exfalso;unfold Region.ready at hi
   simp_all
  | some o =>
   have d:=d.2 i hi o ho;simp only;obtain ⟨g,q,r,p,l⟩:=hs;have hs:St B w0 g0 D env h a w:=⟨g,q,r,p,l⟩
   cases hb:aG ops o env with
   | none=>rw [hb] at d;exact d.elim
   | some b =>
    have f:=wD p hb;rw [hb] at d;rw [f];cases b with
    | true =>
     simp only [gwp] at d;simp only [uq];have j:∀v h' u w',awpAny P ops QA m (c.setIfInBounds i true) (setd env o.dst v) h'->(∃g',g0.le g'/\Rel B w0 g' h' w'/\VL g' env a.tmps.toList/\V g' v u)->wpAnyIn (WF ro) n P .any ops Q m (c.setIfInBounds i true) (a.put o.dst u) w':=λv h' u w' x ⟨g',y,s,z,t⟩ =>
      any_sound k m _ _ h' _ w' x ⟨g',y,s,z.setd o.dst t,by rw [x5];exact l⟩
     rcases d with d | d
     ·exact step_sound hs d j
     ·exact bstep_sound hs d j
    | false =>
     simp only [gwp] at d;simp only [up,uL];exact ⟨λ_ _=>trivial,any_sound k m _ _ h _ w d ⟨g,q,r,p.setd o.dst V.ofUndef,by rw [x5];exact l⟩⟩
end
end Go.Vv
namespace Go.Vv
open Go Go.RowKit Go.Lib
variable {ops:Array Oper} {o:Oper} {env env':List AV} {P:Program} {h:AH}

def befF (acc:Array Nat) (o:Oper):Array Nat:=acc.push (o.after.foldl (λs e=>if Region.binds .any e then s ||| 2 ^ e.on ||| acc.getD e.on 0 else s) 0)
theorem before_eq (ops:Array Oper):Region.before ops=ops.toList.foldl befF #[]:=by
 unfold Region.before;rw [<- rt];rfl
theorem bef_size:∀(l:List Oper) (a:Array Nat),(l.foldl befF a).size=a.size+l.length
 | [],a=>by simp
 | o::r,a=>by simp only [tV,bef_size r,befF,Array.size_push,ue];omega
theorem bef_keep:∀(l:List Oper) (a:Array Nat) (j:Nat),j < a.size->(l.foldl befF a).getD j 0=a.getD j 0
 | [],a,j,_=>rfl
 | o::r,a,j,h=>by
  simp only [tV];rw [bef_keep r _ j (by simp [befF];omega)];simp [befF,tq,rQ,Nat.ne_of_lt h]
theorem edges_bit (a:Array Nat) (w:Nat):∀(es:List Edge) (s:Nat),(es.foldl (λs e=>if Region.binds .any e then s ||| 2 ^ e.on ||| a.getD e.on 0 else s) s).testBit w=true ->
  s.testBit w=true \/ ∃e ∈ es,Region.binds .any e=true/\(e.on=w \/ (a.getD e.on 0).testBit w=true)
 | [],s,h=>.inl h
 | e::r,s,h=>by
  simp only [tV] at h;rcases edges_bit a w r _ h with h | ⟨c,b,d,hh⟩
  ·grind
  ·grind
theorem before_spec {i w:Nat} (hi:ops[i]?=some o) (h:((Region.before ops).getD i 0).testBit w=true) :
  ∃e ∈ o.after,Region.binds .any e=true/\(e.on=w \/ (e.on < i/\((Region.before ops).getD e.on 0).testBit w=true)):=by
 have k:ops.toList[i]?=some o:=by simp_all
 obtain ⟨c,_⟩:=uc.1 k;have a:ops.toList=ops.toList.take i++o::ops.toList.drop (i+1):=by
  have:=sx c
  simp_all
 generalize hA:(ops.toList.take i).foldl befF #[]=acc;have b:acc.size=i:=by rw [<- hA,bef_size];simp at c ⊢;omega
 have j:Region.before ops=(ops.toList.drop (i+1)).foldl befF (befF acc o):=by
  rw [before_eq]
  conv=>lhs;rw [a]
  grind
 have f:(Region.before ops).getD i 0=o.after.foldl (λs e=>if Region.binds .any e then s ||| 2 ^ e.on ||| acc.getD e.on 0 else s) 0:=by
  rw [j,bef_keep _ _ _ (by simp [befF,b])];subst b;simp [befF,tq]
 rw [f,<- rt] at h;rcases edges_bit acc w o.after.toList 0 h with h | ⟨e,l,g,hh⟩
 ·grind
 ·refine ⟨e,by grind,g,hh.imp id λhh=>?_⟩;have d:e.on < i:=by
   grind
  refine ⟨d,?_⟩;rw [j,bef_keep _ _ _ (by simp [befF,b];omega)];have:(befF acc o).getD e.on 0=acc.getD e.on 0:=by simp [befF,tq,rQ,b,Nat.ne_of_lt d]
  grind

theorem ev_congr {x:Operand} (h:∀t,x=.tmp t->env[t]?=env'[t]?):ev env x=ev env' x:=by
 cases x with
 | tmp t=>simp only [ev,uM,h t rfl]
 | _=>rfl
theorem looks_op {t:Tmp} (h:Operand.tmp t ∈ o.op.operands):t ∈ o.looksAt ops:=by
 unfold Oper.looksAt;refine uC.2 (.inl (List.mem_filterMap.2 ⟨.tmp t,by simpa using h,rfl⟩))
theorem looks_guard {j:Nat} {b:Bool} {d:Tmp} (a:o.guard=some (j,b)) (hd:(ops[j]?).bind (·.dst)=some d):d ∈ o.looksAt ops:=by
 unfold Oper.looksAt
 simp_all
theorem aG_congr (h:∀t ∈ o.looksAt ops,env[t]?=env'[t]?):aG ops o env=aG ops o env':=by
 unfold aG;split
 ·rfl
 ·rename_i j a b;split
  ·rfl
  ·rename_i d hd;rw [h d (looks_guard b hd)]

theorem aParts_congr {d:TypeDesc} {parts:Array (Nat×Operand)} (h:∀p ∈ parts.toList,ev env p.2=ev env' p.2):yM P d env parts=yM P d env' parts:=by
 unfold yM;exact sK λp a=>by rw [h p a]

theorem astep_congr (e:∀x ∈ o.op.operands,ev env x=ev env' x):zn P o env h=zn P o env' h:=by
 unfold zn;cases ho:o.op <;> rw [ho] at e <;> simp only [Op.operands] at e ⊢
 case move x=>rw [e x (by simp)]
 case assign x=>rw [e x (by simp)]
 case pick c a b=>rw [e c (by simp),e a (by simp),e b (by simp)]
 case box t x=>rw [e x (by simp)]
 case build t parts =>
  have g:∀d,yM P d env parts=yM P d env' parts:=λd=>aParts_congr λp g=>e p.2 (by grind)
  simp_all
 case buildSlice t n parts =>
  have g:∀d,yM P d env parts=yM P d env' parts:=λd=>aParts_congr λp g=>e p.2 (by grind)
  simp_all
 case load t x=>rw [e x (by simp)]
 case store t x y=>rw [e x (by simp),e y (by simp)]
 case nilCheck x=>rw [e x (by simp)]
 case binOp op t x y yt=>rw [e x (by simp),e y (by simp)]
 case unOp op t x=>rw [e x (by simp)]
 case convert s t x=>rw [e x (by simp)]
 case makeFunc f a b =>
  have k:a.toList.map (ev env)=a.toList.map (ev env'):=sK λx hx=>e x (by simp_all);have j:b.toList.map (ev env)=b.toList.map (ev env'):=sK λx hx=>e x (by simp_all)
  grind
 case slice t x lo hi mx =>
  have k:lo.map (ev env)=lo.map (ev env'):=by cases lo with | none=>rfl | some y=>simp [e y (by simp)]
  have j:hi.map (ev env)=hi.map (ev env'):=by cases hi with | none=>rfl | some y=>simp [e y (by simp)]
  have q:mx.map (ev env)=mx.map (ev env'):=by cases mx with | none=>rfl | some y=>simp [e y (by simp)]
  simp_all
 case fieldAddr t x f=>rw [e x (by simp)]
 case field t x f=>rw [e x (by simp)]
 case indexAddr t x i=>rw [e x (by simp),e i (by simp)]
 case index t x i=>rw [e x (by simp),e i (by simp)]
 case extract x i=>rw [e x (by simp)]
 case range t x=>rw [e x (by simp)]
 case next x s=>rw [e x (by simp)]
 case lookup t x i ok=>rw [e x (by simp),e i (by simp)]
 case mapEntry t x i=>rw [e x (by simp),e i (by simp)]
 case entryStore t x i y=>rw [e x (by simp),e i (by simp),e y (by simp)]
 case mapUpdate t x i y=>rw [e x (by simp),e i (by simp),e y (by simp)]
 case makeMap t r=>cases r <;> rfl
 case call c =>
  have k:c.args.toList.map (ev env)=c.args.toList.map (ev env'):=sK λx hx=>e x (by simp [Call.operands];exact .inr (by simp_all));have j:(c.args.toList.zip c.argTypes.toList).map (λp=>tyfix P p.2 (ev env p.1))=(c.args.toList.zip c.argTypes.toList).map (λp=>tyfix P p.2 (ev env' p.1)) :=
   sK λp g=>by rw [e p.1 (by simp [Call.operands];exact .inr (by simpa using (List.of_mem_zip g).1))]
  rw [k,j];split
  ·split
   ·rfl
   ·rename_i f l;rw [e f (by simp [Call.operands,l])]
   ·rename_i x m l;rw [e x (by simp [Call.operands,l])]
  ·rfl

theorem bstep_congr (a:∀x ∈ o.op.operands,ev env x=ev env' x):wm P o env h=wm P o env' h:=by
 unfold wm;cases ho:o.op <;> rw [ho] at a <;> simp only [Op.operands] at a ⊢
 case range t x=>rw [a x (by simp)]
 case next x s=>cases s <;> simp only;rw [a x (by simp)]
 case entry x=>rw [a x (by simp)]
 case buildSlice t n parts =>
  have b:∀d,yM P d env parts=yM P d env' parts:=λd=>aParts_congr λp b=>a p.2 (by grind)
  simp_all
 case convert s t x=>rw [a x (by simp)]
 case makeInterface t x=>rw [a x (by simp)]
 case typeAssert x u t ok=>rw [a x (by simp)]
 case slice t x lo hi mx =>
  split <;> first | rfl | skip
  all_goals (rename_i h0;try (cases h0))
  all_goals first
   | rfl
   | (rename_i y;rw [a x (by simp),a y (by simp)])
 case insert t m k x =>
  have:zn P { o with op:=.mapUpdate t m k x } env h=zn P { o with op:=.mapUpdate t m k x } env' h:=astep_congr λy e=>a y (by simpa [Op.operands] using e);rw [this]
 case call c =>
  have f:∀x ∈ c.args.toList,ev env x=ev env' x:=λx hx=>a x (by simp [Call.operands];exact .inr (by simp_all));split
  ·simp_all
  ·simp_all
  ·simp_all
  ·simp_all
  ·rfl
theorem bstep_still {h':AH} {v:AV} (d:isEff o.op=false) (hd:bdraw o.op=true) (a:wm P o env h=some [(v,h')]):h'=h/\∀e,wm P o env e=some [(v,e)]:=by
 unfold wm at a ⊢;cases ho:o.op <;> rw [ho] at d a hd <;> simp only [isEff,bdraw,reduceCtorEq] at d a hd ⊢
 case convert s t x =>
  by_cases b:zV x=true
  ·simp only [b,uq] at a ⊢;cases h1:convX P s t (ev env x) with
   | some l =>
    simp only [h1,uj,rm,tA,tF] at a ⊢;obtain ⟨rfl,rfl⟩:=a;exact ⟨rfl,λ_=>rfl⟩
   | none =>
    simp only [h1] at a ⊢;cases e:convBy P s t (ev env x) with
    | some l =>
     simp only [e,uj,rm,tA,tF] at a ⊢;obtain ⟨rfl,rfl⟩:=a;exact ⟨rfl,λ_=>rfl⟩
    | none=>simp only [e] at a;cases a
  ·simp only [b] at a;cases a
 case makeInterface t x =>
  grind
 case typeAssert x u t ok =>
  split at a
  ·rename_i b;split at a
   ·cases a
   ·split at a
    ·simp_all
    ·grind
   ·cases a
  ·cases a
 case call c =>
  grind
theorem aLoad_blks {a:AH} (c:a.blks=h.blks) (b:Bool) (n:Nat) (p:AV):qV a b n p=qV h b n p:=by
 unfold qV AH.blk;rw [c]

theorem astep_still (d:isEff o.op=false) :
  (∃x:Option AV,∀a:AH,(isRd o.op=true->a.blks=h.blks)->zn P o env a=oo a x) \/ (∃n v,∀a:AH,zn P o env a=.len n v a) \/ (∀a:AH,(∃S,zn P o env a=.any S) \/ zn P o env a=.fail):=by
 cases ho:o.op <;> rw [ho] at d <;> simp only [isEff,reduceCtorEq] at d <;> simp only [zn,ho]
 case call c =>
  obtain ⟨callee,a5,ts⟩:=c;cases callee with
  | value f=>simp at d
  | invoke x m=>simp at d
  | builtin b =>
   cases b <;> simp only [reduceCtorEq] at d;simp only [qR];split
   ·split
    ·split
     ·split
      ·simp_all
      ·simp_all
     ·split
      ·simp_all
      ·simp_all
     ·grind
     ·simp_all
    ·simp_all
    ·simp_all
    ·simp_all
    ·simp_all
   ·simp_all
 case binOp op t x y u =>
  split
  ·cases hq:aNilq P op t h (ev env x) (ev env y) with
   | none =>
    have g:∀a,aNilq P op t a (ev env x) (ev env y)=none:=by
     intro a;unfold aNilq at hq ⊢;split at hq
     ·grind
     ·grind
     ·rfl
    exact .inl ⟨_,λa _=>by rw [g a]⟩
   | some S =>
    refine .inr (.inr λa=>?_);have:∃S',aNilq P op t a (ev env x) (ev env y)=some S':=by
     unfold aNilq at hq ⊢
     grind
    grind
  ·simp_all
 case load t x =>
  split
  ·exact .inl ⟨_,λa e=>by rw [aLoad_blks (e rfl)]⟩
  ·simp_all
 all_goals
  (repeat' split) <;> first
   | exact .inl ⟨none,λ_ _=>rfl⟩
   | exact .inl ⟨some _,λ_ _=>rfl⟩
   | exact .inl ⟨_,λ_ _=>rfl⟩
end Go.Vv
