/- More operations, whose outcomes may be several: ranges over maps. -/
import Derived.Test.YtdgbnljehpacjaaGreatVvK
import Derived.Maps.RangeRun
import Derived.RangeFuncRecord
import Derived.Laws.IdiomStrings
import Derived.OrdersIn
import Derived.CallsIn
set_option linter.all false
namespace Go.Vv
open Go Go.RowKit Go.Lib

def nextAlts (h:AH) (it id n:Nat) (seen:List Nat) (es:List (AV×AV)):List (AV×AH) :=
 match es.zipIdx.filter λp=>!seen.contains p.2 with
 | []=>[(.tup [.bool false],h)]
 | p::r=>(p::r).map λp=>(.tup [.bool true,p.1.1,p.1.2],h.put it (.miter id n (seen++[p.2])))
def bytesX:List (List AV)->Option (List UInt8)
 | []=>some []
 | [.int .u8 n]::r=>if 0<=n/\n < 256 then (match bytesX r with
  | some l=>some (UInt8.ofNat n.toNat::l)
  | none=>none) else none
 | _=>none
def convX (P:Program) (s t:TypeId) (a:AV):Option (List UInt8) :=
 match P.underlying s,P.underlying t with
 | some (.slice e),some .string=>match P.underlying e,tyfix P s a with
  | some (.int .u8),.sl 1 es | some (.int .u8),.osl _ 1 es=>match bytesX es with
   | some l=>if l.length<=maxLen then some l else none
   | none=>none
  | _,_=>none
 | _,_=>none
def convBy (P:Program) (s t:TypeId) (a:AV):Option (List UInt8) :=
 match P.underlying s,P.underlying t,a with
 | some .string,some (.slice e),.str l=>match P.underlying e with
  | some (.int .u8)=>some l
  | _=>none
 | _,_,_=>none
def xQ (P:Program) (o:Oper) (env:List AV) (h:AH):Option (List (AV×AH)) :=
 match o.op with
 | .range t x=>if yr x then (match P.underlying t,ev env x with
  | some (.map _ _),.map id=>match h.blk id with
   | some (.mapo es 0)=>some [(.ptr h.blks.length 0,h.new (.miter id es.length []))]
   | _=>none
  | some (.map _ _),.nilm=>some [(.ptr h.blks.length 0,h.new .miter0)]
  | _,_=>none) else none
 | .next x false=>if yr x then (match ev env x with
  | .ptr it 0=>match h.blk it with
   | some .miter0=>some [(.tup [.bool false],h)]
   | some (.miter id n seen)=>match h.blk id with
    | some (.mapo es 0)=>if es.length=n then some (nextAlts h it id n seen es) else none
    | _=>none
   | _=>none
  | _=>none) else none
 | .entry x=>if yr x then (match ev env x with
  | .ptr it 0=>match h.blk it with
   | some (.miter id n seen)=>match h.blk id,seen.getLast? with
    | some (.mapo es 0),some i=>if es.length=n then (match es[i]? with
     | some e=>some [(.tup [e.1,e.2],h)]
     | none=>none) else none
    | _,_=>none
   | _=>none
  | _=>none) else none
 | .buildSlice t n parts=>if parts.all λp=>yr p.2 then (match P.underlying t with
  | some (.slice e)=>match P.info? e,xl P e with
   | some i,some z=>if 0 < n/\0 < i.size/\n * i.size<=65536/\z.length=i.size then
     (match (vN (λj=>some (j * i.size,i.size)) ((List.replicate n z).flatten) (xw P (.slice e) env parts)) with
           | some cs=>match xy cs with
             | some out=>some [(.rsl h.blks.length h.toks.length i.size n,({ h with toks:=h.toks++[n] }:AH).new (.row h.toks.length i.size (rows i.size n out)))]
             | none=>some [(.msl i.size h.blks.length 0 n,h.new (.cells cs))]
           | none=>none) else none
   | _,_=>none
  | _=>none) else none
 | .convert s t x=>if yr x then (match convX P s t (ev env x) with
  | some l=>some [(.str l,h)]
  | none=>match convBy P s t (ev env x) with
   | some l=>some [(.sl 1 (l.map λb=>[AV.int .u8 (b.toNat:Int)]),h)]
   | none=>none) else none
 | .alloc t=>match xl P t with
  | some [.nilp,x]=>if x.one then some [(.ptr h.blks.length 0,h.new (.bld t x))] else none
  | _=>none
 | .call c=>match c.callee,c.argTypes.toList,c.args.toList with
  | .builtin .max,_,[x,y]=>if yr x&&yr y then (match ev env x,ev env y with
   | .int k a,.int k' b=>if k=k' then some [(.int k (if b > a then b else a),h)] else none
   | _,_=>none) else none
  | .builtin .min,_,[x,y]=>if yr x&&yr y then (match ev env x,ev env y with
   | .int k a,.int k' b=>if k=k' then some [(.int k (if b < a then b else a),h)] else none
   | _,_=>none) else none
  | .builtin .append,[t,u],[s,x]=>if yr s&&yr x then (match P.underlying t,P.underlying u with
   | some (.slice e),some (.slice _)=>match P.info? e,tyfix P t (ev env s),tyfix P u (ev env x) with
    | some _,.osl none k es,.sl _ [] | some _,.osl none k es,.osl _ _ []=>some [(.osl none k es,h)]
    | _,_,_=>none
   | some (.slice e),some (.int _)=>match P.info? e,xl P e,tyfix P t (ev env s),ev env x with
    | some i,some z,.osl none k [],.int _ n=>if (i.size=k/\z.length=k/\i.bytes<=65536)/\0 < k/\0 < n/\n<=(lim:Int) then (match xy z with
     | some z'=>some [(.rsl h.blks.length h.toks.length k n.toNat,({ h with toks:=h.toks++[n.toNat] }:AH).new (.row h.toks.length k (List.replicate n.toNat z')))]
     | none=>none) else none
    | _,_,_,_=>none
   | _,_=>none) else none
  | .builtin .cap,[t],[x]=>if yr x then (match P.underlying t,tyfix P t (ev env x) with
   | some (.slice _),.osl none _ es=>some [(.int .i64 (es.length:Int),h)]
   | _,_=>none) else none
  | .builtin .clear,[t],[x]=>if yr x then (match P.underlying t,ev env x with
   | some (.slice e),.rsuf id tk k n i=>match xl P e,h.blk id with
    | some z,some (.row t' k' es)=>if (t'=tk/\k'=k/\es.length=n)/\z.length=k/\0 < k then (match xy z with
     | some z'=>some [(.tup [],h.clr id tk k i es z')]
     | none=>none) else none
    | _,_=>none
   | _,_=>none) else none
  | _,_,_=>none
 | .insert t m k x=>match zt P { o with op:=.mapUpdate t m k x } env h with
  | .ok v h'=>some [(v,h')]
  | _=>none
 | .makeInterface t x=>if yr x then (match P.underlying t with
  | some (.interface _)=>none
  | some _=>some [(.iface t (tyfix P t (ev env x)),h)]
  | none=>none) else none
 | .typeAssert x _ t ok=>if yr x then (match P.underlying t,ev env x with
  | some (.interface _),_=>none
  | some _,.iface u v=>if u=t then some [(if ok then .tup [v,.bool true] else v,h)] else if ok then (match aZero P t with
   | some z=>some [(.tup [z,.bool false],h)]
   | none=>none) else none
  | _,_=>none) else none
 | .slice t x none (some y) none=>if yr x&&yr y then (match P.underlying t,ev env x,ev env y with
  | some (.slice e),.rsl id tk k m,.int _ n=>match P.info? e,h.blk id with
   | some _,some (.row t' k' es)=>if (t'=tk/\k'=k/\es.length=m)/\0<=n/\n.toNat<=m then some [(.rsl h.blks.length h.toks.length k n.toNat,h.shr id tk k n.toNat es)] else none
   | _,_=>none
  | some (.slice e),.osl none k [],.int _ n=>match P.info? e with
   | some _=>if n=0 then some [(.osl none k [],h)] else none
   | none=>none
  | _,_,_=>none) else none
 | .slice t x (some y) none none=>if yr x&&yr y then (match P.underlying t,ev env x,ev env y with
  | some (.slice e),.rsl id tk k m,.int _ n=>match P.info? e with
   | some i=>if i.size=k/\0<=n/\n.toNat<=m then some [(.rsuf id tk k m n.toNat,h)] else none
   | none=>none
  | _,_,_=>none) else none
 | _=>none

def bdraw:Op->Bool
 | .buildSlice _ _ _ | .slice _ _ _ _ _=>false
 | _=>true

section
variable {P:Program} {w:World} {g:Gh} {h:AH} {B:Nat} {w0:World}
theorem Rel.drewO (r:Rel B w0 g h w) {a:World} (b:a=w \/ a=w.drew):Rel B w0 g h a:=by
 rcases b with rfl | rfl
 ·exact r
 ·exact r.drew
theorem setBlock_eq {w:World} {b:Nat} {o:Obj}:ChangeMaps.setBlock w b o=w.putObj b o:=by
 rfl
theorem bytesX_eq:∀{es:List (List AV)} {l:List UInt8},bytesX es=some l->es=l.map λb=>[AV.int .u8 b.toNat]
 | [],l,h=>by simp only [bytesX,ui] at h;subst h;rfl
 | e::r,l,h=>by
  unfold bytesX at h;split at h
  ·simp_all
  ·rename_i n i h0;injection h0 with d c;subst d c;split at h
   ·rename_i k;split at h
    ·rename_i j a;simp only [ui] at h;subst h;rw [bytesX_eq a];have:((UInt8.ofNat n.toNat).toNat:Int)=n:=by
      have f:n.toNat < 256:=by omega
      simp [pE f];omega
     simp_all
    ·cases h
   ·cases h
  ·cases h
theorem bytes_run (r:Rel B w0 g h w) {s t e:TypeId} (hs:P.underlying s=some (.slice e)) (q:P.underlying t=some .string) (u:P.underlying e=some (.int .u8)) {es:List (List AV)} {l:List UInt8} (n:bytesX es=some l) {a:Option Addr} {c:Nat}
  (x:es=[] \/ ∃b o,a=some ⟨b,o,none⟩/\VE g b 1 o es):(convert s t (.slice a es.length c)).run P w=.ok (.string ⟨l.toArray⟩) w:=by
 have z:=bytesX_eq n;have f:es.length=l.length:=by simp_all
 have key:∀d:Addr,(∀j (A:j < l.length),w.cell? (d.add j)=some (.int .u8 (l[j].toNat:Int)))->(convert s t (.slice (some d) es.length c)).run P w=.ok (.string ⟨l.toArray⟩) w:=λd k=>by
  rw [f];exact run_convert_bytes_back w s t e d c l hs u q k
 cases a with
 | none =>
  rcases x with rfl | ⟨b,o,i,_⟩
  ·simp only [bytesX,ui] at n;subst n;simp [convert,run_underlying hs,run_underlying q,run_underlying u,Conv.bytesToString];rfl
  ·cases i
 | some d =>
  refine key d λj A=>?_;rcases x with rfl | ⟨b,o,i,m⟩
  ·grind
  ·injection i with i;subst i;obtain ⟨_,k⟩:=m.get j [AV.int .u8 (l[j].toNat:Int)] (by simp_all);simp only [VC] at k;obtain ⟨⟨v,y,_,p⟩,_⟩:=k;simp only [V] at p;subst p;have:=r.phi _ _ _ y;rw [show (⟨b,o,none⟩:Addr).add j=⟨b,o+j,none⟩ by unfold Addr.add;split <;> simp_all]
   simp_all
theorem buildSliceM_sound (r:Rel B w0 g h w) {t e:TypeId} {n:Nat} {i:TypeInfo} {z cs:List AV} {env:List AV} {a:Act} (L:VL g env a.tmps.toList) {parts:Array (Nat×Operand)} (A:(parts.all λp=>yr p.2)=true)
  (I:P.underlying t=some (.slice e)) (hi:P.info? e=some i) (G:xl P e=some z) (K:0 < n) (c:0 < i.size) (J:n * i.size<=65536) (q:z.length=i.size)
  (H:vN (λj=>some (j * i.size,i.size)) ((List.replicate n z).flatten) (xw P (.slice e) env parts)=some cs) :
  ∃u w' g',(Instr.buildSlice t n (parts.map λ(i,x)=>(i,a.eval x))).run P w=.ok u w'/\g.le g'/\Rel B w0 g' (h.new (.cells cs)) w'/\V g' (.msl i.size h.blks.length 0 n) u:=by
 obtain ⟨M,m,b,s,f⟩:=wH (g:=g) G;rw [hi] at b;injection b with b;subst b;have y:m.cells.size=i.size:=by rw [<- q,f.length];rfl
 have C:¬ (n * i.size=0):=by
  have:=rV K c;omega
 obtain ⟨F,D⟩:=parts_rel (P:=P) (d:=.slice e) L A;have l:=VA.flatten f n;obtain ⟨xs,v,o⟩:=fill_sound (place':=λj=>some (j * i.size,i.size)) (λi x h=>h) (us:=(Array.range (n * i.size)).map (m.cells[· % m.cells.size]!))
  (by rw [<- y,rp,rE,range_rep];exact l) F D H
 have k:=run_buildSlice w t e n _ xs i m I hi s (by omega) C v;refine ⟨_,_,_,k,g.le_addS _,r.newCells e o,?_⟩;have E:=r.slen;simp only [V,Gh.addS];exact ⟨w.heap.size,n,by grind,rfl,uh _,by simp only [maxLen];have:=rI n c;omega⟩
theorem zeros_row (r:Rel B w0 g h w) {t u ty e:TypeId} {kk:IntKind} {i:TypeInfo} {z F:List AV} (ht:P.underlying t=some (.slice e)) (hu:P.underlying u=some (.int kk)) (hi:P.info? e=some i) (hz:xl P e=some z)
  (E:z.length=i.size) (J:i.bytes<=65536) (hk:0 < i.size) {a:Option Addr} {k2:IntKind} {n:Int} (hn:0 < n) (R:n<=(lim:Int)) (Y:xy z=some F) :
  ∃v w' g',(Builtin.append_ #[t,u] ty #[.slice a 0 0,.int k2 n]).run P w=.ok v w'/\g.le g'/\Rel B w0 g' (({ h with toks:=h.toks++[n.toNat] }:AH).new (.row h.toks.length i.size (List.replicate n.toNat F))) w'/\V g' (.rsl h.blks.length h.toks.length i.size n.toNat) v:=by
 obtain ⟨i',D,b,X,N⟩:=wH (g:=g) hz;rw [hi] at b;injection b with b;subst b;have q:D.cells.size=i.size:=by rw [<- E,N.length];rfl
 have o:=(qs N Y).flatten n.toNat
 obtain ⟨m,rfl⟩:∃m:Nat,n=(m:Int):=⟨n.toNat,by omega⟩
 simp only [ut] at o ⊢;have H:0 < m:=by omega
 unfold lim at R;have hw:IntKind.i64.wrap (m:Int)=(m:Int):=by
  simp only [IntKind.wrap,IntKind.bits,IntKind.signed];simp;omega
 have Z:¬ (m * i.size=0):=by have:=rV H hk;omega
 have hmx:¬ ((281474976710656:Int) < (m:Int) * (i.bytes:Int)):=by
  have h2:m * i.bytes<=140737488355328:=sL (show m<=2147483648 by omega) J;rw [<- Int.natCast_mul];omega
 have O:¬ (281474976710656 < Builtin.nextslicecap m 0 * i.bytes):=by
  have:=growslice_fits (need:=m) (old:=0) (bytes:=i.bytes) H (by have:=sL (show m<=2147483648 by omega) J;omega);omega
 have h63:¬ (9223372036854775807 < (m:Int)):=by omega
 have f:(Builtin.append_ #[t,u] ty #[.slice a 0 0,.int k2 (m:Int)]).run P w=.ok (.slice (some ⟨w.heap.size,0,none⟩) m (grownCap w m 0 e))
    (w.drew.alloc (.cells (Builtin.zeroCells D.cells m++Builtin.zeroCells D.cells (grownCap w m 0 e - m)) e)):=by
  have hp:¬ ((m:Int) < 0):=by omega
  have hm3:¬ (m=0):=by omega
  cases a <;> simp [Builtin.append_,run_underlying ht,run_underlying hu,sizeOf,typeInfo,zeroValue,hi,X,hw,hp,Z,hm3,hmx,O,h63,newRow,grownCap,Question.forced,asInt,asIntOf,Builtin.firstCells,loadCells,loadCellsFrom]
 have A:=grownCap_ge w m 0 e;have M:grownCap w m 0 e<=maxLen:=grownCap_le_maxLen w _ 0 e (by simp only [maxLen];omega);generalize hC:grownCap w m 0 e=C at f A M;generalize hrow':Builtin.zeroCells D.cells m++Builtin.zeroCells D.cells (C - m)=row at f;have I:row.size=C * i.size:=by
  rw [<- hrow'];simp only [rg,size_zeroCells,q,<- tu]
  simp_all
 have s:(row.toList.drop 0).take (m * i.size)=(List.replicate m D.cells.toList).flatten:=by
  rw [<- hrow',sf,tK,u2 (by simp [size_zeroCells,q]),uM (by simp [size_zeroCells,q])];rw [<- range_rep];simp [Builtin.zeroCells]
 have p:∀j,g.Φ w.heap.size j=none:=λj=>by
  rcases he:g.Φ w.heap.size j with _ | v
  ·rfl
  ·exact absurd (r.phi_lt he) (tW _)
 have r1:=(r.drew).alloc0 (.cells row e);have d:(w.drew.alloc (.cells row e)).heap[w.heap.size]?=some (.cells row e (0,0)):=heap_alloc_new w.drew _;have hloc:LocOk g.Φ B (w.drew.alloc (.cells row e)) w.heap.size (m * i.size) (C * i.size) :=
  ⟨r.bsz,by simp,⟨row,e,d,by omega⟩,λj _=>p j⟩
 have G:∀(j U:Nat),g.σ[j]?=some (some U)->w.heap.size ≠ U:=λj U S e=>by
  have b:j < h.blks.length:=by rw [<- r.slen];exact (uc.1 S).1
  have:=(r.blk j U _ S (ue b)).2.1;omega
 have Q:∀(j:Nat) (W:TI) (y:Nat×Nat),g.τ[j]?=some W->W.loc ≠ some (w.heap.size,y):=λj W y S e=>by
  have:=((r.tok j W S).2 _ _ _ e).lt;omega
 let T:TI:=⟨m,some (w.heap.size,m * i.size,C * i.size),true⟩
 have hT:((g.addT T).addS none).τ[g.τ.length]?=some T:=by simp [Gh.addT,Gh.addS]
 have K:g.le ((g.addT T).addS none):=(g.le_addT T).trans (Gh.le_addS _ none);have L:F.length=i.size:=(qt Y).trans E;have c:(List.replicate m F).length=m:=by simp
 have r2:=r1.newRowT T i.size (List.replicate m F)
  (λb' l e' hl'=>by grind)
  (λb' x k=>by injection k with k;injection k with e1 _;subst e1;exact ⟨Q,G,r.nnew (uh _),r.nold (uh _)⟩)
  ⟨T,hT,rfl,c.symm,λe he=>by rw [rB he];exact L,by
   have:=clean_pure Y;rw [uq] at this ⊢;intro x k;obtain ⟨l,hl,k⟩:=pF.1 k;rw [rB hl] at k;exact this x k,.inr ⟨w.heap.size,0,C * i.size,row,e,by simp [T],d,by
   rw [c,s];exact o.mono K,by rw [c,I];simpa using tg i.size A,λj _=>p j⟩⟩
 have tl:=r.tlen;have sl:=r.slen;rw [tl] at r2;refine ⟨_,_,_,f,K,r2,?_⟩;simp only [V];rw [<- tl];exact ⟨some ⟨w.heap.size,0,none⟩,C,rfl,A,M,T,hT,rfl,uh _,.inr ⟨w.heap.size,0,rfl,λ_=>by simp [T]⟩⟩
theorem buildSliceR_sound (r:Rel B w0 g h w) {t e:TypeId} {n:Nat} {i:TypeInfo} {z cs out:List AV} {env:List AV} {a:Act} (X:VL g env a.tmps.toList) {parts:Array (Nat×Operand)} (W:(parts.all λp=>yr p.2)=true)
  (hu:P.underlying t=some (.slice e)) (hi:P.info? e=some i) (hz:xl P e=some z) (hn:0 < n) (f:0 < i.size) (hsm:n * i.size<=65536) (C:z.length=i.size)
  (hf:vN (λj=>some (j * i.size,i.size)) ((List.replicate n z).flatten) (xw P (.slice e) env parts)=some cs) (Z:xy cs=some out) :
  ∃u w' g',(Instr.buildSlice t n (parts.map λ(i,x)=>(i,a.eval x))).run P w=.ok u w'/\g.le g'/\Rel B w0 g' (({ h with toks:=h.toks++[n] }:AH).new (.row h.toks.length i.size (rows i.size n out))) w'/\V g' (.rsl h.blks.length h.toks.length i.size n) u:=by
 obtain ⟨i',J,b,O,D⟩:=wH (g:=g) hz;rw [hi] at b;injection b with b;subst b;have U:J.cells.size=i.size:=by rw [<- C,D.length];rfl
 have Y:¬ (n * i.size=0):=by
  have:=rV hn f;omega
 obtain ⟨h1,h2⟩:=parts_rel (P:=P) (d:=.slice e) X W;have F:=VA.flatten D n;obtain ⟨xs,Q,M⟩:=fill_sound (place':=λj=>some (j * i.size,i.size)) (λi x h=>h) (us:=(Array.range (n * i.size)).map (J.cells[· % J.cells.size]!))
  (by rw [<- U,rp,rE,range_rep];exact F) h1 h2 hf
 have m:=qs M Z;have q:out.length=n * i.size:=by
  rw [qt Z,aFill_len hf];simp [C]
 have N:xs.size=n * i.size:=by rw [<- q,m.length];rfl
 have E:=run_buildSlice w t e n _ xs i J hu hi O (by omega) Y Q;obtain ⟨L,R,e3⟩:=rows_flat (k:=i.size) n out q;have r1:=r.alloc0 (.cells xs e);have c:(w.alloc (.cells xs e)).heap[w.heap.size]?=some (.cells xs e (0,0)):=heap_alloc_new w _;have o:∀j,g.Φ w.heap.size j=none:=λj=>by
  rcases X:g.Φ w.heap.size j with _ | v
  ·rfl
  ·exact absurd (r.phi_lt X) (tW _)
 have hloc:LocOk g.Φ B (w.alloc (.cells xs e)) w.heap.size (n * i.size) (n * i.size) :=
  ⟨r.bsz,by simp,⟨xs,e,c,by omega⟩,λj _=>o j⟩
 have A:∀(j H:Nat),g.σ[j]?=some (some H)->w.heap.size ≠ H:=λj H K e=>by
  have b:j < h.blks.length:=by rw [<- r.slen];exact (uc.1 K).1
  have:=(r.blk j H _ K (ue b)).2.1;omega
 have s:∀(j:Nat) (I:TI) (y:Nat×Nat),g.τ[j]?=some I->I.loc ≠ some (w.heap.size,y):=λj I y K e=>by
  have:=((r.tok j I K).2 _ _ _ e).lt;omega
 let T:TI:=⟨n,some (w.heap.size,n * i.size,n * i.size),true⟩
 have hT:((g.addT T).addS none).τ[g.τ.length]?=some T:=by simp [Gh.addT,Gh.addS]
 have G:g.le ((g.addT T).addS none):=(g.le_addT T).trans (Gh.le_addS _ none);have r2:=r1.newRowT T i.size (rows i.size n out)
  (λb' l e' hl'=>by grind)
  (λb' x S=>by injection S with S;injection S with L _;subst L;exact ⟨s,A,r.nnew (uh _),r.nold (uh _)⟩)
  ⟨T,hT,rfl,R.symm,e3,by rw [L];exact clean_pure Z,.inr ⟨w.heap.size,0,n * i.size,xs,e,by simp [T,R],c,by
   rw [L,R,sf,uM (by simp [N])];exact m.mono G _ _,by grind,λj _=>o j⟩⟩
 have tl:=r.tlen;have sl:=r.slen;rw [tl] at r2;refine ⟨_,_,_,E,G,r2,?_⟩;simp only [V];rw [<- tl];exact ⟨some ⟨w.heap.size,0,none⟩,n,rfl,uh _,by simp only [maxLen];have:=rI n f;omega,T,hT,rfl,uh _,.inr ⟨w.heap.size,0,rfl,λ_=>by simp [T]⟩⟩
theorem append0 {t u ty e f:TypeId} {i:TypeInfo} {a b:Option Addr} {n c m:Nat} (d:P.underlying t=some (.slice e)) (j:P.underlying u=some (.slice f)) (hi:P.info? e=some i) (k:n<=m) :
  (Builtin.append_ #[t,u] ty #[.slice a n m,.slice b 0 c]).run P w=.ok (.slice a n m) w:=by
 cases a <;> cases b <;> simp [Builtin.append_,run_underlying d,run_underlying j,sizeOf,typeInfo,hi,Builtin.lenOf,Builtin.firstCells,loadCells,loadCellsFrom,storeCells,k]
theorem bytes_new (r:Rel B w0 g h w) {s t e:TypeId} {l:List UInt8} (hs:P.underlying s=some .string) (o:P.underlying t=some (.slice e)) (L:P.underlying e=some (.int .u8)) (K:l.length<=maxLen) :
  ∃v w' g',(convert s t (.string ⟨l.toArray⟩)).run P w=.ok v w'/\g.le g'/\Rel B w0 g' h w'/\V g' (.sl 1 (l.map λb=>[AV.int .u8 (b.toNat:Int)])) v:=by
 have d:=run_bytes_of_string (P:=P) w s t e ⟨l.toArray⟩ hs o L;rw [str_size] at d;have k:=grownCap_ge w l.length 0 e;have m:=grownCap_le_maxLen w l.length 0 e K;generalize grownCap w l.length 0 e=C at d k m;generalize hrow:bytesRow ⟨l.toArray⟩ C=row at d;generalize ho:Obj.cells row e (row.size,row.size+1)=ob at d;have F:Rel B w0 g h (w.drew.alloc ob):=r.drew.alloc0 ob;have G:w.drew.heap.size=w.heap.size:=rfl;have p:∀j v,(if j < l.length then row[j]? else none)=some v->(w.drew.alloc ob).cell? ⟨w.heap.size,j,none⟩=some v:=λj v y=>by
  split at y
  ·have n:(w.drew.alloc ob).heap[w.heap.size]?=some ob:=heap_alloc_new w.drew ob;rw [cell_of_row _ w.heap.size j row e (row.size,row.size+1) (by rw [n,ho])];exact y
  ·cases y
 have J:=F.vow (b:=w.heap.size) (f:=λj=>if j < l.length then row[j]? else none) p
  (λi c D _ e=>by
   have hi:i < h.blks.length:=by rw [<- r.slen];exact (uc.1 D).1
   have:=(r.blk i c _ D (ue hi)).2.1;omega)
  (λi t l e o H=>by
   have:=((r.tok i t o).2 _ l e H).lt;omega) (r.nnew (uh _))
 refine ⟨_,_,_,d,Gh.le_vow g _ _,J,?_⟩;simp only [V];refine ⟨_,C,by rw [ul],by rw [ul];exact k,m,?_⟩;rcases sy l.length with h0 | h0
 ·left;have:l=[]:=uF h0;rw [this];rfl
 ·refine .inr ⟨w.heap.size,0,rfl,VE_iff.2 ⟨λx u=>?_,?_⟩⟩
  ·obtain ⟨b,_,rfl⟩:=tZ.1 u;rfl
  ·rw [bytes_flat];refine VC.mk λi a A=>?_;rw [sQ] at A;obtain ⟨b,n,rfl⟩:=sj.1 A;have hi:=(uc.1 n).1;refine ⟨.int .u8 (b.toNat:Int),?_,rfl,by simp only [V]⟩;have z:=bytesRow_at ⟨l.toArray⟩ C i (by simpa using hi);rw [hrow] at z;have E:(Gh.vow g w.heap.size λj=>if j < l.length then row[j]? else none).Φ w.heap.size (0+i)=row[i]?:=by
    have I:g.Φ w.heap.size (0+i)=none:=by
     rcases u:g.Φ w.heap.size (0+i) with _ | v
     ·rfl
     ·exact absurd (r.phi_lt u) (tW _)
    simp only [Gh.vow,ur,I];simp [hi]
   rw [E,z];have q:=(uc.1 n).2;simp [q]
theorem bfits (r:Rel B w0 g h w) {a:Act} {env:List AV} (M:VL g env a.tmps.toList) {o:Oper} {l:List (AV×AH)} (f:xQ P o env h=some l):∃p ∈ l,vO P B w0 g a o w p.1 p.2:=by
 unfold xQ at f;split at f
 ·-- range
  rename_i t x H;split at f
  ·rename_i A;have J:=V.ev M A;split at f
   ·rename_i kt et id L F;split at f
    ·rename_i es Q;simp only [ui] at f;subst f;refine ⟨_,ux.2 rfl,?_⟩;rw [F] at J;simp only [V] at J;obtain ⟨c,K,W⟩:=J;obtain ⟨hB,hlt,⟨ents,n,Z,k2,k3⟩,_⟩:=r.blk id c _ K Q;obtain ⟨rfl,k4⟩:=k3 rfl;have hlen:ents.size=es.length:=by have:=k2.len;simpa using this
     refine ⟨.pointer (some ⟨w.heap.size,0,none⟩),w.alloc (.mapIter (some c) ents.size #[] ents.size),g.addS w.heap.size,.inl ?_,g.le_addS _,r.newBlk _ _ ?_,?_⟩
     ·simp [execOp,H,W,run_range_map w t kt et c ents _ L Z]
     ·exact ⟨c,(g.le_addS _).sig _ _ K,by rw [<- hlen];exact heap_alloc_new w _⟩
     ·have hsl:=r.slen;simp only [V,Gh.addS]
      simp_all
    ·cases f
   ·rename_i kt et L F;simp only [ui] at f;subst f;refine ⟨_,ux.2 rfl,?_⟩;rw [F] at J;simp only [V] at J;refine ⟨.pointer (some ⟨w.heap.size,0,none⟩),w.alloc (.mapIter none 0 #[] 0),g.addS w.heap.size,.inl ?_,g.le_addS _,r.newBlk _ _ (heap_alloc_new w _),?_⟩
    ·simp [execOp,H,J,run_range_nilMap w t kt et L]
    ·have hsl:=r.slen;simp only [V,Gh.addS]
     simp_all
   ·cases f
  ·cases f
 ·-- next
  rename_i x H;split at f
  ·rename_i A;have J:=V.ev M A;split at f
   ·rename_i it F;rw [F] at J;simp only [V] at J;obtain ⟨ci,hci,W⟩:=J;split at f
    ·rename_i Q;simp only [ui] at f;subst f;refine ⟨_,ux.2 rfl,?_⟩;obtain ⟨_,_,Z,_⟩:=r.blk it ci _ hci Q;have Z:w.heap[ci]?=some (.mapIter none 0 #[] 0):=Z;refine ⟨.tuple #[.bool false],w,g,.inl ?_,Gh.le.refl g,r,by simp [V,VL]⟩;simp [execOp,H,W,Instr.next,getObj,Sem.run,Z]
    ·rename_i id n E Q;split at f
     ·rename_i es hbm;split at f
      ·rename_i hn;simp only [ui] at f;obtain ⟨_,hltI,⟨cm,O,hit⟩,_⟩:=r.blk it ci _ hci Q;obtain ⟨_,_,⟨ents,m,Z,k2,k3⟩,_⟩:=r.blk id cm _ O hbm;obtain ⟨rfl,k4⟩:=k3 rfl;have hlen:ents.size=es.length:=by have:=k2.len;simpa using this
       have hold:∀x ∈ ents.toList,x.born < n:=λx F=>by
        obtain ⟨i,hi⟩:=tm.1 F
        grind
       rcases run_next_at (P:=P) w o.type ci cm n n E.toArray ents ents.size hit Z hold (uh _) with ⟨h0,U⟩ | ⟨e,hmem,w1,hw1,U⟩
       ·have hnil:es.zipIdx.filter (λp=>!E.contains p.2)=[]:=by
         rw [t8]
         rintro ⟨p,i⟩ hp
         simp only [rq,Bool.not_eq_false'];have hp':=List.mem_zipIdx' hp;obtain ⟨e,he1,_,_⟩:=k2.getE (j:=i) (p:=p) (by simp_all);rw [uK] at he1;have Y:=k4 i e he1;have:¬ e ∈ leftOf ents E.toArray:=by
          simp_all
         simp only [leftOf,Array.mem_filter,not_and,tH,Bool.not_eq_false] at this
         grind
        rw [nextAlts,hnil] at f;subst f;refine ⟨_,ux.2 rfl,.tuple #[.bool false],w,g,.inl ?_,Gh.le.refl g,r,by simp [V,VL]⟩;simp [execOp,H,W,U]
       ·simp only [leftOf,Array.toList_filter,tO] at hmem;obtain ⟨i,hi⟩:=tm.1 hmem.1;have hi':=hi;rw [uK] at hi';have Y:=k4 i e hi';have hil:i < es.length:=by grind
        have hes:es[i]?=some es[i]:=ue hil;obtain ⟨e2,he2,hk,hv⟩:=k2.getE (j:=i) hes;rw [hi] at he2;injection he2 with he2;subst he2;have hin:(es[i],i) ∈ es.zipIdx.filter (λp=>!E.contains p.2):=by
         grind
        have r1:=r.drewO hw1;have hit1:w1.heap[ci]?=some (.mapIter (some cm) n E.toArray n):=by rcases hw1 with rfl | rfl <;> exact hit
        have r2:Rel B w0 g (h.put it (.miter id n (E++[i]))) (w1.putObj ci (.mapIter (some cm) n (E.toArray.push e.born) n)) :=
         r1.putObj hci Q (by simp) rfl rfl rfl World.putObj_size (λb hb'=>World.putObj_heap_other hb') ⟨cm,O,by
          rw [World.putObj_heap_same (by grind),Y];simp⟩
        have hne:es.zipIdx.filter (λp=>!E.contains p.2) ≠ []:=List.ne_nil_of_mem hin;have hal:((.tup [.bool true,es[i].1,es[i].2],h.put it (.miter id n (E++[i]))):AV×AH) ∈ nextAlts h it id n E es:=by
         unfold nextAlts
         grind
        subst f;refine ⟨_,hal,.tuple #[.bool true,e.key,e.val],_,g,.inl ?_,Gh.le.refl g,r2,?_⟩
        ·rw [<- hlen] at hn;simp only [execOp,H,W,Sem.run_bind,U,Result.andThen_ok,Sem.run_pure];rw [setBlock_eq,hn]
        ·simp only [V,VL]
         grind
      ·cases f
     ·cases f
    ·cases f
   ·cases f
  ·cases f
 ·-- entry
  rename_i x H;split at f
  ·rename_i A;have J:=V.ev M A;split at f
   ·rename_i it F;rw [F] at J;simp only [V] at J;obtain ⟨ci,hci,W⟩:=J;split at f
    ·rename_i id n E Q;split at f
     ·rename_i es i hbm hlast;split at f
      ·rename_i hn;split at f
       case h_2=>cases f
       rename_i p hp;simp only [ui] at f;subst f;refine ⟨_,ux.2 rfl,?_⟩;obtain ⟨_,hltI,⟨cm,O,hit⟩,_⟩:=r.blk it ci _ hci Q;obtain ⟨_,_,⟨ents,m,Z,k2,k3⟩,_⟩:=r.blk id cm _ O hbm;obtain ⟨rfl,k4⟩:=k3 rfl;have hlen:ents.size=es.length:=by have:=k2.len;simpa using this
       obtain ⟨e,he1,hk,hv⟩:=k2.getE (j:=i) hp;have he1':=he1;rw [uK] at he1';have Y:=k4 i e he1';have hseen:E.toArray=E.dropLast.toArray.push e.born:=by
        grind
       rw [hseen] at hit;have hnd:(ents.toList.map (·.born)).Nodup:=by
        have:ents.toList.map (·.born)=List.range ents.size:=by
         apply tc
         grind
        grind
       have U:=run_entry_at (P:=P) w ci cm n E.dropLast.toArray ents ents.size e (by grind) Z (Array.mem_toList_iff.2 (Array.mem_of_getElem? he1')) hnd;refine ⟨.tuple #[e.key,e.val],w,g,.inl ?_,Gh.le.refl g,r,?_⟩
       ·simp [execOp,H,W,U]
       ·simp only [V,VL]
        grind
      ·cases f
     ·cases f
    ·cases f
   ·cases f
  ·cases f
 ·-- buildSlice
  rename_i t n parts H;split at f
  ·rename_i A;split at f
   ·rename_i e hu;split at f
    ·rename_i i z hi hz;split at f
     ·rename_i K;split at f
      ·rename_i cs hf;split at f
       ·rename_i out hcl;simp only [ui] at f;subst f;obtain ⟨u,w',g',R,S,h3,h4⟩:=buildSliceR_sound r M A hu hi hz K.1 K.2.1 K.2.2.1 K.2.2.2 hf hcl;exact ⟨_,ux.2 rfl,u,w',g',.inl (by simp [execOp,H,R]),S,h3,h4⟩
       ·simp only [ui] at f;subst f;obtain ⟨u,w',g',R,S,h3,h4⟩:=buildSliceM_sound r M A hu hi hz K.1 K.2.1 K.2.2.1 K.2.2.2 hf;exact ⟨_,ux.2 rfl,u,w',g',.inl (by simp [execOp,H,R]),S,h3,h4⟩
      ·cases f
     ·cases f
    ·cases f
   ·cases f
  ·cases f
 ·-- convert
  rename_i s t x H;split at f
  ·rename_i A;have hV0:=V.ev M A;have J:=(V.ev M A).tyfix (P:=P) (t:=s);split at f
   case h_2 =>
    split at f
    ·rename_i l0 D;simp only [ui] at f;subst f;unfold convBy at D;split at D
     ·rename_i e l hs L F;split at D
      ·rename_i hu;simp only [ui] at D;subst D;rw [F] at hV0;simp only [V] at hV0;obtain ⟨v,w',g',Z,k2,k3,k4⟩:=bytes_new (P:=P) r hs L hu hV0.2;exact ⟨_,ux.2 rfl,v,w',g',.inl (by simp [execOp,H,hV0.1,Z]),k2,k3,k4⟩
      ·cases D
     ·cases D
    ·cases f
   rename_i l0 D;simp only [ui] at f;subst f;unfold convX at D;split at D
   ·rename_i e hs L;have T:∀es l,P.underlying e=some (.int .u8)->bytesX es=some l->l.length<=maxLen->(∃I c,a.eval x=.slice I es.length c/\(es=[] \/ ∃b o,I=some ⟨b,o,none⟩/\VE g b 1 o es))->vO P B w0 g a o w (.str l) h:=by
     rintro es l hu Q hm ⟨I,c,F,hve⟩
     refine ⟨.string ⟨l.toArray⟩,w,g,.inl ?_,Gh.le.refl g,r,by simp only [V];exact ⟨trivial,hm⟩⟩;simp [execOp,H,F,bytes_run r hs L hu Q hve]
    split at D
    ·rename_i es hu F;rw [F] at J;simp only [V] at J;obtain ⟨I,c,R,_,_,S⟩:=J;split at D
     ·rename_i l Q;split at D
      ·rename_i hm;simp only [ui] at D;subst D;exact ⟨_,ux.2 rfl,T _ _ hu Q hm ⟨I,c,R,S⟩⟩
      ·cases D
     ·cases D
    ·rename_i es q hu F;rw [F] at J;simp only [V] at J;obtain ⟨I,c,R,_,_,S,_⟩:=J;split at D
     ·rename_i l Q;split at D
      ·rename_i hm;simp only [ui] at D;subst D;exact ⟨_,ux.2 rfl,T _ _ hu Q hm ⟨I,c,R,S⟩⟩
      ·cases D
     ·cases D
    ·cases D
   ·cases D
  ·cases f
 ·-- alloc
  rename_i t H;split at f
  ·rename_i x hz;split at f
   ·rename_i hone;simp only [ui] at f;subst f;obtain ⟨i,z,hi,hzz,hva⟩:=wH (g:=g) hz;have hsl:=r.slen;simp only [VA,V] at hva;obtain ⟨v0,s0,hz0,⟨_,rfl⟩,v1,s1,rfl,⟨_,hV1⟩,rfl⟩:=hva;have hzc:z.cells=#[.pointer none,v1]:=by
     apply pk;rw [hz0]
    refine ⟨_,ux.2 rfl,.pointer (some ⟨w.heap.size,0,none⟩),w.alloc (.cells z.cells t),g.addS w.heap.size,.inl ?_,g.le_addS _,r.newBlk _ _ ⟨.pointer none,v1,by rw [<- hzc];exact heap_alloc_new w _,.inl rfl,hone,V.mono (g.le_addS _) _ _ hV1⟩,?_⟩
    ·simp [execOp,H,Instr.alloc,run_zero hi hzz,newVar,newRow]
    ·simp only [V,Gh.addS]
     simp_all
   ·cases f
  ·cases f
 ·-- append
  rename_i c H;split at f
  ·rename_i ts x y K has;split at f
   ·rename_i A;simp only [ud] at A;have N:c.args=#[x,y]:=by grind
    have C:=V.ev M A.1;have G:=V.ev M A.2;split at f
    ·rename_i Z a1 k2 b1 F hy;split at f
     ·rename_i hk;subst hk;simp only [ui] at f;subst f;rw [F] at C;rw [hy] at G;simp only [V] at C G;refine ⟨_,ux.2 rfl,.int Z (if b1 > a1 then b1 else a1),w,g,.inl ?_,Gh.le.refl g,r,by simp only [V]⟩;simp only [execOp,H,resolve,K,Sem.run_bind,Sem.run_pure,Result.andThen_ok,invoke,N];simp [builtin,C,G,run_max_int2]
     ·cases f
    ·cases f
   ·cases f
  ·rename_i ts x y K has;split at f
   ·rename_i A;simp only [ud] at A;have N:c.args=#[x,y]:=by grind
    have C:=V.ev M A.1;have G:=V.ev M A.2;split at f
    ·rename_i Z a1 k2 b1 F hy;split at f
     ·rename_i hk;subst hk;simp only [ui] at f;subst f;rw [F] at C;rw [hy] at G;simp only [V] at C G;refine ⟨_,ux.2 rfl,.int Z (if b1 < a1 then b1 else a1),w,g,.inl ?_,Gh.le.refl g,r,by simp only [V]⟩;simp only [execOp,H,resolve,K,Sem.run_bind,Sem.run_pure,Result.andThen_ok,invoke,N];simp [builtin,C,G,run_min_int2]
     ·cases f
    ·cases f
   ·cases f
  ·rename_i t u s x K hts has;split at f
   ·rename_i A;simp only [ud] at A;have hta:c.argTypes=#[t,u]:=by grind
    have N:c.args=#[s,x]:=by grind
    have X:=(V.ev M A.1).tyfix (P:=P) (t:=t);have C:=(V.ev M A.2).tyfix (P:=P) (t:=u);split at f
    ·rename_i e e' L hu;have T:∀i k es,P.info? e=some i->tyfix P t (ev env s)=.osl none k es->(∃I c,a.eval x=.slice I 0 c)->vO P B w0 g a o w (.osl none k es) h:=by
      rintro i k es hi hs ⟨I,c2,F⟩
      rw [hs] at X;have hV2:=X;simp only [V] at X;obtain ⟨a1,c1,hs1,R,_⟩:=X;refine ⟨a.eval s,w,g,.inl ?_,Gh.le.refl g,r,hV2⟩;simp only [execOp,H,resolve,K,Sem.run_bind,Sem.run_pure,Result.andThen_ok,invoke,hta,N];simp only [builtin,Array.map,hs1];simp [append0 L hu hi R,hs1,F]
     split at f
     ·rename_i i k es q hi hs F;simp only [ui] at f;subst f;refine ⟨_,ux.2 rfl,T _ k es hi hs ?_⟩;rw [F] at C;simp only [V] at C
      grind
     ·rename_i i k es q q2 hi hs F;simp only [ui] at f;subst f;refine ⟨_,ux.2 rfl,T _ k es hi hs ?_⟩;rw [F] at C;simp only [V] at C
      grind
     ·cases f
    ·rename_i e kk L hu;split at f
     ·rename_i i z k k2 n hi hz hs F;split at f
      ·rename_i hcd;obtain ⟨⟨rfl,hzl,hby⟩,hk,hn,hlim⟩:=hcd;split at f
       ·rename_i z' hcl;simp only [ui] at f;subst f;rw [hs] at X;have C:=V.ev M A.2;rw [F] at C;simp only [V] at X C;obtain ⟨a1,c1,hs1,_,_,_,h5⟩:=X;have h5:c1=0:=h5;subst h5;obtain ⟨v,w',g',R,S,h3,h4⟩:=zeros_row (ty:=o.type) r L hu hi hz hzl hby hk (a:=a1) (k2:=k2) hn hlim hcl;refine ⟨_,ux.2 rfl,v,w',g',.inl ?_,S,h3,h4⟩;simp only [execOp,H,resolve,K,Sem.run_bind,Sem.run_pure,Result.andThen_ok,invoke,hta,N];simp only [builtin,Array.map];simp [hs1,C,R]
       ·cases f
      ·cases f
     ·cases f
    ·cases f
   ·cases f
  ·rename_i t x K hts has;split at f
   ·rename_i A;have hta:c.argTypes=#[t]:=by grind
    have N:c.args=#[x]:=by grind
    have C:=(V.ev M A).tyfix (P:=P) (t:=t);split at f
    ·rename_i e q es L F;simp only [ui] at f;subst f;rw [F] at C;simp only [V] at C;obtain ⟨a1,c1,hs1,_,O,_,h5⟩:=C;have h5:c1=es.length:=h5;subst h5;refine ⟨_,ux.2 rfl,.int .i64 (es.length:Int),w,g,.inl ?_,Gh.le.refl g,r,by simp only [V]⟩;simp only [execOp,H,resolve,K,Sem.run_bind,Sem.run_pure,Result.andThen_ok,invoke,hta,N];simp only [maxLen] at O;simp [builtin,Builtin.cap_,run_underlying L,hs1,goInt]
    ·cases f
   ·cases f
  ·rename_i t x K hts has;split at f
   ·rename_i A;have hta:c.argTypes=#[t]:=by grind
    have N:c.args=#[x]:=by grind
    have C:=V.ev M A;split at f
    ·rename_i e id tk k n i L F;split at f
     ·rename_i z t' k' es hz Q;split at f
      ·rename_i hcd;obtain ⟨⟨rfl,rfl,rfl⟩,hzl,hk0⟩:=hcd;split at f
       ·rename_i z' hcl;simp only [ui] at f;subst f;rw [F] at C;obtain ⟨w',R,S⟩:=clear_sound (P:=P) (ty:=o.type) r L hz hcl hzl hk0 Q rfl C;refine ⟨_,ux.2 rfl,.tuple #[],w',g,.inl ?_,Gh.le.refl g,S,by simp [V,VL]⟩;simp only [execOp,H,resolve,K,Sem.run_bind,Sem.run_pure,Result.andThen_ok,invoke,hta,N];simp [builtin,R]
       ·cases f
      ·cases f
     ·cases f
    ·cases f
   ·cases f
  ·cases f
 ·-- insert
  rename_i t m k x H;split at f
  ·rename_i v h' hs;simp only [ui] at f;subst f;refine ⟨_,ux.2 rfl,?_⟩;have:=astep_fits (P:=P) r M { o with op:=.mapUpdate t m k x };rw [hs] at this;obtain ⟨u,w',g',R,S⟩:=this;refine ⟨u,w',g',?_,S⟩;simpa only [execOp,H] using R
  ·cases f
 ·-- makeInterface
  rename_i t x H;split at f
  ·rename_i A;have J:=(V.ev M A).tyfix (P:=P) (t:=t);split at f
   ·cases f
   ·rename_i d hne hd;simp only [ui] at f;subst f;refine ⟨_,ux.2 rfl,.iface t (a.eval x),w,g,.inl ?_,Gh.le.refl g,r,?_⟩
    ·have:(Instr.makeInterface t (a.eval x)).run P w=.ok (.iface t (a.eval x)) w:=by
      simp only [Instr.makeInterface,Sem.run_bind,run_underlying hd,Result.andThen_ok];simp
     simp [execOp,H,this]
    ·simp only [V];exact ⟨_,rfl,J⟩
   ·cases f
  ·cases f
 ·-- typeAssert
  rename_i x xt t ok H;split at f
  ·rename_i A;have J:=V.ev M A;split at f
   ·cases f
   ·rename_i d u v hne hd F;rw [F] at J;simp only [V] at J;obtain ⟨y,hy,hv⟩:=J;split at f
    ·rename_i hut;subst hut;simp only [ui] at f;subst f;refine ⟨_,ux.2 rfl,if ok then .tuple #[y,.bool true] else y,w,g,.inl ?_,Gh.le.refl g,r,?_⟩
     ·have:(Instr.typeAssert (.iface u y) xt u ok).run P w=.ok (if ok then .tuple #[y,.bool true] else y) w:=by
       simp only [Instr.typeAssert,Sem.run_bind,run_underlying hd,Result.andThen_ok];rfl
      simp [execOp,H,hy,this]
     ·cases ok
      ·exact hv
      ·simp only [ur,V,VL]
       simp_all
    ·rename_i hut;split at f
     ·rename_i hk;subst hk;split at f
      ·rename_i z hz;simp only [ui] at f;subst f;obtain ⟨zv,hz1,hz2⟩:=aZero_sound (P:=P) (w:=w) (g:=g) hz;refine ⟨_,ux.2 rfl,.tuple #[zv,.bool false],w,g,.inl ?_,Gh.le.refl g,r,?_⟩
       ·have:(Instr.typeAssert (.iface u y) xt t true).run P w=.ok (.tuple #[zv,.bool false]) w:=by
         simp only [Instr.typeAssert,Sem.run_bind,run_underlying hd,Result.andThen_ok]
         simp_all
        simp [execOp,H,hy,this]
       ·simp only [V,VL]
        simp_all
      ·cases f
     ·cases f
   ·cases f
  ·cases f
 ·-- a row is cut
  rename_i t x y H;split at f
  ·rename_i A;simp only [ud] at A;have C:=V.ev M A.1;have G:=V.ev M A.2;split at f
   ·rename_i e id tk k m kk n L F hy;split at f
    ·rename_i i t' k' es hi Q;split at f
     ·rename_i K;obtain ⟨⟨rfl,rfl,rfl⟩,hn0,hnm⟩:=K;simp only [ui] at f;subst f;rw [F] at C;rw [hy] at G;have hVx2:=C;simp only [V] at C G;obtain ⟨I,c,hev,hnc,O,_⟩:=C;rw [hev] at hVx2;obtain ⟨g',R,S,h3⟩:=r.shrink (n:=n.toNat) (a':=if c=0 then I else I.map (·.add (0 * i.size))) Q hnm (by grind) hVx2;refine ⟨_,ux.2 rfl,_,w,g',.inl ?_,R,S,h3⟩;have hbd:=qB (P:=P) (w:=w) (isS:=true) (len:=es.length) (cap:=c) (l:=0) (hh:=n.toNat) (m:=c) (d:=0) (lo:=none) (hi:=some (.int kk n)) (mx:=none) (.inl ⟨rfl,rfl⟩)
       (.inr ⟨kk,n,rfl,hn0,by omega⟩) (.inl ⟨rfl,rfl⟩) (tz _) (by omega) (uh _) rfl
      have:(Instr.sliceAt t (.slice I es.length c) none (some (.int kk n)) none).run P w=.ok (.slice (if c=0 then I else I.map (·.add (0 * i.size))) n.toNat c) w:=by
       rw [sliceAt_of L (by simp)];simp [Instr.slice,ym L,hbd,xB hi]
      simp [execOp,H,hev,G,this]
     ·cases f
    ·cases f
   ·rename_i e k kk n L F hy;split at f
    ·rename_i i hi;split at f
     ·rename_i h0;subst h0;simp only [ui] at f;subst f;rw [F] at C;rw [hy] at G;simp only [V] at C G;obtain ⟨I,c,hev,_,O,_,h5⟩:=C;have h5:c=0:=h5;subst h5;refine ⟨_,ux.2 rfl,.slice I 0 0,w,g,.inl ?_,Gh.le.refl g,r,?_⟩
      ·have hbd:=qB (P:=P) (w:=w) (isS:=true) (len:=0) (cap:=0) (l:=0) (hh:=0) (m:=0) (d:=0) (lo:=none) (hi:=some (.int kk 0)) (mx:=none) (.inl ⟨rfl,rfl⟩)
        (.inr ⟨kk,0,rfl,by omega,by omega⟩) (.inl ⟨rfl,rfl⟩) (tz _) (by omega) (uh _) rfl
       have:(Instr.sliceAt t (.slice I 0 0) none (some (.int kk 0)) none).run P w=.ok (.slice I 0 0) w:=by
        rw [sliceAt_of L (by simp)];simp [Instr.slice,ym L,hbd,xB hi]
       simp only [uV] at hev;simp [execOp,H,hev,G,this]
      ·simp only [V];exact ⟨I,0,rfl,uh _,O,.inl trivial,rfl⟩
     ·cases f
    ·cases f
   ·cases f
  ·cases f
 ·-- a row's end
  rename_i t x y H;split at f
  ·rename_i A;simp only [ud] at A;have C:=V.ev M A.1;have G:=V.ev M A.2;split at f
   ·rename_i e id tk k m kk n L F hy;split at f
    ·rename_i i hi;split at f
     ·rename_i K;obtain ⟨rfl,hn0,hnm⟩:=K;simp only [ui] at f;subst f;rw [F] at C;rw [hy] at G;simp only [V] at C G;obtain ⟨I,c,hev,hnc,O,tt,htt,hrd,hle,hhd⟩:=C;refine ⟨_,ux.2 rfl,.slice (if c=n.toNat then I else I.map (·.add (n.toNat * i.size))) (m - n.toNat) (c - n.toNat),w,g,.inl ?_,Gh.le.refl g,r,?_⟩
      ·have hbd:=qB (P:=P) (w:=w) (isS:=true) (len:=m) (cap:=c) (l:=n.toNat) (hh:=m) (m:=c) (d:=0) (lo:=some (.int kk n)) (hi:=none) (mx:=none) (.inr ⟨kk,n,rfl,hn0,by omega⟩)
        (.inl ⟨rfl,rfl,rfl⟩) (.inl ⟨rfl,rfl⟩) hnm hnc (uh _) rfl
       have:(Instr.sliceAt t (.slice I m c) (some (.int kk n)) none none).run P w=.ok (.slice (if c=n.toNat then I else I.map (·.add (n.toNat * i.size))) (m - n.toNat) (c - n.toNat)) w:=by
        rw [sliceAt_of L (by simp)];simp [Instr.slice,ym L,hbd,xB hi]
       simp [execOp,H,hev,G,this]
      ·simp only [V];refine ⟨_,_,rfl,⟨hnm,by omega⟩,tt,htt,?_⟩;by_cases h0:m - n.toNat=0
       ·omega
       ·right;rcases hhd with ⟨R,_⟩ | ⟨b,o2,S,h3⟩
        ·omega
        ·have hcn:¬ c=n.toNat:=by omega
         refine ⟨b,o2+n.toNat * i.size,?_,hrd,hle,λhe'=>⟨o2,_,rfl,h3 he'⟩⟩;rw [uC hcn,S];simp [x6]
     ·cases f
    ·cases f
   ·cases f
  ·cases f
 ·cases f
end
end Go.Vv
namespace Go.Vv
open Go Go.RowKit Go.Lib

def anew (P:Program) (o:Oper) (env:List AV):Option (Nat×List (List AV)) :=
 match o.op with
 | .call c=>match c.callee,c.argTypes.toList,c.args.toList with
  | .builtin .append,[t,u],[s,x]=>if yr s&&yr x then (match P.underlying t,P.underlying u with
   | some (.slice e),some (.slice _)=>match P.info? e with
    | some i=>if i.bytes<=65536/\0 < i.size/\(i.zero.map (·.cells.size))=some i.size then (match tyfix P t (ev env s),aNews i.size (tyfix P u (ev env x)) with
     | .osl none k [],some ys=>if k=i.size/\ys.length<=lim then some (i.size,ys) else none
     | _,_=>none) else none
    | none=>none
   | _,_=>none) else none
  | _,_,_=>none
 | _=>none

section
variable {P:Program} {w:World} {g:Gh} {h:AH} {B:Nat} {w0:World}
theorem news_ex (r:Rel B w0 g h w) {k:Nat} (E:0 < k) {F:AV} {x:Value} (p:V g F x) {i:List (List AV)} (d:aNews k F=some i) :
  ∃f,(∀e ∈ i,e.length=k)/\VA g i.flatten f/\i.flatten.all AV.pure=true/\∀W:World,(∀a v,w.cell? a=some v->W.cell? a=some v)->News P k i.length x f W:=by
 have slc:∀(es:List (List AV)) (l:Option Addr) (c:Nat),x=.slice l es.length c->(es=[] \/ ∃b o,l=some ⟨b,o,none⟩/\VE g b k o es)->i=es ->
   ∃f,(∀e ∈ i,e.length=k)/\VA g i.flatten f/\i.flatten.all AV.pure=true/\∀W:World,(∀a v,w.cell? a=some v->W.cell? a=some v)->News P k i.length x f W:=by
  rintro es l c q D rfl
  rcases D with rfl | ⟨b,oo,rfl,y⟩
  ·refine ⟨[],by simp,by simp [VA],rfl,λW _=>⟨by rw [q];rfl,?_⟩⟩;rw [q];cases l with
   | none=>simp [Builtin.firstCells]
   | some l=>simp [Builtin.firstCells,loadCells,loadCellsFrom]
  ·obtain ⟨n,u⟩:=VE_iff.1 y;obtain ⟨us,t,z,C⟩:=u.toVA;refine ⟨us,n,t,z,λW G=>?_⟩;rw [q];refine News.slice (by rw [<- t.length,yJ n]) λj v I=>?_;rw [x6];exact G _ _ (r.phi _ _ _ (C j v I))
 unfold aNews at d;split at d
 ·split at d
  ·rename_i m;cases d;subst m;simp only [V] at p
   grind
  ·cases d
 ·split at d
  ·rename_i m;cases d;subst m;simp only [V] at p
   grind
  ·cases d
 ·split at d
  ·rename_i m;cases d;subst m;simp only [V] at p;obtain ⟨l,c,n,u,H,A⟩:=p;exact slc _ l c n (A.imp id λ⟨b,o,e,hh,_⟩=>⟨b,o,e,hh⟩) rfl
  ·cases d
 ·split at d
  ·rename_i m;cases d;subst m;simp only [V] at p;obtain ⟨l,c,n,u,H,A⟩:=p;exact slc _ l c n (A.imp id λ⟨b,o,e,hh,_⟩=>⟨b,o,e,hh⟩) rfl
  ·cases d
 ·rename_i s;split at d
  ·rename_i m;cases d;simp only [V] at p;obtain ⟨n,u⟩:=p;refine ⟨strCells ⟨s.toArray⟩,λe J=>?_,?_,by rw [bytes_flat,List.all_map];exact uq.2 λ_ _=>rfl,λW _=>?_⟩
   ·grind
   ·rw [bytes_flat];exact bytes_VA s
   ·rw [n];have:=News.str (P:=P) (size:=k) (s:=⟨s.toArray⟩) (w:=W);rw [str_size] at this
    simp_all
  ·cases d
 ·cases d

theorem new_fits (r:Rel B w0 g h w) {a:Act} {env:List AV} (D:VL g env a.tmps.toList) {o:Oper} {k:Nat} {C:List (List AV)} (b:anew P o env=some (k,C)):vO P B w0 g a o w (.nsl k C) h:=by
 unfold anew at b;split at b
 ·rename_i c O;split at b
  ·rename_i t u G T l S has;split at b
   ·rename_i d;simp only [ud] at d;split at b
    ·rename_i e X H Q;split at b
     ·rename_i i hi;split at b
      ·rename_i y;obtain ⟨p,j,U⟩:=y;obtain ⟨z,M,s⟩:∃z,i.zero=some z/\z.cells.size=i.size:=by
        simp_all
       split at b
       ·rename_i k' N hs n;split at b
        ·rename_i I;obtain ⟨rfl,m⟩:=I;cases b;have f:=(V.ev D d.1).tyfix (P:=P) (t:=t);rw [hs] at f;obtain ⟨A,L,F,R,K⟩:=news_ex (P:=P) r j ((V.ev D d.2).tyfix (P:=P) (t:=u)) n;obtain ⟨v,w',g',E,k2,J,W⟩:=append_new (ty:=o.type) r H Q (.inr ⟨_,rfl⟩) hi M s p f L F R K m;refine ⟨v,w',g',.inl ?_,k2,J,W⟩;have x:c.argTypes=#[t,u]:=by grind
         have q:c.args=#[G,T]:=by grind
         simp only [execOp,O,resolve,l,Sem.run_bind,Sem.run_pure,Result.andThen_ok,invoke,x,q];simp [builtin,E]
        ·cases b
       ·cases b
      ·cases b
     ·cases b
    ·cases b
   ·cases b
  ·cases b
 ·cases b
end
end Go.Vv
namespace Go.Vv
open Go Go.RowKit
def laid (_:Program) (_:World):Prop:=True
theorem laid_below {P:Program} {B:Nat} {w0 w:World} (_:laid P w0) (_:w0.heap.size<=B) (_:Below B w0 w):laid P w:=trivial
end Go.Vv
namespace Go.Vv
open Go Go.RowKit Go.Lib
variable {o:Oper} {env:List AV} {h:AH} {K:AV->AH->Prop} {ops:Array Oper} {Q:List AV->AH->Prop} {rest:List Oper} {a:Act} {w:World} {next:Act->World->Prop}

class GOk (P:Program) (B:Nat) (w0:World):Prop where
 sh:w0.ShapedOpen P
 sz:w0.heap.size<=B
 lay:laid P w0
def Spec (P:Program) (f:FuncId) (args:List AV) (h:AH) (K:AV->AH->Prop):Prop :=
 (∀(vs:Array Value) (w:World),(callFunc f vs).run P w=.ok (.enter f vs) w) /\
 ∀(B:Nat) (w0:World) [GOk P B w0] (g:Gh) (w:World) (vs:Array Value),Rel B w0 g h w->VL g args vs.toList ->
  Calls P f vs w λe w'=>∃v r h' g',e=.returned v/\K r h'/\g.le g'/\Rel B w0 g' h' w'/\V g' r v

def SpecY (P:Program) (id:Nat) (args:List AV) (h:AH) (K:AV->AH->Prop):Prop :=
 ∀(B:Nat) (w0:World) [GOk P B w0] (g:Gh) (w:World) (vs:Array Value) (c:Nat),Rel B w0 g h w->VL g args vs.toList->g.σ[id]?=some c ->
  ∃fn tmps assign body,(Instr.yield c vs).run P w=.ok (.round c fn tmps assign body) w /\
   ∀n,RoundIn Fence.wide n P c fn tmps assign body w λe w'=>∃v r h' g',e=.returned v/\K r h'/\g.le g'/\Rel B w0 g' h' w'/\V g' r v

theorem Spec.mono {P:Program} {f:FuncId} {args:List AV} {h:AH} {K K':AV->AH->Prop} (s:Spec P f args h K) (d:∀r b,K r b->K' r b):Spec P f args h K' :=
 ⟨s.1,λB w0 _ g w vs r j=>(s.2 B w0 g w vs r j).mono λ_ _ ⟨v,x,b,g',e,c,i⟩=>⟨v,x,b,g',e,d _ _ c,i⟩⟩

theorem SpecY.mono {P:Program} {id:Nat} {args:List AV} {h:AH} {K K':AV->AH->Prop} (s:SpecY P id args h K) (f:∀r b,K r b->K' r b):SpecY P id args h K' :=
 λB w0 _ g w vs c r j k=>by
  obtain ⟨fn,tmps,assign,body,e,d⟩:=s B w0 g w vs c r j k;exact ⟨fn,tmps,assign,body,e,λn=>(d n).mono λ_ _ ⟨v,x,b,g',e,d,i⟩=>⟨v,x,b,g',e,f _ _ d,i⟩⟩

def aG (ops:Array Oper) (o:Oper) (env:List AV):Option Bool :=
 match o.guard with
 | none=>some true
 | some (j,want)=>match (ops[j]?).bind (·.dst) with
  | none=>some false
  | some d=>match env[d]? with
   | none=>some false
   | some (.bool b)=>some (b==want)
   | some (.tup [])=>some false
   | some _=>none

def rwp (P:Program) (h:AH) (r:Res) (K:AV->AH->Prop):Prop :=
 match r with
 | .ok v h'=>K v h'
 | .len n v h'=>n<=maxLen->K v h'
 | .call f args=>Spec P f args h K
 | .round id args=>SpecY P id args h K
 | .any S=>∀v h',S v h'->K v h'
 | .fail=>False
def gwp (b:Option Bool) (act:(AV->AH->Prop)->Prop) (h:AH) (K:AV->AH->Prop):Prop :=
 match b with
 | some true=>act K
 | some false=>K aundef h
 | none=>False
def swk (env:List AV) (h:AH) (env':List AV) (h':AH):Prop:=∀(B:Nat) (w0 w:World) (g:Gh) (vs:List Value),Rel B w0 g h w->VL g env vs->∃g',g.le g'/\Rel B w0 g' h' w/\VL g' env' vs
theorem swk.refl (env:List AV) (h:AH):swk env h env h:=λ_ _ _ g _ r b=>⟨g,Gh.le.refl g,r,b⟩
theorem swk.trans {env c d:List AV} {h j i:AH} (a:swk env h c j) (b:swk c j d i):swk env h d i:=λB w0 w g vs r s=>by
 obtain ⟨p,k,l,e⟩:=a B w0 w g vs r s;obtain ⟨m,k2,q,f⟩:=b B w0 w p vs l e;exact ⟨m,k.trans k2,q,f⟩
def bwp (P:Program) (o:Oper) (env:List AV) (h:AH) (K:AV->AH->Prop):Prop:=(∃l,xQ P o env h=some l/\∀p ∈ l,K p.1 p.2) \/ ∃k ys,anew P o env=some (k,ys)/\K (.nsl k ys) h
theorem bwp_mono {P:Program} {K':AV->AH->Prop} (b:∀v c,K v c->K' v c):bwp P o env h K->bwp P o env h K'
 | .inl ⟨l,hl,hp⟩=>.inl ⟨l,hl,λp hi=>b _ _ (hp p hi)⟩
 | .inr ⟨k,ys,hn,hp⟩=>.inr ⟨k,ys,hn,b _ _ hp⟩
def zK (P:Program) (ops:Array Oper) (Q:List AV->AH->Prop):List Oper->List AV->AH->Prop
 | [],env,h=>Q env h
 | o::rest,env,h=>∃env2 h2,swk env h env2 h2/\gwp (aG ops o env2) (λK=>rwp P h2 (zt P o env2 h2) K \/ bwp P o env2 h2 K) h2 λv h'=>zK P ops Q rest (setd env2 o.dst v) h'
theorem qu {P:Program} (c:gwp (aG ops o env) (rwp P h (zt P o env h)) h λv d=>zK P ops Q rest (setd env o.dst v) d) :
  zK P ops Q (o::rest) env h:=⟨env,h,swk.refl _ _,by
   cases hb:aG ops o env with
   | none=>rw [hb] at c;exact c
   | some b =>
    rw [hb] at c;cases b with
    | true=>exact .inl c
    | false=>exact c⟩
theorem awpOps_consB {P:Program} (c:aG ops o env=some true) (b:∃l,xQ P o env h=some l/\∀p ∈ l,zK P ops Q rest (setd env o.dst p.1) p.2) :
  zK P ops Q (o::rest) env h:=⟨env,h,swk.refl _ _,by rw [c];exact .inr (.inl b)⟩
theorem vE {P:Program} {b:List AV} {c:AH} (hs:swk env h b c) (e:zK P ops Q (o::rest) b c):zK P ops Q (o::rest) env h:=by
 obtain ⟨f,g,d,k2⟩:=e;exact ⟨f,g,hs.trans d,k2⟩

def isEff:Op->Bool
 | .move _ | .assign _ | .pick _ _ _ | .build _ _ | .nilCheck _ | .binOp _ _ _ _ _ | .unOp _ _ _ | .convert _ _ _ | .makeFunc _ _ _ | .slice _ _ _ _ _ | .fieldAddr _ _ _ | .field _ _ _ | .indexAddr _ _ _ | .index _ _ _ | .extract _ _
 | .load _ _ | .buildSlice _ _ _ | .makeInterface _ _ | .typeAssert _ _ _ _=>false
 | .call { callee:=.builtin .len,.. }=>false
 | _=>true
def isRd:Op->Bool
 | .load _ _=>true
 | _=>false
def effN (Ns:List Nat) (i:Nat) (op:Op):Bool:=isEff op&&!Ns.contains i
def cmpb (b:Array Nat) (i j:Nat):Bool:=(b.getD j 0).testBit i || (b.getD i 0).testBit j
def drawOk (ops:Array Oper) (Ns:List Nat):Bool :=
 let b:=Region.before ops
 (ops.toList.zipIdx.all λ(o,i)=>o.after.all (λe=>!Region.binds .any e || decide (e.on < i)) &&
  ops.toList.zipIdx.all λ(o',j)=>i==j || cmpb b i j ||
   ((match o.dst with
    | some d=>!(o'.looksAt ops).contains d&&o'.dst != some d
    | none=>true)&&!(effN Ns i o.op&&effN Ns j o'.op)))
def anch (ops:Array Oper) (Ns:List Nat) (i:Nat):Bool :=
 let b:=Region.before ops
 ops.toList.zipIdx.all λ(o,j)=>i==j || !isRd o.op || Ns.contains j || cmpb b i j
def AR (P:Program) (ops:Array Oper) (o:Oper) (env:List AV) (h:AH) (v:AV) (h':AH):Prop :=
 match aG ops o env with
 | some true=>match zt P o env h with
  | .ok v1 h1=>v=v1/\h'=h1
  | .len _ v1 h1=>v=v1/\h'=h1
  | .call f args=>Spec P f args h λr h1=>r=v/\h1=h'
  | .round id args=>SpecY P id args h λr h1=>r=v/\h1=h'
  | .any _=>False
  | .fail=>False
 | some false=>v=aundef/\h'=h
 | none=>False
def FOk (b:Nat) (Ns:List Nat) (F:Nat->AH->Prop) (h:AH):Prop:=∀n,Ns.contains n=true->b.testBit n=false->F n h
def ARN (P:Program) (ops:Array Oper) (Ns:List Nat) (F:Nat->AH->Prop) (i:Nat) (o:Oper) (env:List AV) (h:AH) (v:AV) (h':AH):Prop :=
 (Ns.contains i=false/\AR P ops o env h v h') \/
 (Ns.contains i=true/\aG ops o env=some true/\h'=h /\
  ((∃f args,(∀h2,zt P o env h2=.call f args)/\∀h2,F i h2->Spec P f args h2 λr hh=>r=v/\hh=h2) \/ ∀h2,F i h2->zt P o env h2=.ok v h2)) \/
 (Ns.contains i=false/\bdraw o.op=true/\aG ops o env=some true/\xQ P o env h=some [(v,h')]) \/
 (Ns.contains i=true/\aG ops o env=some false/\v=aundef/\h'=h)
def zV (P:Program) (ops:Array Oper) (Ns:List Nat) (F:Nat->AH->Prop) (Q:List AV->AH->Prop):Nat->List Oper->List AV->AH->Prop
 | _,[],env,h=>Q env h
 | i,o::rest,env,h=>∃v h',ARN P ops Ns F i o env h v h'/\(anch ops Ns i=true \/ h'.blks=h.blks)/\(h'=h \/ FOk ((Region.before ops).getD i 0) Ns F h')/\zV P ops Ns F Q (i+1) rest (setd env o.dst v) h'

def ve (P:Program) (ops:Array Oper) (Q:List AV->AH->Prop):Nat->Array Bool->List AV->AH->Prop
 | 0,listed,env,h=>Region.ready .any ops listed=[]/\Q env h
 | m+1,listed,env,h=>(Region.ready .any ops listed=[]->Q env h)/\∀i ∈ Region.ready .any ops listed,∀o,ops[i]?=some o ->
   gwp (aG ops o env) (λK=>rwp P h (zt P o env h) K \/ bwp P o env h K) h λv h'=>ve P ops Q m (listed.setIfInBounds i true) (setd env o.dst v) h'

def wk (hd:AH) (env:List AV) (h:AH) (env':List AV) (h':AH):Prop:=∀(B:Nat) (w0 w w1:World) (g1 g:Gh) (vs:List Value),Rel B w0 g1 hd w1 ->
 g1.le g->Rel B w0 g h w->VL g env vs->∃g',g1.le g'/\Rel B w0 g' h' w/\VL g' env' vs/\∀c,c ∈ g.δ->c ∈ g'.δ

def noRF:Code->Bool
 | .seq a b=>noRF a&&noRF b
 | .cond _ a b=>noRF a&&noRF b
 | .block _ a=>noRF a
 | .loop a=>noRF a
 | .rangeFunc _ _ _ _=>false
 | _=>true

def vK (P:Program):Code->(Exit->List AV->AH->Prop)->List AV->AH->Prop
 | .skip,Q,env,h=>Q .normal env h
 | .label _,Q,env,h=>Q .normal env h
 | .region _ ops draw,Q,env,h=>match draw with
  | true=>(∃Ns F,(P.follows .mixedOrders=true/\drawOk ops Ns=true)/\(∀n,F n h)/\zV P ops Ns F (Q .normal) 0 ops.toList env h) \/
    (P.follows .mixedOrders=true/\ve P ops (Q .normal) ops.size (Array.replicate ops.size false) env h)
  | false=>zK P ops (Q .normal) ops.toList env h
 | .seq a b,Q,env,h=>vK P a (λx env' h'=>match x with
  | .normal=>∃env2 h2,wk h env' h' env2 h2/\vK P b Q env2 h2
  | x=>Q x env' h') env h
 | .cond c t e,Q,env,h=>yr c=true/\match ev env c with
  | .bool b=>if b then vK P t Q env h else vK P e Q env h
  | _=>False
 | .block id body,Q,env,h=>vK P body (λx env h=>match x with
  | .exit id'=>if id'=id then Q .normal env h else Q (.exit id') env h
  | x=>Q x env h) env h
 | .loop body,Q,env,h=>∃I:Nat->List AV->AH->Prop,(∃n env2 h2,wk h env h env2 h2/\I n env2 h2)/\∀n env1 h1,I n env1 h1->vK P body (λx env' h'=>match x with
  | .normal=>∃m env2 h2,m < n/\(wk h1 env' h' env2 h2 \/ wk h env' h' env2 h2)/\I m env2 h2
  | x=>Q x env' h') env1 h1
 | .exit id,Q,env,h=>Q (.exit id) env h
 | .ret,Q,env,h=>Q .ret env h
 | .rangeFunc f ps assign body,Q,env,h=>yr f=true/\noRF assign=true/\noRF body=true/\∃env2 h2,wk h env h env2 h2/\match ev env2 f with
  | .fn (.func f) first caps=>Spec P f (first++[.yld h2.blks.length]++caps) (h2.new (.loop .ready none env2 ps assign body)) λ_ h'=>∃st pe env' ps' a' b',h'.blk h2.blks.length=some (.loop st pe env' ps' a' b')/\st ≠ .busy/\match pe with
   | none=>Q .normal env2 (h'.put h2.blks.length .dead)
   | some .ret=>Q .ret env2 (h'.put h2.blks.length .dead)
   | some (.exit i)=>Q (.exit i) env2 (h'.put h2.blks.length .dead)
   | _=>False
  | _=>False
 | _,_,_,_=>False

def WF (ro:Option Nat):Fence:={ Fence.wide with round:=ro }

section
variable {P:Program} {B:Nat} {w0:World} {g0:Gh} {D:List Deferred} {ro:Option Nat} {n:Nat} [GOk P B w0]

def St (B:Nat) (w0:World) (g0:Gh) (D:List Deferred) (env:List AV) (h:AH) (a:Act) (w:World):Prop:=∃g,g0.le g/\Rel B w0 g h w/\VL g env a.tmps.toList/\a.defers=D

theorem VL.setd {g:Gh} {env:List AV} {a:Act} (b:VL g env a.tmps.toList) (d:Option Tmp) {v:AV} {u:Value} (c:V g v u):VL g (setd env d v) (a.put d u).tmps.toList:=by
 cases d with
 | none=>exact b
 | some d=>simp only [Vv.setd,Act.put,pn];exact VL.set b d v u c
theorem wL (a:Act) (d:Option Tmp) (u:Value):(a.put d u).defers=a.defers:=by cases d <;> rfl

theorem vt {g:Gh} (k:VL g env a.tmps.toList) {b:Bool} (c:aG ops o env=some b):Region.wanted o (yielded ops a.tmps)=b:=by
 unfold aG at c;split at c
 ·rename_i l;cases c;simp [Region.wanted,l]
 ·rename_i j e l;have p:Region.wanted o (yielded ops a.tmps)=(yielded ops a.tmps j==some e):=by simp [Region.wanted,l]
  rw [p];split at c
  ·rename_i hd;cases c;simp [yielded,hd]
  ·rename_i d hd;unfold yielded;rw [hd,ua];split at c
   ·rename_i i;cases c;have:a.tmps[d]?=none:=by
     have m:env.length<=d:=by simp_all
     rw [rL];rw [k.length] at m;simpa using m
    simp [this]
   ·rename_i r i;cases c;obtain ⟨u,q,f⟩:=k.get _ _ i;simp only [V] at f;subst f
    simp_all
   ·rename_i i;cases c;obtain ⟨u,q,f⟩:=k.get _ _ i;simp only [V] at f
    grind
   ·cases c

theorem not_defer (b:zt P o env h ≠ .fail):∀c,o.op ≠ .defer c:=by
 intro c d;exact b (by simp only [zt,d])

theorem callsIn_of {f:FuncId} {args:Array Value} {R:Ending->World->Prop} (h:Calls P f args w R):CallsIn (WF ro) n P f args w R:=callsIn_wide (n:=n).2 h

theorem step_sound {Q:Exit->Act->World->Prop}
  (hs:St B w0 g0 D env h a w) (k:rwp P h (zt P o env h) K)
  (z:∀v j u w',K v j->(∃g',g0.le g'/\Rel B w0 g' j w'/\VL g' env a.tmps.toList/\V g' v u)->next (a.put o.dst u) w'):o.wpIn (WF ro) n P a w next Q:=by
 obtain ⟨g,y,r,t,J⟩:=hs;have b:=astep_fits (P:=P) r t o;have A:∀c,o.op ≠ .defer c:=by
  refine not_defer (P:=P) (env:=env) (h:=h) λe=>?_;rw [e] at k;exact k
 refine ⟨λ_ _=>trivial,?_⟩;rw [Oper.semAt_eq (WF ro).round a.eval o A];have ok:∀v j,vO P B w0 g a o w v j->K v j->o.uponIn (WF ro) n P a next Q ((execOp a.eval o).run P w):=by
  rintro v j ⟨u,w',g',d,i,p,s⟩ q
  rcases d with d | ⟨d,rfl⟩
  ·rw [d,Oper.uponIn_value];exact z v j u w' q ⟨g',y.trans i,p,t.mono i,s⟩
  ·rw [d,Oper.uponIn_skip];exact z v j undef w' q ⟨g',y.trans i,p,t.mono i,s⟩
 cases hst:zt P o env h with
 | ok v j=>rw [hst] at b k;exact ok v j b k
 | len m v j=>rw [hst] at b k;exact ok v j b.2 (k b.1)
 | call f args =>
  rw [hst] at b k;obtain ⟨vs,d,l⟩:=b;rw [d,k.1 vs w,Oper.uponIn_enter];refine ⟨λh=>by simp [WF,Fence.wide] at h,callsIn_of ((k.2 B w0 g w vs r l).mono ?_)⟩
  rintro e w' ⟨v,x,j,g',rfl,q,i,p,s⟩
  exact z x j v w' q ⟨g',y.trans i,p,t.mono i,s⟩
 | round id args =>
  rw [hst] at b k;obtain ⟨c,vs,I,d,l⟩:=b;obtain ⟨fn,tmps,assign,body,E,G⟩:=k B w0 g w vs c r l I;rw [d,E,Oper.uponIn_round];refine ⟨λh=>by simp [WF,Fence.wide] at h,RoundIn.mono (F:=WF ro) (G _) ?_⟩
  rintro e w' ⟨v,x,j,g',rfl,q,i,p,s⟩
  exact z x j v w' q ⟨g',y.trans i,p,t.mono i,s⟩
 | any S =>
  rw [hst] at b k;obtain ⟨v,j,H,C⟩:=b;exact ok v j C (k v j H)
 | fail=>rw [hst] at k;exact k.elim

omit [GOk P B w0] in
theorem bstep_sound {Q:Exit->Act->World->Prop}
  (hs:St B w0 g0 D env h a w) (z:bwp P o env h K)
  (t:∀v y u w',K v y->(∃g',g0.le g'/\Rel B w0 g' y w'/\VL g' env a.tmps.toList/\V g' v u)->next (a.put o.dst u) w'):o.wpIn (WF ro) n P a w next Q:=by
 obtain ⟨g,s,r,f,A⟩:=hs;rcases z with ⟨l,m,j⟩ | ⟨C,E,m,j⟩
 ·have e:∀c,o.op ≠ .defer c:=λc x=>by simp [xQ,x] at m
  obtain ⟨p,k,u,w',g',b,d,i,q⟩:=bfits r f m;refine ⟨λ_ _=>trivial,?_⟩;rw [Oper.semAt_eq (WF ro).round a.eval o e];rcases b with b | ⟨b,rfl⟩
  ·rw [b,Oper.uponIn_value];exact t _ _ u w' (j p k) ⟨g',s.trans d,i,f.mono d,q⟩
  ·rw [b,Oper.uponIn_skip];exact t _ _ undef w' (j p k) ⟨g',s.trans d,i,f.mono d,q⟩
 ·have e:∀c,o.op ≠ .defer c:=λc x=>by simp [anew,x] at m
  obtain ⟨u,w',g',b,d,i,q⟩:=new_fits r f m;refine ⟨λ_ _=>trivial,?_⟩;rw [Oper.semAt_eq (WF ro).round a.eval o e];rcases b with b | ⟨b,rfl⟩
  ·rw [b,Oper.uponIn_value];exact t _ _ u w' j ⟨g',s.trans d,i,f.mono d,q⟩
  ·rw [b,Oper.uponIn_skip];exact t _ _ undef w' j ⟨g',s.trans d,i,f.mono d,q⟩

theorem ops_sound {ops:Array Oper} {Q:Exit->Act->World->Prop} {QA:List AV->AH->Prop} (l:∀env h a w,QA env h->St B w0 g0 D env h a w->Q .normal a w) :
  ∀(rest:List Oper) (k:Nat) (env:List AV) (h:AH) (a:Act) (w:World),ops.toList.drop k=rest->zK P ops QA rest env h->St B w0 g0 D env h a w->wpOpsIn (WF ro) n P ops Q (List.range' k rest.length) a w
 | [],k,env,h,a,w,_,c,hs=>l env h a w c hs
 | o::rest,k,env,h,a,w,hd,c,hs=>by
  have G:ops[k]?=some o:=by
   rw [<- uK];have:=congrArg (·[0]?) hd
   grind
  have f:ops.toList.drop (k+1)=rest:=by
   rw [<- tB,hd];rfl
  simp only [uu,List.range'_succ,wpOpsIn,G];obtain ⟨env,h,q,c⟩:=c;obtain ⟨y,s,C,j,m⟩:=hs;obtain ⟨g,p,r,t⟩:=q _ _ _ _ _ C j;have x:=s.trans p;have hs:St B w0 g0 D env h a w:=⟨g,x,r,t,m⟩
  cases hb:aG ops o env with
  | none=>rw [hb] at c;exact c.elim
  | some b =>
   have d:=vt t hb;rw [hb] at c;rw [d];cases b with
   | true =>
    simp only [gwp] at c;simp only [ur];have e:∀v i u w',zK P ops QA rest (setd env o.dst v) i->(∃g',g0.le g'/\Rel B w0 g' i w'/\VL g' env a.tmps.toList/\V g' v u)->wpOpsIn (WF ro) n P ops Q (List.range' (k+1) rest.length) (a.put o.dst u) w':=λv i u w' E ⟨g',F,z,H,A⟩ =>
     ops_sound l rest (k+1) _ i _ w' f E ⟨g',F,z,H.setd o.dst A,by rw [wL];exact m⟩
    rcases c with c | c
    ·exact step_sound hs c e
    ·exact bstep_sound hs c e
   | false =>
    simp only [gwp] at c;simp only [uk,uH];exact ⟨λ_ _=>trivial,ops_sound l rest (k+1) _ h _ w f c ⟨g,x,r,t.setd o.dst V.ofUndef,by rw [wL];exact m⟩⟩

theorem any_sound {ops:Array Oper} {Q:Exit->Act->World->Prop} {QA:List AV->AH->Prop} (k:∀env h a w,QA env h->St B w0 g0 D env h a w->Q .normal a w) :
  ∀(m:Nat) (c:Array Bool) (env:List AV) (h:AH) (a:Act) (w:World),ve P ops QA m c env h->St B w0 g0 D env h a w->wpAnyIn (WF ro) n P .any ops Q m c a w
 | 0,c,env,h,a,w,d,hs=>⟨d.1,k env h a w d.2 hs⟩
 | m+1,c,env,h,a,w,d,hs=>by
  refine ⟨λe=>k env h a w (d.1 e) hs,λi hi=>?_⟩;unfold wpOpIn;cases ho:ops[i]? with
  | none =>
   exfalso;unfold Region.ready at hi
   simp_all
  | some o =>
   have d:=d.2 i hi o ho;simp only;obtain ⟨g,s,r,q,p⟩:=hs;have hs:St B w0 g0 D env h a w:=⟨g,s,r,q,p⟩
   cases hb:aG ops o env with
   | none=>rw [hb] at d;exact d.elim
   | some b =>
    have f:=vt q hb;rw [hb] at d;rw [f];cases b with
    | true =>
     simp only [gwp] at d;simp only [ur];have j:∀v l u w',ve P ops QA m (c.setIfInBounds i true) (setd env o.dst v) l->(∃g',g0.le g'/\Rel B w0 g' l w'/\VL g' env a.tmps.toList/\V g' v u)->wpAnyIn (WF ro) n P .any ops Q m (c.setIfInBounds i true) (a.put o.dst u) w':=λv l u w' y ⟨g',z,t,A,x⟩ =>
      any_sound k m _ _ l _ w' y ⟨g',z,t,A.setd o.dst x,by rw [wL];exact p⟩
     rcases d with d | d
     ·exact step_sound hs d j
     ·exact bstep_sound hs d j
    | false =>
     simp only [gwp] at d;simp only [uk,uH];exact ⟨λ_ _=>trivial,any_sound k m _ _ h _ w d ⟨g,s,r,q.setd o.dst V.ofUndef,by rw [wL];exact p⟩⟩
end
end Go.Vv
