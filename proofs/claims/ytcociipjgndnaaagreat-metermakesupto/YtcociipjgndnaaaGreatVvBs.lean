/- More operations, whose outcomes may be several: ranges over maps. -/
import Derived.Test.YtcociipjgndnaaaGreatVvL
import Derived.Test.YtcociipjgndnaaaGreatVvRw
import Derived.Test.YtcociipjgndnaaaGreatVvRs
import Derived.Maps.RangeRun
import Derived.RangeFuncRecord
import Derived.Laws.IdiomStrings
namespace Go.Vv
open Go Go.RowKit Go.Lib

def nextAlts (h:AH) (it id n:Nat) (seen:List Nat) (es:List (AV×AV)):List (AV×AH) :=
 match es.zipIdx.filter λp=>!seen.contains p.2 with
 | []=>[(.tup [.bool false],h)]
 | p::r=>(p::r).map λp=>(.tup [.bool true,p.1.1,p.1.2],h.put it (.miter id n (seen++[p.2])))
def bytesX:List (List AV)->Option (List UInt8)
 | []=>some []
 | [.int .u8 n]::r=>if 0<=n/\n < 256 then (match bytesX r with
  | some l=>some (UInt8.ofNat n.toNat::l)
  | none=>none) else none
 | _=>none
def convX (P:Program) (s t:TypeId) (a:AV):Option (List UInt8) :=
 match P.underlying s,P.underlying t with
 | some (.slice e),some .string=>match P.underlying e,tyfix P s a with
  | some (.int .u8),.sl 1 es | some (.int .u8),.osl _ 1 es=>match bytesX es with
   | some l=>if l.length<=maxLen then some l else none
   | none=>none
  | _,_=>none
 | _,_=>none
def vt (P:Program) (o:Oper) (env:List AV) (h:AH):Option (List (AV×AH)) :=
 match o.op with
 | .range t x=>if yy x then (match P.underlying t,ev env x with
  | some (.map _ _),.map id=>match h.blk id with
   | some (.mapo es 0)=>some [(.ptr h.blks.length 0,h.new (.miter id es.length []))]
   | _=>none
  | some (.map _ _),.nilm=>some [(.ptr h.blks.length 0,h.new .miter0)]
  | _,_=>none) else none
 | .next x false=>if yy x then (match ev env x with
  | .ptr it 0=>match h.blk it with
   | some .miter0=>some [(.tup [.bool false],h)]
   | some (.miter id n seen)=>match h.blk id with
    | some (.mapo es 0)=>if es.length=n then some (nextAlts h it id n seen es) else none
    | _=>none
   | _=>none
  | _=>none) else none
 | .entry x=>if yy x then (match ev env x with
  | .ptr it 0=>match h.blk it with
   | some (.miter id n seen)=>match h.blk id,seen.getLast? with
    | some (.mapo es 0),some i=>if es.length=n then (match es[i]? with
     | some e=>some [(.tup [e.1,e.2],h)]
     | none=>none) else none
    | _,_=>none
   | _=>none
  | _=>none) else none
 | .buildSlice t n parts=>if parts.all λp=>yy p.2 then (match P.underlying t with
  | some (.slice e)=>match P.info? e,xD P e with
   | some i,some z=>if 0 < n/\0 < i.size/\n * i.size<=65536/\z.length=i.size then
     (match (qd (λj=>some (j * i.size,i.size)) ((List.replicate n z).flatten) (xB P (.slice e) env parts)) with
           | some cs=>match x5 cs with
             | some out=>some [(.rsl h.blks.length h.toks.length i.size n,({ h with toks:=h.toks++[n] }:AH).new (.row h.toks.length i.size (rows i.size n out)))]
             | none=>some [(.msl i.size h.blks.length 0 n,h.new (.cells cs))]
           | none=>none) else none
   | _,_=>none
  | _=>none) else none
 | .convert s t x=>if yy x then (match convX P s t (ev env x) with
  | some l=>some [(.str l,h)]
  | none=>none) else none
 | .call c=>match c.callee,c.argTypes.toList,c.args.toList with
  | .builtin .max,_,[x,y]=>if yy x&&yy y then (match ev env x,ev env y with
   | .int k a,.int k' b=>if k=k' then some [(.int k (if b > a then b else a),h)] else none
   | _,_=>none) else none
  | .builtin .min,_,[x,y]=>if yy x&&yy y then (match ev env x,ev env y with
   | .int k a,.int k' b=>if k=k' then some [(.int k (if b < a then b else a),h)] else none
   | _,_=>none) else none
  | .builtin .append,[t,u],[s,x]=>if yy s&&yy x then (match P.underlying t,P.underlying u with
   | some (.slice e),some (.slice _)=>match P.info? e,tyfix P t (ev env s),tyfix P u (ev env x) with
    | some _,.osl none k es,.sl _ [] | some _,.osl none k es,.osl _ _ []=>some [(.osl none k es,h)]
    | _,_,_=>none
   | _,_=>none) else none
  | .builtin .clear,[t],[x]=>if yy x then (match P.underlying t,ev env x with
   | some (.slice e),.rsuf id tk k n i=>match xD P e,h.blk id with
    | some z,some (.row t' k' es)=>if (t'=tk/\k'=k/\es.length=n)/\z.length=k/\0 < k then (match x5 z with
     | some z'=>some [(.tup [],h.clr id tk k i es z')]
     | none=>none) else none
    | _,_=>none
   | _,_=>none) else none
  | _,_,_=>none
 | .insert t m k x=>match zw P { o with op:=.mapUpdate t m k x } env h with
  | .ok v h'=>some [(v,h')]
  | _=>none
 | .makeInterface t x=>if yy x then (match P.underlying t with
  | some (.interface _)=>none
  | some _=>some [(.iface t (tyfix P t (ev env x)),h)]
  | none=>none) else none
 | .typeAssert x _ t ok=>if yy x then (match P.underlying t,ev env x with
  | some (.interface _),_=>none
  | some _,.iface u v=>if u=t then some [(if ok then .tup [v,.bool true] else v,h)] else if ok then (match aZero P t with
   | some z=>some [(.tup [z,.bool false],h)]
   | none=>none) else none
  | _,_=>none) else none
 | .slice t x none (some y) none=>if yy x&&yy y then (match P.underlying t,ev env x,ev env y with
  | some (.slice e),.rsl id tk k m,.int _ n=>match P.info? e,h.blk id with
   | some _,some (.row t' k' es)=>if (t'=tk/\k'=k/\es.length=m)/\0<=n/\n.toNat<=m then some [(.rsl h.blks.length h.toks.length k n.toNat,h.shr id tk k n.toNat es)] else none
   | _,_=>none
  | _,_,_=>none) else none
 | .slice t x (some y) none none=>if yy x&&yy y then (match P.underlying t,ev env x,ev env y with
  | some (.slice e),.rsl id tk k m,.int _ n=>match P.info? e with
   | some i=>if i.size=k/\0<=n/\n.toNat<=m then some [(.rsuf id tk k m n.toNat,h)] else none
   | none=>none
  | _,_,_=>none) else none
 | _=>none

def bdraw:Op->Bool
 | .buildSlice _ _ _ | .slice _ _ _ _ _=>false
 | _=>true

section
variable {P:Program} {w:World} {g:Gh} {h:AH} {B:Nat} {w0:World}
theorem Rel.drewO (r:Rel B w0 g h w) {a:World} (b:a=w \/ a=w.drew):Rel B w0 g h a:=by
 rcases b with rfl | rfl
 ·exact r
 ·exact r.drew
theorem setBlock_eq {w:World} {b:Nat} {o:Obj}:ChangeMaps.setBlock w b o=w.putObj b o:=by
 rfl
theorem bytesX_eq:∀{es:List (List AV)} {l:List UInt8},bytesX es=some l->es=l.map λb=>[AV.int .u8 b.toNat]
 | [],l,h=>by simp only [bytesX,un] at h;subst h;rfl
 | e::r,l,h=>by
  unfold bytesX at h;split at h
  ·rename_i h0;cases h0
  ·rename_i n k h0;injection h0 with f a;subst f a;split at h
   ·rename_i i;split at h
    ·rename_i j c;simp only [un] at h;subst h;rw [bytesX_eq c];have:((UInt8.ofNat n.toNat).toNat:Int)=n:=by
      have d:n.toNat < 256:=by omega
      simp [pZ d];omega
     simp only [uC,this]
    ·cases h
   ·cases h
  ·cases h
theorem bytes_run (r:Rel B w0 g h w) {s t e:TypeId} (hs:P.underlying s=some (.slice e)) (u:P.underlying t=some .string) (q:P.underlying e=some (.int .u8)) {es:List (List AV)} {l:List UInt8} (p:bytesX es=some l) {a:Option Addr} {c:Nat}
  (x:es=[] \/ ∃b o,a=some ⟨b,o,none⟩/\VE g b 1 o es):(convert s t (.slice a es.length c)).run P w=.ok (.string ⟨l.toArray⟩) w:=by
 have k:=bytesX_eq p;have d:es.length=l.length:=by rw [k];simp
 have key:∀f:Addr,(∀j (y:j < l.length),w.cell? (f.add j)=some (.int .u8 (l[j].toNat:Int)))->(convert s t (.slice (some f) es.length c)).run P w=.ok (.string ⟨l.toArray⟩) w:=λf m=>by
  rw [d];exact run_convert_bytes_back w s t e f c l hs q u m
 cases a with
 | none =>
  rcases x with rfl | ⟨b,o,i,_⟩
  ·simp only [bytesX,un] at p;subst p;simp [convert,run_underlying hs,run_underlying u,run_underlying q,Conv.bytesToString];rfl
  ·cases i
 | some f =>
  refine key f λj y=>?_;rcases x with rfl | ⟨b,o,i,n⟩
  ·simp at d;omega
  ·injection i with i;subst i;obtain ⟨_,m⟩:=n.get j [AV.int .u8 (l[j].toNat:Int)] (by rw [k,s5,ug y];rfl);simp only [VC] at m;obtain ⟨⟨v,A,_,z⟩,_⟩:=m;simp only [V] at z;subst z;have:=r.phi _ _ _ A;rw [show (⟨b,o,none⟩:Addr).add j=⟨b,o+j,none⟩ by unfold Addr.add;split <;> simp_all];simpa [Nat.mul_one] using this
theorem buildSliceM_sound (r:Rel B w0 g h w) {t e:TypeId} {n:Nat} {i:TypeInfo} {z cs:List AV} {env:List AV} {a:Act} (F:VL g env a.tmps.toList) {parts:Array (Nat×Operand)} (q:(parts.all λp=>yy p.2)=true)
  (J:P.underlying t=some (.slice e)) (hi:P.info? e=some i) (K:xD P e=some z) (E:0 < n) (c:0 < i.size) (I:n * i.size<=65536) (o:z.length=i.size)
  (G:qd (λj=>some (j * i.size,i.size)) ((List.replicate n z).flatten) (xB P (.slice e) env parts)=some cs) :
  ∃u w' g',(Instr.buildSlice t n (parts.map λ(i,x)=>(i,a.eval x))).run P w=.ok u w'/\g.le g'/\Rel B w0 g' (h.new (.cells cs)) w'/\V g' (.msl i.size h.blks.length 0 n) u:=by
 obtain ⟨M,m,b,D,k⟩:=qA (g:=g) K;rw [hi] at b;injection b with b;subst b;have s:m.cells.size=i.size:=by rw [<- o,k.length];rfl
 have y:¬ (n * i.size=0):=by
  have:=pQ E c;omega
 obtain ⟨L,H⟩:=parts_rel (P:=P) (d:=.slice e) F q;have f:=VA.flatten k n;obtain ⟨xs,A,v⟩:=fill_sound (place':=λj=>some (j * i.size,i.size)) (λi x h=>h) (us:=(Array.range (n * i.size)).map (m.cells[· % m.cells.size]!))
  (by rw [<- s,rM,rZ,range_rep];exact f) L H G
 have l:=run_buildSlice w t e n _ xs i m J hi D (by omega) y A;refine ⟨_,_,_,l,g.le_addS _,r.newCells e v,?_⟩;have C:=r.slen;simp only [V,Gh.addS];exact ⟨w.heap.size,n,by rw [<- C];simp,rfl,uh _,by simp only [maxLen];have:=pb n c;omega⟩
theorem buildSliceR_sound (r:Rel B w0 g h w) {t e:TypeId} {n:Nat} {i:TypeInfo} {z cs out:List AV} {env:List AV} {a:Act} (S:VL g env a.tmps.toList) {parts:Array (Nat×Operand)} (Q:(parts.all λp=>yy p.2)=true)
  (hu:P.underlying t=some (.slice e)) (hi:P.info? e=some i) (hz:xD P e=some z) (hn:0 < n) (f:0 < i.size) (hsm:n * i.size<=65536) (C:z.length=i.size)
  (hf:qd (λj=>some (j * i.size,i.size)) ((List.replicate n z).flatten) (xB P (.slice e) env parts)=some cs) (hc:x5 cs=some out) :
  ∃u w' g',(Instr.buildSlice t n (parts.map λ(i,x)=>(i,a.eval x))).run P w=.ok u w'/\g.le g'/\Rel B w0 g' (({ h with toks:=h.toks++[n] }:AH).new (.row h.toks.length i.size (rows i.size n out))) w'/\V g' (.rsl h.blks.length h.toks.length i.size n) u:=by
 obtain ⟨i',N,b,Z,F⟩:=qA (g:=g) hz;rw [hi] at b;injection b with b;subst b;have R:N.cells.size=i.size:=by rw [<- C,F.length];rfl
 have X:¬ (n * i.size=0):=by
  have:=pQ hn f;omega
 obtain ⟨h1,h2⟩:=parts_rel (P:=P) (d:=.slice e) S Q;have E:=VA.flatten F n;obtain ⟨xs,Y,U⟩:=fill_sound (place':=λj=>some (j * i.size,i.size)) (λi x h=>h) (us:=(Array.range (n * i.size)).map (N.cells[· % N.cells.size]!))
  (by rw [<- R,rM,rZ,range_rep];exact E) h1 h2 hf
 have m:=clean_sound U hc;have G:out.length=n * i.size:=by
  rw [clean_len hc,aFill_len hf];simp [C]
 have hxs:xs.size=n * i.size:=by rw [<- G,m.length];rfl
 have H:=run_buildSlice w t e n _ xs i N hu hi Z (by omega) X Y;obtain ⟨A,o,e3⟩:=rows_flat (k:=i.size) n out G;have r1:=r.alloc0 (.cells xs e);have c:(w.alloc (.cells xs e)).heap[w.heap.size]?=some (.cells xs e (0,0)):=heap_alloc_new w _;have q:∀j,g.Φ w.heap.size j=none:=λj=>by
  rcases S:g.Φ w.heap.size j with _ | v
  ·rfl
  ·exact absurd (r.phi_lt S) (sH _)
 have D:LocOk g.Φ B (w.alloc (.cells xs e)) w.heap.size (n * i.size) (n * i.size) :=
  ⟨r.bsz,by simp,⟨xs,e,c,by omega⟩,λj _=>q j⟩
 have K:∀(j M:Nat),g.σ[j]?=some (some M)->w.heap.size ≠ M:=λj M O e=>by
  have b:j < h.blks.length:=by rw [<- r.slen];exact (uc.1 O).1
  have:=(r.blk j M _ O (ug b)).2.1;omega
 have I:∀(j:Nat) (L:TI) (y:Nat×Nat),g.τ[j]?=some L->L.loc ≠ some (w.heap.size,y):=λj L y O e=>by
  have:=((r.tok j L O).2 _ _ _ e).lt;omega
 let T:TI:=⟨n,some (w.heap.size,n * i.size,n * i.size),true⟩
 have hT:((g.addT T).addS none).τ[g.τ.length]?=some T:=by simp [Gh.addT,Gh.addS]
 have J:g.le ((g.addT T).addS none):=(g.le_addT T).trans (Gh.le_addS _ none);have r2:=r1.newRowT T i.size (rows i.size n out)
  (λb' l e' s=>by injection s with s;injection s with A o;injection o with o e3;subst A o e3;exact D)
  (λb' x W=>by injection W with W;injection W with A _;subst A;exact ⟨I,K,r.nnew (uh _)⟩)
  ⟨T,hT,rfl,o.symm,e3,by rw [A];exact clean_pure hc,.inr ⟨w.heap.size,0,n * i.size,xs,e,by simp [T,o],c,by
   rw [A,o,sq,uM (by simp [hxs])];exact m.mono J _ _,by rw [o];omega,λj _=>q j⟩⟩
 have tl:=r.tlen;have sl:=r.slen;rw [tl] at r2;refine ⟨_,_,_,H,J,r2,?_⟩;simp only [V];rw [<- tl];exact ⟨some ⟨w.heap.size,0,none⟩,n,rfl,uh _,by simp only [maxLen];have:=pb n f;omega,T,hT,rfl,uh _,.inr ⟨w.heap.size,0,rfl,λ_=>by simp [T]⟩⟩
theorem append0 {t u ty e k:TypeId} {i:TypeInfo} {a b:Option Addr} {n c m:Nat} (d:P.underlying t=some (.slice e)) (f:P.underlying u=some (.slice k)) (hi:P.info? e=some i) (j:n<=m) :
  (Builtin.append_ #[t,u] ty #[.slice a n m,.slice b 0 c]).run P w=.ok (.slice a n m) w:=by
 cases a <;> cases b <;> simp [Builtin.append_,run_underlying d,run_underlying f,sizeOf,typeInfo,hi,Builtin.lenOf,Builtin.firstCells,loadCells,loadCellsFrom,storeCells,j]
theorem bfits (r:Rel B w0 g h w) {a:Act} {env:List AV} (M:VL g env a.tmps.toList) {o:Oper} {l:List (AV×AH)} (f:vt P o env h=some l):∃p ∈ l,qf P B w0 g a o w p.1 p.2:=by
 unfold vt at f;split at f
 ·-- range
  rename_i t x H;split at f
  ·rename_i A;have I:=V.ev M A;split at f
   ·rename_i kt et id U F;split at f
    ·rename_i es N;simp only [un] at f;subst f;refine ⟨_,uL.2 rfl,?_⟩;rw [F] at I;simp only [V] at I;obtain ⟨c,L,X⟩:=I;obtain ⟨hB,hlt,⟨ents,n,k1,k2,k3⟩,_⟩:=r.blk id c _ L N;obtain ⟨rfl,k4⟩:=k3 rfl;have Q:ents.size=es.length:=by have:=k2.len;simpa using this
     refine ⟨.pointer (some ⟨w.heap.size,0,none⟩),w.alloc (.mapIter (some c) ents.size #[] ents.size),g.addS w.heap.size,.inl ?_,g.le_addS _,r.newBlk _ _ ?_,?_⟩
     ·simp [execOp,H,X,run_range_map w t kt et c ents _ U k1]
     ·exact ⟨c,(g.le_addS _).sig _ _ L,by rw [<- Q];exact heap_alloc_new w _⟩
     ·have hsl:=r.slen;simp only [V,Gh.addS];exact ⟨w.heap.size,by rw [<- hsl];simp,rfl⟩
    ·cases f
   ·rename_i kt et U F;simp only [un] at f;subst f;refine ⟨_,uL.2 rfl,?_⟩;rw [F] at I;simp only [V] at I;refine ⟨.pointer (some ⟨w.heap.size,0,none⟩),w.alloc (.mapIter none 0 #[] 0),g.addS w.heap.size,.inl ?_,g.le_addS _,r.newBlk _ _ (heap_alloc_new w _),?_⟩
    ·simp [execOp,H,I,run_range_nilMap w t kt et U]
    ·have hsl:=r.slen;simp only [V,Gh.addS];exact ⟨w.heap.size,by rw [<- hsl];simp,rfl⟩
   ·cases f
  ·cases f
 ·-- next
  rename_i x H;split at f
  ·rename_i A;have I:=V.ev M A;split at f
   ·rename_i it F;rw [F] at I;simp only [V] at I;obtain ⟨ci,hci,X⟩:=I;split at f
    ·rename_i N;simp only [un] at f;subst f;refine ⟨_,uL.2 rfl,?_⟩;obtain ⟨_,_,k1,_⟩:=r.blk it ci _ hci N;have k1:w.heap[ci]?=some (.mapIter none 0 #[] 0):=k1;refine ⟨.tuple #[.bool false],w,g,.inl ?_,Gh.le.refl g,r,by simp [V,VL]⟩;simp [execOp,H,X,Instr.next,getObj,Sem.run,k1]
    ·rename_i id n D N;split at f
     ·rename_i es hbm;split at f
      ·rename_i hn;simp only [un] at f;obtain ⟨_,hltI,⟨cm,Y,hit⟩,_⟩:=r.blk it ci _ hci N;obtain ⟨_,_,⟨ents,m,k1,k2,k3⟩,_⟩:=r.blk id cm _ Y hbm;obtain ⟨rfl,k4⟩:=k3 rfl;have Q:ents.size=es.length:=by have:=k2.len;simpa using this
       have hold:∀x ∈ ents.toList,x.born < n:=λx F=>by
        obtain ⟨i,hi⟩:=tj.1 F;rw [uv] at hi;have:=k4 i x hi;have:=(uQ.1 hi).1;omega
       rcases run_next_at (P:=P) w o.type ci cm n n D.toArray ents ents.size hit k1 hold (uh _) with ⟨h0,R⟩ | ⟨e,hmem,w1,hw1,R⟩
       ·have hnil:es.zipIdx.filter (λp=>!D.contains p.2)=[]:=by
         rw [tH]
         rintro ⟨p,i⟩ hp
         simp only [rO,Bool.not_eq_false'];have hp':=List.mem_zipIdx' hp;obtain ⟨e,he1,_,_⟩:=k2.getE (j:=i) (p:=p) (by rw [hp'.2];exact ug hp'.1);rw [uv] at he1;have J:=k4 i e he1;have:¬ e ∈ leftOf ents D.toArray:=by
          intro hin;rw [pq h0] at hin;simp at hin
         simp only [leftOf,Array.mem_filter,not_and,tv,Bool.not_eq_false] at this;have:=this (Array.mem_of_getElem? he1);rw [J] at this;simpa using this
        rw [nextAlts,hnil] at f;subst f;refine ⟨_,uL.2 rfl,.tuple #[.bool false],w,g,.inl ?_,Gh.le.refl g,r,by simp [V,VL]⟩;simp [execOp,H,X,R]
       ·simp only [leftOf,Array.toList_filter,tf] at hmem;obtain ⟨i,hi⟩:=tj.1 hmem.1;have hi':=hi;rw [uv] at hi';have J:=k4 i e hi';have hil:i < es.length:=by rw [<- Q];exact (uQ.1 hi').1
        have hes:es[i]?=some es[i]:=ug hil;obtain ⟨e2,he2,hk,hv⟩:=k2.getE (j:=i) hes;rw [hi] at he2;injection he2 with he2;subst he2;have hin:(es[i],i) ∈ es.zipIdx.filter (λp=>!D.contains p.2):=by
         rw [tf];refine ⟨tT.2 hes,?_⟩;have:=hmem.2;rw [J] at this;simpa using this
        have r1:=r.drewO hw1;have hit1:w1.heap[ci]?=some (.mapIter (some cm) n D.toArray n):=by rcases hw1 with rfl | rfl <;> exact hit
        have r2:Rel B w0 g (h.put it (.miter id n (D++[i]))) (w1.putObj ci (.mapIter (some cm) n (D.toArray.push e.born) n)) :=
         r1.putObj hci N (by simp) rfl rfl rfl World.putObj_size (λb hb'=>World.putObj_heap_other hb') ⟨cm,Y,by
          rw [World.putObj_heap_same (by rcases hw1 with rfl | rfl <;> exact hltI),J];simp⟩
        have Z:es.zipIdx.filter (λp=>!D.contains p.2) ≠ []:=List.ne_nil_of_mem hin;have hal:((.tup [.bool true,es[i].1,es[i].2],h.put it (.miter id n (D++[i]))):AV×AH) ∈ nextAlts h it id n D es:=by
         unfold nextAlts;split
         ·rename_i hf;exact absurd hf Z
         ·rename_i p q hf;rw [<- hf];exact tF.2 ⟨_,hin,rfl⟩
        subst f;refine ⟨_,hal,.tuple #[.bool true,e.key,e.val],_,g,.inl ?_,Gh.le.refl g,r2,?_⟩
        ·rw [<- Q] at hn;simp only [execOp,H,X,Sem.run_bind,R,Result.andThen_ok,Sem.run_pure];rw [setBlock_eq,hn]
        ·simp only [V,VL];exact ⟨_,rfl,_,_,rfl,rfl,_,_,rfl,hk,_,_,rfl,hv,rfl⟩
      ·cases f
     ·cases f
    ·cases f
   ·cases f
  ·cases f
 ·-- entry
  rename_i x H;split at f
  ·rename_i A;have I:=V.ev M A;split at f
   ·rename_i it F;rw [F] at I;simp only [V] at I;obtain ⟨ci,hci,X⟩:=I;split at f
    ·rename_i id n D N;split at f
     ·rename_i es i hbm hlast;split at f
      ·rename_i hn;split at f
       case h_2=>cases f
       rename_i p hp;simp only [un] at f;subst f;refine ⟨_,uL.2 rfl,?_⟩;obtain ⟨_,hltI,⟨cm,Y,hit⟩,_⟩:=r.blk it ci _ hci N;obtain ⟨_,_,⟨ents,m,k1,k2,k3⟩,_⟩:=r.blk id cm _ Y hbm;obtain ⟨rfl,k4⟩:=k3 rfl;have Q:ents.size=es.length:=by have:=k2.len;simpa using this
       obtain ⟨e,he1,hk,hv⟩:=k2.getE (j:=i) hp;have he1':=he1;rw [uv] at he1';have J:=k4 i e he1';have hseen:D.toArray=D.dropLast.toArray.push e.born:=by
        rw [J];have Z:D ≠ []:=by rintro rfl;simp at hlast
        have O:=List.getLast?_eq_some_iff.1 hlast;obtain ⟨ys,rfl⟩:=O;simp
       rw [hseen] at hit;have hnd:(ents.toList.map (·.born)).Nodup:=by
        have:ents.toList.map (·.born)=List.range ents.size:=by
         apply tu;intro j;rw [s5,uv];rcases tz j ents.size with hj | hj
         ·rw [uH hj,rt hj];simp [k4 j _ (uH hj)]
         ·rw [tV hj,th (by simpa using hj)];rfl
        rw [this];exact List.nodup_range
       have R:=run_entry_at (P:=P) w ci cm n D.dropLast.toArray ents ents.size e (by have e9:n=ents.size:=(by omega);rw [hit,e9]) k1 (Array.mem_toList_iff.2 (Array.mem_of_getElem? he1')) hnd;refine ⟨.tuple #[e.key,e.val],w,g,.inl ?_,Gh.le.refl g,r,?_⟩
       ·simp [execOp,H,X,R]
       ·simp only [V,VL];exact ⟨_,rfl,_,_,rfl,hk,_,_,rfl,hv,rfl⟩
      ·cases f
     ·cases f
    ·cases f
   ·cases f
  ·cases f
 ·-- buildSlice
  rename_i t n parts H;split at f
  ·rename_i A;split at f
   ·rename_i e hu;split at f
    ·rename_i i z hi hz;split at f
     ·rename_i L;split at f
      ·rename_i cs hf;split at f
       ·rename_i out hcl;simp only [un] at f;subst f;obtain ⟨u,w',g',O,T,h3,h4⟩:=buildSliceR_sound r M A hu hi hz L.1 L.2.1 L.2.2.1 L.2.2.2 hf hcl;exact ⟨_,uL.2 rfl,u,w',g',.inl (by simp [execOp,H,O]),T,h3,h4⟩
       ·simp only [un] at f;subst f;obtain ⟨u,w',g',O,T,h3,h4⟩:=buildSliceM_sound r M A hu hi hz L.1 L.2.1 L.2.2.1 L.2.2.2 hf;exact ⟨_,uL.2 rfl,u,w',g',.inl (by simp [execOp,H,O]),T,h3,h4⟩
      ·cases f
     ·cases f
    ·cases f
   ·cases f
  ·cases f
 ·-- convert
  rename_i s t x H;split at f
  ·rename_i A;have I:=(V.ev M A).tyfix (P:=P) (t:=s);split at f
   case h_2=>cases f
   rename_i l0 E;simp only [un] at f;subst f;unfold convX at E;split at E
   ·rename_i e hs U;have S:∀es l,P.underlying e=some (.int .u8)->bytesX es=some l->l.length<=maxLen->(∃K c,a.eval x=.slice K es.length c/\(es=[] \/ ∃b o,K=some ⟨b,o,none⟩/\VE g b 1 o es))->qf P B w0 g a o w (.str l) h:=by
     rintro es l hu N hm ⟨K,c,F,hve⟩
     refine ⟨.string ⟨l.toArray⟩,w,g,.inl ?_,Gh.le.refl g,r,by simp only [V];exact ⟨trivial,hm⟩⟩;simp [execOp,H,F,bytes_run r hs U hu N hve]
    split at E
    ·rename_i es hu F;rw [F] at I;simp only [V] at I;obtain ⟨K,c,O,_,_,T⟩:=I;split at E
     ·rename_i l N;split at E
      ·rename_i hm;simp only [un] at E;subst E;exact ⟨_,uL.2 rfl,S _ _ hu N hm ⟨K,c,O,T⟩⟩
      ·cases E
     ·cases E
    ·rename_i es q hu F;rw [F] at I;simp only [V] at I;obtain ⟨K,c,O,_,_,T,_⟩:=I;split at E
     ·rename_i l N;split at E
      ·rename_i hm;simp only [un] at E;subst E;exact ⟨_,uL.2 rfl,S _ _ hu N hm ⟨K,c,O,T⟩⟩
      ·cases E
     ·cases E
    ·cases E
   ·cases E
  ·cases f
 ·-- append
  rename_i c H;split at f
  ·rename_i ts x y L has;split at f
   ·rename_i A;simp only [ud] at A;have W:c.args=#[x,y]:=by apply sD;simpa using has
    have C:=V.ev M A.1;have G:=V.ev M A.2;split at f
    ·rename_i k1 a1 k2 b1 F hy;split at f
     ·rename_i hk;subst hk;simp only [un] at f;subst f;rw [F] at C;rw [hy] at G;simp only [V] at C G;refine ⟨_,uL.2 rfl,.int k1 (if b1 > a1 then b1 else a1),w,g,.inl ?_,Gh.le.refl g,r,by simp only [V]⟩;simp only [execOp,H,resolve,L,Sem.run_bind,Sem.run_pure,Result.andThen_ok,invoke,W];simp [builtin,C,G,run_max_int2]
     ·cases f
    ·cases f
   ·cases f
  ·rename_i ts x y L has;split at f
   ·rename_i A;simp only [ud] at A;have W:c.args=#[x,y]:=by apply sD;simpa using has
    have C:=V.ev M A.1;have G:=V.ev M A.2;split at f
    ·rename_i k1 a1 k2 b1 F hy;split at f
     ·rename_i hk;subst hk;simp only [un] at f;subst f;rw [F] at C;rw [hy] at G;simp only [V] at C G;refine ⟨_,uL.2 rfl,.int k1 (if b1 < a1 then b1 else a1),w,g,.inl ?_,Gh.le.refl g,r,by simp only [V]⟩;simp only [execOp,H,resolve,L,Sem.run_bind,Sem.run_pure,Result.andThen_ok,invoke,W];simp [builtin,C,G,run_min_int2]
     ·cases f
    ·cases f
   ·cases f
  ·rename_i t u s x L hts has;split at f
   ·rename_i A;simp only [ud] at A;have hta:c.argTypes=#[t,u]:=by apply sD;simpa using hts
    have W:c.args=#[s,x]:=by apply sD;simpa using has
    have hVs:=(V.ev M A.1).tyfix (P:=P) (t:=t);have C:=(V.ev M A.2).tyfix (P:=P) (t:=u);split at f
    ·rename_i e e' U hu;have S:∀i k es,P.info? e=some i->tyfix P t (ev env s)=.osl none k es->(∃K c,a.eval x=.slice K 0 c)->qf P B w0 g a o w (.osl none k es) h:=by
      rintro i k es hi hs ⟨K,c2,F⟩
      rw [hs] at hVs;have hV2:=hVs;simp only [V] at hVs;obtain ⟨a1,c1,hs1,O,_⟩:=hVs;refine ⟨a.eval s,w,g,.inl ?_,Gh.le.refl g,r,hV2⟩;simp only [execOp,H,resolve,L,Sem.run_bind,Sem.run_pure,Result.andThen_ok,invoke,hta,W];simp only [builtin,Array.map,hs1];simp [append0 U hu hi O,hs1,F]
     split at f
     ·rename_i i k es q hi hs F;simp only [un] at f;subst f;refine ⟨_,uL.2 rfl,S _ k es hi hs ?_⟩;rw [F] at C;simp only [V] at C;obtain ⟨K,c2,hx1,_⟩:=C;exact ⟨K,c2,hx1⟩
     ·rename_i i k es q q2 hi hs F;simp only [un] at f;subst f;refine ⟨_,uL.2 rfl,S _ k es hi hs ?_⟩;rw [F] at C;simp only [V] at C;obtain ⟨K,c2,hx1,_⟩:=C;exact ⟨K,c2,hx1⟩
     ·cases f
    ·cases f
   ·cases f
  ·rename_i t x L hts has;split at f
   ·rename_i A;have hta:c.argTypes=#[t]:=by apply sD;simpa using hts
    have W:c.args=#[x]:=by apply sD;simpa using has
    have C:=V.ev M A;split at f
    ·rename_i e id tk k n i U F;split at f
     ·rename_i z t' k' es hz N;split at f
      ·rename_i hcd;obtain ⟨⟨rfl,rfl,rfl⟩,hzl,hk0⟩:=hcd;split at f
       ·rename_i z' hcl;simp only [un] at f;subst f;rw [F] at C;obtain ⟨w',O,T⟩:=clear_sound (P:=P) (ty:=o.type) r U hz hcl hzl hk0 N rfl C;refine ⟨_,uL.2 rfl,.tuple #[],w',g,.inl ?_,Gh.le.refl g,T,by simp [V,VL]⟩;simp only [execOp,H,resolve,L,Sem.run_bind,Sem.run_pure,Result.andThen_ok,invoke,hta,W];simp [builtin,O]
       ·cases f
      ·cases f
     ·cases f
    ·cases f
   ·cases f
  ·cases f
 ·-- insert
  rename_i t m k x H;split at f
  ·rename_i v h' hs;simp only [un] at f;subst f;refine ⟨_,uL.2 rfl,?_⟩;have:=astep_fits (P:=P) r M { o with op:=.mapUpdate t m k x };rw [hs] at this;obtain ⟨u,w',g',O,T⟩:=this;refine ⟨u,w',g',?_,T⟩;simpa only [execOp,H] using O
  ·cases f
 ·-- makeInterface
  rename_i t x H;split at f
  ·rename_i A;have I:=(V.ev M A).tyfix (P:=P) (t:=t);split at f
   ·cases f
   ·rename_i d Z hd;simp only [un] at f;subst f;refine ⟨_,uL.2 rfl,.iface t (a.eval x),w,g,.inl ?_,Gh.le.refl g,r,?_⟩
    ·have:(Instr.makeInterface t (a.eval x)).run P w=.ok (.iface t (a.eval x)) w:=by
      simp only [Instr.makeInterface,Sem.run_bind,run_underlying hd,Result.andThen_ok];simp
     simp [execOp,H,this]
    ·simp only [V];exact ⟨_,rfl,I⟩
   ·cases f
  ·cases f
 ·-- typeAssert
  rename_i x xt t ok H;split at f
  ·rename_i A;have I:=V.ev M A;split at f
   ·cases f
   ·rename_i d u v Z hd F;rw [F] at I;simp only [V] at I;obtain ⟨y,hy,hv⟩:=I;split at f
    ·rename_i hut;subst hut;simp only [un] at f;subst f;refine ⟨_,uL.2 rfl,if ok then .tuple #[y,.bool true] else y,w,g,.inl ?_,Gh.le.refl g,r,?_⟩
     ·have:(Instr.typeAssert (.iface u y) xt u ok).run P w=.ok (if ok then .tuple #[y,.bool true] else y) w:=by
       simp only [Instr.typeAssert,Sem.run_bind,run_underlying hd,Result.andThen_ok];cases d <;> first | (exact absurd rfl (Z _)) | simp
      simp [execOp,H,hy,this]
     ·cases ok
      ·exact hv
      ·simp only [ut,V,VL];exact ⟨_,rfl,_,_,rfl,hv,_,_,rfl,rfl,rfl⟩
    ·rename_i hut;split at f
     ·rename_i hk;subst hk;split at f
      ·rename_i z hz;simp only [un] at f;subst f;obtain ⟨zv,hz1,hz2⟩:=aZero_sound (P:=P) (w:=w) (g:=g) hz;refine ⟨_,uL.2 rfl,.tuple #[zv,.bool false],w,g,.inl ?_,Gh.le.refl g,r,?_⟩
       ·have:(Instr.typeAssert (.iface u y) xt t true).run P w=.ok (.tuple #[zv,.bool false]) w:=by
         simp only [Instr.typeAssert,Sem.run_bind,run_underlying hd,Result.andThen_ok];cases d <;> first | (exact absurd rfl (Z _)) | simp [hut,hz1]
        simp [execOp,H,hy,this]
       ·simp only [V,VL];exact ⟨_,rfl,_,_,rfl,hz2,_,_,rfl,rfl,rfl⟩
      ·cases f
     ·cases f
   ·cases f
  ·cases f
 ·-- a row is cut
  rename_i t x y H;split at f
  ·rename_i A;simp only [ud] at A;have C:=V.ev M A.1;have G:=V.ev M A.2;split at f
   ·rename_i e id tk k m kk n U F hy;split at f
    ·rename_i i t' k' es hi N;split at f
     ·rename_i L;obtain ⟨⟨rfl,rfl,rfl⟩,hn0,hnm⟩:=L;simp only [un] at f;subst f;rw [F] at C;rw [hy] at G;have hVx2:=C;simp only [V] at C G;obtain ⟨K,c,hev,hnc,Y,_⟩:=C;rw [hev] at hVx2;obtain ⟨g',O,T,h3⟩:=r.shrink (n:=n.toNat) (a':=if c=0 then K else K.map (·.add (0 * i.size))) N hnm (by split <;> simp) hVx2;refine ⟨_,uL.2 rfl,_,w,g',.inl ?_,O,T,h3⟩;have hbd:=slice_bounds (P:=P) (w:=w) (isS:=true) (len:=es.length) (cap:=c) (l:=0) (hh:=n.toNat) (m:=c) (d:=0) (lo:=none) (hi:=some (.int kk n)) (mx:=none) (.inl ⟨rfl,rfl⟩)
       (.inr ⟨kk,n,rfl,hn0,by omega⟩) (.inl ⟨rfl,rfl⟩) (tK _) (by omega) (uh _) rfl
      have:(Instr.sliceAt t (.slice K es.length c) none (some (.int kk n)) none).run P w=.ok (.slice (if c=0 then K else K.map (·.add (0 * i.size))) n.toNat c) w:=by
       rw [sliceAt_of U (by simp)];simp [Instr.slice,yC U,hbd,x6 hi]
      simp [execOp,H,hev,G,this]
     ·cases f
    ·cases f
   ·cases f
  ·cases f
 ·-- a row's end
  rename_i t x y H;split at f
  ·rename_i A;simp only [ud] at A;have C:=V.ev M A.1;have G:=V.ev M A.2;split at f
   ·rename_i e id tk k m kk n U F hy;split at f
    ·rename_i i hi;split at f
     ·rename_i L;obtain ⟨rfl,hn0,hnm⟩:=L;simp only [un] at f;subst f;rw [F] at C;rw [hy] at G;simp only [V] at C G;obtain ⟨K,c,hev,hnc,Y,tt,htt,hrd,hle,hhd⟩:=C;refine ⟨_,uL.2 rfl,.slice (if c=n.toNat then K else K.map (·.add (n.toNat * i.size))) (m - n.toNat) (c - n.toNat),w,g,.inl ?_,Gh.le.refl g,r,?_⟩
      ·have hbd:=slice_bounds (P:=P) (w:=w) (isS:=true) (len:=m) (cap:=c) (l:=n.toNat) (hh:=m) (m:=c) (d:=0) (lo:=some (.int kk n)) (hi:=none) (mx:=none) (.inr ⟨kk,n,rfl,hn0,by omega⟩)
        (.inl ⟨rfl,rfl,rfl⟩) (.inl ⟨rfl,rfl⟩) hnm hnc (uh _) rfl
       have:(Instr.sliceAt t (.slice K m c) (some (.int kk n)) none none).run P w=.ok (.slice (if c=n.toNat then K else K.map (·.add (n.toNat * i.size))) (m - n.toNat) (c - n.toNat)) w:=by
        rw [sliceAt_of U (by simp)];simp [Instr.slice,yC U,hbd,x6 hi]
       simp [execOp,H,hev,G,this]
      ·simp only [V];refine ⟨_,_,rfl,⟨hnm,by omega⟩,tt,htt,?_⟩;by_cases h0:m - n.toNat=0
       ·exact .inl h0
       ·right;rcases hhd with ⟨O,_⟩ | ⟨b,o2,T,h3⟩
        ·omega
        ·have hcn:¬ c=n.toNat:=by omega
         refine ⟨b,o2+n.toNat * i.size,?_,hrd,hle,λhe'=>⟨o2,_,rfl,h3 he'⟩⟩;rw [uu hcn,T];simp [we]
     ·cases f
    ·cases f
   ·cases f
  ·cases f
 ·cases f
end
end Go.Vv
